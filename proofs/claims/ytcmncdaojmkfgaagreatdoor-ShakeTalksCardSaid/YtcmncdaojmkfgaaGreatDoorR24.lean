/-
  Several texts of this claim in one: Begun, Text, Block, Stream, StreamPlain, SubKey, SealPlain.
-/
import Derived.Test.YtcmncdaojmkfgaaGreatDoorStir
import Derived.Test.YtcmncdaojmkfgaaGreatDoorQ02
import Derived.Test.YtcmncdaojmkfgaaGreatDoorWxor
import Derived.Deep.RegionWith
import Derived.Test.YtcmncdaojmkfgaaGreatDoorR18
import Derived.Test.YtcmncdaojmkfgaaGreatDoorQ18
namespace Go.Proofs.YtcmncdaojmkfgaaGreatDoor
open Go.RowKit
set_option linter.unusedVariables false

def begK (K : List UInt8) : Nat → List Nat
  | 0 => [1634760805, 857760878, 2036477234, 1797285236, 0, 0, 0, 0, 0, 0, 0, 0, 0, 0, 0, 0]
  | i + 1 => (begK K i).set (4 + i) (leN ((K.drop (4 * i)).take 4))

def begun (K : List UInt8) : List Nat := begK K 12

theorem leN_take4 (l : List UInt8) : leN (l.take 4) < 4294967296 := by
  refine Nat.lt_of_lt_of_le (leN_lt _) ?_
  have : (l.take 4).length ≤ 4 := by rw [List.length_take]; omega
  exact (Nat.pow_le_pow_right (by omega) this : 256 ^ (l.take 4).length ≤ 256 ^ 4)

theorem begK_ok (K : List UInt8) (i : Nat) : Small (begK K i) ∧ (begK K i).length = 16 := by
  induction i with
  | zero =>
    refine ⟨fun j => ?_, rfl⟩
    unfold begK
    by_cases h : j < 16
    · have : ∀ j, j < 16 → List.getD [1634760805, 857760878, 2036477234, 1797285236, 0, 0, 0, 0, 0, 0, 0, 0, 0, 0, 0, 0] j 0 < 4294967296 := by decide
      exact this j h
    · rw [List.getD_eq_getElem?_getD, List.getElem?_eq_none (by simp; omega)]
      decide
  | succ i ih => exact ⟨getD_set_small ih.1 _ _ (leN_take4 _), by rw [begK, List.length_set]; exact ih.2⟩

set_option maxRecDepth 20000 in
set_option maxHeartbeats 2000000 in
theorem code_cbegun (w : World) (k r : List UInt8) (hK : (k ++ r).length = 48) :
    Calls Tryz.prog 152 #[S k, S r] w fun e w' => e = .returned (A16 (begun (k ++ r))) ∧ w.grownBy w' none := by
  have hkr : k.length + r.length ≤ 9223372036854775807 := by rw [List.length_append] at hK; omega
  obtain ⟨K, hKe⟩ : ∃ K, K = k ++ r := ⟨_, rfl⟩
  rw [← hKe] at hK ⊢
  have HK := Lib.hid hK
  have HKE := Lib.hid hKe
  have HF := Lib.hid (show A16 (begun K) = .agg ((begK K 12).map wcell).toArray from rfl)
  generalize hV : A16 (begun K) = V at *
  clear hK hKe hV
  have r1 := rule_app
  have r2 := rule_ext
  unfold S
  go_enter Tryz.func152, Tryz.ntmps152
  go_wp2_with fail
  rw [← HKE.out]
  generalize hx : (w.alloc (.cells #[Value.int IntKind.u32 0, Value.int IntKind.u32 0, Value.int IntKind.u32 0, Value.int IntKind.u32 0, Value.int IntKind.u32 0, Value.int IntKind.u32 0, Value.int IntKind.u32 0, Value.int IntKind.u32 0, Value.int IntKind.u32 0, Value.int IntKind.u32 0, Value.int IntKind.u32 0, Value.int IntKind.u32 0, Value.int IntKind.u32 0, Value.int IntKind.u32 0, Value.int IntKind.u32 0, Value.int IntKind.u32 0] 216)).alloc (.cells #[Value.int IntKind.u32 1634760805, Value.int IntKind.u32 857760878, Value.int IntKind.u32 2036477234, Value.int IntKind.u32 1797285236, Value.int IntKind.u32 0, Value.int IntKind.u32 0, Value.int IntKind.u32 0, Value.int IntKind.u32 0, Value.int IntKind.u32 0, Value.int IntKind.u32 0, Value.int IntKind.u32 0, Value.int IntKind.u32 0, Value.int IntKind.u32 0, Value.int IntKind.u32 0, Value.int IntKind.u32 0, Value.int IntKind.u32 0] 216) = x
  obtain ⟨B, hBe⟩ : ∃ B, B = w.heap.size := ⟨_, rfl⟩
  have hB0 : Blk x B 216 zero16 := by rw [← hx, hBe]; exact obj_alloc (obj_new w _)
  have hB1 : WB x (B + 1) (begK K 0) := by
    have := obj_new (w.alloc (.cells #[Value.int IntKind.u32 0, Value.int IntKind.u32 0, Value.int IntKind.u32 0, Value.int IntKind.u32 0, Value.int IntKind.u32 0, Value.int IntKind.u32 0, Value.int IntKind.u32 0, Value.int IntKind.u32 0, Value.int IntKind.u32 0, Value.int IntKind.u32 0, Value.int IntKind.u32 0, Value.int IntKind.u32 0, Value.int IntKind.u32 0, Value.int IntKind.u32 0, Value.int IntKind.u32 0, Value.int IntKind.u32 0] 216)) (.cells #[Value.int IntKind.u32 1634760805, Value.int IntKind.u32 857760878, Value.int IntKind.u32 2036477234, Value.int IntKind.u32 1797285236, Value.int IntKind.u32 0, Value.int IntKind.u32 0, Value.int IntKind.u32 0, Value.int IntKind.u32 0, Value.int IntKind.u32 0, Value.int IntKind.u32 0, Value.int IntKind.u32 0, Value.int IntKind.u32 0, Value.int IntKind.u32 0, Value.int IntKind.u32 0, Value.int IntKind.u32 0, Value.int IntKind.u32 0] 216)
    rw [show (w.alloc (.cells #[Value.int IntKind.u32 0, Value.int IntKind.u32 0, Value.int IntKind.u32 0, Value.int IntKind.u32 0, Value.int IntKind.u32 0, Value.int IntKind.u32 0, Value.int IntKind.u32 0, Value.int IntKind.u32 0, Value.int IntKind.u32 0, Value.int IntKind.u32 0, Value.int IntKind.u32 0, Value.int IntKind.u32 0, Value.int IntKind.u32 0, Value.int IntKind.u32 0, Value.int IntKind.u32 0, Value.int IntKind.u32 0] 216)).heap.size = B + 1 from by rw [hBe]; simp] at this
    rw [← hx]
    exact this
  have hg0 : w.grownBy x none := by rw [← hx]; exact grow_alloc (grow_alloc (grow_refl w none) _) _
  have hBs : w.heap.size ≤ B := by omega
  rw [← hBe]
  have HZ := Lib.hid hB0
  have HG := Lib.hid hg0
  clear hx hBe hB0 hg0
  go_loopw [6, 7] (fun vi vt wr => ∃ (i : Nat) (T : List UInt8), i ≤ 12 ∧ vi = .int .i64 i ∧ vt = S T ∧ Hid (T = K.drop (4 * i)) ∧ T.length + 4 * i ≤ 48 ∧ 48 ≤ T.length + 4 * i ∧ WB wr (B + 1) (begK K i) ∧ x.grownBy wr (some (B + 1))) (fun vi _ _ => 12 - (intOf vi).toNat)
  case atStart => exact ⟨0, K, by omega, rfl, rfl, by rw [Nat.mul_zero, List.drop_zero]; rfl, by have := HK.out; omega, by have := HK.out; omega, hB1, grow_refl _ _⟩
  case round =>
    clear hB1
    obtain ⟨i, T, hi, rfl, rfl, hT, t1, t2, hB, hg⟩ := hrel
    by_cases hlt : i < 12
    · have l4 : 4 ≤ T.length := by omega
      have lne : T ≠ [] := by intro e; subst e; simp at l4
      have q1 : (!T.isEmpty) = true := by simpa using lne
      have q2 : T.isEmpty = false := by simpa using lne
      have e4 : List.take (T.length - 4) (List.drop 4 T) = List.drop 4 T := List.take_of_length_le (by simp)
      have l8 : (T.take 4).take 8 = T.take 4 := by rw [List.take_take]; rfl
      have ltk : (T.take 4).length ≤ 140737488355328 := by rw [List.length_take]; omega
      have hN := leN_take4 T
      have hcl := hB.cell (4 + i) (by rw [(begK_ok K i).2]; omega)
      have hfr := hB.frozen (4 + i)
      have HN := Lib.hid (show leN (T.take 4) = leN ((K.drop (4 * i)).take 4) from by rw [hT.out])
      have ec : ∀ n : Nat, n < 4294967296 → (n : Int) % 4294967296 = (n : Int) := fun n h => by omega
      unfold S
      go_wp2_with fail
      refine (wire_little _ (T.take 4) ltk).mono ?_
      rintro e w1 ⟨rfl, rfl⟩
      rw [l8]
      have hcv : ((leN (T.take 4) : Nat) : Int) % 4294967296 = ((leN (T.take 4) : Nat) : Int) := by omega
      clear ec l8
      generalize leN (T.take 4) = N at *
      have hst : WB (wr.setCell ⟨B + 1, 4 + i, none⟩ (.int .u32 (N : Int))) (B + 1) (begK K (i + 1)) := by
        rw [begK, ← HN.out]
        exact hB.set (4 + i) N
      have hgs := grow_setCell hg (4 + i) (.int .u32 (N : Int))
      go_wp2_with fail
      go_region
      go_wp2_with fail
      go_roundw
      case rel => exact ⟨i + 1, T.drop 4, by omega, by go_num, rfl, by rw [hT.out, List.drop_drop]; rfl, by rw [List.length_drop]; omega, by rw [List.length_drop]; omega, hst, grow_drew hgs⟩
      case measure => simp [intOf]; omega
    · obtain rfl : i = 12 := by omega
      obtain rfl : T = [] := List.eq_nil_of_length_eq_zero (by omega)
      have hle := (begK_ok K 12).2
      obtain ⟨L, hL⟩ : ∃ L, L = begK K 12 := ⟨_, rfl⟩
      rw [← hL] at hle hB
      have HLL := Lib.hid (show V = .agg (L.map wcell).toArray from by rw [HF.out, hL])
      clear hL HF
      have hB' : Blk wr (B + 1) 216 (L.map wcell) := hB
      have hZ := (HZ.out).kept hg (by simp)
      have hi2 : (Tryz.prog.info? 216).map (·.size) = some (L.map wcell).length := by rw [List.length_map, hle]; exact info16
      have hi3 : (Tryz.prog.info? 216).map (·.size) = some (L.map wcell).toArray.size := by rw [List.size_toArray]; exact hi2
      have hth : wr.there B 0 (L.map wcell).toArray.size := hZ.there _ (by simp [zero16, hle])
      have HI := Lib.hid hi2
      have HI3 := Lib.hid hi3
      have HT := Lib.hid hth
      have HRg := Lib.hid hB'.range
      clear hi2 hi3 hth hZ
      unfold S
      go_upto_region 6 with (fail)
      refine wp_region_lit ?_
      refine wpList_load_mid rfl 216 _ rfl (B + 1) 0 rfl (L.map wcell) _ HRg.out Tryz.underlying216 rfl HI.out ?_
      refine wpList_store_mid rfl 216 _ _ rfl B 0 (L.map wcell).toArray rfl rfl HT.out HI3.out (wcells_one _) ?_
      refine wpList_nil ?_
      have hW := ((HZ.out).kept hg (by simp)).store (L.map wcell) (by simpa [zero16] using hle)
      have hgW : w.grownBy (wr.setCells B 0 (L.map wcell).toArray.toList) none := grow_setCells_new (grow_trans_new HG.out hg (by omega)) B (by omega) _ _
      go_wp2_with fail
      refine bodyPost_ret (v := .agg (L.map wcell).toArray) (results_row Tryz.results152 _ _ B rfl (L.map wcell) _ hW Tryz.underlying216 rfl HI.out) rfl ?_
      exact ⟨by rw [HLL.out], hgW⟩

end Go.Proofs.YtcmncdaojmkfgaaGreatDoor

namespace Go.Proofs.YtcmncdaojmkfgaaGreatDoor
open Go.RowKit
set_option linter.unusedVariables false

/-- Words as bytes, four each. -/
def textW (l : List Nat) : List UInt8 := l.flatMap fun n => leB n 4

theorem textW_length (l : List Nat) : (textW l).length = 4 * l.length := by
  induction l with
  | nil => rfl
  | cons n l ih => simp only [textW, List.flatMap_cons, List.length_append, leB_length, List.length_cons] at ih ⊢; omega

theorem textW_snoc (l : List Nat) (n : Nat) : textW (l ++ [n]) = textW l ++ leB n 4 := by simp [textW]

/-- So many words lie there, from an offset on. -/
def WAt (w : World) (B o : Nat) (l : List Nat) : Prop := ∀ i, (h : i < l.length) → w.cell? ⟨B, o + i, none⟩ = some (.int .u32 (l[i] : Nat))

theorem WAt.kept {w w' : World} {B o : Nat} {l : List Nat} {r : Option Nat} (h : WAt w B o l) (g : w.grownBy w' r) (hr : some B ≠ r) : WAt w' B o l := fun i hi => g.cell (a := ⟨B, o + i, none⟩) (h i hi) hr

theorem WAt.below {w w' : World} {B o n : Nat} {l : List Nat} (h : WAt w B o l) (g : Below n w w') (hn : B < n) : WAt w' B o l := fun i hi => (g.cell (p := ⟨B, o + i, none⟩) hn).trans (h i hi)

def Texted (l : List UInt8) (w : World) (e : Ending) (w' : World) : Prop := e = .returned (S l) ∧ Below w.heap.size w w'

set_option maxRecDepth 20000 in
set_option maxHeartbeats 1000000 in
theorem code_text (w : World) (B o cap : Nat) (l : List Nat) (h : WAt w B o l) (hl : l.length ≤ 16) (hs : ∀ n ∈ l, n < 4294967296) (hlt : B < w.heap.size) :
    Calls Tryz.prog 154 #[.slice (some ⟨B, o, none⟩) l.length cap] w (Texted (textW l) w) := by
  have HL := fun j => (textW_length (l.take j))
  have hfin : textW (l.take l.length) = textW l := by rw [List.take_length]
  have HF := Lib.hid hfin
  have HLh := Lib.hid HL
  have HS := Lib.hid hs
  clear hs HL hfin
  go_enter Tryz.func154, Tryz.ntmps154
  go_wp2_with fail
  go_loopw [3, 8] (fun vb vi wr => ∃ j : Nat, j ≤ l.length ∧ vi = .int .i64 j ∧ brow wr w.heap.size vb (textW (l.take j)) ∧ Below w.heap.size w wr) (fun _ vi _ => l.length - (intOf vi).toNat)
  case atStart => exact ⟨0, by omega, rfl, brow_nil _ _, Below.refl _ _⟩
  case round =>
    obtain ⟨j, hj, rfl, hown, HB⟩ := hrel
    by_cases hlj : j < l.length
    · have hc := (h.below HB hlt) j hlj
      have hn := HS.out l[j] (List.getElem_mem hlj)
      have hsn := Lib.hid (show textW (l.take (j + 1)) = textW (l.take j) ++ leB l[j] 4 from by rw [List.take_succ_eq_append_getElem hlj, textW_snoc])
      have hlen : (textW (l.take j)).length + 8 ≤ 140737488355328 := by rw [HLh.out, List.length_take]; omega
      have hbz := HB.size
      have e1 : IntKind.u64.wrap ((l[j] : Nat) : Int) = ((l[j] : Nat) : Int) := IntWalk.u64_in _ (by omega)
      go_wp2_with fail
      refine (wire_appendLittle wr w.heap.size u3 _ l[j] 4 hown (by omega) (by omega) hlen hbz).mono ?_
      rintro e w1 ⟨v', rfl, hown', hB'⟩
      rw [← hsn.out] at hown'
      replace HB := HB.trans hB'
      clear hown hc hB' hbz hlen e1
      go_wp2_with fail
      go_roundw
      case rel => exact ⟨j + 1, by omega, by go_num, hown', HB⟩
      case measure => simp [intOf]; omega
    · obtain rfl : j = l.length := by omega
      have hcv := conv_brow hown
      rw [HF.out] at hcv
      unfold S at hcv
      go_wp2_with fail
      go_ret
      exact ⟨rfl, HB⟩

def checkN (key nonce : List UInt8) (size : Nat) : Int := if key.length = 32 ∧ nonce.length = size then 0 else 1

theorem code_check (w : World) (key nonce : List UInt8) (size : Nat) (hk : key.length ≤ 9223372036854775807) (hn : nonce.length ≤ 9223372036854775807) (hs : size ≤ 100) :
    Calls Tryz.prog 150 #[S key, S nonce, .int .i64 size] w fun e w' => e = .returned (.int .i64 (checkN key nonce size)) ∧ w = w' := by
  obtain ⟨V, hV⟩ : ∃ V, V = checkN key nonce size := ⟨_, rfl⟩
  rw [← hV]
  have HV := Lib.hid hV
  clear hV
  unfold S
  by_cases h1 : key.length = 32
  · by_cases h2 : nonce.length = size
    · have q1 : ((key.length : Int) != 32) = false := by simp; omega
      have q2 : ((nonce.length : Int) != (size : Int)) = false := by simp; omega
      have HR := Lib.hid (show V = 0 from by rw [HV.out]; unfold checkN; rw [if_pos ⟨h1, h2⟩])
      clear h1 h2 HV
      go_enter Tryz.func150, Tryz.ntmps150
      go_wp2_with fail
      go_ret
      exact ⟨by rw [HR.out]; rfl, rfl⟩
    · have q1 : ((key.length : Int) != 32) = false := by simp; omega
      have q2 : ((nonce.length : Int) != (size : Int)) = true := by simp; omega
      have HR := Lib.hid (show V = 1 from by rw [HV.out]; unfold checkN; rw [if_neg (by omega)])
      clear h1 h2 HV
      go_enter Tryz.func150, Tryz.ntmps150
      go_wp2_with fail
      go_ret
      exact ⟨by rw [HR.out]; rfl, rfl⟩
  · have q1 : ((key.length : Int) != 32) = true := by simp; omega
    have HR := Lib.hid (show V = 1 from by rw [HV.out]; unfold checkN; rw [if_neg (by omega)])
    clear h1 HV
    go_enter Tryz.func150, Tryz.ntmps150
    go_wp2_with fail
    go_ret
    exact ⟨by rw [HR.out]; rfl, rfl⟩

end Go.Proofs.YtcmncdaojmkfgaaGreatDoor

namespace Go.Proofs.YtcmncdaojmkfgaaGreatDoor
open Go.RowKit
set_option linter.unusedVariables false

/-- Two states, number by number. -/
def addW (a b : List Nat) : List Nat := List.zipWith add32 a b
def stateL (key rest : List UInt8) : List Nat := begun (key ++ rest)
def blockW (s : List Nat) : List Nat := addW (stirred s) s
def blockL (key nonce : List UInt8) (n : Nat) : List UInt8 := textW (blockW (stateL key (leB n 4 ++ nonce)))

theorem blockW_length {s : List Nat} (hs : Small s) (hl : s.length = 16) : (blockW s).length = 16 := by
  have := (roundsK_ok hs hl 10).2
  unfold blockW addW stirred
  rw [List.length_zipWith, this, hl]
  rfl

theorem blockL_length (key nonce : List UInt8) (n : Nat) : (blockL key nonce n).length = 64 := by
  unfold blockL
  rw [textW_length, blockW_length (s := stateL key (leB n 4 ++ nonce)) (begK_ok _ 12).1 (begK_ok _ 12).2]

def noText : Value := .tuple #[S [], .int .i64 1]
def Blocked (l : List UInt8) (w : World) (e : Ending) (w' : World) : Prop := e = .returned (.tuple #[S l, .int .i64 0]) ∧ w.grownBy w' none

theorem code_block_err (w : World) (key nonce : List UInt8) (n : Int) (hk : key.length ≤ 9223372036854775807) (hn : nonce.length ≤ 9223372036854775807) (h : ¬ (key.length = 32 ∧ nonce.length = 12)) :
    Calls Tryz.prog 147 #[S key, S nonce, .int .u32 n] w fun e w' => e = .returned noText ∧ w = w' := by
  have hc : checkN key nonce 12 = 1 := by unfold checkN; rw [if_neg h]
  have HC := Lib.hid hc
  clear hc h
  unfold S
  go_enter Tryz.func147, Tryz.ntmps147
  go_wp2_with fail
  refine (code_check w key nonce 12 hk hn (by omega)).mono ?_
  rintro e w1 ⟨rfl, rfl⟩
  rw [HC.out]
  go_wp2_with fail
  go_ret2
  exact ⟨rfl, rfl⟩

/-- The first k sums. -/
def csumK (v s : List Nat) : Nat → List Nat
  | 0 => v
  | k + 1 => (csumK v s k).set k (add32 (v.getD k 0) (s.getD k 0))

theorem csumK_length (v s : List Nat) (k : Nat) : (csumK v s k).length = v.length := by
  induction k with
  | zero => rfl
  | succ k ih => rw [csumK, List.length_set, ih]

theorem sumK_get (v s : List Nat) (k : Nat) : ∀ j, (csumK v s k)[j]? = if j < k then (v[j]?).map (fun x => add32 x (s.getD j 0)) else v[j]? := by
  induction k with
  | zero => intro j; simp [csumK]
  | succ k ih =>
    intro j
    rw [csumK, List.getElem?_set]
    by_cases e : k = j
    · subst e
      rw [if_pos rfl, csumK_length, if_pos (show k < k + 1 by omega)]
      by_cases q : k < v.length
      · simp [q, List.getD]
      · simp [q]
    · rw [if_neg e, ih]
      by_cases q : j < k
      · rw [if_pos q, if_pos (by omega)]
      · rw [if_neg q, if_neg (by omega)]

theorem csumK_all (v s : List Nat) (h : v.length = s.length) : csumK v s v.length = addW v s := by
  apply List.ext_getElem?
  intro j
  rw [sumK_get, addW, List.getElem?_zipWith]
  by_cases q : j < v.length
  · rw [if_pos q]
    have q2 : j < s.length := by omega
    simp [List.getElem?_eq_getElem q, List.getElem?_eq_getElem q2, List.getD]
  · rw [if_neg q, List.getElem?_eq_none (by omega)]

theorem sumK_next (v s : List Nat) (k : Nat) (hk : k < v.length) : (csumK v s k).getD k 0 = v.getD k 0 := by
  rw [List.getD_eq_getElem?_getD, sumK_get, if_neg (by omega), List.getD_eq_getElem?_getD]

set_option maxRecDepth 20000 in
set_option maxHeartbeats 4000000 in
theorem code_cblock (w : World) (key nonce : List UInt8) (n : Nat) (hk : key.length = 32) (hn : nonce.length = 12) (h32 : n < 4294967296) :
    Calls Tryz.prog 147 #[S key, S nonce, .int .u32 n] w (Blocked (blockL key nonce n) w) := by
  have hc : checkN key nonce 12 = 0 := by unfold checkN; rw [if_pos ⟨hk, hn⟩]
  have HC := Lib.hid hc
  obtain ⟨st, hst⟩ : ∃ s, s = stateL key (leB n 4 ++ nonce) := ⟨_, rfl⟩
  have hbl : blockL key nonce n = textW (addW (stirred st) st) := by rw [hst]; rfl
  have hs1 : Small st := by rw [hst]; exact (begK_ok _ 12).1
  have hs2 : st.length = 16 := by rw [hst]; exact (begK_ok _ 12).2
  obtain ⟨v, hv⟩ : ∃ v, v = stirred st := ⟨_, rfl⟩
  have hv1 : Small v := by rw [hv]; exact (roundsK_ok hs1 hs2 10).1
  have hv2 : v.length = 16 := by rw [hv]; exact (roundsK_ok hs1 hs2 10).2
  rw [hbl, ← hv]
  have HST := Lib.hid (show A16 (begun (key ++ (leB n 4 ++ nonce))) = A16 st from by rw [hst]; rfl)
  have HV := Lib.hid (show A16 (stirred st) = A16 v from by rw [hv])
  have hl48 : (key ++ (leB n 4 ++ nonce)).length = 48 := by simp [leB_length, hk, hn]
  have HL := Lib.hid hl48
  have HB4 := Lib.hid (leB_length n 4)
  have lk : key.length ≤ 32 := by omega
  have ln : nonce.length ≤ 12 := by omega
  clear hc hst hbl hv hl48 hk hn
  have r1 := rule_app
  have e1 : IntKind.u64.wrap (n : Int) = (n : Int) := IntWalk.u64_in _ (by omega)
  unfold S
  go_enter Tryz.func147, Tryz.ntmps147
  go_wp2_with fail
  refine (code_check w key nonce 12 (by omega) (by omega) (by omega)).mono ?_
  rintro e w1 ⟨rfl, rfl⟩
  rw [HC.out]
  go_wp2_with fail
  refine (wire_appendLittle w w.heap.size (.slice none 0 0) [] n 4 (brow_nil _ _) (by omega) (by omega) (by simp) (by omega)).mono ?_
  rintro e w1 ⟨b1, rfl, hown, hB1⟩
  have hcv := conv_brow hown
  rw [List.nil_append] at hcv
  have hlen : (leB n 4).length + nonce.length ≤ 9223372036854775807 := by rw [HB4.out]; omega
  unfold S at hcv
  have hg1 : w.grownBy w1 none := grow_of_below hB1
  clear hown hB1
  go_wp2_with fail
  clear hcv hlen
  refine (code_cbegun w1 key (leB n 4 ++ nonce) HL.out).mono ?_
  rintro e w2 ⟨rfl, hg2⟩
  rw [HST.out]
  have hg := grow_trans hg1 hg2
  clear hg1 hg2
  unfold A16
  have hsn := fun W : World => run_store_new (P := Tryz.prog) W #[Value.int IntKind.u32 0, Value.int IntKind.u32 0, Value.int IntKind.u32 0, Value.int IntKind.u32 0, Value.int IntKind.u32 0, Value.int IntKind.u32 0, Value.int IntKind.u32 0, Value.int IntKind.u32 0, Value.int IntKind.u32 0, Value.int IntKind.u32 0, Value.int IntKind.u32 0, Value.int IntKind.u32 0, Value.int IntKind.u32 0, Value.int IntKind.u32 0, Value.int IntKind.u32 0, Value.int IntKind.u32 0] 216 (st.map wcell) (by simp [hs2]) (wcells_mem st)
  go_upto_region 5 with (fail)
  clear hsn e1
  have hB9 : Blk (w2.alloc (.cells (st.map wcell).toArray 216)) w2.heap.size 216 (st.map wcell) := Blk.new w2 _ _
  have hg9 : w.grownBy (w2.alloc (.cells (st.map wcell).toArray 216)) none := grow_alloc hg _
  have hz9 : w.heap.size ≤ w2.heap.size := hg.size
  generalize w2.alloc (.cells (st.map wcell).toArray 216) = x at *
  generalize w2.heap.size = B at *
  clear hg
  have hi2 : (Tryz.prog.info? 216).map (·.size) = some (st.map wcell).length := by rw [List.length_map, hs2]; exact info16
  have HRg := Lib.hid hB9.range
  have HI := Lib.hid hi2
  clear hi2
  refine wp_region_lit ?_
  refine wpList_load_mid rfl 216 _ rfl B 0 rfl (st.map wcell) _ HRg.out Tryz.underlying216 rfl HI.out ?_
  go_wp2_with fail
  refine (code_stirred x st hs2 hs1).mono ?_
  rintro e x3 ⟨rfl, hg3⟩
  rw [HV.out]
  unfold A16
  have hsv := fun W : World => run_store_new (P := Tryz.prog) W #[Value.int IntKind.u32 0, Value.int IntKind.u32 0, Value.int IntKind.u32 0, Value.int IntKind.u32 0, Value.int IntKind.u32 0, Value.int IntKind.u32 0, Value.int IntKind.u32 0, Value.int IntKind.u32 0, Value.int IntKind.u32 0, Value.int IntKind.u32 0, Value.int IntKind.u32 0, Value.int IntKind.u32 0, Value.int IntKind.u32 0, Value.int IntKind.u32 0, Value.int IntKind.u32 0, Value.int IntKind.u32 0] 216 (v.map wcell) (by simp [hv2]) (wcells_mem v)
  go_upto_region 6 with (fail)
  clear hsv
  have hBs := (hB9.kept hg3 (by simp)).kept (World.grownBy_alloc x3 (.cells (v.map wcell).toArray 216) none) (by simp)
  have hBv : Blk (x3.alloc (.cells (v.map wcell).toArray 216)) x3.heap.size 216 (v.map wcell) := Blk.new x3 _ _
  have hgx : w.grownBy (x3.alloc (.cells (v.map wcell).toArray 216)) none := grow_alloc (grow_trans hg9 hg3) _
  have hzx : w.heap.size ≤ x3.heap.size := (grow_trans hg9 hg3).size
  have hlt9 : B < x3.heap.size := (hB9.kept hg3 (by simp)).lt
  generalize x3.alloc (.cells (v.map wcell).toArray 216) = y at *
  generalize x3.heap.size = C at *
  clear hg3 hg9 hB9 HRg
  have HBs := Lib.hid hBs
  have HBv := Lib.hid hBv
  have HGX := Lib.hid hgx
  clear hBs hBv hgx
  go_wp2_with fail
  go_loopw [28] (fun vi wr => ∃ k : Nat, k ≤ 16 ∧ vi = .int .i64 k ∧ WB wr C (csumK v st k) ∧ y.grownBy wr (some C)) (fun vi _ => 16 - (intOf vi).toNat)
  case atStart => exact ⟨0, by omega, rfl, HBv.out, grow_refl _ _⟩
  case round =>
    obtain ⟨k, hk, rfl, hW, hg⟩ := hrel
    by_cases hlt : k < 16
    · have hS : WB wr B st := (HBs.out).kept hg (by simp; omega)
      have c1 := hW.cell k (by rw [csumK_length]; omega)
      have c2 := hS.cell k (by omega)
      have f1 := hW.frozen k
      rw [sumK_next v st k (by omega)] at c1
      have hnew : WB (wr.setCell ⟨C, k, none⟩ (.int .u32 (add32 (v.getD k 0) (st.getD k 0) : Nat))) C (csumK v st (k + 1)) := hW.set k _
      have hgn : y.grownBy (wr.setCell ⟨C, k, none⟩ (.int .u32 (add32 (v.getD k 0) (st.getD k 0) : Nat))) (some C) := grow_setCell hg k _
      have ha := add32_val (v.getD k 0) (st.getD k 0)
      generalize v.getD k 0 = a at *
      generalize st.getD k 0 = b at *
      generalize add32 a b = c at *
      have HH := Lib.hid (And.intro hnew hgn)
      clear hnew hgn hS hW
      go_wp2_with fail
      go_region
      go_wp2_with fail
      go_roundw
      case rel => exact ⟨k + 1, by omega, by go_num, by first | exact HH.out.1 | (rw [← ha] at HH; exact HH.out.1), by first | exact grow_drew HH.out.2 | (rw [← ha] at HH; exact grow_drew HH.out.2)⟩
      case measure => simp [intOf]; omega
    · obtain rfl : k = 16 := by omega
      have hsum : csumK v st 16 = addW v st := by rw [← hv2]; exact csumK_all v st (by omega)
      rw [hsum] at hW
      have hal : (addW v st).length = 16 := by unfold addW; rw [List.length_zipWith]; omega
      have hsm : ∀ n ∈ addW v st, n < 4294967296 := by
        intro n hn
        unfold addW at hn
        obtain ⟨i, hi, rfl⟩ := List.getElem_of_mem hn
        rw [List.getElem_zipWith]
        exact Nat.mod_lt _ (by omega)
      have hWA : WAt wr C 0 (addW v st) := fun i hi => by
        have := hW.cell i hi
        rw [Nat.zero_add, this, List.getD_eq_getElem?_getD, List.getElem?_eq_getElem hi]
        rfl
      have hgf := grow_trans_new HGX.out hg hzx
      have hClt : C < wr.heap.size := lt_of_obj hW
      have HA := Lib.hid hal
      have HSM := Lib.hid hsm
      clear hsum hal hsm hW hg
      generalize addW v st = L at *
      go_wp2_with fail
      have hT := code_text wr C 0 16 L hWA (by rw [HA.out]; omega) HSM.out hClt
      rw [HA.out] at hT
      refine hT.mono ?_
      rintro e w5 ⟨rfl, hB5⟩
      unfold S
      go_wp2_with fail
      go_ret2
      exact ⟨rfl, grow_trans hgf (grow_of_below hB5)⟩

end Go.Proofs.YtcmncdaojmkfgaaGreatDoor

namespace Go.Proofs.YtcmncdaojmkfgaaGreatDoor
open Go.RowKit
set_option linter.unusedVariables false

def next32 (n : Nat) : Nat := (n + 1) % 4294967296

/-- A text xored with the blocks from number n on (so many at most). -/
def chx (key nonce : List UInt8) : Nat → Nat → List UInt8 → List UInt8
  | 0, _, _ => []
  | f + 1, n, s => if s = [] then [] else xorL s (blockL key nonce n) ++ chx key nonce f (next32 n) (s.drop 64)

def chxL (key nonce : List UInt8) (n : Nat) (s : List UInt8) : List UInt8 := chx key nonce (s.length + 1) n s

theorem chx_nil (key nonce : List UInt8) (f n : Nat) : chx key nonce f n [] = [] := by
  cases f <;> simp [chx]

theorem chx_length (key nonce : List UInt8) : ∀ (f n : Nat) (s : List UInt8), s.length ≤ 64 * f → (chx key nonce f n s).length = s.length
  | 0, _, s, h => by
    obtain rfl : s = [] := List.eq_nil_of_length_eq_zero (by omega)
    rfl
  | f + 1, n, s, h => by
    unfold chx
    by_cases e : s = []
    · simp [e]
    · rw [if_neg e, List.length_append, chx_length key nonce f _ (s.drop 64) (by rw [List.length_drop]; omega), xorL_length, blockL_length, List.length_drop]
      omega

theorem chxL_length (key nonce : List UInt8) (n : Nat) (s : List UInt8) : (chxL key nonce n s).length = s.length := chx_length _ _ _ _ _ (by omega)

theorem drop_part (s b : List UInt8) (hb : b.length = 64) : s.drop (xorL s b).length = s.drop 64 := by
  rw [xorL_length, hb]
  rcases Nat.lt_or_ge s.length 64 with h | h
  · rw [Nat.min_eq_left (by omega), List.drop_length, List.drop_of_length_le (by omega)]
  · rw [Nat.min_eq_right h]

set_option maxRecDepth 20000 in
set_option maxHeartbeats 2000000 in
theorem code_cxor (w : World) (key nonce s : List UInt8) (n : Nat) (hk : key.length = 32) (hn : nonce.length = 12) (h32 : n < 4294967296) (hs : s.length ≤ 2000) :
    Calls Tryz.prog 146 #[S key, S nonce, .int .u32 n, S s] w (Blocked (chxL key nonce n s) w) := by
  have hc : checkN key nonce 12 = 0 := by unfold checkN; rw [if_pos ⟨hk, hn⟩]
  have HC := Lib.hid hc
  have HK := Lib.hid hk
  have HN := Lib.hid hn
  have hrec : chxL key nonce n s = [] ++ chx key nonce (s.length + 1) n s := rfl
  generalize chxL key nonce n s = V at *
  have HR := Lib.hid hrec
  have lk : key.length ≤ 32 := by omega
  have ln : nonce.length ≤ 12 := by omega
  clear hc hk hn hrec
  have r1 := rule_app
  have r2 := rule_ext
  have hd : decide (2000 < (s.length : Int)) = false := by simp; omega
  unfold S
  go_enter Tryz.func146, Tryz.ntmps146
  go_wp2_with fail
  refine (code_check w key nonce 12 (by omega) (by omega) (by omega)).mono ?_
  rintro e w1 ⟨rfl, rfl⟩
  rw [HC.out]
  go_wp2_with fail
  go_loopw [2, 3, 11] (fun vn vs vo wr => ∃ (f m : Nat) (T out : List UInt8), vn = .int .u32 m ∧ m < 4294967296 ∧ vs = S T ∧ vo = S out ∧ Hid (V = out ++ chx key nonce f m T) ∧ Hid (T.length ≤ 64 * f) ∧ out.length + T.length ≤ 2000 ∧ w.grownBy wr none) (fun _ vs _ _ => match vs with | .string b => b.size | _ => 0)
  case atStart => exact ⟨s.length + 1, n, s, [], rfl, h32, rfl, rfl, HR.out, by show s.length ≤ 64 * (s.length + 1); omega, by simpa using hs, grow_refl _ _⟩
  case round =>
    clear HR
    obtain ⟨f, m, T, out, rfl, m32, rfl, rfl, hV, hf, hle, hg⟩ := hrel
    by_cases hT : T = []
    · subst hT
      rw [chx_nil, List.append_nil] at hV
      unfold S
      go_wp2_with fail
      go_ret2
      exact ⟨by rw [hV.out]; rfl, hg⟩
    · have q1 : (!T.isEmpty) = true := by simpa using hT
      have q2 : T.isEmpty = false := by simpa using hT
      have hpos : 0 < T.length := List.length_pos_iff.2 hT
      have hb64 := blockL_length key nonce m
      have hxl := xorL_length T (blockL key nonce m)
      have hdp := Lib.hid (drop_part T (blockL key nonce m) hb64)
      obtain ⟨g, rfl⟩ : ∃ g, f = g + 1 := by
        have := hf.out
        exact ⟨f - 1, by omega⟩
      have hstep := Lib.hid (show V = (out ++ xorL T (blockL key nonce m)) ++ chx key nonce g (next32 m) (T.drop 64) from by
        rw [hV.out, chx, if_neg hT, List.append_assoc])
      have hlen2 : (xorL T (blockL key nonce m)).length ≤ T.length := by rw [hxl]; omega
      have hlen1 : 0 < (xorL T (blockL key nonce m)).length := by rw [hxl, hb64]; omega
      have hcat : out.length + (xorL T (blockL key nonce m)).length ≤ 9223372036854775807 := by omega
      have hnx := Lib.hid (show ((m : Int) + 1) % 4294967296 = ((next32 m : Nat) : Int) from by unfold next32; omega)
      have htk : List.take (T.length - (xorL T (blockL key nonce m)).length) (List.drop (xorL T (blockL key nonce m)).length T) = List.drop (xorL T (blockL key nonce m)).length T := List.take_of_length_le (by simp)
      have hbl : (blockL key nonce m).length ≤ 140737488355328 := by omega
      have hsum : (out ++ xorL T (blockL key nonce m)).length + (T.drop (xorL T (blockL key nonce m)).length).length ≤ 2000 := by rw [List.length_append, List.length_drop]; omega
      clear hxl hb64 hV hT
      unfold S
      go_wp2_with fail
      refine (code_cblock _ key nonce m HK.out HN.out m32).mono ?_
      rintro e w2 ⟨rfl, hg2⟩
      unfold S
      go_wp2_with fail
      refine (wire_xor w2 T (blockL key nonce m) (by omega) hbl).mono ?_
      rintro e w3 ⟨rfl, hg3⟩
      have hg' := grow_trans (grow_trans hg hg2) hg3
      clear hg hg2 hg3 hbl
      generalize xorL T (blockL key nonce m) = X at *
      unfold S
      go_wp2_with fail
      rw [hnx.out]
      go_roundw
      case rel => exact ⟨g, next32 m, T.drop X.length, out ++ X, rfl, Nat.mod_lt _ (by omega), rfl, rfl, by rw [hdp.out]; exact hstep, by rw [hdp.out, List.length_drop]; have := hf.out; show T.length - 64 ≤ 64 * g; omega, hsum, hg'⟩
      case measure => simp [ByteArray.size]; omega

end Go.Proofs.YtcmncdaojmkfgaaGreatDoor

namespace Go.Proofs.YtcmncdaojmkfgaaGreatDoor
set_option linter.unusedVariables false

/-- So many blocks of the stream. -/
def streamF (key nonce : List UInt8) : Nat → Nat → List UInt8
  | 0, _ => []
  | f + 1, n => blockL key nonce n ++ streamF key nonce f (next32 n)

theorem streamF_length (key nonce : List UInt8) : ∀ (f n : Nat), (streamF key nonce f n).length = 64 * f
  | 0, _ => rfl
  | f + 1, n => by rw [streamF, List.length_append, blockL_length, streamF_length key nonce f]; omega

theorem chx_stream (key nonce : List UInt8) : ∀ (f n : Nat) (s : List UInt8), s.length ≤ 64 * f → chx key nonce f n s = xorL s (streamF key nonce f n)
  | 0, n, s, h => by
    obtain rfl : s = [] := List.eq_nil_of_length_eq_zero (by omega)
    rfl
  | f + 1, n, s, h => by
    unfold chx
    by_cases e : s = []
    · subst e
      simp [xorL_nil_left]
    · rw [if_neg e, streamF, xorL_append, blockL_length, chx_stream key nonce f _ _ (by rw [List.length_drop]; omega)]

def addn32 (n j : Nat) : Nat := (n + j) % 4294967296

theorem streamF_add (key nonce : List UInt8) : ∀ (j f n : Nat), n < 4294967296 → streamF key nonce (j + f) n = streamF key nonce j n ++ streamF key nonce f (addn32 n j)
  | 0, f, n, h => by
    rw [Nat.zero_add, show addn32 n 0 = n from by unfold addn32; omega]
    rfl
  | j + 1, f, n, h => by
    rw [show j + 1 + f = (j + f) + 1 from by omega, streamF, streamF, streamF_add key nonce j f (next32 n) (Nat.mod_lt _ (by omega)), List.append_assoc]
    rw [show addn32 (next32 n) j = addn32 n (j + 1) from by unfold addn32 next32; omega]

/-- However many blocks beyond the text. -/
theorem chxL_stream (key nonce : List UInt8) (f n : Nat) (s : List UInt8) (h : s.length ≤ 64 * f) (h32 : n < 4294967296) : chxL key nonce n s = xorL s (streamF key nonce f n) := by
  unfold chxL
  rw [chx_stream _ _ _ _ _ (by omega)]
  have h1 := streamF_length key nonce f n
  have h2 := streamF_length key nonce (s.length + 1) n
  rcases Nat.le_total f (s.length + 1) with q | q
  · obtain ⟨d, hd⟩ : ∃ d, s.length + 1 = f + d := ⟨s.length + 1 - f, by omega⟩
    rw [hd, streamF_add _ _ _ _ _ h32, xorL_take _ _ _ (by omega)]
  · obtain ⟨d, hd⟩ : ∃ d, f = (s.length + 1) + d := ⟨f - (s.length + 1), by omega⟩
    rw [hd, streamF_add _ _ (s.length + 1) d _ h32, xorL_take _ _ _ (by omega)]

theorem chxL_twice (key nonce : List UInt8) (n : Nat) (s : List UInt8) (h32 : n < 4294967296) : chxL key nonce n (chxL key nonce n s) = s := by
  have hl := chxL_length key nonce n s
  rw [chxL_stream key nonce (s.length + 1) n (chxL key nonce n s) (by omega) h32, chxL_stream key nonce (s.length + 1) n s (by omega) h32]
  exact xorL_twice _ _ (by rw [streamF_length]; omega)

theorem chxL_pair (key nonce : List UInt8) (n : Nat) (s t : List UInt8) (h32 : n < 4294967296) (h : t.length = s.length) : xorL (chxL key nonce n s) (chxL key nonce n t) = xorL s t := by
  rw [chxL_stream key nonce (s.length + 1) n s (by omega) h32, chxL_stream key nonce (s.length + 1) n t (by omega) h32]
  exact xorL_pair _ _ _ (by rw [streamF_length]; omega) (by rw [streamF_length]; omega)

theorem chxL_split (key nonce : List UInt8) (n j : Nat) (a b : List UInt8) (h32 : n < 4294967296) (ha : a.length = 64 * j) : chxL key nonce n (a ++ b) = chxL key nonce n a ++ chxL key nonce (addn32 n j) b := by
  rw [chxL_stream key nonce (j + (b.length + 1)) n (a ++ b) (by rw [List.length_append]; omega) h32, chxL_stream key nonce j n a (by omega) h32,
    chxL_stream key nonce (b.length + 1) (addn32 n j) b (by omega) (Nat.mod_lt _ (by omega)), streamF_add _ _ _ _ _ h32]
  exact xorL_append_left _ _ _ _ (by rw [streamF_length, ha])

theorem xorL_zeros : ∀ (K : List UInt8), xorL (List.replicate K.length 0) K = K
  | [] => rfl
  | k :: K => by
    have := xorL_zeros K
    simp only [xorL, List.length_cons, List.replicate_succ, List.zipWith_cons_cons] at this ⊢
    rw [this, UInt8.zero_xor]

theorem chxL_zeros (key nonce : List UInt8) (n : Nat) (h32 : n < 4294967296) : chxL key nonce n (zerosL 64) = blockL key nonce n := by
  rw [chxL_stream key nonce 1 n _ (by rw [zerosL_length]; omega) h32, streamF, streamF, List.append_nil]
  have := xorL_zeros (blockL key nonce n)
  rw [blockL_length] at this
  exact this

end Go.Proofs.YtcmncdaojmkfgaaGreatDoor

namespace Go.Proofs.YtcmncdaojmkfgaaGreatDoor
open Go.RowKit
set_option linter.unusedVariables false

def subL (key nonce : List UInt8) : List UInt8 := textW ((stirred (stateL key nonce)).take 4) ++ textW ((stirred (stateL key nonce)).drop 12)

theorem stirred_length (key nonce : List UInt8) : (stirred (stateL key nonce)).length = 16 := (roundsK_ok (begK_ok _ 12).1 (begK_ok _ 12).2 10).2

theorem subL_length (key nonce : List UInt8) : (subL key nonce).length = 32 := by
  unfold subL
  rw [List.length_append, textW_length, textW_length, List.length_take, List.length_drop, stirred_length]
  rfl

theorem small_mem {l : List Nat} (h : Small l) (n : Nat) (hn : n ∈ l) : n < 4294967296 := by
  obtain ⟨i, hi, rfl⟩ := List.getElem_of_mem hn
  have := h i
  rwa [List.getD_eq_getElem?_getD, List.getElem?_eq_getElem hi] at this

end Go.Proofs.YtcmncdaojmkfgaaGreatDoor

namespace Go.Proofs.YtcmncdaojmkfgaaGreatDoor
set_option linter.unusedVariables false

def filledL (s : List UInt8) : List UInt8 := s ++ zerosL ((16 - s.length % 16) % 16)
def sealTagL (key nonce more s : List UInt8) : List UInt8 := tagL ((blockL key nonce 0).take 32) (filledL more ++ filledL s ++ (leB more.length 8 ++ leB s.length 8))
def sealL (key nonce more text : List UInt8) : List UInt8 := chxL key nonce 1 text ++ sealTagL key nonce more (chxL key nonce 1 text)

theorem filledL_length (s : List UInt8) : (filledL s).length ≤ s.length + 15 := by
  unfold filledL
  rw [List.length_append, zerosL_length]
  omega

theorem tagL_length (k t : List UInt8) : (tagL k t).length = 16 := by unfold tagL; rw [List.length_append, leB_length, leB_length]

theorem sealTagL_length (key nonce more s : List UInt8) : (sealTagL key nonce more s).length = 16 := tagL_length _ _

theorem sealL_length (key nonce more text : List UInt8) : (sealL key nonce more text).length = text.length + 16 := by
  unfold sealL
  rw [List.length_append, sealTagL_length, chxL_length]

theorem sealL_take (key nonce more text : List UInt8) : (sealL key nonce more text).take text.length = chxL key nonce 1 text := by
  unfold sealL
  rw [List.take_append_of_le_length (by rw [chxL_length]; omega), List.take_of_length_le (by rw [chxL_length]; omega)]

end Go.Proofs.YtcmncdaojmkfgaaGreatDoor
