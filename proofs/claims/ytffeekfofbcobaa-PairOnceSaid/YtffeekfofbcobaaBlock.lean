/- ChaCha: a block. -/
import Derived.Test.YtffeekfofbcobaaText
namespace Go.Proofs.Ytffeekfofbcobaa
open Go.RowKit
set_option linter.unusedVariables false

/-- Two states, number by number. -/
def addW (a b : List Nat) : List Nat := List.zipWith add32 a b
def stateL (key rest : List UInt8) : List Nat := begun (key ++ rest)
def blockW (s : List Nat) : List Nat := addW (stirred s) s
def blockL (key nonce : List UInt8) (n : Nat) : List UInt8 := textW (blockW (stateL key (leB n 4 ++ nonce)))

theorem blockW_length {s : List Nat} (hs : Small s) (hl : s.length = 16) : (blockW s).length = 16 := by
  have := (roundsK_ok hs hl 10).2
  unfold blockW addW stirred
  rw [List.length_zipWith, this, hl]
  rfl

theorem blockL_length (key nonce : List UInt8) (n : Nat) : (blockL key nonce n).length = 64 := by
  unfold blockL
  rw [textW_length, blockW_length (s := stateL key (leB n 4 ++ nonce)) (begK_ok _ 12).1 (begK_ok _ 12).2]

def noText : Value := .tuple #[S [], .int .i64 1]
def Blocked (l : List UInt8) (w : World) (e : Ending) (w' : World) : Prop := e = .returned (.tuple #[S l, .int .i64 0]) ∧ w.grownBy w' none

theorem code_block_err (w : World) (key nonce : List UInt8) (n : Int) (hk : key.length ≤ 9223372036854775807) (hn : nonce.length ≤ 9223372036854775807) (h : ¬ (key.length = 32 ∧ nonce.length = 12)) :
    Calls Try.prog 65 #[S key, S nonce, .int .u32 n] w fun e w' => e = .returned noText ∧ w = w' := by
  have hc : checkN key nonce 12 = 1 := by unfold checkN; rw [if_neg h]
  have HC := Lib.hid hc
  clear hc h
  unfold S
  go_enter Try.func65, Try.ntmps65
  go_wp2_with fail
  refine (code_check w key nonce 12 hk hn (by omega)).mono ?_
  rintro e w1 ⟨rfl, rfl⟩
  rw [HC.out]
  go_wp2_with fail
  go_ret2
  exact ⟨rfl, rfl⟩

/-- The first k sums. -/
def csumK (v s : List Nat) : Nat → List Nat
  | 0 => v
  | k + 1 => (csumK v s k).set k (add32 (v.getD k 0) (s.getD k 0))

theorem csumK_length (v s : List Nat) (k : Nat) : (csumK v s k).length = v.length := by
  induction k with
  | zero => rfl
  | succ k ih => rw [csumK, List.length_set, ih]

theorem sumK_get (v s : List Nat) (k : Nat) : ∀ j, (csumK v s k)[j]? = if j < k then (v[j]?).map (fun x => add32 x (s.getD j 0)) else v[j]? := by
  induction k with
  | zero => intro j; simp [csumK]
  | succ k ih =>
    intro j
    rw [csumK, List.getElem?_set]
    by_cases e : k = j
    · subst e
      rw [if_pos rfl, csumK_length, if_pos (show k < k + 1 by omega)]
      by_cases q : k < v.length
      · simp [q, List.getD]
      · simp [q]
    · rw [if_neg e, ih]
      by_cases q : j < k
      · rw [if_pos q, if_pos (by omega)]
      · rw [if_neg q, if_neg (by omega)]

theorem csumK_all (v s : List Nat) (h : v.length = s.length) : csumK v s v.length = addW v s := by
  apply List.ext_getElem?
  intro j
  rw [sumK_get, addW, List.getElem?_zipWith]
  by_cases q : j < v.length
  · rw [if_pos q]
    have q2 : j < s.length := by omega
    simp [List.getElem?_eq_getElem q, List.getElem?_eq_getElem q2, List.getD]
  · rw [if_neg q, List.getElem?_eq_none (by omega)]

theorem sumK_next (v s : List Nat) (k : Nat) (hk : k < v.length) : (csumK v s k).getD k 0 = v.getD k 0 := by
  rw [List.getD_eq_getElem?_getD, sumK_get, if_neg (by omega), List.getD_eq_getElem?_getD]

set_option maxRecDepth 20000 in
set_option maxHeartbeats 4000000 in
theorem code_cblock (w : World) (key nonce : List UInt8) (n : Nat) (hk : key.length = 32) (hn : nonce.length = 12) (h32 : n < 4294967296) :
    Calls Try.prog 65 #[S key, S nonce, .int .u32 n] w (Blocked (blockL key nonce n) w) := by
  have hc : checkN key nonce 12 = 0 := by unfold checkN; rw [if_pos ⟨hk, hn⟩]
  have HC := Lib.hid hc
  obtain ⟨st, hst⟩ : ∃ s, s = stateL key (leB n 4 ++ nonce) := ⟨_, rfl⟩
  have hbl : blockL key nonce n = textW (addW (stirred st) st) := by rw [hst]; rfl
  have hs1 : Small st := by rw [hst]; exact (begK_ok _ 12).1
  have hs2 : st.length = 16 := by rw [hst]; exact (begK_ok _ 12).2
  obtain ⟨v, hv⟩ : ∃ v, v = stirred st := ⟨_, rfl⟩
  have hv1 : Small v := by rw [hv]; exact (roundsK_ok hs1 hs2 10).1
  have hv2 : v.length = 16 := by rw [hv]; exact (roundsK_ok hs1 hs2 10).2
  rw [hbl, ← hv]
  have HST := Lib.hid (show A16 (begun (key ++ (leB n 4 ++ nonce))) = A16 st from by rw [hst]; rfl)
  have HV := Lib.hid (show A16 (stirred st) = A16 v from by rw [hv])
  have hl48 : (key ++ (leB n 4 ++ nonce)).length = 48 := by simp [leB_length, hk, hn]
  have HL := Lib.hid hl48
  have HB4 := Lib.hid (leB_length n 4)
  have lk : key.length ≤ 32 := by omega
  have ln : nonce.length ≤ 12 := by omega
  clear hc hst hbl hv hl48 hk hn
  have r1 := rule_app
  have e1 : IntKind.u64.wrap (n : Int) = (n : Int) := IntWalk.u64_in _ (by omega)
  unfold S
  go_enter Try.func65, Try.ntmps65
  go_wp2_with fail
  refine (code_check w key nonce 12 (by omega) (by omega) (by omega)).mono ?_
  rintro e w1 ⟨rfl, rfl⟩
  rw [HC.out]
  go_wp2_with fail
  refine (wire_appendLittle w w.heap.size (.slice none 0 0) [] n 4 (brow_nil _ _) (by omega) (by omega) (by simp) (by omega)).mono ?_
  rintro e w1 ⟨b1, rfl, hown, hB1⟩
  have hcv := conv_brow hown
  rw [List.nil_append] at hcv
  have hlen : (leB n 4).length + nonce.length ≤ 9223372036854775807 := by rw [HB4.out]; omega
  unfold S at hcv
  have hg1 : w.grownBy w1 none := grow_of_below hB1
  clear hown hB1
  go_wp2_with fail
  clear hcv hlen
  refine (code_cbegun w1 key (leB n 4 ++ nonce) HL.out).mono ?_
  rintro e w2 ⟨rfl, hg2⟩
  rw [HST.out]
  have hg := grow_trans hg1 hg2
  clear hg1 hg2
  unfold A16
  have hsn := fun W : World => run_store_new (P := Try.prog) W #[Value.int IntKind.u32 0, Value.int IntKind.u32 0, Value.int IntKind.u32 0, Value.int IntKind.u32 0, Value.int IntKind.u32 0, Value.int IntKind.u32 0, Value.int IntKind.u32 0, Value.int IntKind.u32 0, Value.int IntKind.u32 0, Value.int IntKind.u32 0, Value.int IntKind.u32 0, Value.int IntKind.u32 0, Value.int IntKind.u32 0, Value.int IntKind.u32 0, Value.int IntKind.u32 0, Value.int IntKind.u32 0] 113 (st.map wcell) (by simp [hs2]) (wcells_mem st)
  go_upto_region 5 with (fail)
  clear hsn e1
  have hB9 : Blk (w2.alloc (.cells (st.map wcell).toArray 113)) w2.heap.size 113 (st.map wcell) := Blk.new w2 _ _
  have hg9 : w.grownBy (w2.alloc (.cells (st.map wcell).toArray 113)) none := grow_alloc hg _
  have hz9 : w.heap.size ≤ w2.heap.size := hg.size
  generalize w2.alloc (.cells (st.map wcell).toArray 113) = x at *
  generalize w2.heap.size = B at *
  clear hg
  have hi2 : (Try.prog.info? 113).map (·.size) = some (st.map wcell).length := by rw [List.length_map, hs2]; exact info16
  have HRg := Lib.hid hB9.range
  have HI := Lib.hid hi2
  clear hi2
  refine wp_region_lit ?_
  refine wpList_load_mid rfl 113 _ rfl B 0 rfl (st.map wcell) _ HRg.out Try.underlying113 rfl HI.out ?_
  go_wp2_with fail
  refine (code_stirred x st hs2 hs1).mono ?_
  rintro e x3 ⟨rfl, hg3⟩
  rw [HV.out]
  unfold A16
  have hsv := fun W : World => run_store_new (P := Try.prog) W #[Value.int IntKind.u32 0, Value.int IntKind.u32 0, Value.int IntKind.u32 0, Value.int IntKind.u32 0, Value.int IntKind.u32 0, Value.int IntKind.u32 0, Value.int IntKind.u32 0, Value.int IntKind.u32 0, Value.int IntKind.u32 0, Value.int IntKind.u32 0, Value.int IntKind.u32 0, Value.int IntKind.u32 0, Value.int IntKind.u32 0, Value.int IntKind.u32 0, Value.int IntKind.u32 0, Value.int IntKind.u32 0] 113 (v.map wcell) (by simp [hv2]) (wcells_mem v)
  go_upto_region 6 with (fail)
  clear hsv
  have hBs := (hB9.kept hg3 (by simp)).kept (World.grownBy_alloc x3 (.cells (v.map wcell).toArray 113) none) (by simp)
  have hBv : Blk (x3.alloc (.cells (v.map wcell).toArray 113)) x3.heap.size 113 (v.map wcell) := Blk.new x3 _ _
  have hgx : w.grownBy (x3.alloc (.cells (v.map wcell).toArray 113)) none := grow_alloc (grow_trans hg9 hg3) _
  have hzx : w.heap.size ≤ x3.heap.size := (grow_trans hg9 hg3).size
  have hlt9 : B < x3.heap.size := (hB9.kept hg3 (by simp)).lt
  generalize x3.alloc (.cells (v.map wcell).toArray 113) = y at *
  generalize x3.heap.size = C at *
  clear hg3 hg9 hB9 HRg
  have HBs := Lib.hid hBs
  have HBv := Lib.hid hBv
  have HGX := Lib.hid hgx
  clear hBs hBv hgx
  go_wp2_with fail
  go_loopw [28] (fun vi wr => ∃ k : Nat, k ≤ 16 ∧ vi = .int .i64 k ∧ WB wr C (csumK v st k) ∧ y.grownBy wr (some C)) (fun vi _ => 16 - (intOf vi).toNat)
  case atStart => exact ⟨0, by omega, rfl, HBv.out, grow_refl _ _⟩
  case round =>
    obtain ⟨k, hk, rfl, hW, hg⟩ := hrel
    by_cases hlt : k < 16
    · have hS : WB wr B st := (HBs.out).kept hg (by simp; omega)
      have c1 := hW.cell k (by rw [csumK_length]; omega)
      have c2 := hS.cell k (by omega)
      have f1 := hW.frozen k
      rw [sumK_next v st k (by omega)] at c1
      have hnew : WB (wr.setCell ⟨C, k, none⟩ (.int .u32 (add32 (v.getD k 0) (st.getD k 0) : Nat))) C (csumK v st (k + 1)) := hW.set k _
      have hgn : y.grownBy (wr.setCell ⟨C, k, none⟩ (.int .u32 (add32 (v.getD k 0) (st.getD k 0) : Nat))) (some C) := grow_setCell hg k _
      have ha := add32_val (v.getD k 0) (st.getD k 0)
      generalize v.getD k 0 = a at *
      generalize st.getD k 0 = b at *
      generalize add32 a b = c at *
      have HH := Lib.hid (And.intro hnew hgn)
      clear hnew hgn hS hW
      go_wp2_with fail
      go_region
      go_wp2_with fail
      go_roundw
      case rel => exact ⟨k + 1, by omega, by go_num, by first | exact HH.out.1 | (rw [← ha] at HH; exact HH.out.1), by first | exact grow_drew HH.out.2 | (rw [← ha] at HH; exact grow_drew HH.out.2)⟩
      case measure => simp [intOf]; omega
    · obtain rfl : k = 16 := by omega
      have hsum : csumK v st 16 = addW v st := by rw [← hv2]; exact csumK_all v st (by omega)
      rw [hsum] at hW
      have hal : (addW v st).length = 16 := by unfold addW; rw [List.length_zipWith]; omega
      have hsm : ∀ n ∈ addW v st, n < 4294967296 := by
        intro n hn
        unfold addW at hn
        obtain ⟨i, hi, rfl⟩ := List.getElem_of_mem hn
        rw [List.getElem_zipWith]
        exact Nat.mod_lt _ (by omega)
      have hWA : WAt wr C 0 (addW v st) := fun i hi => by
        have := hW.cell i hi
        rw [Nat.zero_add, this, List.getD_eq_getElem?_getD, List.getElem?_eq_getElem hi]
        rfl
      have hgf := grow_trans_new HGX.out hg hzx
      have hClt : C < wr.heap.size := lt_of_obj hW
      have HA := Lib.hid hal
      have HSM := Lib.hid hsm
      clear hsum hal hsm hW hg
      generalize addW v st = L at *
      go_wp2_with fail
      have hT := code_text wr C 0 16 L hWA (by rw [HA.out]; omega) HSM.out hClt
      rw [HA.out] at hT
      refine hT.mono ?_
      rintro e w5 ⟨rfl, hB5⟩
      unfold S
      go_wp2_with fail
      go_ret2
      exact ⟨rfl, grow_trans hgf (grow_of_below hB5)⟩

end Go.Proofs.Ytffeekfofbcobaa
