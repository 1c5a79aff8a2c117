/- ChaCha: a key of a key. -/
import Derived.Test.YtdakmkbcepccbaaBlock
namespace Go.Proofs.Ytdakmkbcepccbaa
open Go.RowKit
set_option linter.unusedVariables false

def subL (key nonce : List UInt8) : List UInt8 := textW ((stirred (stateL key nonce)).take 4) ++ textW ((stirred (stateL key nonce)).drop 12)

theorem stirred_length (key nonce : List UInt8) : (stirred (stateL key nonce)).length = 16 := (roundsK_ok (begK_ok _ 12).1 (begK_ok _ 12).2 10).2

theorem subL_length (key nonce : List UInt8) : (subL key nonce).length = 32 := by
  unfold subL
  rw [List.length_append, textW_length, textW_length, List.length_take, List.length_drop, stirred_length]
  rfl

theorem small_mem {l : List Nat} (h : Small l) (n : Nat) (hn : n ∈ l) : n < 4294967296 := by
  obtain ⟨i, hi, rfl⟩ := List.getElem_of_mem hn
  have := h i
  rwa [List.getD_eq_getElem?_getD, List.getElem?_eq_getElem hi] at this

theorem code_sub_err (w : World) (key nonce : List UInt8) (hk : key.length ≤ 9223372036854775807) (hn : nonce.length ≤ 9223372036854775807) (h : ¬ (key.length = 32 ∧ nonce.length = 16)) :
    Calls Try.prog 63 #[S key, S nonce] w fun e w' => e = .returned noText ∧ w = w' := by
  have hc : checkN key nonce 16 = 1 := by unfold checkN; rw [if_neg h]
  have HC := Lib.hid hc
  clear hc h
  unfold S
  go_enter Try.func63, Try.ntmps63
  go_wp2_with fail
  refine (code_check w key nonce 16 hk hn (by omega)).mono ?_
  rintro e w1 ⟨rfl, rfl⟩
  rw [HC.out]
  go_wp2_with fail
  go_ret2
  exact ⟨rfl, rfl⟩

set_option maxRecDepth 20000 in
set_option maxHeartbeats 400000 in
theorem code_sub (w : World) (key nonce : List UInt8) (hk : key.length = 32) (hn : nonce.length = 16) :
    Calls Try.prog 63 #[S key, S nonce] w (Blocked (subL key nonce) w) := by
  have hc : checkN key nonce 16 = 0 := by unfold checkN; rw [if_pos ⟨hk, hn⟩]
  have HC := Lib.hid hc
  obtain ⟨st, hst⟩ : ∃ s, s = stateL key nonce := ⟨_, rfl⟩
  have hs1 : Small st := by rw [hst]; exact (begK_ok _ 12).1
  have hs2 : st.length = 16 := by rw [hst]; exact (begK_ok _ 12).2
  obtain ⟨v, hv⟩ : ∃ v, v = stirred st := ⟨_, rfl⟩
  have hv1 : Small v := by rw [hv]; exact (roundsK_ok hs1 hs2 10).1
  have hv2 : v.length = 16 := by rw [hv]; exact (roundsK_ok hs1 hs2 10).2
  have hbl : subL key nonce = textW (v.take 4) ++ textW (v.drop 12) := by rw [hv, hst]; rfl
  rw [hbl]
  have HST := Lib.hid (show A16 (begun (key ++ nonce)) = A16 st from by rw [hst]; rfl)
  have HV := Lib.hid (show A16 (stirred st) = A16 v from by rw [hv])
  have HL := Lib.hid (show (key ++ nonce).length = 48 from by simp [hk, hn])
  have hz1 : (v.take 4).length = 4 := by rw [List.length_take]; omega
  have hz2 : (v.drop 12).length = 4 := by rw [List.length_drop]; omega
  have hm1 : ∀ n ∈ v.take 4, n < 4294967296 := fun n hn => small_mem hv1 n (List.mem_of_mem_take hn)
  have hm2 : ∀ n ∈ v.drop 12, n < 4294967296 := fun n hn => small_mem hv1 n (List.mem_of_mem_drop hn)
  have ht1 : (textW (v.take 4)).length = 16 := by rw [textW_length, hz1]
  have ht2 : (textW (v.drop 12)).length = 16 := by rw [textW_length, hz2]
  have lk : key.length ≤ 32 := by omega
  have ln : nonce.length ≤ 16 := by omega
  have HM := Lib.hid (And.intro hz1 (And.intro hz2 (And.intro hm1 hm2)))
  have HV2 := Lib.hid hv2
  clear hc hst hbl hv hk hn hz1 hz2 hm1 hm2 hv1
  unfold S
  go_enter Try.func63, Try.ntmps63
  go_wp2_with fail
  refine (code_check w key nonce 16 (by omega) (by omega) (by omega)).mono ?_
  rintro e w1 ⟨rfl, rfl⟩
  rw [HC.out]
  go_wp2_with fail
  refine (code_cbegun w key nonce HL.out).mono ?_
  rintro e w2 ⟨rfl, hg⟩
  rw [HST.out]
  unfold A16
  go_wp2_with fail
  refine (code_stirred w2 st hs2 hs1).mono ?_
  rintro e x3 ⟨rfl, hg3⟩
  rw [HV.out]
  unfold A16
  have hsv := fun W : World => run_store_new (P := Try.prog) W #[Value.int IntKind.u32 0, Value.int IntKind.u32 0, Value.int IntKind.u32 0, Value.int IntKind.u32 0, Value.int IntKind.u32 0, Value.int IntKind.u32 0, Value.int IntKind.u32 0, Value.int IntKind.u32 0, Value.int IntKind.u32 0, Value.int IntKind.u32 0, Value.int IntKind.u32 0, Value.int IntKind.u32 0, Value.int IntKind.u32 0, Value.int IntKind.u32 0, Value.int IntKind.u32 0, Value.int IntKind.u32 0] 109 (v.map wcell) (by simp [hv2]) (wcells_mem v)
  go_upto_region 5 with (fail)
  clear hsv hv2
  have hBv : WB (x3.alloc (.cells (v.map wcell).toArray 109)) x3.heap.size v := Blk.new x3 _ _
  have hgx : w.grownBy (x3.alloc (.cells (v.map wcell).toArray 109)) none := grow_alloc (grow_trans hg hg3) _
  have hClt : x3.heap.size < (x3.alloc (.cells (v.map wcell).toArray 109)).heap.size := by simp
  generalize x3.alloc (.cells (v.map wcell).toArray 109) = y at *
  generalize x3.heap.size = C at *
  clear hg hg3
  have hA1 : WAt y C 0 (v.take 4) := fun i hi => by
    rw [HM.out.1] at hi
    have := hBv.cell i (by rw [HV2.out]; omega)
    rw [Nat.zero_add, this, List.getD_eq_getElem?_getD, List.getElem?_eq_getElem (by rw [HV2.out]; omega), List.getElem_take]
    rfl
  have hA2 : WAt y C 12 (v.drop 12) := fun i hi => by
    rw [HM.out.2.1] at hi
    have := hBv.cell (12 + i) (by rw [HV2.out]; omega)
    rw [this, List.getD_eq_getElem?_getD, List.getElem?_eq_getElem (by rw [HV2.out]; omega), List.getElem_drop]
    rfl
  have A1 : ∀ W, WAt W C 0 (v.take 4) → C < W.heap.size → Calls Try.prog 73 #[.slice (some ⟨C, 0, none⟩) 4 16] W (Texted (textW (v.take 4)) W) := fun W h1 h2 => by
    have := code_text W C 0 16 (v.take 4) h1 (by rw [HM.out.1]; omega) HM.out.2.2.1 h2
    rw [HM.out.1] at this
    exact this
  have A2 : ∀ W, WAt W C 12 (v.drop 12) → C < W.heap.size → Calls Try.prog 73 #[.slice (some ⟨C, 12, none⟩) 4 4] W (Texted (textW (v.drop 12)) W) := fun W h1 h2 => by
    have := code_text W C 12 4 (v.drop 12) h1 (by rw [HM.out.2.1]; omega) HM.out.2.2.2 h2
    rw [HM.out.2.1] at this
    exact this
  have hA1d : WAt y.drew C 0 (v.take 4) := hA1
  have hA2d : WAt y.drew C 12 (v.drop 12) := hA2
  have hCd : C < y.drew.heap.size := hClt
  have hgd : w.grownBy y.drew none := grow_drew hgx
  clear hBv hA1 hA2 hgx hClt
  have r1 := rule_app
  go_region_with
    (first
      | (go_at_call 73; (with_reducible refine (A1 _ hA1d hCd).mono ?_); rintro e w4 ⟨rfl, hb4⟩; unfold S)
      | (go_at_call 73; (with_reducible refine (A2 _ (hA2d.below hb4 hCd) (Nat.lt_of_lt_of_le hCd hb4.size)).mono ?_); rintro e w5 ⟨rfl, hb5⟩; unfold S))
  all_goals
    go_wp2_with fail
    go_ret2
    exact ⟨rfl, grow_trans (grow_trans hgd (grow_of_below hb4)) (grow_of_below hb5)⟩

end Go.Proofs.Ytdakmkbcepccbaa
