/- ChaCha: the state at first, and as a text. -/
import Derived.Test.YtffeekfofbcobaaStir
import Derived.Test.YtffeekfofbcobaaLittle
import Derived.Test.YtffeekfofbcobaaWxor
import Derived.Test.YtffeekfofbcobaaZeros
namespace Go.Proofs.Ytffeekfofbcobaa
open Go.RowKit
set_option linter.unusedVariables false

def begK (K : List UInt8) : Nat → List Nat
  | 0 => [1634760805, 857760878, 2036477234, 1797285236, 0, 0, 0, 0, 0, 0, 0, 0, 0, 0, 0, 0]
  | i + 1 => (begK K i).set (4 + i) (leN ((K.drop (4 * i)).take 4))

def begun (K : List UInt8) : List Nat := begK K 12

theorem leN_take4 (l : List UInt8) : leN (l.take 4) < 4294967296 := by
  refine Nat.lt_of_lt_of_le (leN_lt _) ?_
  have : (l.take 4).length ≤ 4 := by rw [List.length_take]; omega
  exact (Nat.pow_le_pow_right (by omega) this : 256 ^ (l.take 4).length ≤ 256 ^ 4)

theorem begK_ok (K : List UInt8) (i : Nat) : Small (begK K i) ∧ (begK K i).length = 16 := by
  induction i with
  | zero =>
    refine ⟨fun j => ?_, rfl⟩
    unfold begK
    by_cases h : j < 16
    · have : ∀ j, j < 16 → List.getD [1634760805, 857760878, 2036477234, 1797285236, 0, 0, 0, 0, 0, 0, 0, 0, 0, 0, 0, 0] j 0 < 4294967296 := by decide
      exact this j h
    · rw [List.getD_eq_getElem?_getD, List.getElem?_eq_none (by simp; omega)]
      decide
  | succ i ih => exact ⟨getD_set_small ih.1 _ _ (leN_take4 _), by rw [begK, List.length_set]; exact ih.2⟩

set_option maxRecDepth 20000 in
set_option maxHeartbeats 2000000 in
theorem code_cbegun (w : World) (k r : List UInt8) (hK : (k ++ r).length = 48) :
    Calls Try.prog 62 #[S k, S r] w fun e w' => e = .returned (A16 (begun (k ++ r))) ∧ w.grownBy w' none := by
  have hkr : k.length + r.length ≤ 9223372036854775807 := by rw [List.length_append] at hK; omega
  obtain ⟨K, hKe⟩ : ∃ K, K = k ++ r := ⟨_, rfl⟩
  rw [← hKe] at hK ⊢
  have HK := Lib.hid hK
  have HKE := Lib.hid hKe
  have HF := Lib.hid (show A16 (begun K) = .agg ((begK K 12).map wcell).toArray from rfl)
  generalize hV : A16 (begun K) = V at *
  clear hK hKe hV
  have r1 := rule_app
  have r2 := rule_ext
  unfold S
  go_enter Try.func62, Try.ntmps62
  go_wp2_with fail
  rw [← HKE.out]
  generalize hx : (w.alloc (.cells #[Value.int IntKind.u32 0, Value.int IntKind.u32 0, Value.int IntKind.u32 0, Value.int IntKind.u32 0, Value.int IntKind.u32 0, Value.int IntKind.u32 0, Value.int IntKind.u32 0, Value.int IntKind.u32 0, Value.int IntKind.u32 0, Value.int IntKind.u32 0, Value.int IntKind.u32 0, Value.int IntKind.u32 0, Value.int IntKind.u32 0, Value.int IntKind.u32 0, Value.int IntKind.u32 0, Value.int IntKind.u32 0] 113)).alloc (.cells #[Value.int IntKind.u32 1634760805, Value.int IntKind.u32 857760878, Value.int IntKind.u32 2036477234, Value.int IntKind.u32 1797285236, Value.int IntKind.u32 0, Value.int IntKind.u32 0, Value.int IntKind.u32 0, Value.int IntKind.u32 0, Value.int IntKind.u32 0, Value.int IntKind.u32 0, Value.int IntKind.u32 0, Value.int IntKind.u32 0, Value.int IntKind.u32 0, Value.int IntKind.u32 0, Value.int IntKind.u32 0, Value.int IntKind.u32 0] 113) = x
  obtain ⟨B, hBe⟩ : ∃ B, B = w.heap.size := ⟨_, rfl⟩
  have hB0 : Blk x B 113 zero16 := by rw [← hx, hBe]; exact obj_alloc (obj_new w _)
  have hB1 : WB x (B + 1) (begK K 0) := by
    have := obj_new (w.alloc (.cells #[Value.int IntKind.u32 0, Value.int IntKind.u32 0, Value.int IntKind.u32 0, Value.int IntKind.u32 0, Value.int IntKind.u32 0, Value.int IntKind.u32 0, Value.int IntKind.u32 0, Value.int IntKind.u32 0, Value.int IntKind.u32 0, Value.int IntKind.u32 0, Value.int IntKind.u32 0, Value.int IntKind.u32 0, Value.int IntKind.u32 0, Value.int IntKind.u32 0, Value.int IntKind.u32 0, Value.int IntKind.u32 0] 113)) (.cells #[Value.int IntKind.u32 1634760805, Value.int IntKind.u32 857760878, Value.int IntKind.u32 2036477234, Value.int IntKind.u32 1797285236, Value.int IntKind.u32 0, Value.int IntKind.u32 0, Value.int IntKind.u32 0, Value.int IntKind.u32 0, Value.int IntKind.u32 0, Value.int IntKind.u32 0, Value.int IntKind.u32 0, Value.int IntKind.u32 0, Value.int IntKind.u32 0, Value.int IntKind.u32 0, Value.int IntKind.u32 0, Value.int IntKind.u32 0] 113)
    rw [show (w.alloc (.cells #[Value.int IntKind.u32 0, Value.int IntKind.u32 0, Value.int IntKind.u32 0, Value.int IntKind.u32 0, Value.int IntKind.u32 0, Value.int IntKind.u32 0, Value.int IntKind.u32 0, Value.int IntKind.u32 0, Value.int IntKind.u32 0, Value.int IntKind.u32 0, Value.int IntKind.u32 0, Value.int IntKind.u32 0, Value.int IntKind.u32 0, Value.int IntKind.u32 0, Value.int IntKind.u32 0, Value.int IntKind.u32 0] 113)).heap.size = B + 1 from by rw [hBe]; simp] at this
    rw [← hx]
    exact this
  have hg0 : w.grownBy x none := by rw [← hx]; exact grow_alloc (grow_alloc (grow_refl w none) _) _
  have hBs : w.heap.size ≤ B := by omega
  rw [← hBe]
  have HZ := Lib.hid hB0
  have HG := Lib.hid hg0
  clear hx hBe hB0 hg0
  go_loopw [6, 7] (fun vi vt wr => ∃ (i : Nat) (T : List UInt8), i ≤ 12 ∧ vi = .int .i64 i ∧ vt = S T ∧ Hid (T = K.drop (4 * i)) ∧ T.length + 4 * i ≤ 48 ∧ 48 ≤ T.length + 4 * i ∧ WB wr (B + 1) (begK K i) ∧ x.grownBy wr (some (B + 1))) (fun vi _ _ => 12 - (intOf vi).toNat)
  case atStart => exact ⟨0, K, by omega, rfl, rfl, by rw [Nat.mul_zero, List.drop_zero]; rfl, by have := HK.out; omega, by have := HK.out; omega, hB1, grow_refl _ _⟩
  case round =>
    clear hB1
    obtain ⟨i, T, hi, rfl, rfl, hT, t1, t2, hB, hg⟩ := hrel
    by_cases hlt : i < 12
    · have l4 : 4 ≤ T.length := by omega
      have lne : T ≠ [] := by intro e; subst e; simp at l4
      have q1 : (!T.isEmpty) = true := by simpa using lne
      have q2 : T.isEmpty = false := by simpa using lne
      have e4 : List.take (T.length - 4) (List.drop 4 T) = List.drop 4 T := List.take_of_length_le (by simp)
      have l8 : (T.take 4).take 8 = T.take 4 := by rw [List.take_take]; rfl
      have ltk : (T.take 4).length ≤ 140737488355328 := by rw [List.length_take]; omega
      have hN := leN_take4 T
      have hcl := hB.cell (4 + i) (by rw [(begK_ok K i).2]; omega)
      have hfr := hB.frozen (4 + i)
      have HN := Lib.hid (show leN (T.take 4) = leN ((K.drop (4 * i)).take 4) from by rw [hT.out])
      have ec : ∀ n : Nat, n < 4294967296 → (n : Int) % 4294967296 = (n : Int) := fun n h => by omega
      unfold S
      go_wp2_with fail
      refine (wire_little _ (T.take 4) ltk).mono ?_
      rintro e w1 ⟨rfl, rfl⟩
      rw [l8]
      have hcv : ((leN (T.take 4) : Nat) : Int) % 4294967296 = ((leN (T.take 4) : Nat) : Int) := by omega
      clear ec l8
      generalize leN (T.take 4) = N at *
      have hst : WB (wr.setCell ⟨B + 1, 4 + i, none⟩ (.int .u32 (N : Int))) (B + 1) (begK K (i + 1)) := by
        rw [begK, ← HN.out]
        exact hB.set (4 + i) N
      have hgs := grow_setCell hg (4 + i) (.int .u32 (N : Int))
      go_wp2_with fail
      go_region
      go_wp2_with fail
      go_roundw
      case rel => exact ⟨i + 1, T.drop 4, by omega, by go_num, rfl, by rw [hT.out, List.drop_drop]; rfl, by rw [List.length_drop]; omega, by rw [List.length_drop]; omega, hst, grow_drew hgs⟩
      case measure => simp [intOf]; omega
    · obtain rfl : i = 12 := by omega
      obtain rfl : T = [] := List.eq_nil_of_length_eq_zero (by omega)
      have hle := (begK_ok K 12).2
      obtain ⟨L, hL⟩ : ∃ L, L = begK K 12 := ⟨_, rfl⟩
      rw [← hL] at hle hB
      have HLL := Lib.hid (show V = .agg (L.map wcell).toArray from by rw [HF.out, hL])
      clear hL HF
      have hB' : Blk wr (B + 1) 113 (L.map wcell) := hB
      have hZ := (HZ.out).kept hg (by simp)
      have hi2 : (Try.prog.info? 113).map (·.size) = some (L.map wcell).length := by rw [List.length_map, hle]; exact info16
      have hi3 : (Try.prog.info? 113).map (·.size) = some (L.map wcell).toArray.size := by rw [List.size_toArray]; exact hi2
      have hth : wr.there B 0 (L.map wcell).toArray.size := hZ.there _ (by simp [zero16, hle])
      have HI := Lib.hid hi2
      have HI3 := Lib.hid hi3
      have HT := Lib.hid hth
      have HRg := Lib.hid hB'.range
      clear hi2 hi3 hth hZ
      unfold S
      go_upto_region 6 with (fail)
      refine wp_region_lit ?_
      refine wpList_load_mid rfl 113 _ rfl (B + 1) 0 rfl (L.map wcell) _ HRg.out Try.underlying113 rfl HI.out ?_
      refine wpList_store_mid rfl 113 _ _ rfl B 0 (L.map wcell).toArray rfl rfl HT.out HI3.out (wcells_one _) ?_
      refine wpList_nil ?_
      have hW := ((HZ.out).kept hg (by simp)).store (L.map wcell) (by simpa [zero16] using hle)
      have hgW : w.grownBy (wr.setCells B 0 (L.map wcell).toArray.toList) none := grow_setCells_new (grow_trans_new HG.out hg (by omega)) B (by omega) _ _
      go_wp2_with fail
      refine bodyPost_ret (v := .agg (L.map wcell).toArray) (results_row Try.results62 _ _ B rfl (L.map wcell) _ hW Try.underlying113 rfl HI.out) rfl ?_
      exact ⟨by rw [HLL.out], hgW⟩

end Go.Proofs.Ytffeekfofbcobaa
