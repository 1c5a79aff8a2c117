/- The ladder walked. (Written by wip/gen/lad.py.) -/
import Derived.Test.YtmomfbkpniblgaaGreatDoorDg13
import Derived.Test.YtmomfbkpniblgaaGreatDoorDg31
import Derived.Test.YtmomfbkpniblgaaGreatDoorDgElemTimes
import Derived.Test.YtmomfbkpniblgaaGreatDoorDgElemRead
namespace Go.Proofs.YtmomfbkpniblgaaGreatDoor
open Go.RowKit
set_option linter.unusedVariables false

theorem two_plus (x y : Nat) : NTwo 86 x y (addP x y) := by
  intro w p q hp hq
  obtain ⟨a, rfl, oa, ea⟩ := hp
  obtain ⟨b, rfl, ob, eb⟩ := hq
  refine (code_nplus w a b oa ob).mono ?_
  rintro e w' ⟨l, rfl, ol, hl, hg⟩
  exact ⟨_, rfl, ⟨l, rfl, ol, by rw [hl]; unfold addP; rw [Nat.mod_mod, Nat.add_mod, ea, eb, ← Nat.add_mod]⟩, hg⟩
theorem sub_class {x y z a b : Nat} (ea : a % PP = x % PP) (eb : b % PP = y % PP) (h : (z + b) % PP = a % PP) : z % PP = subP x y % PP := by
  unfold subP
  rw [Nat.mod_mod]
  have hp : 0 < PP := PP_pos
  generalize PP = p at *
  have e1 : (z + y) % p = x % p := by rw [Nat.add_mod, ← eb, ← Nat.add_mod, h, ea]
  rw [Nat.add_mod x, ← e1, ← Nat.add_mod]
  have hy := Nat.mod_lt y hp
  have e : z + y + (p - y % p) = z + p * (y / p + 1) := by
    have := Nat.div_add_mod y p
    rw [Nat.mul_add, Nat.mul_one]
    omega
  rw [e, Nat.add_mul_mod_self_left]
theorem two_minus (x y : Nat) : NTwo 163 x y (subP x y) := by
  intro w p q hp hq
  obtain ⟨a, rfl, oa, ea⟩ := hp
  obtain ⟨b, rfl, ob, eb⟩ := hq
  refine (code_nminus w a b oa ob).mono ?_
  rintro e w' ⟨l, rfl, ol, hl, hg⟩
  exact ⟨_, rfl, ⟨l, rfl, ol, sub_class ea eb hl⟩, hg⟩
theorem two_times (x y : Nat) : NTwo 87 x y (mulP x y) := by
  intro w p q hp hq
  obtain ⟨a, rfl, oa, ea⟩ := hp
  obtain ⟨b, rfl, ob, eb⟩ := hq
  refine (code_ntimes w a b oa ob).mono ?_
  rintro e w' ⟨l, rfl, ol, hl, hg⟩
  exact ⟨_, rfl, ⟨l, rfl, ol, by rw [hl]; unfold mulP; rw [Nat.mod_mod, Nat.mul_mod, ea, eb, ← Nat.mul_mod]⟩, hg⟩
def ladWords : List Nat := [18446744073709551595, 18446744073709551615, 18446744073709551615, 9223372036854775807]
theorem ladWords_val : wval ladWords = PP - 2 := by rw [PP_eq]; decide +kernel
theorem ok5_le {l : List Nat} (h : Ok5 l) : ∀ x ∈ l, x ≤ 9223372036854775808 := fun x hx => by have := h.le x hx; omega
theorem none_one : None0 143 1 := by
  intro w
  refine (code_none w).mono ?_
  rintro e w' ⟨rfl, hg⟩
  exact ⟨_, rfl, ⟨[1, 0, 0, 0, 0], rfl, ⟨1, [0, 0, 0, 0], rfl, rfl, by omega, by simp⟩, by decide +kernel⟩, hg⟩
theorem lad_parts (s : Lad) (bit : Nat) : ∃ X2 Z2 X3 Z3, s.turn bit = ⟨bit, X2, Z2, X3, Z3⟩ := by
  unfold Lad.turn
  by_cases h : bit = s.sw
  · rw [if_pos h]
    obtain ⟨b, x, y, z, t⟩ := s
    exact ⟨x, y, z, t, by rw [show bit = b from h]⟩
  · rw [if_neg h]
    exact ⟨_, _, _, _, rfl⟩
structure Same (s : Lad) (X2 Z2 X3 Z3 : Nat) : Prop where
  x2 : X2 = s.x2
  z2 : Z2 = s.z2
  x3 : X3 = s.x3
  z3 : Z3 = s.z3
theorem turn_same {s : Lad} {bit X2 Z2 X3 Z3 : Nat} (h : bit = s.sw) (e : s.turn bit = ⟨bit, X2, Z2, X3, Z3⟩) : Same s X2 Z2 X3 Z3 := by
  unfold Lad.turn at e
  rw [if_pos h] at e
  rw [e]
  exact ⟨rfl, rfl, rfl, rfl⟩
theorem turn_other {s : Lad} {bit X2 Z2 X3 Z3 : Nat} (h : bit ≠ s.sw) (e : s.turn bit = ⟨bit, X2, Z2, X3, Z3⟩) : Same ⟨s.sw, s.x3, s.z3, s.x2, s.z2⟩ X2 Z2 X3 Z3 := by
  unfold Lad.turn at e
  rw [if_neg h] at e
  injection e with _ a b c d
  exact ⟨a.symm, b.symm, c.symm, d.symm⟩
set_option maxRecDepth 100000 in
theorem enter_plus (x y : Value) (w : World) : (callFunc 86 #[x, y]).run Tryz.prog w = .ok (.enter 86 #[x, y]) w := rfl
set_option maxRecDepth 100000 in
theorem enter_minus (x y : Value) (w : World) : (callFunc 163 #[x, y]).run Tryz.prog w = .ok (.enter 163 #[x, y]) w := rfl
set_option maxRecDepth 100000 in
theorem enter_times (x y : Value) (w : World) : (callFunc 87 #[x, y]).run Tryz.prog w = .ok (.enter 87 #[x, y]) w := rfl
set_option maxRecDepth 100000 in
theorem enter_one (w : World) : (callFunc 143 #[]).run Tryz.prog w = .ok (.enter 143 #[]) w := rfl

theorem len4 {vs : List Value} (h : vs.length = 4) : ∃ v0 v1 v2 v3, vs = [v0, v1, v2, v3] := by
  match vs, h with
  | [v0, v1, v2, v3], _ => exact ⟨v0, v1, v2, v3, rfl⟩
theorem len3 {vs : List Value} (h : vs.length = 3) : ∃ v0 v1 v2, vs = [v0, v1, v2] := by
  match vs, h with
  | [v0, v1, v2], _ => exact ⟨v0, v1, v2, rfl⟩
theorem len6 {vs : List Value} (h : vs.length = 6) : ∃ v0 v1 v2 v3 v4 v5, vs = [v0, v1, v2, v3, v4, v5] := by
  match vs, h with
  | [v0, v1, v2, v3, v4, v5], _ => exact ⟨v0, v1, v2, v3, v4, v5, rfl⟩
theorem len8 {vs : List Value} (h : vs.length = 8) : ∃ v0 v1 v2 v3 v4 v5 v6 v7, vs = [v0, v1, v2, v3, v4, v5, v6, v7] := by
  match vs, h with
  | [v0, v1, v2, v3, v4, v5, v6, v7], _ => exact ⟨v0, v1, v2, v3, v4, v5, v6, v7, rfl⟩
theorem len10 {vs : List Value} (h : vs.length = 10) : ∃ v0 v1 v2 v3 v4 v5 v6 v7 v8 v9, vs = [v0, v1, v2, v3, v4, v5, v6, v7, v8, v9] := by
  match vs, h with
  | [v0, v1, v2, v3, v4, v5, v6, v7, v8, v9], _ => exact ⟨v0, v1, v2, v3, v4, v5, v6, v7, v8, v9, rfl⟩
theorem len12 {vs : List Value} (h : vs.length = 12) : ∃ v0 v1 v2 v3 v4 v5 v6 v7 v8 v9 v10 v11, vs = [v0, v1, v2, v3, v4, v5, v6, v7, v8, v9, v10, v11] := by
  match vs, h with
  | [v0, v1, v2, v3, v4, v5, v6, v7, v8, v9, v10, v11], _ => exact ⟨v0, v1, v2, v3, v4, v5, v6, v7, v8, v9, v10, v11, rfl⟩
theorem len2 {vs : List Value} (h : vs.length = 2) : ∃ v0 v1, vs = [v0, v1] := by
  match vs, h with
  | [v0, v1], _ => exact ⟨v0, v1, rfl⟩
theorem len5 {vs : List Value} (h : vs.length = 5) : ∃ v0 v1 v2 v3 v4, vs = [v0, v1, v2, v3, v4] := by
  match vs, h with
  | [v0, v1, v2, v3, v4], _ => exact ⟨v0, v1, v2, v3, v4, rfl⟩
theorem len7 {vs : List Value} (h : vs.length = 7) : ∃ v0 v1 v2 v3 v4 v5 v6, vs = [v0, v1, v2, v3, v4, v5, v6] := by
  match vs, h with
  | [v0, v1, v2, v3, v4, v5, v6], _ => exact ⟨v0, v1, v2, v3, v4, v5, v6, rfl⟩

set_option maxRecDepth 100000 in
set_option maxHeartbeats 4000000 in
theorem code_ladder (w : World) (kl ul : List UInt8) (hkl : kl.length = 32) (hul : ul.length = 32) :
    Calls Tryz.prog 108 #[S kl, S ul] w (Grown (S (leB (ladN (leN kl) (leN ul) % PP) 32)) w) := by
  have RD := code_nread w ul hul
  obtain ⟨X, hX⟩ : ∃ X, X = leN ul := ⟨_, rfl⟩
  have HX := Lib.hid hX
  rw [← hX]
  unfold S at *
  have HKL := Lib.hid hkl
  clear hkl hul hX
  go_enter Tryz.func108, Tryz.ntmps108
  go_wp2_with fail
  (with_reducible refine RD.mono ?_)
  rintro e y ⟨l, rfl, ok, hv, hgy⟩
  rw [← HX.out] at hv
  obtain ⟨a0, a1, a2, a3, a4, el⟩ := five ok.length
  have hN : N5 l = .agg #[.int .u64 (a0 : Int), .int .u64 (a1 : Int), .int .u64 (a2 : Int), .int .u64 (a3 : Int), .int .u64 (a4 : Int)] := by rw [el]; rfl
  rw [hN]
  obtain ⟨B5, hB5⟩ : ∃ B5, B5 = y.heap.size := ⟨_, rfl⟩
  obtain ⟨z, hz⟩ : ∃ z, z = (y.alloc (.cells #[.int .u64 (a0 : Int), .int .u64 (a1 : Int), .int .u64 (a2 : Int), .int .u64 (a3 : Int), .int .u64 (a4 : Int)] 144)).alloc (.cells #[.int .u64 121665, .int .u64 0, .int .u64 0, .int .u64 0, .int .u64 0] 144) := ⟨_, rfl⟩
  have hB5_0 : NV z B5 X := ⟨[a0, a1, a2, a3, a4], by rw [hz, hB5]; exact obj_alloc (obj_new _ _), by rw [← el]; exact ok, by rw [← el]; exact hv⟩
  have hB7_0 : NV z (B5 + 1) 121665 := ⟨[121665, 0, 0, 0, 0], by
    rw [hz, hB5]
    have := obj_new (y.alloc (.cells #[.int .u64 (a0 : Int), .int .u64 (a1 : Int), .int .u64 (a2 : Int), .int .u64 (a3 : Int), .int .u64 (a4 : Int)] 144)) (.cells #[.int .u64 121665, .int .u64 0, .int .u64 0, .int .u64 0, .int .u64 0] 144)
    rw [show (y.alloc (.cells #[.int .u64 (a0 : Int), .int .u64 (a1 : Int), .int .u64 (a2 : Int), .int .u64 (a3 : Int), .int .u64 (a4 : Int)] 144)).heap.size = y.heap.size + 1 from by simp] at this
    exact this, ⟨121665, [0, 0, 0, 0], rfl, rfl, by omega, by simp⟩, by decide +kernel⟩
  have HG_0 : w.grownBy z none := by rw [hz]; exact grow_alloc (grow_alloc hgy _) _
  have HB5 := Lib.hid hB5
  have HZ := Lib.hid hz
  clear el hN ok hv hgy RD hB5 hz
  go_upto_region 3 with (fail)
  rw [← HZ.out, ← HB5.out]
  obtain ⟨B7, hB7⟩ : ∃ B7, B7 = B5 + 1 := ⟨_, rfl⟩
  rw [← hB7] at hB7_0 ⊢
  have lB5 := hB5_0.lt
  have lB7 := hB7_0.lt
  clear HZ HB5 hB7

  refine nums_region (wb := w) [31, 32, 33, 34, 8, 9, 10, 11] [] [.val 31 1, .val 32 0, .val 33 X, .val 34 1, .alc 8, .alc 9, .alc 10, .alc 11, .sto 4 8 1, .sto 5 9 0, .sto 6 10 X, .sto 7 11 1] [] follows_mixed rfl (by kernel_rfl) (by kernel_rfl) (by kernel_rfl) HG_0 rfl ?_ ?_ ?_ ?_
  · simp
  · simp
  · exact fitsL_cons (fits_none _ none_one enter_one _ rfl rfl) (fitsL_cons (fits_build rfl rfl) (fitsL_cons (fits_load 5 B5 hB5_0 rfl rfl (by decide) rfl (by simp)) (fitsL_cons (fits_none _ none_one enter_one _ rfl rfl) (fitsL_cons (⟨rfl, rfl⟩) (fitsL_cons (⟨rfl, rfl⟩) (fitsL_cons (⟨rfl, rfl⟩) (fitsL_cons (⟨rfl, rfl⟩) (fitsL_cons (⟨31, 0, rfl, rfl, rfl, rfl, by kernel_rfl, by kernel_rfl⟩) (fitsL_cons (⟨32, 1, rfl, rfl, rfl, rfl, by kernel_rfl, by kernel_rfl⟩) (fitsL_cons (⟨33, 2, rfl, rfl, rfl, rfl, by kernel_rfl, by kernel_rfl⟩) (fitsL_cons (⟨34, 3, rfl, rfl, rfl, rfl, by kernel_rfl, by kernel_rfl⟩) fitsL_nil)))))))))))
  rintro vs x1 hl hd
  have hW : ∀ s ∈ ([31, 32, 33, 34, 8, 9, 10, 11] : List Nat), s < 122 := by decide
  have hN : ([31, 32, 33, 34, 8, 9, 10, 11] : List Nat).Nodup := by decide
  obtain ⟨v31, v32, v33, v34, v8, v9, v10, v11, rfl⟩ := len8 hl
  obtain ⟨k8, e, q, hk8_1⟩ := hd.new2 hl hN hW 8 4 8 _ 4 rfl rfl
  replace e : v8 = ptrTo k8 := e
  subst e
  have sk8 : w.heap.size ≤ k8 := by have := HG_0.size; omega
  have qk8 := q
  clear q
  obtain ⟨k9, e, q, hk9_1⟩ := hd.new2 hl hN hW 9 5 9 _ 5 rfl rfl
  replace e : v9 = ptrTo k9 := e
  subst e
  have sk9 : w.heap.size ≤ k9 := by have := HG_0.size; omega
  have qk9 := q
  clear q
  obtain ⟨k10, e, q, hk10_1⟩ := hd.new2 hl hN hW 10 6 10 _ 6 rfl rfl
  replace e : v10 = ptrTo k10 := e
  subst e
  have sk10 : w.heap.size ≤ k10 := by have := HG_0.size; omega
  have qk10 := q
  clear q
  obtain ⟨k11, e, q, hk11_1⟩ := hd.new2 hl hN hW 11 7 11 _ 7 rfl rfl
  replace e : v11 = ptrTo k11 := e
  subst e
  have sk11 : w.heap.size ≤ k11 := by have := HG_0.size; omega
  have qk11 := q
  clear q
  have ne8_9 : k8 ≠ k9 := hd.apart2 hl hN hW 4 5 8 9 4 5 _ _ rfl rfl (by decide) rfl rfl rfl rfl
  have ne8_10 : k8 ≠ k10 := hd.apart2 hl hN hW 4 6 8 10 4 6 _ _ rfl rfl (by decide) rfl rfl rfl rfl
  have ne8_11 : k8 ≠ k11 := hd.apart2 hl hN hW 4 7 8 11 4 7 _ _ rfl rfl (by decide) rfl rfl rfl rfl
  have ne9_10 : k9 ≠ k10 := hd.apart2 hl hN hW 5 6 9 10 5 6 _ _ rfl rfl (by decide) rfl rfl rfl rfl
  have ne9_11 : k9 ≠ k11 := hd.apart2 hl hN hW 5 7 9 11 5 7 _ _ rfl rfl (by decide) rfl rfl rfl rfl
  have ne10_11 : k10 ≠ k11 := hd.apart2 hl hN hW 6 7 10 11 6 7 _ _ rfl rfl (by decide) rfl rfl rfl rfl
  have HG_1 := hd.base
  have hB5_1 := hd.keep hB5_0 (by simp)
  have hB7_1 := hd.keep hB7_0 (by simp)
  clear hd hl hW hN hB5_0 hB7_0  HG_0
  simp only [putAll, ptrTo, Act.put, List.setIfInBounds_toArray, List.set_cons_succ, List.set_cons_zero]
  have u5 : B5 < k8 ∧ B5 < k9 ∧ B5 < k10 ∧ B5 < k11 := by omega
  have u7 : B7 < k8 ∧ B7 < k9 ∧ B7 < k10 ∧ B7 < k11 := by omega
  clear qk8 qk9 qk10 qk11 lB5 lB7
  go_wp2_with fail
  obtain ⟨K, hK⟩ : ∃ K, K = leN kl := ⟨_, rfl⟩
  have HK := Lib.hid hK
  clear hK
  go_loopw [12, 13] (fun v12 v13 wr => ∃ i : Nat, i ≤ 255 ∧ v12 = .int .u8 ((ladS K X i).sw : Nat) ∧ v13 = .int .i64 (254 - (i : Int)) ∧ Hid (w.grownBy wr none) ∧ Hid (NV wr B5 X) ∧ Hid (NV wr B7 121665) ∧ Hid (NV wr k8 (ladS K X i).x2) ∧ Hid (NV wr k9 (ladS K X i).z2) ∧ Hid (NV wr k10 (ladS K X i).x3) ∧ Hid (NV wr k11 (ladS K X i).z3)) (fun _ v13 _ => (intOf v13 + 1).toNat)
  case atStart => exact ⟨0, by omega, rfl, rfl, Lib.hid HG_1, Lib.hid hB5_1, Lib.hid hB7_1, Lib.hid hk8_1, Lib.hid hk9_1, Lib.hid hk10_1, Lib.hid hk11_1⟩
  case round =>
    clear HG_1 hB5_1 hB7_1 hk8_1 hk9_1 hk10_1 hk11_1
    obtain ⟨i, hi, rfl, rfl, hg, h5, h7, h8, h9, h10, h11⟩ := hrel
    by_cases hlt : i < 255
    · obtain ⟨t, ht, hti⟩ : ∃ t : Nat, 254 - (i : Int) = (t : Int) ∧ t + i = 254 := ⟨254 - i, by omega, by omega⟩
      rw [ht]
      obtain ⟨s, hs⟩ : ∃ s, s = ladS K X i := ⟨_, rfl⟩
      rw [← hs] at h8 h9 h10 h11 ⊢
      have HS := Lib.hid hs
      have HT := Lib.hid ht
      have hd : decide ((t : Int) ≥ 0) = true := by simp
      have i1 : (t : Int) / 8 < (kl.length : Int) := by rw [HKL.out]; omega
      have i2 : t / 8 < kl.length := by rw [HKL.out]; omega
      have t254 : t ≤ 254 := by omega
      clear hs ht
      have hb := bit_at kl t i2 (by simpa [ByteArray.size] using i2)
      rw [← HK.out] at hb
      have hbl : K / 2 ^ t % 2 < 2 := Nat.mod_lt _ (by omega)
      obtain ⟨bit, hbit⟩ : ∃ bit, bit = K / 2 ^ t % 2 := ⟨_, rfl⟩
      rw [← hbit] at hb hbl
      have HBIT := Lib.hid hbit
      have HBT := Lib.hid hb
      clear hbit hb
      go_upto_region 9 with (fail)
      rw [HBT.out]
      clear HBT
      obtain ⟨M, hM⟩ : ∃ M, M = wr.heap.size := ⟨_, rfl⟩
      have HM_1 : M ≤ wr.heap.size := by omega
      have l5 : B5 < M := by rw [hM]; exact h5.out.lt
      have l7 : B7 < M := by rw [hM]; exact h7.out.lt
      have l8 : k8 < M := by rw [hM]; exact h8.out.lt
      have l9 : k9 < M := by rw [hM]; exact h9.out.lt
      have l10 : k10 < M := by rw [hM]; exact h10.out.lt
      have l11 : k11 < M := by rw [hM]; exact h11.out.lt
      have HG_1 := hg.out
      have hB5_1 := h5.out
      have hB7_1 := h7.out
      obtain ⟨X2, Z2, X3, Z3, hT⟩ : ∃ X2 Z2 X3 Z3, s.turn bit = ⟨bit, X2, Z2, X3, Z3⟩ := lad_parts s bit
      have HT2 := Lib.hid hT
      clear hM hT
      by_cases hsw : bit = s.sw
      · have hk8_1 : NV wr k8 X2 := by have := (turn_same hsw HT2.out).x2; rw [this]; exact h8.out
        have hk9_1 : NV wr k9 Z2 := by have := (turn_same hsw HT2.out).z2; rw [this]; exact h9.out
        have hk10_1 : NV wr k10 X3 := by have := (turn_same hsw HT2.out).x3; rw [this]; exact h10.out
        have hk11_1 : NV wr k11 Z3 := by have := (turn_same hsw HT2.out).z3; rw [this]; exact h11.out
        have hbq : ((bit : Int) != (s.sw : Int)) = false := by rw [hsw]; simp
        clear hsw h5 h7 h8 h9 h10 h11 hg

        go_upto_region 12 with (fail)
        refine nums_region (wb := w) [55, 56, 57, 58, 59, 60, 15, 16] [] [.val 55 X2, .val 56 Z2, .val 57 (addP X2 Z2), .val 58 X2, .val 59 Z2, .val 60 (subP X2 Z2), .alc 15, .alc 16, .sto 6 15 (addP X2 Z2), .sto 7 16 (subP X2 Z2)] [] follows_mixed rfl (by kernel_rfl) (by kernel_rfl) (by kernel_rfl) HG_1 rfl ?_ ?_ ?_ ?_
        · simp
        · simp
        · exact fitsL_cons (fits_load 8 k8 hk8_1 rfl rfl (by decide) rfl (by simp)) (fitsL_cons (fits_load 9 k9 hk9_1 rfl rfl (by decide) rfl (by simp)) (fitsL_cons (fits_two _ 55 56 0 1 _ _ (two_plus _ _) enter_plus _ rfl rfl rfl rfl (by kernel_rfl) (by kernel_rfl)) (fitsL_cons (fits_load 8 k8 hk8_1 rfl rfl (by decide) rfl (by simp)) (fitsL_cons (fits_load 9 k9 hk9_1 rfl rfl (by decide) rfl (by simp)) (fitsL_cons (fits_two _ 58 59 3 4 _ _ (two_minus _ _) enter_minus _ rfl rfl rfl rfl (by kernel_rfl) (by kernel_rfl)) (fitsL_cons (⟨rfl, rfl⟩) (fitsL_cons (⟨rfl, rfl⟩) (fitsL_cons (⟨57, 2, rfl, rfl, rfl, rfl, by kernel_rfl, by kernel_rfl⟩) (fitsL_cons (⟨60, 5, rfl, rfl, rfl, rfl, by kernel_rfl, by kernel_rfl⟩) fitsL_nil)))))))))
        rintro vs x2 hl hd
        have hW : ∀ s ∈ ([55, 56, 57, 58, 59, 60, 15, 16] : List Nat), s < 122 := by decide
        have hN : ([55, 56, 57, 58, 59, 60, 15, 16] : List Nat).Nodup := by decide
        obtain ⟨v55, v56, v57, v58, v59, v60, v15, v16, rfl⟩ := len8 hl
        obtain ⟨k15, e, q, hk15_2⟩ := hd.new2 hl hN hW 8 6 15 _ 6 rfl rfl
        replace e : v15 = ptrTo k15 := e
        subst e
        have qk15 : M ≤ k15 := Nat.le_trans HM_1 q
        have sk15 : w.heap.size ≤ k15 := by have := HG_1.size; omega
        clear q
        obtain ⟨k16, e, q, hk16_2⟩ := hd.new2 hl hN hW 9 7 16 _ 7 rfl rfl
        replace e : v16 = ptrTo k16 := e
        subst e
        have qk16 : M ≤ k16 := Nat.le_trans HM_1 q
        have sk16 : w.heap.size ≤ k16 := by have := HG_1.size; omega
        clear q
        have HM_2 : M ≤ x2.heap.size := Nat.le_trans HM_1 hd.kept.size
        have HG_2 := hd.base
        have hB5_2 := hd.keep hB5_1 (by simp)
        have hB7_2 := hd.keep hB7_1 (by simp)
        have hk8_2 := hd.keep hk8_1 (by simp)
        have hk9_2 := hd.keep hk9_1 (by simp)
        have hk10_2 := hd.keep hk10_1 (by simp)
        have hk11_2 := hd.keep hk11_1 (by simp)
        clear hd hl hW hN hB5_1 hB7_1 hk8_1 hk9_1 hk10_1 hk11_1 HM_1 HG_1
        simp only [putAll, ptrTo, Act.put, List.setIfInBounds_toArray, List.set_cons_succ, List.set_cons_zero]
        obtain ⟨A15, hA15⟩ : ∃ a, a = (addP X2 Z2) := ⟨_, rfl⟩
        rw [← hA15] at hk15_2
        have HA15 := Lib.hid hA15
        clear hA15
        obtain ⟨A16, hA16⟩ : ∃ a, a = (subP X2 Z2) := ⟨_, rfl⟩
        rw [← hA16] at hk16_2
        have HA16 := Lib.hid hA16
        clear hA16
        go_upto_region 13 with (fail)
        refine nums_region (wb := w) [61, 62, 63, 64, 65, 66, 17, 18] [] [.val 61 A15, .val 62 A15, .val 63 (mulP A15 A15), .val 64 A16, .val 65 A16, .val 66 (mulP A16 A16), .alc 17, .alc 18, .sto 6 17 (mulP A15 A15), .sto 7 18 (mulP A16 A16)] [] follows_mixed rfl (by kernel_rfl) (by kernel_rfl) (by kernel_rfl) HG_2 rfl ?_ ?_ ?_ ?_
        · simp
        · simp
        · exact fitsL_cons (fits_load 15 k15 hk15_2 rfl rfl (by decide) rfl (by simp)) (fitsL_cons (fits_load 15 k15 hk15_2 rfl rfl (by decide) rfl (by simp)) (fitsL_cons (fits_two _ 61 62 0 1 _ _ (two_times _ _) enter_times _ rfl rfl rfl rfl (by kernel_rfl) (by kernel_rfl)) (fitsL_cons (fits_load 16 k16 hk16_2 rfl rfl (by decide) rfl (by simp)) (fitsL_cons (fits_load 16 k16 hk16_2 rfl rfl (by decide) rfl (by simp)) (fitsL_cons (fits_two _ 64 65 3 4 _ _ (two_times _ _) enter_times _ rfl rfl rfl rfl (by kernel_rfl) (by kernel_rfl)) (fitsL_cons (⟨rfl, rfl⟩) (fitsL_cons (⟨rfl, rfl⟩) (fitsL_cons (⟨63, 2, rfl, rfl, rfl, rfl, by kernel_rfl, by kernel_rfl⟩) (fitsL_cons (⟨66, 5, rfl, rfl, rfl, rfl, by kernel_rfl, by kernel_rfl⟩) fitsL_nil)))))))))
        rintro vs x3 hl hd
        have hW : ∀ s ∈ ([61, 62, 63, 64, 65, 66, 17, 18] : List Nat), s < 122 := by decide
        have hN : ([61, 62, 63, 64, 65, 66, 17, 18] : List Nat).Nodup := by decide
        obtain ⟨v61, v62, v63, v64, v65, v66, v17, v18, rfl⟩ := len8 hl
        obtain ⟨k17, e, q, hk17_3⟩ := hd.new2 hl hN hW 8 6 17 _ 6 rfl rfl
        replace e : v17 = ptrTo k17 := e
        subst e
        have qk17 : M ≤ k17 := Nat.le_trans HM_2 q
        have sk17 : w.heap.size ≤ k17 := by have := HG_2.size; omega
        clear q
        obtain ⟨k18, e, q, hk18_3⟩ := hd.new2 hl hN hW 9 7 18 _ 7 rfl rfl
        replace e : v18 = ptrTo k18 := e
        subst e
        have qk18 : M ≤ k18 := Nat.le_trans HM_2 q
        have sk18 : w.heap.size ≤ k18 := by have := HG_2.size; omega
        clear q
        have HM_3 : M ≤ x3.heap.size := Nat.le_trans HM_2 hd.kept.size
        have HG_3 := hd.base
        have hB5_3 := hd.keep hB5_2 (by simp)
        have hB7_3 := hd.keep hB7_2 (by simp)
        have hk8_3 := hd.keep hk8_2 (by simp)
        have hk9_3 := hd.keep hk9_2 (by simp)
        have hk10_3 := hd.keep hk10_2 (by simp)
        have hk11_3 := hd.keep hk11_2 (by simp)
        have hk15_3 := hd.keep hk15_2 (by simp)
        have hk16_3 := hd.keep hk16_2 (by simp)
        clear hd hl hW hN hB5_2 hB7_2 hk8_2 hk9_2 hk10_2 hk11_2 hk15_2 hk16_2 HM_2 HG_2
        simp only [putAll, ptrTo, Act.put, List.setIfInBounds_toArray, List.set_cons_succ, List.set_cons_zero]
        obtain ⟨A17, hA17⟩ : ∃ a, a = (mulP A15 A15) := ⟨_, rfl⟩
        rw [← hA17] at hk17_3
        have HA17 := Lib.hid hA17
        clear hA17
        obtain ⟨A18, hA18⟩ : ∃ a, a = (mulP A16 A16) := ⟨_, rfl⟩
        rw [← hA18] at hk18_3
        have HA18 := Lib.hid hA18
        clear hA18
        go_upto_region 14 with (fail)
        refine nums_region (wb := w) [67, 68, 69, 19] [] [.val 67 A17, .val 68 A18, .val 69 (subP A17 A18), .alc 19, .sto 3 19 (subP A17 A18)] [] follows_mixed rfl (by kernel_rfl) (by kernel_rfl) (by kernel_rfl) HG_3 rfl ?_ ?_ ?_ ?_
        · simp
        · simp
        · exact fitsL_cons (fits_load 17 k17 hk17_3 rfl rfl (by decide) rfl (by simp)) (fitsL_cons (fits_load 18 k18 hk18_3 rfl rfl (by decide) rfl (by simp)) (fitsL_cons (fits_two _ 67 68 0 1 _ _ (two_minus _ _) enter_minus _ rfl rfl rfl rfl (by kernel_rfl) (by kernel_rfl)) (fitsL_cons (⟨rfl, rfl⟩) (fitsL_cons (⟨69, 2, rfl, rfl, rfl, rfl, by kernel_rfl, by kernel_rfl⟩) fitsL_nil))))
        rintro vs x4 hl hd
        have hW : ∀ s ∈ ([67, 68, 69, 19] : List Nat), s < 122 := by decide
        have hN : ([67, 68, 69, 19] : List Nat).Nodup := by decide
        obtain ⟨v67, v68, v69, v19, rfl⟩ := len4 hl
        obtain ⟨k19, e, q, hk19_4⟩ := hd.new2 hl hN hW 4 3 19 _ 3 rfl rfl
        replace e : v19 = ptrTo k19 := e
        subst e
        have qk19 : M ≤ k19 := Nat.le_trans HM_3 q
        have sk19 : w.heap.size ≤ k19 := by have := HG_3.size; omega
        clear q
        have HM_4 : M ≤ x4.heap.size := Nat.le_trans HM_3 hd.kept.size
        have HG_4 := hd.base
        have hB5_4 := hd.keep hB5_3 (by simp)
        have hB7_4 := hd.keep hB7_3 (by simp)
        have hk8_4 := hd.keep hk8_3 (by simp)
        have hk9_4 := hd.keep hk9_3 (by simp)
        have hk10_4 := hd.keep hk10_3 (by simp)
        have hk11_4 := hd.keep hk11_3 (by simp)
        have hk15_4 := hd.keep hk15_3 (by simp)
        have hk16_4 := hd.keep hk16_3 (by simp)
        have hk17_4 := hd.keep hk17_3 (by simp)
        have hk18_4 := hd.keep hk18_3 (by simp)
        clear hd hl hW hN hB5_3 hB7_3 hk8_3 hk9_3 hk10_3 hk11_3 hk15_3 hk16_3 hk17_3 hk18_3 HM_3 HG_3
        simp only [putAll, ptrTo, Act.put, List.setIfInBounds_toArray, List.set_cons_succ, List.set_cons_zero]
        obtain ⟨A19, hA19⟩ : ∃ a, a = (subP A17 A18) := ⟨_, rfl⟩
        rw [← hA19] at hk19_4
        have HA19 := Lib.hid hA19
        clear hA19
        go_upto_region 15 with (fail)
        refine nums_region (wb := w) [70, 71, 72, 73, 74, 75, 20, 21] [] [.val 70 X3, .val 71 Z3, .val 72 (addP X3 Z3), .val 73 X3, .val 74 Z3, .val 75 (subP X3 Z3), .alc 20, .alc 21, .sto 6 20 (addP X3 Z3), .sto 7 21 (subP X3 Z3)] [] follows_mixed rfl (by kernel_rfl) (by kernel_rfl) (by kernel_rfl) HG_4 rfl ?_ ?_ ?_ ?_
        · simp
        · simp
        · exact fitsL_cons (fits_load 10 k10 hk10_4 rfl rfl (by decide) rfl (by simp)) (fitsL_cons (fits_load 11 k11 hk11_4 rfl rfl (by decide) rfl (by simp)) (fitsL_cons (fits_two _ 70 71 0 1 _ _ (two_plus _ _) enter_plus _ rfl rfl rfl rfl (by kernel_rfl) (by kernel_rfl)) (fitsL_cons (fits_load 10 k10 hk10_4 rfl rfl (by decide) rfl (by simp)) (fitsL_cons (fits_load 11 k11 hk11_4 rfl rfl (by decide) rfl (by simp)) (fitsL_cons (fits_two _ 73 74 3 4 _ _ (two_minus _ _) enter_minus _ rfl rfl rfl rfl (by kernel_rfl) (by kernel_rfl)) (fitsL_cons (⟨rfl, rfl⟩) (fitsL_cons (⟨rfl, rfl⟩) (fitsL_cons (⟨72, 2, rfl, rfl, rfl, rfl, by kernel_rfl, by kernel_rfl⟩) (fitsL_cons (⟨75, 5, rfl, rfl, rfl, rfl, by kernel_rfl, by kernel_rfl⟩) fitsL_nil)))))))))
        rintro vs x5 hl hd
        have hW : ∀ s ∈ ([70, 71, 72, 73, 74, 75, 20, 21] : List Nat), s < 122 := by decide
        have hN : ([70, 71, 72, 73, 74, 75, 20, 21] : List Nat).Nodup := by decide
        obtain ⟨v70, v71, v72, v73, v74, v75, v20, v21, rfl⟩ := len8 hl
        obtain ⟨k20, e, q, hk20_5⟩ := hd.new2 hl hN hW 8 6 20 _ 6 rfl rfl
        replace e : v20 = ptrTo k20 := e
        subst e
        have qk20 : M ≤ k20 := Nat.le_trans HM_4 q
        have sk20 : w.heap.size ≤ k20 := by have := HG_4.size; omega
        clear q
        obtain ⟨k21, e, q, hk21_5⟩ := hd.new2 hl hN hW 9 7 21 _ 7 rfl rfl
        replace e : v21 = ptrTo k21 := e
        subst e
        have qk21 : M ≤ k21 := Nat.le_trans HM_4 q
        have sk21 : w.heap.size ≤ k21 := by have := HG_4.size; omega
        clear q
        have HM_5 : M ≤ x5.heap.size := Nat.le_trans HM_4 hd.kept.size
        have HG_5 := hd.base
        have hB5_5 := hd.keep hB5_4 (by simp)
        have hB7_5 := hd.keep hB7_4 (by simp)
        have hk8_5 := hd.keep hk8_4 (by simp)
        have hk9_5 := hd.keep hk9_4 (by simp)
        have hk10_5 := hd.keep hk10_4 (by simp)
        have hk11_5 := hd.keep hk11_4 (by simp)
        have hk15_5 := hd.keep hk15_4 (by simp)
        have hk16_5 := hd.keep hk16_4 (by simp)
        have hk17_5 := hd.keep hk17_4 (by simp)
        have hk18_5 := hd.keep hk18_4 (by simp)
        have hk19_5 := hd.keep hk19_4 (by simp)
        clear hd hl hW hN hB5_4 hB7_4 hk8_4 hk9_4 hk10_4 hk11_4 hk15_4 hk16_4 hk17_4 hk18_4 hk19_4 HM_4 HG_4
        simp only [putAll, ptrTo, Act.put, List.setIfInBounds_toArray, List.set_cons_succ, List.set_cons_zero]
        obtain ⟨A20, hA20⟩ : ∃ a, a = (addP X3 Z3) := ⟨_, rfl⟩
        rw [← hA20] at hk20_5
        have HA20 := Lib.hid hA20
        clear hA20
        obtain ⟨A21, hA21⟩ : ∃ a, a = (subP X3 Z3) := ⟨_, rfl⟩
        rw [← hA21] at hk21_5
        have HA21 := Lib.hid hA21
        clear hA21
        go_upto_region 16 with (fail)
        refine nums_region (wb := w) [76, 77, 78, 79, 80, 81, 22, 23] [] [.val 76 A21, .val 77 A15, .val 78 (mulP A21 A15), .val 79 A20, .val 80 A16, .val 81 (mulP A20 A16), .alc 22, .alc 23, .sto 6 22 (mulP A21 A15), .sto 7 23 (mulP A20 A16)] [] follows_mixed rfl (by kernel_rfl) (by kernel_rfl) (by kernel_rfl) HG_5 rfl ?_ ?_ ?_ ?_
        · simp
        · simp
        · exact fitsL_cons (fits_load 21 k21 hk21_5 rfl rfl (by decide) rfl (by simp)) (fitsL_cons (fits_load 15 k15 hk15_5 rfl rfl (by decide) rfl (by simp)) (fitsL_cons (fits_two _ 76 77 0 1 _ _ (two_times _ _) enter_times _ rfl rfl rfl rfl (by kernel_rfl) (by kernel_rfl)) (fitsL_cons (fits_load 20 k20 hk20_5 rfl rfl (by decide) rfl (by simp)) (fitsL_cons (fits_load 16 k16 hk16_5 rfl rfl (by decide) rfl (by simp)) (fitsL_cons (fits_two _ 79 80 3 4 _ _ (two_times _ _) enter_times _ rfl rfl rfl rfl (by kernel_rfl) (by kernel_rfl)) (fitsL_cons (⟨rfl, rfl⟩) (fitsL_cons (⟨rfl, rfl⟩) (fitsL_cons (⟨78, 2, rfl, rfl, rfl, rfl, by kernel_rfl, by kernel_rfl⟩) (fitsL_cons (⟨81, 5, rfl, rfl, rfl, rfl, by kernel_rfl, by kernel_rfl⟩) fitsL_nil)))))))))
        rintro vs x6 hl hd
        have hW : ∀ s ∈ ([76, 77, 78, 79, 80, 81, 22, 23] : List Nat), s < 122 := by decide
        have hN : ([76, 77, 78, 79, 80, 81, 22, 23] : List Nat).Nodup := by decide
        obtain ⟨v76, v77, v78, v79, v80, v81, v22, v23, rfl⟩ := len8 hl
        obtain ⟨k22, e, q, hk22_6⟩ := hd.new2 hl hN hW 8 6 22 _ 6 rfl rfl
        replace e : v22 = ptrTo k22 := e
        subst e
        have qk22 : M ≤ k22 := Nat.le_trans HM_5 q
        have sk22 : w.heap.size ≤ k22 := by have := HG_5.size; omega
        clear q
        obtain ⟨k23, e, q, hk23_6⟩ := hd.new2 hl hN hW 9 7 23 _ 7 rfl rfl
        replace e : v23 = ptrTo k23 := e
        subst e
        have qk23 : M ≤ k23 := Nat.le_trans HM_5 q
        have sk23 : w.heap.size ≤ k23 := by have := HG_5.size; omega
        clear q
        have HM_6 : M ≤ x6.heap.size := Nat.le_trans HM_5 hd.kept.size
        have HG_6 := hd.base
        have hB5_6 := hd.keep hB5_5 (by simp)
        have hB7_6 := hd.keep hB7_5 (by simp)
        have hk8_6 := hd.keep hk8_5 (by simp)
        have hk9_6 := hd.keep hk9_5 (by simp)
        have hk10_6 := hd.keep hk10_5 (by simp)
        have hk11_6 := hd.keep hk11_5 (by simp)
        have hk15_6 := hd.keep hk15_5 (by simp)
        have hk16_6 := hd.keep hk16_5 (by simp)
        have hk17_6 := hd.keep hk17_5 (by simp)
        have hk18_6 := hd.keep hk18_5 (by simp)
        have hk19_6 := hd.keep hk19_5 (by simp)
        have hk20_6 := hd.keep hk20_5 (by simp)
        have hk21_6 := hd.keep hk21_5 (by simp)
        clear hd hl hW hN hB5_5 hB7_5 hk8_5 hk9_5 hk10_5 hk11_5 hk15_5 hk16_5 hk17_5 hk18_5 hk19_5 hk20_5 hk21_5 HM_5 HG_5
        simp only [putAll, ptrTo, Act.put, List.setIfInBounds_toArray, List.set_cons_succ, List.set_cons_zero]
        obtain ⟨A22, hA22⟩ : ∃ a, a = (mulP A21 A15) := ⟨_, rfl⟩
        rw [← hA22] at hk22_6
        have HA22 := Lib.hid hA22
        clear hA22
        obtain ⟨A23, hA23⟩ : ∃ a, a = (mulP A20 A16) := ⟨_, rfl⟩
        rw [← hA23] at hk23_6
        have HA23 := Lib.hid hA23
        clear hA23
        go_upto_region 17 with (fail)
        refine nums_region (wb := w) [82, 83, 84] [k10] [.val 82 A22, .val 83 A23, .val 84 (addP A22 A23), .old 10 k10 X3 (addP A22 A23)] [(10, k10, X3, (addP A22 A23))] follows_mixed rfl (by kernel_rfl) (by kernel_rfl) (by kernel_rfl) HG_6 rfl ?_ ?_ ?_ ?_
        · exact (List.forall_mem_cons.2 ⟨⟨by simp, hk10_6.lt, sk10, by simp, rfl, hk10_6⟩, (by simp)⟩)
        · simp
        · exact fitsL_cons (fits_load 22 k22 hk22_6 rfl rfl (by decide) rfl (by simp; omega)) (fitsL_cons (fits_load 23 k23 hk23_6 rfl rfl (by decide) rfl (by simp; omega)) (fitsL_cons (fits_two _ 82 83 0 1 _ _ (two_plus _ _) enter_plus _ rfl rfl rfl rfl (by kernel_rfl) (by kernel_rfl)) (fitsL_cons (⟨84, 2, rfl, rfl, rfl, by kernel_rfl⟩) fitsL_nil)))
        rintro vs x7 hl hd
        have hW : ∀ s ∈ ([82, 83, 84] : List Nat), s < 122 := by decide
        have hN : ([82, 83, 84] : List Nat).Nodup := by decide
        obtain ⟨v82, v83, v84, rfl⟩ := len3 hl
        have HM_7 : M ≤ x7.heap.size := Nat.le_trans HM_6 hd.kept.size
        have HG_7 := hd.base
        have hB5_7 := hd.keep hB5_6 (by simp; omega)
        have hB7_7 := hd.keep hB7_6 (by simp; omega)
        have hk8_7 := hd.keep hk8_6 (by simp; omega)
        have hk9_7 := hd.keep hk9_6 (by simp; omega)
        have hk10_7 : NV x7 k10 (addP A22 A23) := hd.was 3 10 _ _ _ rfl
        have hk11_7 := hd.keep hk11_6 (by simp; omega)
        have hk17_7 := hd.keep hk17_6 (by simp; omega)
        have hk18_7 := hd.keep hk18_6 (by simp; omega)
        have hk19_7 := hd.keep hk19_6 (by simp; omega)
        have hk22_7 := hd.keep hk22_6 (by simp; omega)
        have hk23_7 := hd.keep hk23_6 (by simp; omega)
        clear hd hl hW hN hB5_6 hB7_6 hk8_6 hk9_6 hk10_6 hk11_6 hk17_6 hk18_6 hk19_6 hk22_6 hk23_6 HM_6 HG_6
        simp only [putAll, Act.put, List.setIfInBounds_toArray, List.set_cons_succ, List.set_cons_zero]
        obtain ⟨O17, hO17⟩ : ∃ a, a = (addP A22 A23) := ⟨_, rfl⟩
        rw [← hO17] at hk10_7
        have HO17 := Lib.hid hO17
        clear hO17
        go_upto_region 18 with (fail)
        refine nums_region (wb := w) [85, 86, 87] [k10] [.val 85 O17, .val 86 O17, .val 87 (mulP O17 O17), .old 10 k10 O17 (mulP O17 O17)] [(10, k10, O17, (mulP O17 O17))] follows_mixed rfl (by kernel_rfl) (by kernel_rfl) (by kernel_rfl) HG_7 rfl ?_ ?_ ?_ ?_
        · exact (List.forall_mem_cons.2 ⟨⟨by simp, hk10_7.lt, sk10, by simp, rfl, hk10_7⟩, (by simp)⟩)
        · simp
        · exact fitsL_cons (fits_load_old 10 k10 3 10 _ _ rfl rfl (by kernel_rfl) rfl rfl (by decide) rfl) (fitsL_cons (fits_load_old 10 k10 3 10 _ _ rfl rfl (by kernel_rfl) rfl rfl (by decide) rfl) (fitsL_cons (fits_two _ 85 86 0 1 _ _ (two_times _ _) enter_times _ rfl rfl rfl rfl (by kernel_rfl) (by kernel_rfl)) (fitsL_cons (⟨87, 2, rfl, rfl, rfl, by kernel_rfl⟩) fitsL_nil)))
        rintro vs x8 hl hd
        have hW : ∀ s ∈ ([85, 86, 87] : List Nat), s < 122 := by decide
        have hN : ([85, 86, 87] : List Nat).Nodup := by decide
        obtain ⟨v85, v86, v87, rfl⟩ := len3 hl
        have HM_8 : M ≤ x8.heap.size := Nat.le_trans HM_7 hd.kept.size
        have HG_8 := hd.base
        have hB5_8 := hd.keep hB5_7 (by simp; omega)
        have hB7_8 := hd.keep hB7_7 (by simp; omega)
        have hk8_8 := hd.keep hk8_7 (by simp; omega)
        have hk9_8 := hd.keep hk9_7 (by simp; omega)
        have hk10_8 : NV x8 k10 (mulP O17 O17) := hd.was 3 10 _ _ _ rfl
        have hk11_8 := hd.keep hk11_7 (by simp; omega)
        have hk17_8 := hd.keep hk17_7 (by simp; omega)
        have hk18_8 := hd.keep hk18_7 (by simp; omega)
        have hk19_8 := hd.keep hk19_7 (by simp; omega)
        have hk22_8 := hd.keep hk22_7 (by simp; omega)
        have hk23_8 := hd.keep hk23_7 (by simp; omega)
        clear hd hl hW hN hB5_7 hB7_7 hk8_7 hk9_7 hk10_7 hk11_7 hk17_7 hk18_7 hk19_7 hk22_7 hk23_7 HM_7 HG_7
        simp only [putAll, Act.put, List.setIfInBounds_toArray, List.set_cons_succ, List.set_cons_zero]
        obtain ⟨O18, hO18⟩ : ∃ a, a = (mulP O17 O17) := ⟨_, rfl⟩
        rw [← hO18] at hk10_8
        have HO18 := Lib.hid hO18
        clear hO18
        go_upto_region 19 with (fail)
        refine nums_region (wb := w) [88, 89, 90] [k11] [.val 88 A22, .val 89 A23, .val 90 (subP A22 A23), .old 11 k11 Z3 (subP A22 A23)] [(11, k11, Z3, (subP A22 A23))] follows_mixed rfl (by kernel_rfl) (by kernel_rfl) (by kernel_rfl) HG_8 rfl ?_ ?_ ?_ ?_
        · exact (List.forall_mem_cons.2 ⟨⟨by simp, hk11_8.lt, sk11, by simp, rfl, hk11_8⟩, (by simp)⟩)
        · simp
        · exact fitsL_cons (fits_load 22 k22 hk22_8 rfl rfl (by decide) rfl (by simp; omega)) (fitsL_cons (fits_load 23 k23 hk23_8 rfl rfl (by decide) rfl (by simp; omega)) (fitsL_cons (fits_two _ 88 89 0 1 _ _ (two_minus _ _) enter_minus _ rfl rfl rfl rfl (by kernel_rfl) (by kernel_rfl)) (fitsL_cons (⟨90, 2, rfl, rfl, rfl, by kernel_rfl⟩) fitsL_nil)))
        rintro vs x9 hl hd
        have hW : ∀ s ∈ ([88, 89, 90] : List Nat), s < 122 := by decide
        have hN : ([88, 89, 90] : List Nat).Nodup := by decide
        obtain ⟨v88, v89, v90, rfl⟩ := len3 hl
        have HM_9 : M ≤ x9.heap.size := Nat.le_trans HM_8 hd.kept.size
        have HG_9 := hd.base
        have hB5_9 := hd.keep hB5_8 (by simp; omega)
        have hB7_9 := hd.keep hB7_8 (by simp; omega)
        have hk8_9 := hd.keep hk8_8 (by simp; omega)
        have hk9_9 := hd.keep hk9_8 (by simp; omega)
        have hk10_9 := hd.keep hk10_8 (by simp; omega)
        have hk11_9 : NV x9 k11 (subP A22 A23) := hd.was 3 11 _ _ _ rfl
        have hk17_9 := hd.keep hk17_8 (by simp; omega)
        have hk18_9 := hd.keep hk18_8 (by simp; omega)
        have hk19_9 := hd.keep hk19_8 (by simp; omega)
        have hk22_9 := hd.keep hk22_8 (by simp; omega)
        have hk23_9 := hd.keep hk23_8 (by simp; omega)
        clear hd hl hW hN hB5_8 hB7_8 hk8_8 hk9_8 hk10_8 hk11_8 hk17_8 hk18_8 hk19_8 hk22_8 hk23_8 HM_8 HG_8
        simp only [putAll, Act.put, List.setIfInBounds_toArray, List.set_cons_succ, List.set_cons_zero]
        obtain ⟨O19, hO19⟩ : ∃ a, a = (subP A22 A23) := ⟨_, rfl⟩
        rw [← hO19] at hk11_9
        have HO19 := Lib.hid hO19
        clear hO19
        go_upto_region 20 with (fail)
        refine nums_region (wb := w) [91, 92, 93, 94, 95] [k11] [.val 91 X, .val 92 O19, .val 93 O19, .val 94 (mulP O19 O19), .val 95 (mulP X (mulP O19 O19)), .old 11 k11 O19 (mulP X (mulP O19 O19))] [(11, k11, O19, (mulP X (mulP O19 O19)))] follows_mixed rfl (by kernel_rfl) (by kernel_rfl) (by kernel_rfl) HG_9 rfl ?_ ?_ ?_ ?_
        · exact (List.forall_mem_cons.2 ⟨⟨by simp, hk11_9.lt, sk11, by simp, rfl, hk11_9⟩, (by simp)⟩)
        · simp
        · exact fitsL_cons (fits_load 5 B5 hB5_9 rfl rfl (by decide) rfl (by simp; omega)) (fitsL_cons (fits_load_old 11 k11 5 11 _ _ rfl rfl (by kernel_rfl) rfl rfl (by decide) rfl) (fitsL_cons (fits_load_old 11 k11 5 11 _ _ rfl rfl (by kernel_rfl) rfl rfl (by decide) rfl) (fitsL_cons (fits_two _ 92 93 1 2 _ _ (two_times _ _) enter_times _ rfl rfl rfl rfl (by kernel_rfl) (by kernel_rfl)) (fitsL_cons (fits_two _ 91 94 0 3 _ _ (two_times _ _) enter_times _ rfl rfl rfl rfl (by kernel_rfl) (by kernel_rfl)) (fitsL_cons (⟨95, 4, rfl, rfl, rfl, by kernel_rfl⟩) fitsL_nil)))))
        rintro vs x10 hl hd
        have hW : ∀ s ∈ ([91, 92, 93, 94, 95] : List Nat), s < 122 := by decide
        have hN : ([91, 92, 93, 94, 95] : List Nat).Nodup := by decide
        obtain ⟨v91, v92, v93, v94, v95, rfl⟩ := len5 hl
        have HM_10 : M ≤ x10.heap.size := Nat.le_trans HM_9 hd.kept.size
        have HG_10 := hd.base
        have hB5_10 := hd.keep hB5_9 (by simp; omega)
        have hB7_10 := hd.keep hB7_9 (by simp; omega)
        have hk8_10 := hd.keep hk8_9 (by simp; omega)
        have hk9_10 := hd.keep hk9_9 (by simp; omega)
        have hk10_10 := hd.keep hk10_9 (by simp; omega)
        have hk11_10 : NV x10 k11 (mulP X (mulP O19 O19)) := hd.was 5 11 _ _ _ rfl
        have hk17_10 := hd.keep hk17_9 (by simp; omega)
        have hk18_10 := hd.keep hk18_9 (by simp; omega)
        have hk19_10 := hd.keep hk19_9 (by simp; omega)
        clear hd hl hW hN hB5_9 hB7_9 hk8_9 hk9_9 hk10_9 hk11_9 hk17_9 hk18_9 hk19_9 HM_9 HG_9
        simp only [putAll, Act.put, List.setIfInBounds_toArray, List.set_cons_succ, List.set_cons_zero]
        obtain ⟨O20, hO20⟩ : ∃ a, a = (mulP X (mulP O19 O19)) := ⟨_, rfl⟩
        rw [← hO20] at hk11_10
        have HO20 := Lib.hid hO20
        clear hO20
        go_upto_region 21 with (fail)
        refine nums_region (wb := w) [96, 97, 98] [k8] [.val 96 A17, .val 97 A18, .val 98 (mulP A17 A18), .old 8 k8 X2 (mulP A17 A18)] [(8, k8, X2, (mulP A17 A18))] follows_mixed rfl (by kernel_rfl) (by kernel_rfl) (by kernel_rfl) HG_10 rfl ?_ ?_ ?_ ?_
        · exact (List.forall_mem_cons.2 ⟨⟨by simp, hk8_10.lt, sk8, by simp, rfl, hk8_10⟩, (by simp)⟩)
        · simp
        · exact fitsL_cons (fits_load 17 k17 hk17_10 rfl rfl (by decide) rfl (by simp; omega)) (fitsL_cons (fits_load 18 k18 hk18_10 rfl rfl (by decide) rfl (by simp; omega)) (fitsL_cons (fits_two _ 96 97 0 1 _ _ (two_times _ _) enter_times _ rfl rfl rfl rfl (by kernel_rfl) (by kernel_rfl)) (fitsL_cons (⟨98, 2, rfl, rfl, rfl, by kernel_rfl⟩) fitsL_nil)))
        rintro vs x11 hl hd
        have hW : ∀ s ∈ ([96, 97, 98] : List Nat), s < 122 := by decide
        have hN : ([96, 97, 98] : List Nat).Nodup := by decide
        obtain ⟨v96, v97, v98, rfl⟩ := len3 hl
        have HM_11 : M ≤ x11.heap.size := Nat.le_trans HM_10 hd.kept.size
        have HG_11 := hd.base
        have hB5_11 := hd.keep hB5_10 (by simp; omega)
        have hB7_11 := hd.keep hB7_10 (by simp; omega)
        have hk8_11 : NV x11 k8 (mulP A17 A18) := hd.was 3 8 _ _ _ rfl
        have hk9_11 := hd.keep hk9_10 (by simp; omega)
        have hk10_11 := hd.keep hk10_10 (by simp; omega)
        have hk11_11 := hd.keep hk11_10 (by simp; omega)
        have hk17_11 := hd.keep hk17_10 (by simp; omega)
        have hk19_11 := hd.keep hk19_10 (by simp; omega)
        clear hd hl hW hN hB5_10 hB7_10 hk8_10 hk9_10 hk10_10 hk11_10 hk17_10 hk19_10 HM_10 HG_10
        simp only [putAll, Act.put, List.setIfInBounds_toArray, List.set_cons_succ, List.set_cons_zero]
        obtain ⟨O21, hO21⟩ : ∃ a, a = (mulP A17 A18) := ⟨_, rfl⟩
        rw [← hO21] at hk8_11
        have HO21 := Lib.hid hO21
        clear hO21
        go_upto_region 22 with (fail)
        refine nums_region (wb := w) [99, 100, 101, 102, 103, 104, 105] [k9] [.val 99 A19, .val 100 A17, .val 101 121665, .val 102 A19, .val 103 (mulP 121665 A19), .val 104 (addP A17 (mulP 121665 A19)), .val 105 (mulP A19 (addP A17 (mulP 121665 A19))), .old 9 k9 Z2 (mulP A19 (addP A17 (mulP 121665 A19)))] [(9, k9, Z2, (mulP A19 (addP A17 (mulP 121665 A19))))] follows_mixed rfl (by kernel_rfl) (by kernel_rfl) (by kernel_rfl) HG_11 rfl ?_ ?_ ?_ ?_
        · exact (List.forall_mem_cons.2 ⟨⟨by simp, hk9_11.lt, sk9, by simp, rfl, hk9_11⟩, (by simp)⟩)
        · simp
        · exact fitsL_cons (fits_load 19 k19 hk19_11 rfl rfl (by decide) rfl (by simp; omega)) (fitsL_cons (fits_load 17 k17 hk17_11 rfl rfl (by decide) rfl (by simp; omega)) (fitsL_cons (fits_load 7 B7 hB7_11 rfl rfl (by decide) rfl (by simp; omega)) (fitsL_cons (fits_load 19 k19 hk19_11 rfl rfl (by decide) rfl (by simp; omega)) (fitsL_cons (fits_two _ 101 102 2 3 _ _ (two_times _ _) enter_times _ rfl rfl rfl rfl (by kernel_rfl) (by kernel_rfl)) (fitsL_cons (fits_two _ 100 103 1 4 _ _ (two_plus _ _) enter_plus _ rfl rfl rfl rfl (by kernel_rfl) (by kernel_rfl)) (fitsL_cons (fits_two _ 99 104 0 5 _ _ (two_times _ _) enter_times _ rfl rfl rfl rfl (by kernel_rfl) (by kernel_rfl)) (fitsL_cons (⟨105, 6, rfl, rfl, rfl, by kernel_rfl⟩) fitsL_nil)))))))
        rintro vs x12 hl hd
        have hW : ∀ s ∈ ([99, 100, 101, 102, 103, 104, 105] : List Nat), s < 122 := by decide
        have hN : ([99, 100, 101, 102, 103, 104, 105] : List Nat).Nodup := by decide
        obtain ⟨v99, v100, v101, v102, v103, v104, v105, rfl⟩ := len7 hl
        have HM_12 : M ≤ x12.heap.size := Nat.le_trans HM_11 hd.kept.size
        have HG_12 := hd.base
        have hB5_12 := hd.keep hB5_11 (by simp; omega)
        have hB7_12 := hd.keep hB7_11 (by simp; omega)
        have hk8_12 := hd.keep hk8_11 (by simp; omega)
        have hk9_12 : NV x12 k9 (mulP A19 (addP A17 (mulP 121665 A19))) := hd.was 7 9 _ _ _ rfl
        have hk10_12 := hd.keep hk10_11 (by simp; omega)
        have hk11_12 := hd.keep hk11_11 (by simp; omega)
        clear hd hl hW hN hB5_11 hB7_11 hk8_11 hk9_11 hk10_11 hk11_11 HM_11 HG_11
        simp only [putAll, Act.put, List.setIfInBounds_toArray, List.set_cons_succ, List.set_cons_zero]
        obtain ⟨O22, hO22⟩ : ∃ a, a = (mulP A19 (addP A17 (mulP 121665 A19))) := ⟨_, rfl⟩
        rw [← hO22] at hk9_12
        have HO22 := Lib.hid hO22
        clear hO22
        have hstep : ladS K X (i + 1) = ⟨bit, O21, O22, O18, O20⟩ := by
          have e1 : ladS K X (i + 1) = (s.turn bit).step X := by
            show ((ladS K X i).turn (K / 2 ^ (254 - i) % 2)).step X = _
            rw [← HS.out, HBIT.out, show 254 - i = t from by omega]
          rw [e1, HT2.out]
          simp only [Lad.step, ladX2, ladZ2, ladE, ladX3, ladZ3, ladDA, ladCB, HO22.out, HO21.out, HO20.out, HO19.out, HO18.out, HO17.out, HA23.out, HA22.out, HA21.out, HA20.out, HA19.out, HA18.out, HA17.out, HA16.out, HA15.out]
        have HST := Lib.hid hstep
        have F0 := Lib.hid HG_12
        have FB5 := Lib.hid hB5_12
        have FB7 := Lib.hid hB7_12
        have Fk8 := Lib.hid hk8_12
        have Fk9 := Lib.hid hk9_12
        have Fk10 := Lib.hid hk10_12
        have Fk11 := Lib.hid hk11_12
        clear hstep HG_12 HM_12 hB5_12 hB7_12 hk8_12 hk9_12 hk10_12 hk11_12
        go_wp2_with fail
        go_roundw
        case rel => exact ⟨i + 1, by omega, by rw [HST.out], by have := HT.out; go_num, F0, FB5, FB7, by rw [HST.out]; exact Fk8, by rw [HST.out]; exact Fk9, by rw [HST.out]; exact Fk10, by rw [HST.out]; exact Fk11⟩
        case measure => simp [intOf]
      · have hk8_1 : NV wr k8 X3 := by have := (turn_other hsw HT2.out).x3; rw [this]; exact h8.out
        have hk9_1 : NV wr k9 Z3 := by have := (turn_other hsw HT2.out).z3; rw [this]; exact h9.out
        have hk10_1 : NV wr k10 X2 := by have := (turn_other hsw HT2.out).x2; rw [this]; exact h10.out
        have hk11_1 : NV wr k11 Z2 := by have := (turn_other hsw HT2.out).z2; rw [this]; exact h11.out
        have hbq : ((bit : Int) != (s.sw : Int)) = true := by rw [bne_iff_ne]; intro e; exact hsw (by omega)
        clear hsw h5 h7 h8 h9 h10 h11 hg
        go_upto_region 10 with (fail)
        refine nums_region (wb := w) [50, 51, 52, 53] [k8, k10, k9, k11] [.val 50 X2, .val 51 X3, .val 52 Z2, .val 53 Z3, .old 8 k8 X3 X2, .old 10 k10 X2 X3, .old 9 k9 Z3 Z2, .old 11 k11 Z2 Z3] [(8, k8, X3, X2), (10, k10, X2, X3), (9, k9, Z3, Z2), (11, k11, Z2, Z3)] follows_mixed rfl (by kernel_rfl) (by kernel_rfl) (by kernel_rfl) HG_1 rfl ?_ ?_ ?_ ?_
        · exact (List.forall_mem_cons.2 ⟨⟨by simp, hk8_1.lt, sk8, by simp, rfl, hk8_1⟩, (List.forall_mem_cons.2 ⟨⟨by simp, hk10_1.lt, sk10, by simp, rfl, hk10_1⟩, (List.forall_mem_cons.2 ⟨⟨by simp, hk9_1.lt, sk9, by simp, rfl, hk9_1⟩, (List.forall_mem_cons.2 ⟨⟨by simp, hk11_1.lt, sk11, by simp, rfl, hk11_1⟩, (by simp)⟩)⟩)⟩)⟩)
        · simp; omega
        · exact fitsL_cons (fits_load_old 10 k10 5 10 _ _ rfl rfl (by kernel_rfl) rfl rfl (by decide) rfl) (fitsL_cons (fits_load_old 8 k8 4 8 _ _ rfl rfl (by kernel_rfl) rfl rfl (by decide) rfl) (fitsL_cons (fits_load_old 11 k11 7 11 _ _ rfl rfl (by kernel_rfl) rfl rfl (by decide) rfl) (fitsL_cons (fits_load_old 9 k9 6 9 _ _ rfl rfl (by kernel_rfl) rfl rfl (by decide) rfl) (fitsL_cons (⟨50, 0, rfl, rfl, rfl, by kernel_rfl⟩) (fitsL_cons (⟨51, 1, rfl, rfl, rfl, by kernel_rfl⟩) (fitsL_cons (⟨52, 2, rfl, rfl, rfl, by kernel_rfl⟩) (fitsL_cons (⟨53, 3, rfl, rfl, rfl, by kernel_rfl⟩) fitsL_nil)))))))
        rintro vs x2 hl hd
        have hW : ∀ s ∈ ([50, 51, 52, 53] : List Nat), s < 122 := by decide
        have hN : ([50, 51, 52, 53] : List Nat).Nodup := by decide
        obtain ⟨v50, v51, v52, v53, rfl⟩ := len4 hl
        have HM_2 : M ≤ x2.heap.size := Nat.le_trans HM_1 hd.kept.size
        have HG_2 := hd.base
        have hB5_2 := hd.keep hB5_1 (by simp; omega)
        have hB7_2 := hd.keep hB7_1 (by simp; omega)
        have hk8_2 : NV x2 k8 X2 := hd.was 4 8 _ _ _ rfl
        have hk9_2 : NV x2 k9 Z2 := hd.was 6 9 _ _ _ rfl
        have hk10_2 : NV x2 k10 X3 := hd.was 5 10 _ _ _ rfl
        have hk11_2 : NV x2 k11 Z3 := hd.was 7 11 _ _ _ rfl
        clear hd hl hW hN hB5_1 hB7_1 hk8_1 hk9_1 hk10_1 hk11_1 HM_1 HG_1
        simp only [putAll, Act.put, List.setIfInBounds_toArray, List.set_cons_succ, List.set_cons_zero]
        go_upto_region 12 with (fail)
        refine nums_region (wb := w) [55, 56, 57, 58, 59, 60, 15, 16] [] [.val 55 X2, .val 56 Z2, .val 57 (addP X2 Z2), .val 58 X2, .val 59 Z2, .val 60 (subP X2 Z2), .alc 15, .alc 16, .sto 6 15 (addP X2 Z2), .sto 7 16 (subP X2 Z2)] [] follows_mixed rfl (by kernel_rfl) (by kernel_rfl) (by kernel_rfl) HG_2 rfl ?_ ?_ ?_ ?_
        · simp
        · simp
        · exact fitsL_cons (fits_load 8 k8 hk8_2 rfl rfl (by decide) rfl (by simp)) (fitsL_cons (fits_load 9 k9 hk9_2 rfl rfl (by decide) rfl (by simp)) (fitsL_cons (fits_two _ 55 56 0 1 _ _ (two_plus _ _) enter_plus _ rfl rfl rfl rfl (by kernel_rfl) (by kernel_rfl)) (fitsL_cons (fits_load 8 k8 hk8_2 rfl rfl (by decide) rfl (by simp)) (fitsL_cons (fits_load 9 k9 hk9_2 rfl rfl (by decide) rfl (by simp)) (fitsL_cons (fits_two _ 58 59 3 4 _ _ (two_minus _ _) enter_minus _ rfl rfl rfl rfl (by kernel_rfl) (by kernel_rfl)) (fitsL_cons (⟨rfl, rfl⟩) (fitsL_cons (⟨rfl, rfl⟩) (fitsL_cons (⟨57, 2, rfl, rfl, rfl, rfl, by kernel_rfl, by kernel_rfl⟩) (fitsL_cons (⟨60, 5, rfl, rfl, rfl, rfl, by kernel_rfl, by kernel_rfl⟩) fitsL_nil)))))))))
        rintro vs x3 hl hd
        have hW : ∀ s ∈ ([55, 56, 57, 58, 59, 60, 15, 16] : List Nat), s < 122 := by decide
        have hN : ([55, 56, 57, 58, 59, 60, 15, 16] : List Nat).Nodup := by decide
        obtain ⟨v55, v56, v57, v58, v59, v60, v15, v16, rfl⟩ := len8 hl
        obtain ⟨k15, e, q, hk15_3⟩ := hd.new2 hl hN hW 8 6 15 _ 6 rfl rfl
        replace e : v15 = ptrTo k15 := e
        subst e
        have qk15 : M ≤ k15 := Nat.le_trans HM_2 q
        have sk15 : w.heap.size ≤ k15 := by have := HG_2.size; omega
        clear q
        obtain ⟨k16, e, q, hk16_3⟩ := hd.new2 hl hN hW 9 7 16 _ 7 rfl rfl
        replace e : v16 = ptrTo k16 := e
        subst e
        have qk16 : M ≤ k16 := Nat.le_trans HM_2 q
        have sk16 : w.heap.size ≤ k16 := by have := HG_2.size; omega
        clear q
        have HM_3 : M ≤ x3.heap.size := Nat.le_trans HM_2 hd.kept.size
        have HG_3 := hd.base
        have hB5_3 := hd.keep hB5_2 (by simp)
        have hB7_3 := hd.keep hB7_2 (by simp)
        have hk8_3 := hd.keep hk8_2 (by simp)
        have hk9_3 := hd.keep hk9_2 (by simp)
        have hk10_3 := hd.keep hk10_2 (by simp)
        have hk11_3 := hd.keep hk11_2 (by simp)
        clear hd hl hW hN hB5_2 hB7_2 hk8_2 hk9_2 hk10_2 hk11_2 HM_2 HG_2
        simp only [putAll, ptrTo, Act.put, List.setIfInBounds_toArray, List.set_cons_succ, List.set_cons_zero]
        obtain ⟨A15, hA15⟩ : ∃ a, a = (addP X2 Z2) := ⟨_, rfl⟩
        rw [← hA15] at hk15_3
        have HA15 := Lib.hid hA15
        clear hA15
        obtain ⟨A16, hA16⟩ : ∃ a, a = (subP X2 Z2) := ⟨_, rfl⟩
        rw [← hA16] at hk16_3
        have HA16 := Lib.hid hA16
        clear hA16
        go_upto_region 13 with (fail)
        refine nums_region (wb := w) [61, 62, 63, 64, 65, 66, 17, 18] [] [.val 61 A15, .val 62 A15, .val 63 (mulP A15 A15), .val 64 A16, .val 65 A16, .val 66 (mulP A16 A16), .alc 17, .alc 18, .sto 6 17 (mulP A15 A15), .sto 7 18 (mulP A16 A16)] [] follows_mixed rfl (by kernel_rfl) (by kernel_rfl) (by kernel_rfl) HG_3 rfl ?_ ?_ ?_ ?_
        · simp
        · simp
        · exact fitsL_cons (fits_load 15 k15 hk15_3 rfl rfl (by decide) rfl (by simp)) (fitsL_cons (fits_load 15 k15 hk15_3 rfl rfl (by decide) rfl (by simp)) (fitsL_cons (fits_two _ 61 62 0 1 _ _ (two_times _ _) enter_times _ rfl rfl rfl rfl (by kernel_rfl) (by kernel_rfl)) (fitsL_cons (fits_load 16 k16 hk16_3 rfl rfl (by decide) rfl (by simp)) (fitsL_cons (fits_load 16 k16 hk16_3 rfl rfl (by decide) rfl (by simp)) (fitsL_cons (fits_two _ 64 65 3 4 _ _ (two_times _ _) enter_times _ rfl rfl rfl rfl (by kernel_rfl) (by kernel_rfl)) (fitsL_cons (⟨rfl, rfl⟩) (fitsL_cons (⟨rfl, rfl⟩) (fitsL_cons (⟨63, 2, rfl, rfl, rfl, rfl, by kernel_rfl, by kernel_rfl⟩) (fitsL_cons (⟨66, 5, rfl, rfl, rfl, rfl, by kernel_rfl, by kernel_rfl⟩) fitsL_nil)))))))))
        rintro vs x4 hl hd
        have hW : ∀ s ∈ ([61, 62, 63, 64, 65, 66, 17, 18] : List Nat), s < 122 := by decide
        have hN : ([61, 62, 63, 64, 65, 66, 17, 18] : List Nat).Nodup := by decide
        obtain ⟨v61, v62, v63, v64, v65, v66, v17, v18, rfl⟩ := len8 hl
        obtain ⟨k17, e, q, hk17_4⟩ := hd.new2 hl hN hW 8 6 17 _ 6 rfl rfl
        replace e : v17 = ptrTo k17 := e
        subst e
        have qk17 : M ≤ k17 := Nat.le_trans HM_3 q
        have sk17 : w.heap.size ≤ k17 := by have := HG_3.size; omega
        clear q
        obtain ⟨k18, e, q, hk18_4⟩ := hd.new2 hl hN hW 9 7 18 _ 7 rfl rfl
        replace e : v18 = ptrTo k18 := e
        subst e
        have qk18 : M ≤ k18 := Nat.le_trans HM_3 q
        have sk18 : w.heap.size ≤ k18 := by have := HG_3.size; omega
        clear q
        have HM_4 : M ≤ x4.heap.size := Nat.le_trans HM_3 hd.kept.size
        have HG_4 := hd.base
        have hB5_4 := hd.keep hB5_3 (by simp)
        have hB7_4 := hd.keep hB7_3 (by simp)
        have hk8_4 := hd.keep hk8_3 (by simp)
        have hk9_4 := hd.keep hk9_3 (by simp)
        have hk10_4 := hd.keep hk10_3 (by simp)
        have hk11_4 := hd.keep hk11_3 (by simp)
        have hk15_4 := hd.keep hk15_3 (by simp)
        have hk16_4 := hd.keep hk16_3 (by simp)
        clear hd hl hW hN hB5_3 hB7_3 hk8_3 hk9_3 hk10_3 hk11_3 hk15_3 hk16_3 HM_3 HG_3
        simp only [putAll, ptrTo, Act.put, List.setIfInBounds_toArray, List.set_cons_succ, List.set_cons_zero]
        obtain ⟨A17, hA17⟩ : ∃ a, a = (mulP A15 A15) := ⟨_, rfl⟩
        rw [← hA17] at hk17_4
        have HA17 := Lib.hid hA17
        clear hA17
        obtain ⟨A18, hA18⟩ : ∃ a, a = (mulP A16 A16) := ⟨_, rfl⟩
        rw [← hA18] at hk18_4
        have HA18 := Lib.hid hA18
        clear hA18
        go_upto_region 14 with (fail)
        refine nums_region (wb := w) [67, 68, 69, 19] [] [.val 67 A17, .val 68 A18, .val 69 (subP A17 A18), .alc 19, .sto 3 19 (subP A17 A18)] [] follows_mixed rfl (by kernel_rfl) (by kernel_rfl) (by kernel_rfl) HG_4 rfl ?_ ?_ ?_ ?_
        · simp
        · simp
        · exact fitsL_cons (fits_load 17 k17 hk17_4 rfl rfl (by decide) rfl (by simp)) (fitsL_cons (fits_load 18 k18 hk18_4 rfl rfl (by decide) rfl (by simp)) (fitsL_cons (fits_two _ 67 68 0 1 _ _ (two_minus _ _) enter_minus _ rfl rfl rfl rfl (by kernel_rfl) (by kernel_rfl)) (fitsL_cons (⟨rfl, rfl⟩) (fitsL_cons (⟨69, 2, rfl, rfl, rfl, rfl, by kernel_rfl, by kernel_rfl⟩) fitsL_nil))))
        rintro vs x5 hl hd
        have hW : ∀ s ∈ ([67, 68, 69, 19] : List Nat), s < 122 := by decide
        have hN : ([67, 68, 69, 19] : List Nat).Nodup := by decide
        obtain ⟨v67, v68, v69, v19, rfl⟩ := len4 hl
        obtain ⟨k19, e, q, hk19_5⟩ := hd.new2 hl hN hW 4 3 19 _ 3 rfl rfl
        replace e : v19 = ptrTo k19 := e
        subst e
        have qk19 : M ≤ k19 := Nat.le_trans HM_4 q
        have sk19 : w.heap.size ≤ k19 := by have := HG_4.size; omega
        clear q
        have HM_5 : M ≤ x5.heap.size := Nat.le_trans HM_4 hd.kept.size
        have HG_5 := hd.base
        have hB5_5 := hd.keep hB5_4 (by simp)
        have hB7_5 := hd.keep hB7_4 (by simp)
        have hk8_5 := hd.keep hk8_4 (by simp)
        have hk9_5 := hd.keep hk9_4 (by simp)
        have hk10_5 := hd.keep hk10_4 (by simp)
        have hk11_5 := hd.keep hk11_4 (by simp)
        have hk15_5 := hd.keep hk15_4 (by simp)
        have hk16_5 := hd.keep hk16_4 (by simp)
        have hk17_5 := hd.keep hk17_4 (by simp)
        have hk18_5 := hd.keep hk18_4 (by simp)
        clear hd hl hW hN hB5_4 hB7_4 hk8_4 hk9_4 hk10_4 hk11_4 hk15_4 hk16_4 hk17_4 hk18_4 HM_4 HG_4
        simp only [putAll, ptrTo, Act.put, List.setIfInBounds_toArray, List.set_cons_succ, List.set_cons_zero]
        obtain ⟨A19, hA19⟩ : ∃ a, a = (subP A17 A18) := ⟨_, rfl⟩
        rw [← hA19] at hk19_5
        have HA19 := Lib.hid hA19
        clear hA19
        go_upto_region 15 with (fail)
        refine nums_region (wb := w) [70, 71, 72, 73, 74, 75, 20, 21] [] [.val 70 X3, .val 71 Z3, .val 72 (addP X3 Z3), .val 73 X3, .val 74 Z3, .val 75 (subP X3 Z3), .alc 20, .alc 21, .sto 6 20 (addP X3 Z3), .sto 7 21 (subP X3 Z3)] [] follows_mixed rfl (by kernel_rfl) (by kernel_rfl) (by kernel_rfl) HG_5 rfl ?_ ?_ ?_ ?_
        · simp
        · simp
        · exact fitsL_cons (fits_load 10 k10 hk10_5 rfl rfl (by decide) rfl (by simp)) (fitsL_cons (fits_load 11 k11 hk11_5 rfl rfl (by decide) rfl (by simp)) (fitsL_cons (fits_two _ 70 71 0 1 _ _ (two_plus _ _) enter_plus _ rfl rfl rfl rfl (by kernel_rfl) (by kernel_rfl)) (fitsL_cons (fits_load 10 k10 hk10_5 rfl rfl (by decide) rfl (by simp)) (fitsL_cons (fits_load 11 k11 hk11_5 rfl rfl (by decide) rfl (by simp)) (fitsL_cons (fits_two _ 73 74 3 4 _ _ (two_minus _ _) enter_minus _ rfl rfl rfl rfl (by kernel_rfl) (by kernel_rfl)) (fitsL_cons (⟨rfl, rfl⟩) (fitsL_cons (⟨rfl, rfl⟩) (fitsL_cons (⟨72, 2, rfl, rfl, rfl, rfl, by kernel_rfl, by kernel_rfl⟩) (fitsL_cons (⟨75, 5, rfl, rfl, rfl, rfl, by kernel_rfl, by kernel_rfl⟩) fitsL_nil)))))))))
        rintro vs x6 hl hd
        have hW : ∀ s ∈ ([70, 71, 72, 73, 74, 75, 20, 21] : List Nat), s < 122 := by decide
        have hN : ([70, 71, 72, 73, 74, 75, 20, 21] : List Nat).Nodup := by decide
        obtain ⟨v70, v71, v72, v73, v74, v75, v20, v21, rfl⟩ := len8 hl
        obtain ⟨k20, e, q, hk20_6⟩ := hd.new2 hl hN hW 8 6 20 _ 6 rfl rfl
        replace e : v20 = ptrTo k20 := e
        subst e
        have qk20 : M ≤ k20 := Nat.le_trans HM_5 q
        have sk20 : w.heap.size ≤ k20 := by have := HG_5.size; omega
        clear q
        obtain ⟨k21, e, q, hk21_6⟩ := hd.new2 hl hN hW 9 7 21 _ 7 rfl rfl
        replace e : v21 = ptrTo k21 := e
        subst e
        have qk21 : M ≤ k21 := Nat.le_trans HM_5 q
        have sk21 : w.heap.size ≤ k21 := by have := HG_5.size; omega
        clear q
        have HM_6 : M ≤ x6.heap.size := Nat.le_trans HM_5 hd.kept.size
        have HG_6 := hd.base
        have hB5_6 := hd.keep hB5_5 (by simp)
        have hB7_6 := hd.keep hB7_5 (by simp)
        have hk8_6 := hd.keep hk8_5 (by simp)
        have hk9_6 := hd.keep hk9_5 (by simp)
        have hk10_6 := hd.keep hk10_5 (by simp)
        have hk11_6 := hd.keep hk11_5 (by simp)
        have hk15_6 := hd.keep hk15_5 (by simp)
        have hk16_6 := hd.keep hk16_5 (by simp)
        have hk17_6 := hd.keep hk17_5 (by simp)
        have hk18_6 := hd.keep hk18_5 (by simp)
        have hk19_6 := hd.keep hk19_5 (by simp)
        clear hd hl hW hN hB5_5 hB7_5 hk8_5 hk9_5 hk10_5 hk11_5 hk15_5 hk16_5 hk17_5 hk18_5 hk19_5 HM_5 HG_5
        simp only [putAll, ptrTo, Act.put, List.setIfInBounds_toArray, List.set_cons_succ, List.set_cons_zero]
        obtain ⟨A20, hA20⟩ : ∃ a, a = (addP X3 Z3) := ⟨_, rfl⟩
        rw [← hA20] at hk20_6
        have HA20 := Lib.hid hA20
        clear hA20
        obtain ⟨A21, hA21⟩ : ∃ a, a = (subP X3 Z3) := ⟨_, rfl⟩
        rw [← hA21] at hk21_6
        have HA21 := Lib.hid hA21
        clear hA21
        go_upto_region 16 with (fail)
        refine nums_region (wb := w) [76, 77, 78, 79, 80, 81, 22, 23] [] [.val 76 A21, .val 77 A15, .val 78 (mulP A21 A15), .val 79 A20, .val 80 A16, .val 81 (mulP A20 A16), .alc 22, .alc 23, .sto 6 22 (mulP A21 A15), .sto 7 23 (mulP A20 A16)] [] follows_mixed rfl (by kernel_rfl) (by kernel_rfl) (by kernel_rfl) HG_6 rfl ?_ ?_ ?_ ?_
        · simp
        · simp
        · exact fitsL_cons (fits_load 21 k21 hk21_6 rfl rfl (by decide) rfl (by simp)) (fitsL_cons (fits_load 15 k15 hk15_6 rfl rfl (by decide) rfl (by simp)) (fitsL_cons (fits_two _ 76 77 0 1 _ _ (two_times _ _) enter_times _ rfl rfl rfl rfl (by kernel_rfl) (by kernel_rfl)) (fitsL_cons (fits_load 20 k20 hk20_6 rfl rfl (by decide) rfl (by simp)) (fitsL_cons (fits_load 16 k16 hk16_6 rfl rfl (by decide) rfl (by simp)) (fitsL_cons (fits_two _ 79 80 3 4 _ _ (two_times _ _) enter_times _ rfl rfl rfl rfl (by kernel_rfl) (by kernel_rfl)) (fitsL_cons (⟨rfl, rfl⟩) (fitsL_cons (⟨rfl, rfl⟩) (fitsL_cons (⟨78, 2, rfl, rfl, rfl, rfl, by kernel_rfl, by kernel_rfl⟩) (fitsL_cons (⟨81, 5, rfl, rfl, rfl, rfl, by kernel_rfl, by kernel_rfl⟩) fitsL_nil)))))))))
        rintro vs x7 hl hd
        have hW : ∀ s ∈ ([76, 77, 78, 79, 80, 81, 22, 23] : List Nat), s < 122 := by decide
        have hN : ([76, 77, 78, 79, 80, 81, 22, 23] : List Nat).Nodup := by decide
        obtain ⟨v76, v77, v78, v79, v80, v81, v22, v23, rfl⟩ := len8 hl
        obtain ⟨k22, e, q, hk22_7⟩ := hd.new2 hl hN hW 8 6 22 _ 6 rfl rfl
        replace e : v22 = ptrTo k22 := e
        subst e
        have qk22 : M ≤ k22 := Nat.le_trans HM_6 q
        have sk22 : w.heap.size ≤ k22 := by have := HG_6.size; omega
        clear q
        obtain ⟨k23, e, q, hk23_7⟩ := hd.new2 hl hN hW 9 7 23 _ 7 rfl rfl
        replace e : v23 = ptrTo k23 := e
        subst e
        have qk23 : M ≤ k23 := Nat.le_trans HM_6 q
        have sk23 : w.heap.size ≤ k23 := by have := HG_6.size; omega
        clear q
        have HM_7 : M ≤ x7.heap.size := Nat.le_trans HM_6 hd.kept.size
        have HG_7 := hd.base
        have hB5_7 := hd.keep hB5_6 (by simp)
        have hB7_7 := hd.keep hB7_6 (by simp)
        have hk8_7 := hd.keep hk8_6 (by simp)
        have hk9_7 := hd.keep hk9_6 (by simp)
        have hk10_7 := hd.keep hk10_6 (by simp)
        have hk11_7 := hd.keep hk11_6 (by simp)
        have hk15_7 := hd.keep hk15_6 (by simp)
        have hk16_7 := hd.keep hk16_6 (by simp)
        have hk17_7 := hd.keep hk17_6 (by simp)
        have hk18_7 := hd.keep hk18_6 (by simp)
        have hk19_7 := hd.keep hk19_6 (by simp)
        have hk20_7 := hd.keep hk20_6 (by simp)
        have hk21_7 := hd.keep hk21_6 (by simp)
        clear hd hl hW hN hB5_6 hB7_6 hk8_6 hk9_6 hk10_6 hk11_6 hk15_6 hk16_6 hk17_6 hk18_6 hk19_6 hk20_6 hk21_6 HM_6 HG_6
        simp only [putAll, ptrTo, Act.put, List.setIfInBounds_toArray, List.set_cons_succ, List.set_cons_zero]
        obtain ⟨A22, hA22⟩ : ∃ a, a = (mulP A21 A15) := ⟨_, rfl⟩
        rw [← hA22] at hk22_7
        have HA22 := Lib.hid hA22
        clear hA22
        obtain ⟨A23, hA23⟩ : ∃ a, a = (mulP A20 A16) := ⟨_, rfl⟩
        rw [← hA23] at hk23_7
        have HA23 := Lib.hid hA23
        clear hA23
        go_upto_region 17 with (fail)
        refine nums_region (wb := w) [82, 83, 84] [k10] [.val 82 A22, .val 83 A23, .val 84 (addP A22 A23), .old 10 k10 X3 (addP A22 A23)] [(10, k10, X3, (addP A22 A23))] follows_mixed rfl (by kernel_rfl) (by kernel_rfl) (by kernel_rfl) HG_7 rfl ?_ ?_ ?_ ?_
        · exact (List.forall_mem_cons.2 ⟨⟨by simp, hk10_7.lt, sk10, by simp, rfl, hk10_7⟩, (by simp)⟩)
        · simp
        · exact fitsL_cons (fits_load 22 k22 hk22_7 rfl rfl (by decide) rfl (by simp; omega)) (fitsL_cons (fits_load 23 k23 hk23_7 rfl rfl (by decide) rfl (by simp; omega)) (fitsL_cons (fits_two _ 82 83 0 1 _ _ (two_plus _ _) enter_plus _ rfl rfl rfl rfl (by kernel_rfl) (by kernel_rfl)) (fitsL_cons (⟨84, 2, rfl, rfl, rfl, by kernel_rfl⟩) fitsL_nil)))
        rintro vs x8 hl hd
        have hW : ∀ s ∈ ([82, 83, 84] : List Nat), s < 122 := by decide
        have hN : ([82, 83, 84] : List Nat).Nodup := by decide
        obtain ⟨v82, v83, v84, rfl⟩ := len3 hl
        have HM_8 : M ≤ x8.heap.size := Nat.le_trans HM_7 hd.kept.size
        have HG_8 := hd.base
        have hB5_8 := hd.keep hB5_7 (by simp; omega)
        have hB7_8 := hd.keep hB7_7 (by simp; omega)
        have hk8_8 := hd.keep hk8_7 (by simp; omega)
        have hk9_8 := hd.keep hk9_7 (by simp; omega)
        have hk10_8 : NV x8 k10 (addP A22 A23) := hd.was 3 10 _ _ _ rfl
        have hk11_8 := hd.keep hk11_7 (by simp; omega)
        have hk17_8 := hd.keep hk17_7 (by simp; omega)
        have hk18_8 := hd.keep hk18_7 (by simp; omega)
        have hk19_8 := hd.keep hk19_7 (by simp; omega)
        have hk22_8 := hd.keep hk22_7 (by simp; omega)
        have hk23_8 := hd.keep hk23_7 (by simp; omega)
        clear hd hl hW hN hB5_7 hB7_7 hk8_7 hk9_7 hk10_7 hk11_7 hk17_7 hk18_7 hk19_7 hk22_7 hk23_7 HM_7 HG_7
        simp only [putAll, Act.put, List.setIfInBounds_toArray, List.set_cons_succ, List.set_cons_zero]
        obtain ⟨O17, hO17⟩ : ∃ a, a = (addP A22 A23) := ⟨_, rfl⟩
        rw [← hO17] at hk10_8
        have HO17 := Lib.hid hO17
        clear hO17
        go_upto_region 18 with (fail)
        refine nums_region (wb := w) [85, 86, 87] [k10] [.val 85 O17, .val 86 O17, .val 87 (mulP O17 O17), .old 10 k10 O17 (mulP O17 O17)] [(10, k10, O17, (mulP O17 O17))] follows_mixed rfl (by kernel_rfl) (by kernel_rfl) (by kernel_rfl) HG_8 rfl ?_ ?_ ?_ ?_
        · exact (List.forall_mem_cons.2 ⟨⟨by simp, hk10_8.lt, sk10, by simp, rfl, hk10_8⟩, (by simp)⟩)
        · simp
        · exact fitsL_cons (fits_load_old 10 k10 3 10 _ _ rfl rfl (by kernel_rfl) rfl rfl (by decide) rfl) (fitsL_cons (fits_load_old 10 k10 3 10 _ _ rfl rfl (by kernel_rfl) rfl rfl (by decide) rfl) (fitsL_cons (fits_two _ 85 86 0 1 _ _ (two_times _ _) enter_times _ rfl rfl rfl rfl (by kernel_rfl) (by kernel_rfl)) (fitsL_cons (⟨87, 2, rfl, rfl, rfl, by kernel_rfl⟩) fitsL_nil)))
        rintro vs x9 hl hd
        have hW : ∀ s ∈ ([85, 86, 87] : List Nat), s < 122 := by decide
        have hN : ([85, 86, 87] : List Nat).Nodup := by decide
        obtain ⟨v85, v86, v87, rfl⟩ := len3 hl
        have HM_9 : M ≤ x9.heap.size := Nat.le_trans HM_8 hd.kept.size
        have HG_9 := hd.base
        have hB5_9 := hd.keep hB5_8 (by simp; omega)
        have hB7_9 := hd.keep hB7_8 (by simp; omega)
        have hk8_9 := hd.keep hk8_8 (by simp; omega)
        have hk9_9 := hd.keep hk9_8 (by simp; omega)
        have hk10_9 : NV x9 k10 (mulP O17 O17) := hd.was 3 10 _ _ _ rfl
        have hk11_9 := hd.keep hk11_8 (by simp; omega)
        have hk17_9 := hd.keep hk17_8 (by simp; omega)
        have hk18_9 := hd.keep hk18_8 (by simp; omega)
        have hk19_9 := hd.keep hk19_8 (by simp; omega)
        have hk22_9 := hd.keep hk22_8 (by simp; omega)
        have hk23_9 := hd.keep hk23_8 (by simp; omega)
        clear hd hl hW hN hB5_8 hB7_8 hk8_8 hk9_8 hk10_8 hk11_8 hk17_8 hk18_8 hk19_8 hk22_8 hk23_8 HM_8 HG_8
        simp only [putAll, Act.put, List.setIfInBounds_toArray, List.set_cons_succ, List.set_cons_zero]
        obtain ⟨O18, hO18⟩ : ∃ a, a = (mulP O17 O17) := ⟨_, rfl⟩
        rw [← hO18] at hk10_9
        have HO18 := Lib.hid hO18
        clear hO18
        go_upto_region 19 with (fail)
        refine nums_region (wb := w) [88, 89, 90] [k11] [.val 88 A22, .val 89 A23, .val 90 (subP A22 A23), .old 11 k11 Z3 (subP A22 A23)] [(11, k11, Z3, (subP A22 A23))] follows_mixed rfl (by kernel_rfl) (by kernel_rfl) (by kernel_rfl) HG_9 rfl ?_ ?_ ?_ ?_
        · exact (List.forall_mem_cons.2 ⟨⟨by simp, hk11_9.lt, sk11, by simp, rfl, hk11_9⟩, (by simp)⟩)
        · simp
        · exact fitsL_cons (fits_load 22 k22 hk22_9 rfl rfl (by decide) rfl (by simp; omega)) (fitsL_cons (fits_load 23 k23 hk23_9 rfl rfl (by decide) rfl (by simp; omega)) (fitsL_cons (fits_two _ 88 89 0 1 _ _ (two_minus _ _) enter_minus _ rfl rfl rfl rfl (by kernel_rfl) (by kernel_rfl)) (fitsL_cons (⟨90, 2, rfl, rfl, rfl, by kernel_rfl⟩) fitsL_nil)))
        rintro vs x10 hl hd
        have hW : ∀ s ∈ ([88, 89, 90] : List Nat), s < 122 := by decide
        have hN : ([88, 89, 90] : List Nat).Nodup := by decide
        obtain ⟨v88, v89, v90, rfl⟩ := len3 hl
        have HM_10 : M ≤ x10.heap.size := Nat.le_trans HM_9 hd.kept.size
        have HG_10 := hd.base
        have hB5_10 := hd.keep hB5_9 (by simp; omega)
        have hB7_10 := hd.keep hB7_9 (by simp; omega)
        have hk8_10 := hd.keep hk8_9 (by simp; omega)
        have hk9_10 := hd.keep hk9_9 (by simp; omega)
        have hk10_10 := hd.keep hk10_9 (by simp; omega)
        have hk11_10 : NV x10 k11 (subP A22 A23) := hd.was 3 11 _ _ _ rfl
        have hk17_10 := hd.keep hk17_9 (by simp; omega)
        have hk18_10 := hd.keep hk18_9 (by simp; omega)
        have hk19_10 := hd.keep hk19_9 (by simp; omega)
        have hk22_10 := hd.keep hk22_9 (by simp; omega)
        have hk23_10 := hd.keep hk23_9 (by simp; omega)
        clear hd hl hW hN hB5_9 hB7_9 hk8_9 hk9_9 hk10_9 hk11_9 hk17_9 hk18_9 hk19_9 hk22_9 hk23_9 HM_9 HG_9
        simp only [putAll, Act.put, List.setIfInBounds_toArray, List.set_cons_succ, List.set_cons_zero]
        obtain ⟨O19, hO19⟩ : ∃ a, a = (subP A22 A23) := ⟨_, rfl⟩
        rw [← hO19] at hk11_10
        have HO19 := Lib.hid hO19
        clear hO19
        go_upto_region 20 with (fail)
        refine nums_region (wb := w) [91, 92, 93, 94, 95] [k11] [.val 91 X, .val 92 O19, .val 93 O19, .val 94 (mulP O19 O19), .val 95 (mulP X (mulP O19 O19)), .old 11 k11 O19 (mulP X (mulP O19 O19))] [(11, k11, O19, (mulP X (mulP O19 O19)))] follows_mixed rfl (by kernel_rfl) (by kernel_rfl) (by kernel_rfl) HG_10 rfl ?_ ?_ ?_ ?_
        · exact (List.forall_mem_cons.2 ⟨⟨by simp, hk11_10.lt, sk11, by simp, rfl, hk11_10⟩, (by simp)⟩)
        · simp
        · exact fitsL_cons (fits_load 5 B5 hB5_10 rfl rfl (by decide) rfl (by simp; omega)) (fitsL_cons (fits_load_old 11 k11 5 11 _ _ rfl rfl (by kernel_rfl) rfl rfl (by decide) rfl) (fitsL_cons (fits_load_old 11 k11 5 11 _ _ rfl rfl (by kernel_rfl) rfl rfl (by decide) rfl) (fitsL_cons (fits_two _ 92 93 1 2 _ _ (two_times _ _) enter_times _ rfl rfl rfl rfl (by kernel_rfl) (by kernel_rfl)) (fitsL_cons (fits_two _ 91 94 0 3 _ _ (two_times _ _) enter_times _ rfl rfl rfl rfl (by kernel_rfl) (by kernel_rfl)) (fitsL_cons (⟨95, 4, rfl, rfl, rfl, by kernel_rfl⟩) fitsL_nil)))))
        rintro vs x11 hl hd
        have hW : ∀ s ∈ ([91, 92, 93, 94, 95] : List Nat), s < 122 := by decide
        have hN : ([91, 92, 93, 94, 95] : List Nat).Nodup := by decide
        obtain ⟨v91, v92, v93, v94, v95, rfl⟩ := len5 hl
        have HM_11 : M ≤ x11.heap.size := Nat.le_trans HM_10 hd.kept.size
        have HG_11 := hd.base
        have hB5_11 := hd.keep hB5_10 (by simp; omega)
        have hB7_11 := hd.keep hB7_10 (by simp; omega)
        have hk8_11 := hd.keep hk8_10 (by simp; omega)
        have hk9_11 := hd.keep hk9_10 (by simp; omega)
        have hk10_11 := hd.keep hk10_10 (by simp; omega)
        have hk11_11 : NV x11 k11 (mulP X (mulP O19 O19)) := hd.was 5 11 _ _ _ rfl
        have hk17_11 := hd.keep hk17_10 (by simp; omega)
        have hk18_11 := hd.keep hk18_10 (by simp; omega)
        have hk19_11 := hd.keep hk19_10 (by simp; omega)
        clear hd hl hW hN hB5_10 hB7_10 hk8_10 hk9_10 hk10_10 hk11_10 hk17_10 hk18_10 hk19_10 HM_10 HG_10
        simp only [putAll, Act.put, List.setIfInBounds_toArray, List.set_cons_succ, List.set_cons_zero]
        obtain ⟨O20, hO20⟩ : ∃ a, a = (mulP X (mulP O19 O19)) := ⟨_, rfl⟩
        rw [← hO20] at hk11_11
        have HO20 := Lib.hid hO20
        clear hO20
        go_upto_region 21 with (fail)
        refine nums_region (wb := w) [96, 97, 98] [k8] [.val 96 A17, .val 97 A18, .val 98 (mulP A17 A18), .old 8 k8 X2 (mulP A17 A18)] [(8, k8, X2, (mulP A17 A18))] follows_mixed rfl (by kernel_rfl) (by kernel_rfl) (by kernel_rfl) HG_11 rfl ?_ ?_ ?_ ?_
        · exact (List.forall_mem_cons.2 ⟨⟨by simp, hk8_11.lt, sk8, by simp, rfl, hk8_11⟩, (by simp)⟩)
        · simp
        · exact fitsL_cons (fits_load 17 k17 hk17_11 rfl rfl (by decide) rfl (by simp; omega)) (fitsL_cons (fits_load 18 k18 hk18_11 rfl rfl (by decide) rfl (by simp; omega)) (fitsL_cons (fits_two _ 96 97 0 1 _ _ (two_times _ _) enter_times _ rfl rfl rfl rfl (by kernel_rfl) (by kernel_rfl)) (fitsL_cons (⟨98, 2, rfl, rfl, rfl, by kernel_rfl⟩) fitsL_nil)))
        rintro vs x12 hl hd
        have hW : ∀ s ∈ ([96, 97, 98] : List Nat), s < 122 := by decide
        have hN : ([96, 97, 98] : List Nat).Nodup := by decide
        obtain ⟨v96, v97, v98, rfl⟩ := len3 hl
        have HM_12 : M ≤ x12.heap.size := Nat.le_trans HM_11 hd.kept.size
        have HG_12 := hd.base
        have hB5_12 := hd.keep hB5_11 (by simp; omega)
        have hB7_12 := hd.keep hB7_11 (by simp; omega)
        have hk8_12 : NV x12 k8 (mulP A17 A18) := hd.was 3 8 _ _ _ rfl
        have hk9_12 := hd.keep hk9_11 (by simp; omega)
        have hk10_12 := hd.keep hk10_11 (by simp; omega)
        have hk11_12 := hd.keep hk11_11 (by simp; omega)
        have hk17_12 := hd.keep hk17_11 (by simp; omega)
        have hk19_12 := hd.keep hk19_11 (by simp; omega)
        clear hd hl hW hN hB5_11 hB7_11 hk8_11 hk9_11 hk10_11 hk11_11 hk17_11 hk19_11 HM_11 HG_11
        simp only [putAll, Act.put, List.setIfInBounds_toArray, List.set_cons_succ, List.set_cons_zero]
        obtain ⟨O21, hO21⟩ : ∃ a, a = (mulP A17 A18) := ⟨_, rfl⟩
        rw [← hO21] at hk8_12
        have HO21 := Lib.hid hO21
        clear hO21
        go_upto_region 22 with (fail)
        refine nums_region (wb := w) [99, 100, 101, 102, 103, 104, 105] [k9] [.val 99 A19, .val 100 A17, .val 101 121665, .val 102 A19, .val 103 (mulP 121665 A19), .val 104 (addP A17 (mulP 121665 A19)), .val 105 (mulP A19 (addP A17 (mulP 121665 A19))), .old 9 k9 Z2 (mulP A19 (addP A17 (mulP 121665 A19)))] [(9, k9, Z2, (mulP A19 (addP A17 (mulP 121665 A19))))] follows_mixed rfl (by kernel_rfl) (by kernel_rfl) (by kernel_rfl) HG_12 rfl ?_ ?_ ?_ ?_
        · exact (List.forall_mem_cons.2 ⟨⟨by simp, hk9_12.lt, sk9, by simp, rfl, hk9_12⟩, (by simp)⟩)
        · simp
        · exact fitsL_cons (fits_load 19 k19 hk19_12 rfl rfl (by decide) rfl (by simp; omega)) (fitsL_cons (fits_load 17 k17 hk17_12 rfl rfl (by decide) rfl (by simp; omega)) (fitsL_cons (fits_load 7 B7 hB7_12 rfl rfl (by decide) rfl (by simp; omega)) (fitsL_cons (fits_load 19 k19 hk19_12 rfl rfl (by decide) rfl (by simp; omega)) (fitsL_cons (fits_two _ 101 102 2 3 _ _ (two_times _ _) enter_times _ rfl rfl rfl rfl (by kernel_rfl) (by kernel_rfl)) (fitsL_cons (fits_two _ 100 103 1 4 _ _ (two_plus _ _) enter_plus _ rfl rfl rfl rfl (by kernel_rfl) (by kernel_rfl)) (fitsL_cons (fits_two _ 99 104 0 5 _ _ (two_times _ _) enter_times _ rfl rfl rfl rfl (by kernel_rfl) (by kernel_rfl)) (fitsL_cons (⟨105, 6, rfl, rfl, rfl, by kernel_rfl⟩) fitsL_nil)))))))
        rintro vs x13 hl hd
        have hW : ∀ s ∈ ([99, 100, 101, 102, 103, 104, 105] : List Nat), s < 122 := by decide
        have hN : ([99, 100, 101, 102, 103, 104, 105] : List Nat).Nodup := by decide
        obtain ⟨v99, v100, v101, v102, v103, v104, v105, rfl⟩ := len7 hl
        have HM_13 : M ≤ x13.heap.size := Nat.le_trans HM_12 hd.kept.size
        have HG_13 := hd.base
        have hB5_13 := hd.keep hB5_12 (by simp; omega)
        have hB7_13 := hd.keep hB7_12 (by simp; omega)
        have hk8_13 := hd.keep hk8_12 (by simp; omega)
        have hk9_13 : NV x13 k9 (mulP A19 (addP A17 (mulP 121665 A19))) := hd.was 7 9 _ _ _ rfl
        have hk10_13 := hd.keep hk10_12 (by simp; omega)
        have hk11_13 := hd.keep hk11_12 (by simp; omega)
        clear hd hl hW hN hB5_12 hB7_12 hk8_12 hk9_12 hk10_12 hk11_12 HM_12 HG_12
        simp only [putAll, Act.put, List.setIfInBounds_toArray, List.set_cons_succ, List.set_cons_zero]
        obtain ⟨O22, hO22⟩ : ∃ a, a = (mulP A19 (addP A17 (mulP 121665 A19))) := ⟨_, rfl⟩
        rw [← hO22] at hk9_13
        have HO22 := Lib.hid hO22
        clear hO22
        have hstep : ladS K X (i + 1) = ⟨bit, O21, O22, O18, O20⟩ := by
          have e1 : ladS K X (i + 1) = (s.turn bit).step X := by
            show ((ladS K X i).turn (K / 2 ^ (254 - i) % 2)).step X = _
            rw [← HS.out, HBIT.out, show 254 - i = t from by omega]
          rw [e1, HT2.out]
          simp only [Lad.step, ladX2, ladZ2, ladE, ladX3, ladZ3, ladDA, ladCB, HO22.out, HO21.out, HO20.out, HO19.out, HO18.out, HO17.out, HA23.out, HA22.out, HA21.out, HA20.out, HA19.out, HA18.out, HA17.out, HA16.out, HA15.out]
        have HST := Lib.hid hstep
        have F0 := Lib.hid HG_13
        have FB5 := Lib.hid hB5_13
        have FB7 := Lib.hid hB7_13
        have Fk8 := Lib.hid hk8_13
        have Fk9 := Lib.hid hk9_13
        have Fk10 := Lib.hid hk10_13
        have Fk11 := Lib.hid hk11_13
        clear hstep HG_13 HM_13 hB5_13 hB7_13 hk8_13 hk9_13 hk10_13 hk11_13
        go_wp2_with fail
        go_roundw
        case rel => exact ⟨i + 1, by omega, by rw [HST.out], by have := HT.out; go_num, F0, FB5, FB7, by rw [HST.out]; exact Fk8, by rw [HST.out]; exact Fk9, by rw [HST.out]; exact Fk10, by rw [HST.out]; exact Fk11⟩
        case measure => simp [intOf]
    · obtain rfl : i = 255 := by omega
      rw [show (254 : Int) - ((255 : Nat) : Int) = -1 from by omega]
      have hsw1 := ladS_sw K X 255
      have hout : ladN (leN kl) X = ladOut (ladS K X 255) := by rw [← HK.out]; rfl
      obtain ⟨s, hs⟩ : ∃ s, s = ladS K X 255 := ⟨_, rfl⟩
      rw [← hs] at h8 h9 h10 h11 hsw1 hout ⊢
      have HOUT := Lib.hid hout
      have HG_1 := hg.out
      have hk8_1 := h8.out
      have hk9_1 := h9.out
      have hk10_1 := h10.out
      have hk11_1 := h11.out
      have sk8' := sk8
      clear hs hout hg h5 h7 h8 h9 h10 h11 hlt
      by_cases hsw : s.sw = 1
      · have hln : mulP s.x3 (s.z3 ^ (PP - 2)) = ladOut s := by unfold ladOut; rw [if_pos hsw]
        have HLN := Lib.hid hln
        have hbq : ((s.sw : Int) == 1) = true := by rw [hsw]; rfl
        clear hln hsw hsw1
        go_upto_region 24 with (fail)
        refine nums_region (wb := w) [108, 109] [k8, k9] [.val 108 s.x3, .val 109 s.z3, .old 8 k8 s.x2 s.x3, .old 9 k9 s.z2 s.z3] [(8, k8, s.x2, s.x3), (9, k9, s.z2, s.z3)] follows_mixed rfl (by kernel_rfl) (by kernel_rfl) (by kernel_rfl) HG_1 rfl ?_ ?_ ?_ ?_
        · exact (List.forall_mem_cons.2 ⟨⟨by simp, hk8_1.lt, sk8, by simp, rfl, hk8_1⟩, (List.forall_mem_cons.2 ⟨⟨by simp, hk9_1.lt, sk9, by simp, rfl, hk9_1⟩, (by simp)⟩)⟩)
        · simp; omega
        · exact fitsL_cons (fits_load 10 k10 hk10_1 rfl rfl (by decide) rfl (by simp; omega)) (fitsL_cons (fits_load 11 k11 hk11_1 rfl rfl (by decide) rfl (by simp; omega)) (fitsL_cons (⟨108, 0, rfl, rfl, rfl, by kernel_rfl⟩) (fitsL_cons (⟨109, 1, rfl, rfl, rfl, by kernel_rfl⟩) fitsL_nil)))
        rintro vs x2 hl hd
        have hW : ∀ s ∈ ([108, 109] : List Nat), s < 122 := by decide
        have hN : ([108, 109] : List Nat).Nodup := by decide
        obtain ⟨v108, v109, rfl⟩ := len2 hl
        have HG_2 := hd.base
        have hk8_2 : NV x2 k8 s.x3 := hd.was 2 8 _ _ _ rfl
        have hk9_2 : NV x2 k9 s.z3 := hd.was 3 9 _ _ _ rfl
        clear hd hl hW hN hk8_1 hk9_1  HG_1
        simp only [putAll, Act.put, List.setIfInBounds_toArray, List.set_cons_succ, List.set_cons_zero]
        obtain ⟨la, na, oa, ea⟩ := hk8_2
        obtain ⟨lb, nb, ob, eb⟩ := hk9_2
        obtain ⟨a0, a1, a2, a3, a4, ela⟩ := five oa.length
        obtain ⟨b0, b1, b2, b3, b4, elb⟩ := five ob.length
        have hNa : N5 la = .agg #[.int .u64 (a0 : Int), .int .u64 (a1 : Int), .int .u64 (a2 : Int), .int .u64 (a3 : Int), .int .u64 (a4 : Int)] := by rw [ela]; rfl
        have hNb : N5 lb = .agg #[.int .u64 (b0 : Int), .int .u64 (b1 : Int), .int .u64 (b2 : Int), .int .u64 (b3 : Int), .int .u64 (b4 : Int)] := by rw [elb]; rfl
        rw [ela] at na
        rw [elb] at nb
        have TEN : ∀ (W : World), x2.grownBy W none → W.cell? ⟨k8, 0, none⟩ = some (.int .u64 (a0 : Int)) ∧ W.cell? ⟨k8, 1, none⟩ = some (.int .u64 (a1 : Int)) ∧ W.cell? ⟨k8, 2, none⟩ = some (.int .u64 (a2 : Int)) ∧ W.cell? ⟨k8, 3, none⟩ = some (.int .u64 (a3 : Int)) ∧ W.cell? ⟨k8, 4, none⟩ = some (.int .u64 (a4 : Int)) ∧ W.cell? ⟨k9, 0, none⟩ = some (.int .u64 (b0 : Int)) ∧ W.cell? ⟨k9, 1, none⟩ = some (.int .u64 (b1 : Int)) ∧ W.cell? ⟨k9, 2, none⟩ = some (.int .u64 (b2 : Int)) ∧ W.cell? ⟨k9, 3, none⟩ = some (.int .u64 (b3 : Int)) ∧ W.cell? ⟨k9, 4, none⟩ = some (.int .u64 (b4 : Int)) := fun W g => by
          obtain ⟨⟨p0, p1, p2, p3, p4⟩, _⟩ := NB.five (Blk.kept na g nofun)
          obtain ⟨⟨q0, q1, q2, q3, q4⟩, _⟩ := NB.five (Blk.kept nb g nofun)
          exact ⟨p0, p1, p2, p3, p4, q0, q1, q2, q3, q4⟩
        have gd := grow_drew (grow_refl x2 none)
        have AP : Calls Tryz.prog 89 #[.agg #[.int .u64 (b0 : Int), .int .u64 (b1 : Int), .int .u64 (b2 : Int), .int .u64 (b3 : Int), .int .u64 (b4 : Int)], .slice (some ⟨x2.heap.size, 0, none⟩) 4 4] (x2.alloc (.cells #[.int .u64 18446744073709551595, .int .u64 18446744073709551615, .int .u64 18446744073709551615, .int .u64 9223372036854775807] 97)).drew (PowIs lb (PP - 2) (x2.alloc (.cells #[.int .u64 18446744073709551595, .int .u64 18446744073709551615, .int .u64 18446744073709551615, .int .u64 9223372036854775807] 97)).drew) := by
          have := code_npower (x2.alloc (.cells #[.int .u64 18446744073709551595, .int .u64 18446744073709551615, .int .u64 18446744073709551615, .int .u64 9223372036854775807] 97)).drew lb ob x2.heap.size 97 ladWords (obj_new_drew x2 _) (by decide) (by decide)
          rw [hNb, ladWords_val] at this
          exact this
        have AT : ∀ (W : World) (L : List Nat), Ok5 L → Calls Tryz.prog 87 #[.agg #[.int .u64 (a0 : Int), .int .u64 (a1 : Int), .int .u64 (a2 : Int), .int .u64 (a3 : Int), .int .u64 (a4 : Int)], N5 L] W (NumIs (lval la * lval L) W) := fun W L h => by
          rw [← hNa]
          exact code_ntimes W la L oa h
        have AX : ∀ (W : World) (M : List Nat), Ok5 M → Calls Tryz.prog 139 #[N5 M] W (Grown (S (leB (lval M % PP) 32)) W) := fun W M h => code_ntext W M h.length (ok5_le h)
        have HN := Lib.hid (And.intro ea eb)
        have HGE := Lib.hid HG_2
        clear na nb ela elb hNa hNb oa ob ea eb HG_2
        unfold S at AX
        have q64 : IntKind.u64.wrap 18446744073709551595 = 18446744073709551595 := by decide +kernel
        go_upto_region 26 with (fail)
        have T0 := TEN x2.drew gd
        have T1 := TEN (x2.alloc (.cells #[.int .u64 18446744073709551595, .int .u64 18446744073709551615, .int .u64 18446744073709551615, .int .u64 9223372036854775807] 97)).drew (grow_drew (grow_alloc (grow_refl x2 none) _))
        go_region_held3 (fun W => W.cell? ⟨k8, 0, none⟩ = some (.int .u64 (a0 : Int)) ∧ W.cell? ⟨k8, 1, none⟩ = some (.int .u64 (a1 : Int)) ∧ W.cell? ⟨k8, 2, none⟩ = some (.int .u64 (a2 : Int)) ∧ W.cell? ⟨k8, 3, none⟩ = some (.int .u64 (a3 : Int)) ∧ W.cell? ⟨k8, 4, none⟩ = some (.int .u64 (a4 : Int)) ∧ W.cell? ⟨k9, 0, none⟩ = some (.int .u64 (b0 : Int)) ∧ W.cell? ⟨k9, 1, none⟩ = some (.int .u64 (b1 : Int)) ∧ W.cell? ⟨k9, 2, none⟩ = some (.int .u64 (b2 : Int)) ∧ W.cell? ⟨k9, 3, none⟩ = some (.int .u64 (b3 : Int)) ∧ W.cell? ⟨k9, 4, none⟩ = some (.int .u64 (b4 : Int))) (first | exact T0 | exact T1 | exact T2 | exact T3 | exact T4) (first
          | (go_at_call 89; (with_reducible refine AP.mono ?_); rintro e y1 ⟨L, rfl, hP, hg1⟩; have G1 := grow_trans (grow_drew (grow_alloc (grow_refl _ none) _)) hg1; have T2 := TEN y1 G1; have oL : Ok5 L := hP.1)
          | (go_at_call 87; (with_reducible refine (AT _ L oL).mono ?_); rintro e y2 ⟨M, rfl, oM, hM, hg2⟩; have G2 := grow_trans G1 hg2; have T3 := TEN y2 G2)
          | (go_at_call 139; (with_reducible refine (AX _ M oM).mono ?_); rintro e y3 ⟨rfl, hg3⟩; have G3 := grow_trans G2 hg3; have T4 := TEN y3 G3))
        all_goals
          have HGF := Lib.hid (grow_trans HGE.out G3)
          have hval : lval la * lval L % PP = ladN (leN kl) X % PP := by
            rw [HOUT.out, ← HLN.out]
            unfold mulP
            rw [Nat.mod_mod, Nat.mul_mod, hP.2, HN.out.1, Nat.pow_mod, HN.out.2, ← Nat.pow_mod, ← Nat.mul_mod]
          have HV := Lib.hid hval
          clear hval
          clear G1 G2 G3 hg1 hg2 hg3 T0 T1 T2 T3 T4 TEN AP AT AX gd
          go_wp2_with fail
          go_ret
          refine ⟨?_, HGF.out⟩
          show Ending.returned (Value.string ⟨(leB (lval la * lval L % PP) 32).toArray⟩) = _
          rw [HV.out]
      · have hln : mulP s.x2 (s.z2 ^ (PP - 2)) = ladOut s := by unfold ladOut; rw [if_neg hsw]
        have HLN := Lib.hid hln
        have hbq : ((s.sw : Int) == 1) = false := by rw [beq_eq_false_iff_ne]; omega
        clear hln hsw hsw1
        obtain ⟨la, na, oa, ea⟩ := hk8_1
        obtain ⟨lb, nb, ob, eb⟩ := hk9_1
        obtain ⟨a0, a1, a2, a3, a4, ela⟩ := five oa.length
        obtain ⟨b0, b1, b2, b3, b4, elb⟩ := five ob.length
        have hNa : N5 la = .agg #[.int .u64 (a0 : Int), .int .u64 (a1 : Int), .int .u64 (a2 : Int), .int .u64 (a3 : Int), .int .u64 (a4 : Int)] := by rw [ela]; rfl
        have hNb : N5 lb = .agg #[.int .u64 (b0 : Int), .int .u64 (b1 : Int), .int .u64 (b2 : Int), .int .u64 (b3 : Int), .int .u64 (b4 : Int)] := by rw [elb]; rfl
        rw [ela] at na
        rw [elb] at nb
        have TEN : ∀ (W : World), wr.grownBy W none → W.cell? ⟨k8, 0, none⟩ = some (.int .u64 (a0 : Int)) ∧ W.cell? ⟨k8, 1, none⟩ = some (.int .u64 (a1 : Int)) ∧ W.cell? ⟨k8, 2, none⟩ = some (.int .u64 (a2 : Int)) ∧ W.cell? ⟨k8, 3, none⟩ = some (.int .u64 (a3 : Int)) ∧ W.cell? ⟨k8, 4, none⟩ = some (.int .u64 (a4 : Int)) ∧ W.cell? ⟨k9, 0, none⟩ = some (.int .u64 (b0 : Int)) ∧ W.cell? ⟨k9, 1, none⟩ = some (.int .u64 (b1 : Int)) ∧ W.cell? ⟨k9, 2, none⟩ = some (.int .u64 (b2 : Int)) ∧ W.cell? ⟨k9, 3, none⟩ = some (.int .u64 (b3 : Int)) ∧ W.cell? ⟨k9, 4, none⟩ = some (.int .u64 (b4 : Int)) := fun W g => by
          obtain ⟨⟨p0, p1, p2, p3, p4⟩, _⟩ := NB.five (Blk.kept na g nofun)
          obtain ⟨⟨q0, q1, q2, q3, q4⟩, _⟩ := NB.five (Blk.kept nb g nofun)
          exact ⟨p0, p1, p2, p3, p4, q0, q1, q2, q3, q4⟩
        have gd := grow_drew (grow_refl wr none)
        have AP : Calls Tryz.prog 89 #[.agg #[.int .u64 (b0 : Int), .int .u64 (b1 : Int), .int .u64 (b2 : Int), .int .u64 (b3 : Int), .int .u64 (b4 : Int)], .slice (some ⟨wr.heap.size, 0, none⟩) 4 4] (wr.alloc (.cells #[.int .u64 18446744073709551595, .int .u64 18446744073709551615, .int .u64 18446744073709551615, .int .u64 9223372036854775807] 97)).drew (PowIs lb (PP - 2) (wr.alloc (.cells #[.int .u64 18446744073709551595, .int .u64 18446744073709551615, .int .u64 18446744073709551615, .int .u64 9223372036854775807] 97)).drew) := by
          have := code_npower (wr.alloc (.cells #[.int .u64 18446744073709551595, .int .u64 18446744073709551615, .int .u64 18446744073709551615, .int .u64 9223372036854775807] 97)).drew lb ob wr.heap.size 97 ladWords (obj_new_drew wr _) (by decide) (by decide)
          rw [hNb, ladWords_val] at this
          exact this
        have AT : ∀ (W : World) (L : List Nat), Ok5 L → Calls Tryz.prog 87 #[.agg #[.int .u64 (a0 : Int), .int .u64 (a1 : Int), .int .u64 (a2 : Int), .int .u64 (a3 : Int), .int .u64 (a4 : Int)], N5 L] W (NumIs (lval la * lval L) W) := fun W L h => by
          rw [← hNa]
          exact code_ntimes W la L oa h
        have AX : ∀ (W : World) (M : List Nat), Ok5 M → Calls Tryz.prog 139 #[N5 M] W (Grown (S (leB (lval M % PP) 32)) W) := fun W M h => code_ntext W M h.length (ok5_le h)
        have HN := Lib.hid (And.intro ea eb)
        have HGE := Lib.hid HG_1
        clear na nb ela elb hNa hNb oa ob ea eb HG_1
        unfold S at AX
        have q64 : IntKind.u64.wrap 18446744073709551595 = 18446744073709551595 := by decide +kernel
        go_upto_region 26 with (fail)
        have T0 := TEN wr.drew gd
        have T1 := TEN (wr.alloc (.cells #[.int .u64 18446744073709551595, .int .u64 18446744073709551615, .int .u64 18446744073709551615, .int .u64 9223372036854775807] 97)).drew (grow_drew (grow_alloc (grow_refl wr none) _))
        go_region_held3 (fun W => W.cell? ⟨k8, 0, none⟩ = some (.int .u64 (a0 : Int)) ∧ W.cell? ⟨k8, 1, none⟩ = some (.int .u64 (a1 : Int)) ∧ W.cell? ⟨k8, 2, none⟩ = some (.int .u64 (a2 : Int)) ∧ W.cell? ⟨k8, 3, none⟩ = some (.int .u64 (a3 : Int)) ∧ W.cell? ⟨k8, 4, none⟩ = some (.int .u64 (a4 : Int)) ∧ W.cell? ⟨k9, 0, none⟩ = some (.int .u64 (b0 : Int)) ∧ W.cell? ⟨k9, 1, none⟩ = some (.int .u64 (b1 : Int)) ∧ W.cell? ⟨k9, 2, none⟩ = some (.int .u64 (b2 : Int)) ∧ W.cell? ⟨k9, 3, none⟩ = some (.int .u64 (b3 : Int)) ∧ W.cell? ⟨k9, 4, none⟩ = some (.int .u64 (b4 : Int))) (first | exact T0 | exact T1 | exact T2 | exact T3 | exact T4) (first
          | (go_at_call 89; (with_reducible refine AP.mono ?_); rintro e y1 ⟨L, rfl, hP, hg1⟩; have G1 := grow_trans (grow_drew (grow_alloc (grow_refl _ none) _)) hg1; have T2 := TEN y1 G1; have oL : Ok5 L := hP.1)
          | (go_at_call 87; (with_reducible refine (AT _ L oL).mono ?_); rintro e y2 ⟨M, rfl, oM, hM, hg2⟩; have G2 := grow_trans G1 hg2; have T3 := TEN y2 G2)
          | (go_at_call 139; (with_reducible refine (AX _ M oM).mono ?_); rintro e y3 ⟨rfl, hg3⟩; have G3 := grow_trans G2 hg3; have T4 := TEN y3 G3))
        all_goals
          have HGF := Lib.hid (grow_trans HGE.out G3)
          have hval : lval la * lval L % PP = ladN (leN kl) X % PP := by
            rw [HOUT.out, ← HLN.out]
            unfold mulP
            rw [Nat.mod_mod, Nat.mul_mod, hP.2, HN.out.1, Nat.pow_mod, HN.out.2, ← Nat.pow_mod, ← Nat.mul_mod]
          have HV := Lib.hid hval
          clear hval
          clear G1 G2 G3 hg1 hg2 hg3 T0 T1 T2 T3 T4 TEN AP AT AX gd
          go_wp2_with fail
          go_ret
          refine ⟨?_, HGF.out⟩
          show Ending.returned (Value.string ⟨(leB (lval la * lval L % PP) 32).toArray⟩) = _
          rw [HV.out]

end Go.Proofs.YtmomfbkpniblgaaGreatDoor
