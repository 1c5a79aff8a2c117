/- The walks of GhashField, GhashNought, GhashLinear. -/
import Derived.Test.YtpeheefpidggfaaGhashOut
import Derived.Test.YtpeheefpidggfaaOpen
namespace Go.Proofs.Ytpeheefpidggfaa
open Go.RowKit
set_option linter.unusedVariables false

theorem listG (s : ByteArray) : ∃ l : List UInt8, s = ⟨l.toArray⟩ ∧ l.length = s.size := ⟨s.data.toList, rfl, by rw [Array.length_toList]; rfl⟩

/-- The product of blocks. -/
def tmsL (a b : List UInt8) : List UInt8 := bigB (hmul (bigN a) (bigN b)) 16
theorem tmsL_length (a b : List UInt8) : (tmsL a b).length = 16 := bigB_length _ _
theorem tmsL_num (a b : List UInt8) (hb : b.length = 16) : bigN (tmsL a b) = hmul (bigN a) (bigN b) := blk_forth (hmul_lt _ (blk_lt b hb))

theorem code_ktimes (w : World) (a b : List UInt8) (ha : a.length = 16) (hb : b.length = 16) : Calls Try.prog 19 #[S a, S b] w (Grown (S (tmsL a b)) w) := by
  have A1 : ∀ W : World, Calls Try.prog 35 #[S a, S b] W fun e w' => e = .returned (.tuple #[S (tmsL a b), .int .i64 0]) ∧ W.grownBy w' none := fun W => code_hmul W a b ha hb
  generalize tmsL a b = V at *
  clear ha hb
  unfold S at *
  go_enter Try.func19, Try.ntmps19
  go_wp2_with fail
  refine (A1 _).mono ?_
  rintro e x ⟨rfl, hg⟩
  go_wp2_with fail
  go_ret
  exact ⟨rfl, hg⟩

theorem tms_comm (a b : List UInt8) (ha : a.length = 16) (hb : b.length = 16) : tmsL b a = tmsL a b := by
  unfold tmsL; rw [hmul_comm (blk_lt b hb) _ (blk_lt a ha)]
theorem tms_assoc (a b c : List UInt8) (ha : a.length = 16) (hb : b.length = 16) (hc : c.length = 16) : tmsL a (tmsL b c) = tmsL (tmsL a b) c := by
  have e1 := tmsL_num b c hc
  have e2 := tmsL_num a b hb
  unfold tmsL at e1 e2 ⊢
  rw [e1, e2, hmul_assoc (blk_lt a ha) (blk_lt b hb) _ (blk_lt c hc)]
theorem tms_xor (a b c : List UInt8) (hb : b.length = 16) (hc : c.length = 16) : xorL (tmsL a b) (tmsL a c) = tmsL a (xorL b c) := by
  unfold tmsL
  rw [xor_text _ _ (hmul_lt _ (blk_lt b hb)) (hmul_lt _ (blk_lt c hc)), bigN_xor b c (by rw [hb, hc]), hmul_xor_r]
theorem tms_zero (a b : List UInt8) (ha : a.length = 16) (hb : b.length = 16) : tmsL a b = zerosL 16 ↔ a = zerosL 16 ∨ b = zerosL 16 := by
  rw [zeros_iff _ 16 (tmsL_length a b), zeros_iff a 16 ha, zeros_iff b 16 hb, tmsL_num a b hb]
  exact hmul_eq_zero (blk_lt a ha) (blk_lt b hb)

def szB (c : UInt8) : List UInt8 := sizedL [c] 16
theorem szB_length (c : UInt8) : (szB c).length = 16 := sizedL_length _ _

theorem tms_one (a : List UInt8) (ha : a.length = 16) : tmsL a (szB 128) = a := by
  unfold tmsL
  rw [show bigN (szB 128) = hOne from by decide +kernel, hmul_one (blk_lt a ha), blk_back a ha]
set_option maxHeartbeats 2000000 in
theorem walk_GhashField (s0 s1 s2 : ByteArray) (w0 : s0.size ≤ maxLen) (w1 : s1.size ≤ maxLen) (w2 : s2.size ≤ maxLen) (w : World) :
    Calls Try.prog 6 #[.string s0, .string s1, .string s2] w fun e w' => e = .returned (.bool true) ∧ Below w.heap.size w w' := by
  obtain ⟨a, rfl, ha⟩ := listG s0
  obtain ⟨b, rfl, hb⟩ := listG s1
  obtain ⟨c, rfl, hc⟩ := listG s2
  unfold maxLen at w0 w1 w2
  rw [← ha] at w0
  rw [← hb] at w1
  rw [← hc] at w2
  clear ha hb hc
  have Z1 : ∀ W : World, Calls Try.prog 17 #[.string ⟨a.toArray⟩, .int .i64 16] W (Grown (S (sizedL a 16)) W) := fun W => code_sized W a 16 w0 (by omega)
  have Z2 : ∀ W : World, Calls Try.prog 17 #[.string ⟨b.toArray⟩, .int .i64 16] W (Grown (S (sizedL b 16)) W) := fun W => code_sized W b 16 w1 (by omega)
  have Z3 : ∀ W : World, Calls Try.prog 17 #[.string ⟨c.toArray⟩, .int .i64 16] W (Grown (S (sizedL c 16)) W) := fun W => code_sized W c 16 w2 (by omega)
  have lA := sizedL_length a 16
  have lB := sizedL_length b 16
  have lC := sizedL_length c 16
  generalize sizedL a 16 = A at *
  generalize sizedL b 16 = B at *
  generalize sizedL c 16 = C at *
  have Z4 : ∀ W : World, Calls Try.prog 17 #[S [128], .int .i64 16] W (Grown (S (szB 128)) W) := fun W => code_sized W [128] 16 (by simp) (by omega)
  have lX : (xorL B C).length = 16 := by rw [xorL_length, lB, lC]; rfl
  have C1 : ∀ W : World, Calls Try.prog 19 #[S A, S B] W (Grown (S (tmsL A B)) W) := fun W => code_ktimes W A B lA lB
  have C2 : ∀ W : World, Calls Try.prog 19 #[S B, S A] W (Grown (S (tmsL A B)) W) := fun W => by rw [← tms_comm A B lA lB]; exact code_ktimes W B A lB lA
  have C3 : ∀ W : World, Calls Try.prog 19 #[S (tmsL A B), S C] W (Grown (S (tmsL (tmsL A B) C)) W) := fun W => code_ktimes W _ C (tmsL_length _ _) lC
  have C4 : ∀ W : World, Calls Try.prog 19 #[S B, S C] W (Grown (S (tmsL B C)) W) := fun W => code_ktimes W B C lB lC
  have C5 : ∀ W : World, Calls Try.prog 19 #[S A, S (tmsL B C)] W (Grown (S (tmsL (tmsL A B) C)) W) := fun W => by rw [← tms_assoc A B C lA lB lC]; exact code_ktimes W A _ lA (tmsL_length _ _)
  have C6 : ∀ W : World, Calls Try.prog 20 #[S B, S C] W (GrowsTo (S (xorL B C)) W) := fun W => keep_xored W B C (by omega) (by omega)
  have C7 : ∀ W : World, Calls Try.prog 19 #[S A, S (xorL B C)] W (Grown (S (tmsL A (xorL B C))) W) := fun W => code_ktimes W A _ lA lX
  have C8 : ∀ W : World, Calls Try.prog 19 #[S A, S C] W (Grown (S (tmsL A C)) W) := fun W => code_ktimes W A C lA lC
  have C9 : ∀ W : World, Calls Try.prog 20 #[S (tmsL A B), S (tmsL A C)] W (GrowsTo (S (tmsL A (xorL B C))) W) := fun W => by
    rw [← tms_xor A B C lB lC]; exact keep_xored W _ _ (by rw [tmsL_length]; omega) (by rw [tmsL_length]; omega)
  have C10 : ∀ W : World, Calls Try.prog 19 #[S A, S (szB 128)] W (Grown (S A) W) := fun W => by
    have := code_ktimes W A (szB 128) lA (szB_length _)
    rw [tms_one A lA] at this
    exact this
  generalize tmsL A (xorL B C) = V5 at *
  generalize tmsL (tmsL A B) C = V2 at *
  generalize tmsL A B = V1 at *
  generalize tmsL B C = V3 at *
  generalize tmsL A C = V4 at *
  generalize xorL B C = X at *
  generalize szB 128 = U at *
  clear lA lB lC lX w0 w1 w2
  have G0 := grow_refl w none
  unfold S GrowsTo at *
  go_enter Try.func6, Try.ntmps6
  go_wp2_with fail
  (with_reducible refine (Z1 _).mono ?_)
  rintro e y0 ⟨rfl, hg0⟩
  have G0_0 := grow_trans G0 hg0
  clear hg0 G0
  go_wp2_with fail
  (with_reducible refine (Z2 _).mono ?_)
  rintro e y1 ⟨rfl, hg1⟩
  have G0_1 := grow_trans G0_0 hg1
  clear hg1 G0_0
  go_wp2_with fail
  (with_reducible refine (Z3 _).mono ?_)
  rintro e y2 ⟨rfl, hg2⟩
  have G0_2 := grow_trans G0_1 hg2
  clear hg2 G0_1
  go_wp2_with fail
  (with_reducible refine (C1 _).mono ?_)
  rintro e y3 ⟨rfl, hg3⟩
  have G0_3 := grow_trans G0_2 hg3
  clear hg3 G0_2
  go_wp2_with fail
  (with_reducible refine (C2 _).mono ?_)
  rintro e y4 ⟨rfl, hg4⟩
  have G0_4 := grow_trans G0_3 hg4
  clear hg4 G0_3
  go_wp2_with fail
  (with_reducible refine (C1 _).mono ?_)
  rintro e y5 ⟨rfl, hg5⟩
  have G0_5 := grow_trans G0_4 hg5
  clear hg5 G0_4
  go_wp2_with fail
  (with_reducible refine (C3 _).mono ?_)
  rintro e y6 ⟨rfl, hg6⟩
  have G0_6 := grow_trans G0_5 hg6
  clear hg6 G0_5
  go_wp2_with fail
  (with_reducible refine (C4 _).mono ?_)
  rintro e y7 ⟨rfl, hg7⟩
  have G0_7 := grow_trans G0_6 hg7
  clear hg7 G0_6
  go_wp2_with fail
  (with_reducible refine (C5 _).mono ?_)
  rintro e y8 ⟨rfl, hg8⟩
  have G0_8 := grow_trans G0_7 hg8
  clear hg8 G0_7
  go_wp2_with fail
  (with_reducible refine (C6 _).mono ?_)
  rintro e y9 ⟨rfl, hg9⟩
  have G0_9 := grow_trans G0_8 hg9
  clear hg9 G0_8
  go_wp2_with fail
  (with_reducible refine (C7 _).mono ?_)
  rintro e y10 ⟨rfl, hg10⟩
  have G0_10 := grow_trans G0_9 hg10
  clear hg10 G0_9
  go_wp2_with fail
  (with_reducible refine (C1 _).mono ?_)
  rintro e y11 ⟨rfl, hg11⟩
  have G0_11 := grow_trans G0_10 hg11
  clear hg11 G0_10
  go_wp2_with fail
  (with_reducible refine (C8 _).mono ?_)
  rintro e y12 ⟨rfl, hg12⟩
  have G0_12 := grow_trans G0_11 hg12
  clear hg12 G0_11
  go_wp2_with fail
  (with_reducible refine (C9 _).mono ?_)
  rintro e y13 ⟨rfl, hg13⟩
  have G0_13 := grow_trans G0_12 hg13
  clear hg13 G0_12
  go_wp2_with fail
  (with_reducible refine (Z4 _).mono ?_)
  rintro e y14 ⟨rfl, hg14⟩
  have G0_14 := grow_trans G0_13 hg14
  clear hg14 G0_13
  go_wp2_with fail
  (with_reducible refine (C10 _).mono ?_)
  rintro e y15 ⟨rfl, hg15⟩
  have G0_15 := grow_trans G0_14 hg15
  clear hg15 G0_14
  go_wp2_with fail
  go_ret
  exact ⟨rfl, grow_below G0_15 _ (Nat.le_refl _) (by simp)⟩

set_option maxHeartbeats 2000000 in
theorem walk_GhashNought (s0 s1 : ByteArray) (w0 : s0.size ≤ maxLen) (w1 : s1.size ≤ maxLen) (w : World) :
    Calls Try.prog 7 #[.string s0, .string s1] w fun e w' => e = .returned (.bool true) ∧ Below w.heap.size w w' := by
  obtain ⟨a, rfl, ha⟩ := listG s0
  obtain ⟨b, rfl, hb⟩ := listG s1
  unfold maxLen at w0 w1
  rw [← ha] at w0
  rw [← hb] at w1
  clear ha hb
  have Z1 : ∀ W : World, Calls Try.prog 17 #[.string ⟨a.toArray⟩, .int .i64 16] W (Grown (S (sizedL a 16)) W) := fun W => code_sized W a 16 w0 (by omega)
  have Z2 : ∀ W : World, Calls Try.prog 17 #[.string ⟨b.toArray⟩, .int .i64 16] W (Grown (S (sizedL b 16)) W) := fun W => code_sized W b 16 w1 (by omega)
  have lA := sizedL_length a 16
  have lB := sizedL_length b 16
  generalize sizedL a 16 = A at *
  generalize sizedL b 16 = B at *
  have Z4 : ∀ W : World, Calls Try.prog 17 #[S [64], .int .i64 16] W (Grown (S (szB 64)) W) := fun W => code_sized W [64] 16 (by simp) (by omega)
  have Z5 : ∀ W : World, Calls Try.prog 17 #[S [32], .int .i64 16] W (Grown (S (szB 32)) W) := fun W => code_sized W [32] 16 (by simp) (by omega)
  have N1 : ∀ W : World, Calls Try.prog 21 #[.int .i64 16] W (Grown (S (zerosL 16)) W) := fun W => code_zeros W 16 (by omega)
  have C1 : ∀ W : World, Calls Try.prog 19 #[S A, S B] W (Grown (S (tmsL A B)) W) := fun W => code_ktimes W A B lA lB
  have C2 : ∀ W : World, Calls Try.prog 19 #[S (szB 64), S (szB 64)] W (Grown (S (szB 32)) W) := fun W => by
    have := code_ktimes W (szB 64) (szB 64) (szB_length _) (szB_length _)
    rw [show tmsL (szB 64) (szB 64) = szB 32 from by decide +kernel] at this
    exact this
  have hz := tms_zero A B lA lB
  generalize tmsL A B = V at *
  generalize zerosL 16 = N at *
  generalize szB 64 = U at *
  generalize szB 32 = U2 at *
  clear lA lB w0 w1
  have G0 := grow_refl w none
  unfold S at *
  by_cases hA : A = N
  · have k1 : V = N := hz.2 (Or.inl hA)
    subst k1 hA
    clear hz
    go_enter Try.func7, Try.ntmps7
    go_wp2_with fail
    refine (Z1 _).mono ?_
    rintro e y0 ⟨rfl, hg0⟩
    have G0_0 := grow_trans G0 hg0
    clear hg0 G0
    go_wp2_with fail
    refine (Z2 _).mono ?_
    rintro e y1 ⟨rfl, hg1⟩
    have G0_1 := grow_trans G0_0 hg1
    clear hg1 G0_0
    go_wp2_with fail
    refine (C1 _).mono ?_
    rintro e y2 ⟨rfl, hg2⟩
    have G0_2 := grow_trans G0_1 hg2
    clear hg2 G0_1
    go_wp2_with fail
    refine (N1 _).mono ?_
    rintro e y3 ⟨rfl, hg3⟩
    have G0_3 := grow_trans G0_2 hg3
    clear hg3 G0_2
    go_wp2_with fail
    refine (N1 _).mono ?_
    rintro e y4 ⟨rfl, hg4⟩
    have G0_4 := grow_trans G0_3 hg4
    clear hg4 G0_3
    go_wp2_with fail
    refine (Z4 _).mono ?_
    rintro e y5 ⟨rfl, hg5⟩
    have G0_5 := grow_trans G0_4 hg5
    clear hg5 G0_4
    go_wp2_with fail
    refine (Z4 _).mono ?_
    rintro e y6 ⟨rfl, hg6⟩
    have G0_6 := grow_trans G0_5 hg6
    clear hg6 G0_5
    go_wp2_with fail
    refine (C2 _).mono ?_
    rintro e y7 ⟨rfl, hg7⟩
    have G0_7 := grow_trans G0_6 hg7
    clear hg7 G0_6
    go_wp2_with fail
    refine (Z5 _).mono ?_
    rintro e y8 ⟨rfl, hg8⟩
    have G0_8 := grow_trans G0_7 hg8
    clear hg8 G0_7
    go_wp2_with fail
    go_ret
    exact ⟨rfl, grow_below G0_8 _ (Nat.le_refl _) (by simp)⟩
  · by_cases hB : B = N
    · have k1 : V = N := hz.2 (Or.inr hB)
      have q1 : (A == N) = false := by simpa using hA
      subst k1 hB
      clear hz hA
      go_enter Try.func7, Try.ntmps7
      go_wp2_with fail
      refine (Z1 _).mono ?_
      rintro e y0 ⟨rfl, hg0⟩
      have G0_0 := grow_trans G0 hg0
      clear hg0 G0
      go_wp2_with fail
      refine (Z2 _).mono ?_
      rintro e y1 ⟨rfl, hg1⟩
      have G0_1 := grow_trans G0_0 hg1
      clear hg1 G0_0
      go_wp2_with fail
      refine (C1 _).mono ?_
      rintro e y2 ⟨rfl, hg2⟩
      have G0_2 := grow_trans G0_1 hg2
      clear hg2 G0_1
      go_wp2_with fail
      refine (N1 _).mono ?_
      rintro e y3 ⟨rfl, hg3⟩
      have G0_3 := grow_trans G0_2 hg3
      clear hg3 G0_2
      go_wp2_with fail
      refine (N1 _).mono ?_
      rintro e y4 ⟨rfl, hg4⟩
      have G0_4 := grow_trans G0_3 hg4
      clear hg4 G0_3
      go_wp2_with fail
      refine (N1 _).mono ?_
      rintro e y5 ⟨rfl, hg5⟩
      have G0_5 := grow_trans G0_4 hg5
      clear hg5 G0_4
      go_wp2_with fail
      refine (Z4 _).mono ?_
      rintro e y6 ⟨rfl, hg6⟩
      have G0_6 := grow_trans G0_5 hg6
      clear hg6 G0_5
      go_wp2_with fail
      refine (Z4 _).mono ?_
      rintro e y7 ⟨rfl, hg7⟩
      have G0_7 := grow_trans G0_6 hg7
      clear hg7 G0_6
      go_wp2_with fail
      refine (C2 _).mono ?_
      rintro e y8 ⟨rfl, hg8⟩
      have G0_8 := grow_trans G0_7 hg8
      clear hg8 G0_7
      go_wp2_with fail
      refine (Z5 _).mono ?_
      rintro e y9 ⟨rfl, hg9⟩
      have G0_9 := grow_trans G0_8 hg9
      clear hg9 G0_8
      go_wp2_with fail
      go_ret
      exact ⟨rfl, grow_below G0_9 _ (Nat.le_refl _) (by simp)⟩
    · have q1 : (A == N) = false := by simpa using hA
      have q2 : (B == N) = false := by simpa using hB
      have q3 : (V == N) = false := by
        have : ¬ V = N := fun h => by rcases hz.1 h with h | h <;> contradiction
        simpa using this
      clear hz hA hB
      go_enter Try.func7, Try.ntmps7
      go_wp2_with fail
      refine (Z1 _).mono ?_
      rintro e y0 ⟨rfl, hg0⟩
      have G0_0 := grow_trans G0 hg0
      clear hg0 G0
      go_wp2_with fail
      refine (Z2 _).mono ?_
      rintro e y1 ⟨rfl, hg1⟩
      have G0_1 := grow_trans G0_0 hg1
      clear hg1 G0_0
      go_wp2_with fail
      refine (C1 _).mono ?_
      rintro e y2 ⟨rfl, hg2⟩
      have G0_2 := grow_trans G0_1 hg2
      clear hg2 G0_1
      go_wp2_with fail
      refine (N1 _).mono ?_
      rintro e y3 ⟨rfl, hg3⟩
      have G0_3 := grow_trans G0_2 hg3
      clear hg3 G0_2
      go_wp2_with fail
      refine (N1 _).mono ?_
      rintro e y4 ⟨rfl, hg4⟩
      have G0_4 := grow_trans G0_3 hg4
      clear hg4 G0_3
      go_wp2_with fail
      refine (N1 _).mono ?_
      rintro e y5 ⟨rfl, hg5⟩
      have G0_5 := grow_trans G0_4 hg5
      clear hg5 G0_4
      go_wp2_with fail
      refine (Z4 _).mono ?_
      rintro e y6 ⟨rfl, hg6⟩
      have G0_6 := grow_trans G0_5 hg6
      clear hg6 G0_5
      go_wp2_with fail
      refine (Z4 _).mono ?_
      rintro e y7 ⟨rfl, hg7⟩
      have G0_7 := grow_trans G0_6 hg7
      clear hg7 G0_6
      go_wp2_with fail
      refine (C2 _).mono ?_
      rintro e y8 ⟨rfl, hg8⟩
      have G0_8 := grow_trans G0_7 hg8
      clear hg8 G0_7
      go_wp2_with fail
      refine (Z5 _).mono ?_
      rintro e y9 ⟨rfl, hg9⟩
      have G0_9 := grow_trans G0_8 hg9
      clear hg9 G0_8
      go_wp2_with fail
      go_ret
      exact ⟨rfl, grow_below G0_9 _ (Nat.le_refl _) (by simp)⟩

set_option maxHeartbeats 2000000 in
theorem walk_GhashLinear (s0 s1 s2 s3 s4 : ByteArray) (w0 : s0.size ≤ maxLen) (w1 : s1.size ≤ maxLen) (w2 : s2.size ≤ maxLen) (w3 : s3.size ≤ maxLen) (w4 : s4.size ≤ maxLen) (w : World) (z0 : s0.size ≤ 140737488351232) (z1 : s1.size ≤ 140737488351232) (z2 : s2.size ≤ 140737488351232) (z3 : s3.size ≤ 140737488351232) (z4 : s4.size ≤ 140737488351232) :
    Calls Try.prog 8 #[.string s0, .string s1, .string s2, .string s3, .string s4] w fun e w' => e = .returned (.bool true) ∧ Below w.heap.size w w' := by
  obtain ⟨h, rfl, hh⟩ := listG s0
  obtain ⟨l, rfl, hl⟩ := listG s1
  obtain ⟨m, rfl, hm⟩ := listG s2
  obtain ⟨s, rfl, hs⟩ := listG s3
  obtain ⟨t, rfl, ht⟩ := listG s4
  rw [← hh] at z0
  rw [← hl] at z1
  rw [← hm] at z2
  rw [← hs] at z3
  rw [← ht] at z4
  clear hh hl hm hs ht w0 w1 w2 w3 w4
  have Z1 : ∀ W : World, Calls Try.prog 17 #[.string ⟨h.toArray⟩, .int .i64 16] W (Grown (S (sizedL h 16)) W) := fun W => code_sized W h 16 (by omega) (by omega)
  have Z2 : ∀ W : World, Calls Try.prog 17 #[.string ⟨m.toArray⟩, .int .i64 l.length] W (Grown (S (sizedL m l.length)) W) := fun W => code_sized W m l.length (by omega) (by omega)
  have Z3 : ∀ W : World, Calls Try.prog 17 #[.string ⟨t.toArray⟩, .int .i64 s.length] W (Grown (S (sizedL t s.length)) W) := fun W => code_sized W t s.length (by omega) (by omega)
  have lH := sizedL_length h 16
  have lM := sizedL_length m l.length
  have lT := sizedL_length t s.length
  generalize sizedL h 16 = H at *
  generalize sizedL m l.length = M at *
  generalize sizedL t s.length = T at *
  have lx1 : (xorL l M).length = l.length := by rw [xorL_length, lM, Nat.min_self]
  have lx2 : (xorL s T).length = s.length := by rw [xorL_length, lT, Nat.min_self]
  have lz : ∀ n, (zerosL n).length = n := fun n => by simp [zerosL]
  have C1 : ∀ W : World, Calls Try.prog 22 #[S H, S l, S s] W fun e w' => e = .returned (.tuple #[S (hsumL H l s), .int .i64 0]) ∧ W.grownBy w' none := fun W => code_hsum W H l s lH (by omega) (by omega)
  have C2 : ∀ W : World, Calls Try.prog 22 #[S H, S M, S T] W fun e w' => e = .returned (.tuple #[S (hsumL H M T), .int .i64 0]) ∧ W.grownBy w' none := fun W => code_hsum W H M T lH (by omega) (by omega)
  have C3 : ∀ W : World, Calls Try.prog 22 #[S H, S (xorL l M), S (xorL s T)] W fun e w' => e = .returned (.tuple #[S (hsumL H (xorL l M) (xorL s T)), .int .i64 0]) ∧ W.grownBy w' none := fun W => code_hsum W H _ _ lH (by omega) (by omega)
  have C4 : ∀ W : World, Calls Try.prog 22 #[S H, S (zerosL l.length), S (zerosL s.length)] W fun e w' => e = .returned (.tuple #[S (hsumL H (zerosL l.length) (zerosL s.length)), .int .i64 0]) ∧ W.grownBy w' none := fun W => code_hsum W H _ _ lH (by rw [lz]; omega) (by rw [lz]; omega)
  have X1 : ∀ W : World, Calls Try.prog 20 #[S l, S M] W (GrowsTo (S (xorL l M)) W) := fun W => keep_xored W l M (by omega) (by omega)
  have X2 : ∀ W : World, Calls Try.prog 20 #[S s, S T] W (GrowsTo (S (xorL s T)) W) := fun W => keep_xored W s T (by omega) (by omega)
  have N1 : ∀ W : World, Calls Try.prog 21 #[.int .i64 l.length] W (Grown (S (zerosL l.length)) W) := fun W => code_zeros W _ (by omega)
  have N2 : ∀ W : World, Calls Try.prog 21 #[.int .i64 s.length] W (Grown (S (zerosL s.length)) W) := fun W => code_zeros W _ (by omega)
  have N3 : ∀ W : World, Calls Try.prog 21 #[.int .i64 16] W (Grown (S (zerosL 16)) W) := fun W => code_zeros W 16 (by omega)
  have hf := hsum_four H l M s T lH lM.symm lT.symm
  have l1 := hsumL_length H l s
  have l2 := hsumL_length H M T
  have l3 := hsumL_length H (xorL l M) (xorL s T)
  have l4 := hsumL_length H (zerosL l.length) (zerosL s.length)
  generalize hsumL H (xorL l M) (xorL s T) = V3 at *
  generalize hsumL H (zerosL l.length) (zerosL s.length) = V4 at *
  generalize hsumL H l s = V1 at *
  generalize hsumL H M T = V2 at *
  have X3 : ∀ W : World, Calls Try.prog 20 #[S V1, S V2] W (GrowsTo (S (xorL V1 V2)) W) := fun W => keep_xored W V1 V2 (by omega) (by omega)
  have X4 : ∀ W : World, Calls Try.prog 20 #[S V3, S V4] W (GrowsTo (S (xorL V3 V4)) W) := fun W => keep_xored W V3 V4 (by omega) (by omega)
  have X5 : ∀ W : World, Calls Try.prog 20 #[S (xorL V1 V2), S (xorL V3 V4)] W (GrowsTo (S (zerosL 16)) W) := fun W => by
    have := keep_xored W (xorL V1 V2) (xorL V3 V4) (by rw [xorL_length]; omega) (by rw [xorL_length]; omega)
    rwa [hf] at this
  have q1 : ((V1.length : Int) == 16) = true := by simp; omega
  clear hf l1 l2 l3 l4 lx1 lx2 lz lM lT lH z0 z2 z4
  generalize zerosL l.length = zl at *
  generalize zerosL s.length = zs at *
  generalize zerosL 16 = z16 at *
  generalize xorL l M = x1 at *
  generalize xorL s T = x2 at *
  generalize xorL V1 V2 = x3 at *
  generalize xorL V3 V4 = x4 at *
  have G0 := grow_refl w none
  unfold S GrowsTo at *
  go_enter Try.func8, Try.ntmps8
  go_wp2_with fail
  refine (Z1 _).mono ?_
  rintro e y0 ⟨rfl, hg0⟩
  have G0_0 := grow_trans G0 hg0
  clear hg0 G0
  go_wp2_with fail
  refine (Z2 _).mono ?_
  rintro e y1 ⟨rfl, hg1⟩
  have G0_1 := grow_trans G0_0 hg1
  clear hg1 G0_0
  go_wp2_with fail
  refine (Z3 _).mono ?_
  rintro e y2 ⟨rfl, hg2⟩
  have G0_2 := grow_trans G0_1 hg2
  clear hg2 G0_1
  go_wp2_with fail
  refine (C1 _).mono ?_
  rintro e y3 ⟨rfl, hg3⟩
  have G0_3 := grow_trans G0_2 hg3
  clear hg3 G0_2
  go_wp2_with fail
  refine (C2 _).mono ?_
  rintro e y4 ⟨rfl, hg4⟩
  have G0_4 := grow_trans G0_3 hg4
  clear hg4 G0_3
  go_wp2_with fail
  refine (X1 _).mono ?_
  rintro e y5 ⟨rfl, hg5⟩
  have G0_5 := grow_trans G0_4 hg5
  clear hg5 G0_4
  go_wp2_with fail
  refine (X2 _).mono ?_
  rintro e y6 ⟨rfl, hg6⟩
  have G0_6 := grow_trans G0_5 hg6
  clear hg6 G0_5
  go_wp2_with fail
  refine (C3 _).mono ?_
  rintro e y7 ⟨rfl, hg7⟩
  have G0_7 := grow_trans G0_6 hg7
  clear hg7 G0_6
  go_wp2_with fail
  refine (N1 _).mono ?_
  rintro e y8 ⟨rfl, hg8⟩
  have G0_8 := grow_trans G0_7 hg8
  clear hg8 G0_7
  go_wp2_with fail
  refine (N2 _).mono ?_
  rintro e y9 ⟨rfl, hg9⟩
  have G0_9 := grow_trans G0_8 hg9
  clear hg9 G0_8
  go_wp2_with fail
  refine (C4 _).mono ?_
  rintro e y10 ⟨rfl, hg10⟩
  have G0_10 := grow_trans G0_9 hg10
  clear hg10 G0_9
  go_wp2_with fail
  refine (X3 _).mono ?_
  rintro e y11 ⟨rfl, hg11⟩
  have G0_11 := grow_trans G0_10 hg11
  clear hg11 G0_10
  go_wp2_with fail
  refine (X4 _).mono ?_
  rintro e y12 ⟨rfl, hg12⟩
  have G0_12 := grow_trans G0_11 hg12
  clear hg12 G0_11
  go_wp2_with fail
  refine (X5 _).mono ?_
  rintro e y13 ⟨rfl, hg13⟩
  have G0_13 := grow_trans G0_12 hg13
  clear hg13 G0_12
  go_wp2_with fail
  refine (N3 _).mono ?_
  rintro e y14 ⟨rfl, hg14⟩
  have G0_14 := grow_trans G0_13 hg14
  clear hg14 G0_13
  go_wp2_with fail
  go_ret
  exact ⟨rfl, grow_below G0_14 _ (Nat.le_refl _) (by simp)⟩

end Go.Proofs.Ytpeheefpidggfaa
