/- Sums of two texts; the plain laws of sums. -/
import Derived.Test.YtmomfbkpniblgaaGreatDoorDgGhashSum
import Derived.Test.YtmomfbkpniblgaaGreatDoorDgWxor
namespace Go.Proofs.YtmomfbkpniblgaaGreatDoor
open Go.RowKit
set_option linter.unusedVariables false

/-- What Sum answers. -/
def hsumL (h l s : List UInt8) : List UInt8 :=
  bigB (ghS (bigN h) (ghS (bigN h) (ghS (bigN h) 0 l) s) (bigB (l.length * 8) 8 ++ bigB (s.length * 8) 8)) 16

theorem hsumL_length (h l s : List UInt8) : (hsumL h l s).length = 16 := bigB_length _ _

set_option maxRecDepth 20000 in
set_option maxRecDepth 100000 in
set_option maxHeartbeats 1000000 in
theorem code_ghsum (w : World) (h l s : List UInt8) (hh : h.length = 16) (hl : l.length ≤ 140737488355328) (hs : s.length ≤ 140737488355328) :
    Calls Tryz.prog 208 #[S h, S l, S s] w fun e w' => e = .returned (.tuple #[S (hsumL h l s), .int .i64 0]) ∧ w.grownBy w' none := by
  have q1 : ((h.length : Int) != 16) = false := by simp; omega
  obtain ⟨B, hB⟩ : ∃ B, B = w.heap.size := ⟨_, rfl⟩
  obtain ⟨x, hx⟩ : ∃ x, x = (w.alloc (.cells #[S h] 9)).alloc (.cells (g2 0).toArray 341) := ⟨_, rfl⟩
  have s1 : (w.alloc (.cells #[S h] 9)).heap.size = B + 1 := by rw [hB]; simp
  have bH : x.cell? ⟨B, 0, none⟩ = some (S h) := by rw [hx, hB, obj_cell (obj_alloc (obj_new w _))]; rfl
  have bY : Blk x (B + 1) 341 (g2 0) := by rw [hx, ← s1]; exact obj_new _ _
  have hgx : w.grownBy x none := by rw [hx]; exact grow_alloc (grow_alloc (grow_refl w none) _) _
  have hBs : w.heap.size ≤ B + 1 := by omega
  obtain ⟨y1, hy1⟩ : ∃ y, y = ghS (bigN h) 0 l := ⟨_, rfl⟩
  obtain ⟨y2, hy2⟩ : ∃ y, y = ghS (bigN h) y1 s := ⟨_, rfl⟩
  obtain ⟨e3, he3⟩ : ∃ e, e = bigB (l.length * 8) 8 ++ bigB (s.length * 8) 8 := ⟨_, rfl⟩
  obtain ⟨y3, hy3⟩ : ∃ y, y = ghS (bigN h) y2 e3 := ⟨_, rfl⟩
  have hn := blk_lt h hh
  have l1 : y1 < 2 ^ 128 := by rw [hy1]; exact ghS_lt hn (by decide) _
  have l2 : y2 < 2 ^ 128 := by rw [hy2]; exact ghS_lt hn l1 _
  have l3 : y3 < 2 ^ 128 := by rw [hy3]; exact ghS_lt hn l2 _
  have hV : hsumL h l s = bigB y3 16 := by rw [hy3, he3, hy2, hy1]; rfl
  rw [hV]
  clear hV
  have T1 : ∀ W : World, Blk W (B + 1) 341 (g2 0) → W.cell? ⟨B, 0, none⟩ = some (S h) → Calls Tryz.prog 257 #[S l, .pointer (some ⟨B + 1, 0, none⟩), .pointer (some ⟨B, 0, none⟩)] W fun e w' => e = .returned (.tuple #[]) ∧ Blk w' (B + 1) 341 (g2 y1) ∧ W.grownBy w' (some (B + 1)) := fun W h1 h2 => by
    have := code_gtake W (B + 1) B 0 h l h1 h2 (by omega) (by decide) hh hl
    rwa [← hy1] at this
  have T2 : ∀ W : World, Blk W (B + 1) 341 (g2 y1) → W.cell? ⟨B, 0, none⟩ = some (S h) → Calls Tryz.prog 257 #[S s, .pointer (some ⟨B + 1, 0, none⟩), .pointer (some ⟨B, 0, none⟩)] W fun e w' => e = .returned (.tuple #[]) ∧ Blk w' (B + 1) 341 (g2 y2) ∧ W.grownBy w' (some (B + 1)) := fun W h1 h2 => by
    have := code_gtake W (B + 1) B y1 h s h1 h2 (by omega) l1 hh hs
    rwa [← hy2] at this
  have T3 : ∀ W : World, Blk W (B + 1) 341 (g2 y2) → W.cell? ⟨B, 0, none⟩ = some (S h) → Calls Tryz.prog 257 #[S e3, .pointer (some ⟨B + 1, 0, none⟩), .pointer (some ⟨B, 0, none⟩)] W fun e w' => e = .returned (.tuple #[]) ∧ Blk w' (B + 1) 341 (g2 y3) ∧ W.grownBy w' (some (B + 1)) := fun W h1 h2 => by
    have := code_gtake W (B + 1) B y2 h e3 h1 h2 (by omega) l2 hh (by rw [he3, List.length_append, bigB_length, bigB_length]; omega)
    rwa [← hy3] at this
  have A4 : ∀ W : World, Calls Tryz.prog 261 #[G2 y3] W (Grown (S (bigB y3 16)) W) := fun W => code_htext W _ l3
  generalize bigB y3 16 = V at *
  obtain ⟨n1, hn1⟩ : ∃ n, n = l.length * 8 := ⟨_, rfl⟩
  obtain ⟨n2, hn2⟩ : ∃ n, n = s.length * 8 := ⟨_, rfl⟩
  have AL1 : ∀ W : World, Calls Tryz.prog 70 #[.slice none 0 0, .int .u64 (n1 : Int), .int .i64 8] W (OwnBytes W W.heap.size (bigB n1 8)) := fun W => by
    have := wire_appendBig W W.heap.size (.slice none 0 0) [] n1 8 (brow_nil _ _) (by omega) (by omega) (by omega) (by simp) (Nat.le_refl _)
    exact this
  have AL2 : ∀ (W : World) (b : Nat) (v : Value), brow W b v (bigB n1 8) → b ≤ W.heap.size → Calls Tryz.prog 70 #[v, .int .u64 (n2 : Int), .int .i64 8] W (OwnBytes W b e3) := fun W b v k1 k2 => by
    have := wire_appendBig W b v (bigB n1 8) n2 8 k1 (by omega) (by omega) (by omega) (by rw [bigB_length]; omega) k2
    rw [show (8 : Int).toNat = 8 from rfl, hn1, hn2, ← he3] at this
    rw [hn2]
    exact this
  have u1 : IntKind.u64.wrap (IntKind.u64.wrap (l.length : Int) * 8) = (n1 : Int) := by rw [IntKind.wrap_u64, IntKind.wrap_u64]; omega
  have u2 : IntKind.u64.wrap (IntKind.u64.wrap (s.length : Int) * 8) = (n2 : Int) := by rw [IntKind.wrap_u64, IntKind.wrap_u64]; omega
  have u3 : (l.length : Int) * 8 = (n1 : Int) := by omega
  have u4 : (s.length : Int) * 8 = (n2 : Int) := by omega
  have HX := Lib.hid hx
  have HB := Lib.hid hB
  have HbH := Lib.hid bH
  have HbY := Lib.hid bY
  have HG := Lib.hid hgx
  clear hx hB s1 bH bY hgx hy1 hy2 hy3 he3 hn1 hn2 hh l1 l2 l3 hn
  unfold S G2 at *
  go_enter Tryz.func208, Tryz.ntmps208
  go_upto_region 5 with (fail)
  rw [← HB.out]
  have hX := HX.out
  unfold g2 at hX
  simp only [show hi64 0 = 0 from rfl, show lo64 0 = 0 from rfl, show ((0 : Nat) : Int) = 0 from rfl] at hX
  rw [← hX]
  clear hX HX
  go_wp2_with fail
  refine (T1 _ HbY.out HbH.out).mono ?_
  rintro e w1 ⟨rfl, hb1, hg1⟩
  have HY1 := Lib.hid hb1
  have HH1 := Lib.hid (hg1.cell (a := ⟨B, 0, none⟩) HbH.out (by simp))
  have HG1 := Lib.hid (grow_trans_new HG.out hg1 hBs)
  clear hb1 hg1 T1 HbY HbH HG
  go_wp2_with fail
  refine (T2 _ HY1.out HH1.out).mono ?_
  rintro e w2 ⟨rfl, hb2, hg2⟩
  have HY2 := Lib.hid hb2
  have HH2 := Lib.hid (hg2.cell (a := ⟨B, 0, none⟩) HH1.out (by simp))
  have HG2 := Lib.hid (grow_trans_new HG1.out hg2 hBs)
  clear hb2 hg2 T2 HY1 HH1 HG1
  go_wp2_with fail
  refine (AL1 _).mono ?_
  rintro e w3 ⟨v3, rfl, hw3, hB3⟩
  go_wp2_with fail
  refine (AL2 _ _ _ hw3 hB3.size).mono ?_
  rintro e w4 ⟨v4, rfl, hw4, hB4⟩
  have hcv := conv_brow hw4
  have hBB := hB3.trans hB4
  have HY4 := Lib.hid (Blk.kept HY2.out (grow_of_below (r := none) hBB) nofun)
  have HH4 := Lib.hid ((hBB.cell (p := ⟨B, 0, none⟩) (by have := HY2.out.lt; show B < _; omega)).trans HH2.out)
  have HG4 := Lib.hid (grow_trans HG2.out (grow_of_below (r := none) hBB))
  clear hw3 hw4 hB3 hB4 hBB AL1 AL2 HY2 HH2 HG2
  unfold S at hcv
  go_wp2_with fail
  refine (T3 _ HY4.out HH4.out).mono ?_
  rintro e w5 ⟨rfl, hb5, hg5⟩
  have HG5 := Lib.hid (grow_trans_new HG4.out hg5 hBs)
  obtain ⟨⟨k0, k1⟩, _⟩ := blk2 hb5
  clear hcv hb5 hg5 T3 HY4 HH4 HG4
  go_wp2_with fail
  refine (A4 _).mono ?_
  rintro e w6 ⟨rfl, hg6⟩
  go_wp2_with fail
  go_ret2
  exact ⟨rfl, grow_trans HG5.out hg6⟩

/- THE PLAIN LAWS. -/
theorem bigN_zeros : ∀ n, bigN (List.replicate n 0) = 0
  | 0 => rfl
  | n + 1 => by
    rw [List.replicate_succ', bigN_snoc, bigN_zeros n]
    rfl
theorem zeros_iff (a : List UInt8) (n : Nat) (h : a.length = n) : a = zerosL n ↔ bigN a = 0 := by
  constructor
  · rintro rfl
    exact bigN_zeros n
  · intro h2
    exact bigN_inj _ _ (by rw [h]; simp [zerosL]) (by rw [h2]; exact (bigN_zeros n).symm)

theorem xor_join (k c d A B : Nat) (hA : A < 2 ^ k) (hB : B < 2 ^ k) : (c * 2 ^ k + A) ^^^ (d * 2 ^ k + B) = (c ^^^ d) * 2 ^ k + (A ^^^ B) := by
  have h1 := hjoin k c A hA
  have h2 := hjoin k d B hB
  have h3 := hjoin k (c ^^^ d) (A ^^^ B) (Nat.xor_lt_two_pow hA hB)
  have hm : 2 ^ k * (c ^^^ d) = 2 ^ k * c ^^^ 2 ^ k * d := by
    apply Nat.eq_of_testBit_eq
    intro i
    rw [Nat.testBit_xor, Nat.testBit_two_pow_mul, Nat.testBit_two_pow_mul, Nat.testBit_two_pow_mul, Nat.testBit_xor]
    by_cases h : k ≤ i <;> simp [h]
  rw [Nat.mul_comm c, Nat.mul_comm d, Nat.mul_comm (c ^^^ d), ← h1, ← h2, ← h3, hm]
  ac_rfl

theorem bigN_xor : ∀ (a b : List UInt8), a.length = b.length → bigN (xorL a b) = bigN a ^^^ bigN b
  | [], [], _ => rfl
  | c :: a, d :: b, h => by
    have hl : a.length = b.length := by simpa using h
    have e : xorL (c :: a) (d :: b) = (c ^^^ d) :: xorL a b := rfl
    have hA := bigN_lt a
    have hB := bigN_lt b
    rw [e, bigN_cons, bigN_cons, bigN_cons, bigN_xor a b hl, xorL_length, hl, Nat.min_self, UInt8.toNat_xor]
    rw [hl] at hA
    rw [show (256 : Nat) = 2 ^ 8 from rfl, ← Nat.pow_mul] at hA hB ⊢
    exact (xor_join _ _ _ _ _ hA hB).symm

/-- Texts of blocks, xored. -/
theorem xor_text (m n : Nat) (hm : m < 2 ^ 128) (hn : n < 2 ^ 128) : xorL (bigB m 16) (bigB n 16) = bigB (m ^^^ n) 16 := by
  refine bigN_inj _ _ (by rw [xorL_length, bigB_length, bigB_length, bigB_length]; rfl) ?_
  rw [bigN_xor _ _ (by rw [bigB_length, bigB_length]), blk_forth hm, blk_forth hn, blk_forth (hxor_lt hm hn)]
theorem text_inj {m n : Nat} (hm : m < 2 ^ 128) (hn : n < 2 ^ 128) (h : bigB m 16 = bigB n 16) : m = n := by
  rw [← blk_forth hm, ← blk_forth hn, h]

theorem sized_xor (a b : List UInt8) (n : Nat) (h : a.length = b.length) : sizedL (xorL a b) n = xorL (sizedL a n) (sizedL b n) := by
  unfold sizedL zerosL xorL
  rw [List.length_zipWith, h, Nat.min_self, List.zipWith_append (by rw [List.length_take, List.length_take, h])]
  congr 1
  · rw [List.take_zipWith]
  · rw [List.zipWith_replicate]
    rw [Nat.min_self]
    rfl

/-- Sums of four texts of which the fourth is noughts, the third the two others', xored. -/
theorem ghF_four {h : Nat} (hh : h < 2 ^ 128) : ∀ (f : Nat) (s t : List UInt8) (a b c d : Nat), s.length = t.length → a < 2 ^ 128 → b < 2 ^ 128 → c < 2 ^ 128 → d < 2 ^ 128 → (a ^^^ b) ^^^ (c ^^^ d) = 0 →
    (ghF h f a s ^^^ ghF h f b t) ^^^ (ghF h f c (xorL s t) ^^^ ghF h f d (zerosL s.length)) = 0
  | 0, s, t, a, b, c, d, _, _, _, _, _, h0 => h0
  | f + 1, s, t, a, b, c, d, hl, ha, hb, hc, hd, h0 => by
    by_cases hs : s = []
    · subst hs
      obtain rfl : t = [] := List.eq_nil_of_length_eq_zero hl.symm
      exact h0
    · have h1 : 0 < s.length := List.length_pos_iff.2 hs
      have ht : t ≠ [] := fun e => by
        rw [e] at hl
        simp only [List.length_nil] at hl
        omega
      have hx : xorL s t ≠ [] := fun e => by
        have := xorL_length s t
        rw [e] at this
        simp only [List.length_nil] at this
        omega
      have hz : zerosL s.length ≠ [] := fun e => by
        have : (zerosL s.length).length = 0 := by rw [e]; rfl
        simp only [zerosL, List.length_replicate] at this
        omega
      rw [ghF, if_neg hs, ghF, if_neg ht, ghF, if_neg hx, ghF, if_neg hz]
      have e1 : (xorL s t).drop 16 = xorL (s.drop 16) (t.drop 16) := by unfold xorL; rw [List.drop_zipWith]
      have e2 : (zerosL s.length).drop 16 = zerosL (s.drop 16).length := by unfold zerosL; rw [List.drop_replicate, List.length_drop]
      have e3 : bigN (sizedL (zerosL s.length) 16) = 0 := by
        have : sizedL (zerosL s.length) 16 = List.replicate 16 0 := by
          unfold sizedL zerosL
          rw [List.length_replicate, List.take_replicate, List.replicate_append_replicate]
          congr 1
          omega
        rw [this]
        exact bigN_zeros 16
      have e4 : bigN (sizedL (xorL s t) 16) = bigN (sizedL s 16) ^^^ bigN (sizedL t 16) := by
        rw [sized_xor _ _ _ hl, bigN_xor _ _ (by rw [sizedL_length, sizedL_length])]
      rw [e1, e2, e3, e4]
      have bs := blk_lt (sizedL s 16) (sizedL_length s 16)
      have bt := blk_lt (sizedL t 16) (sizedL_length t 16)
      refine ghF_four hh f _ _ _ _ _ _ (by rw [List.length_drop, List.length_drop, hl]) (hmul_lt _ hh) (hmul_lt _ hh) (hmul_lt _ hh) (hmul_lt _ hh) ?_
      rw [← hmul_xor_l, ← hmul_xor_l, ← hmul_xor_l]
      generalize bigN (sizedL s 16) = u at *
      generalize bigN (sizedL t 16) = v at *
      have : (a ^^^ u ^^^ (b ^^^ v)) ^^^ (c ^^^ (u ^^^ v) ^^^ (d ^^^ 0)) = ((a ^^^ b) ^^^ (c ^^^ d)) ^^^ ((u ^^^ u) ^^^ (v ^^^ v)) := by
        rw [Nat.xor_zero]
        ac_rfl
      rw [this, h0, Nat.xor_self, Nat.xor_self]
      exact zero_hmul h

theorem ghF_same {h : Nat} (hh : h < 2 ^ 128) (t : List UInt8) : ∀ (f a b c d : Nat), a < 2 ^ 128 → b < 2 ^ 128 → c < 2 ^ 128 → d < 2 ^ 128 → (a ^^^ b) ^^^ (c ^^^ d) = 0 →
    ∀ t : List UInt8, (ghF h f a t ^^^ ghF h f b t) ^^^ (ghF h f c t ^^^ ghF h f d t) = 0
  | 0, a, b, c, d, _, _, _, _, h0, t => h0
  | f + 1, a, b, c, d, ha, hb, hc, hd, h0, t => by
    by_cases ht : t = []
    · rw [ghF, if_pos ht, ghF, if_pos ht, ghF, if_pos ht, ghF, if_pos ht]; exact h0
    · rw [ghF, if_neg ht, ghF, if_neg ht, ghF, if_neg ht, ghF, if_neg ht]
      refine ghF_same hh t f _ _ _ _ (hmul_lt _ hh) (hmul_lt _ hh) (hmul_lt _ hh) (hmul_lt _ hh) ?_ _
      rw [← hmul_xor_l, ← hmul_xor_l, ← hmul_xor_l]
      generalize bigN (sizedL t 16) = u at *
      have : (a ^^^ u ^^^ (b ^^^ u)) ^^^ (c ^^^ u ^^^ (d ^^^ u)) = ((a ^^^ b) ^^^ (c ^^^ d)) ^^^ ((u ^^^ u) ^^^ (u ^^^ u)) := by ac_rfl
      rw [this, h0, Nat.xor_self, Nat.xor_self]
      exact zero_hmul h

/-- GHASH is affine. -/
theorem hsum_four (h l m s t : List UInt8) (hh : h.length = 16) (hl : l.length = m.length) (hs : s.length = t.length) :
    xorL (xorL (hsumL h l s) (hsumL h m t)) (xorL (hsumL h (xorL l m) (xorL s t)) (hsumL h (zerosL l.length) (zerosL s.length))) = zerosL 16 := by
  have hn := blk_lt h hh
  have lx : (xorL l m).length = l.length := by rw [xorL_length, hl, Nat.min_self]
  have lx2 : (xorL s t).length = s.length := by rw [xorL_length, hs, Nat.min_self]
  have lz : ∀ n, (zerosL n).length = n := fun n => by simp [zerosL]
  have z0 : (0 : Nat) < 2 ^ 128 := by decide
  have k1 : (ghS (bigN h) 0 l ^^^ ghS (bigN h) 0 m) ^^^ (ghS (bigN h) 0 (xorL l m) ^^^ ghS (bigN h) 0 (zerosL l.length)) = 0 := by
    unfold ghS
    rw [lx, lz, ← hl]
    exact ghF_four hn _ _ _ _ _ _ _ hl z0 z0 z0 z0 (by decide)
  have a1 := ghS_lt hn z0 l
  have a2 := ghS_lt hn z0 m
  have a3 := ghS_lt hn z0 (xorL l m)
  have a4 := ghS_lt hn z0 (zerosL l.length)
  unfold hsumL
  rw [lx, lx2, lz, lz, ← hl, ← hs]
  generalize ghS (bigN h) 0 l = y1 at *
  generalize ghS (bigN h) 0 m = y2 at *
  generalize ghS (bigN h) 0 (xorL l m) = y3 at *
  generalize ghS (bigN h) 0 (zerosL l.length) = y4 at *
  have k2 : (ghS (bigN h) y1 s ^^^ ghS (bigN h) y2 t) ^^^ (ghS (bigN h) y3 (xorL s t) ^^^ ghS (bigN h) y4 (zerosL s.length)) = 0 := by
    unfold ghS
    rw [lx2, lz, ← hs]
    exact ghF_four hn _ _ _ _ _ _ _ hs a1 a2 a3 a4 k1
  have b1 := ghS_lt hn a1 s
  have b2 := ghS_lt hn a2 t
  have b3 := ghS_lt hn a3 (xorL s t)
  have b4 := ghS_lt hn a4 (zerosL s.length)
  generalize ghS (bigN h) y1 s = z1 at *
  generalize ghS (bigN h) y2 t = z2 at *
  generalize ghS (bigN h) y3 (xorL s t) = z3 at *
  generalize ghS (bigN h) y4 (zerosL s.length) = z4 at *
  generalize bigB (l.length * 8) 8 ++ bigB (s.length * 8) 8 = e
  have k3 : (ghS (bigN h) z1 e ^^^ ghS (bigN h) z2 e) ^^^ (ghS (bigN h) z3 e ^^^ ghS (bigN h) z4 e) = 0 := by
    unfold ghS
    exact ghF_same hn e _ _ _ _ _ b1 b2 b3 b4 k2 _
  have c1 := ghS_lt hn b1 e
  have c2 := ghS_lt hn b2 e
  have c3 := ghS_lt hn b3 e
  have c4 := ghS_lt hn b4 e
  rw [xor_text _ _ c1 c2, xor_text _ _ c3 c4, xor_text _ _ (hxor_lt c1 c2) (hxor_lt c3 c4), k3]
  exact (zeros_iff _ _ (bigB_length _ _)).2 (blk_forth z0)

end Go.Proofs.YtmomfbkpniblgaaGreatDoor
