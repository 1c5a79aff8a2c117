/- Blocks as polynomials: read, text, plus, times. -/
import Derived.Test.YtmomfbkpniblgaaGreatDoorDg07
import Derived.Test.YtmomfbkpniblgaaGreatDoorDg13
import Derived.Test.YtmomfbkpniblgaaGreatDoorDg04
import Derived.Deep.DeepCutAuto
import Derived.Deep.Cut
import Derived.StillTailTactics
namespace Go.Proofs.YtmomfbkpniblgaaGreatDoor
open Go.RowKit
set_option linter.unusedVariables false

def g2 (n : Nat) : List Value := [.int .u64 (hi64 n : Nat), .int .u64 (lo64 n : Nat)]
theorem blk2 {w : World} {B : Nat} {a b : Value} (h : Blk w B 341 [a, b]) : (w.cell? ⟨B, 0, none⟩ = some a ∧ w.cell? ⟨B, 1, none⟩ = some b) ∧ w.frozen? ⟨B, 0, none⟩ = false ∧ w.frozen? ⟨B, 1, none⟩ = false :=
  ⟨⟨h.cell 0, h.cell 1⟩, h.frozen 0, h.frozen 1⟩
theorem blk2_set {w : World} {B : Nat} {a b : Value} (h : Blk w B 341 [a, b]) (p q : Value) : Blk ((w.setCell ⟨B, 0, none⟩ p).setCell ⟨B, 1, none⟩ q) B 341 [p, q] := (h.set 0 p).set 1 q
theorem blk2_set' {w : World} {B : Nat} {a b : Value} (h : Blk w B 341 [a, b]) (p q : Value) : Blk ((w.setCell ⟨B, 1, none⟩ q).setCell ⟨B, 0, none⟩ p) B 341 [p, q] := (h.set 1 q).set 0 p
theorem grow2 {a w : World} {B : Nat} {r : Option Nat} (h : a.grownBy w r) (hB : a.heap.size ≤ B) (i j : Nat) (p q : Value) : a.grownBy ((w.setCell ⟨B, i, none⟩ p).setCell ⟨B, j, none⟩ q) r :=
  grow_setCell_new (grow_setCell_new h _ hB _) _ hB _

set_option maxRecDepth 100000 in
set_option maxHeartbeats 1000000 in
theorem code_hplus (w : World) (a b : Nat) (ha : a < 2 ^ 128) (hb : b < 2 ^ 128) :
    Calls Tryz.prog 258 #[G2 a, G2 b] w (Grown (G2 (a ^^^ b)) w) := by
  have x1 := u64_xor_nat (hi64 a) (hi64 b) (hi64_lt ha) (hi64_lt hb)
  have x2 := u64_xor_nat (lo64 a) (lo64 b) (lo64_lt a) (lo64_lt b)
  rw [← hi64_xor] at x1
  rw [← lo64_xor] at x2
  unfold G2
  generalize hi64 (a ^^^ b) = ch at *
  generalize lo64 (a ^^^ b) = cl at *
  generalize hi64 a = ah at *
  generalize lo64 a = al at *
  generalize hi64 b = bh at *
  generalize lo64 b = bl at *
  clear ha hb
  go_enter Tryz.func258, Tryz.ntmps258
  go_wp2_with fail
  refine bodyPost_ret (v := .agg #[.int .u64 (ch : Int), .int .u64 (cl : Int)]) (by simp [results, Tryz.results258, go_sem]) rfl ?_
  exact ⟨rfl, grow_alloc (grow_alloc (grow_alloc (grow_refl w none) _) _) _⟩

set_option maxRecDepth 100000 in
set_option maxHeartbeats 1000000 in
theorem code_hread (w : World) (l : List UInt8) (hl : l.length = 16) :
    Calls Tryz.prog 259 #[S l] w (Grown (G2 (bigN l)) w) := by
  obtain ⟨h1, h2⟩ := blk_words l hl
  have A1 : ∀ W : World, Calls Tryz.prog 247 #[S (l.take 8)] W fun e w' => e = .returned (.int .u64 (bigN (l.take 8))) ∧ w' = W := fun W => (wire_big W (l.take 8) (by rw [List.length_take]; omega)).mono (fun e w' h => ⟨h.1, h.2.symm⟩)
  have A2 : ∀ W : World, Calls Tryz.prog 247 #[S (l.drop 8)] W fun e w' => e = .returned (.int .u64 (bigN (l.drop 8))) ∧ w' = W := fun W => (wire_big W (l.drop 8) (by rw [List.length_drop]; omega)).mono (fun e w' h => ⟨h.1, h.2.symm⟩)
  have e1 : List.take (8 - 0) (List.drop 0 l) = l.take 8 := by simp
  have e2 : List.take (l.length - 8) (List.drop 8 l) = l.drop 8 := List.take_of_length_le (by simp)
  have b1 : (8 : Int) ≤ (l.length : Int) := by omega
  have r2 := rule_ext
  unfold G2
  rw [h1, h2]
  clear h1 h2 hl
  generalize bigN (l.take 8) = u at *
  generalize bigN (l.drop 8) = v at *
  unfold S at *
  go_enter Tryz.func259, Tryz.ntmps259
  go_wp2_with fail
  go_still_tail 7, (by kernel_rfl)
  still_call (A1 _)
  repeat still_step
  still_call (A2 _)
  repeat still_step
  refine wpStill_nil ?_
  change wpList _ _ _ _ _ (w.alloc (.cells #[.int .u64 0, .int .u64 0] 341)).drew
  clear A1 A2 e1 e2
  go_wp2_with fail
  refine bodyPost_ret (v := .agg #[.int .u64 (u : Int), .int .u64 (v : Int)]) (by simp [results, Tryz.results259, go_sem]) rfl ?_
  exact ⟨rfl, grow_drew (grow_alloc (grow_refl w none) _)⟩

set_option maxRecDepth 100000 in
set_option maxHeartbeats 1000000 in
theorem code_htext (w : World) (n : Nat) (hn : n < 2 ^ 128) :
    Calls Tryz.prog 261 #[G2 n] w (Grown (S (bigB n 16)) w) := by
  have HT := Lib.hid (blk_text hn)
  have h1 := hi64_lt hn
  have h2 := lo64_lt n
  unfold G2
  generalize hi64 n = u at *
  generalize lo64 n = v at *
  clear hn
  have AL1 : ∀ W : World, Calls Tryz.prog 70 #[.slice none 0 0, .int .u64 (u : Int), .int .i64 8] W (OwnBytes W W.heap.size (bigB u 8)) := fun W => by
    have := wire_appendBig W W.heap.size (.slice none 0 0) [] u 8 (brow_nil _ _) h1 (by omega) (by omega) (by simp) (Nat.le_refl _)
    exact this
  have AL2 : ∀ (W : World) (b : Nat) (x : Value), brow W b x (bigB u 8) → b ≤ W.heap.size → Calls Tryz.prog 70 #[x, .int .u64 (v : Int), .int .i64 8] W (OwnBytes W b (bigB n 16)) := fun W b x k1 k2 => by
    have := wire_appendBig W b x (bigB u 8) v 8 k1 h2 (by omega) (by omega) (by rw [bigB_length]; omega) k2
    rw [show (8 : Int).toNat = 8 from rfl, HT.out] at this
    exact this
  clear h1 h2
  unfold S
  go_enter Tryz.func261, Tryz.ntmps261
  go_wp2_with fail
  obtain ⟨y, hy⟩ : ∃ y, y = w.alloc (.cells #[.int .u64 (u : Int), .int .u64 (v : Int)] 341) := ⟨_, rfl⟩
  obtain ⟨B, hB⟩ : ∃ B, B = w.heap.size := ⟨_, rfl⟩
  have hblk : Blk y B 341 [.int .u64 (u : Int), .int .u64 (v : Int)] := by rw [hy, hB]; exact obj_new w _
  have hgy : w.grownBy y none := by rw [hy]; exact grow_alloc (grow_refl w none) _
  rw [← hy, ← hB]
  clear hy hB
  obtain ⟨⟨k0, k1⟩, _⟩ := blk2 hblk
  have hyl := hblk.lt
  clear hblk
  go_region_with
    (first
      | (go_at_call 70; (with_reducible refine (AL1 _).mono ?_); rintro e w7 ⟨t1, rfl, hb1, hB1⟩; have k1' := (hB1.cell (p := ⟨B, 1, none⟩) hyl).trans k1)
      | (go_at_call 70; (with_reducible refine (AL2 _ _ _ hb1 hB1.size).mono ?_); rintro e w8 ⟨t2, rfl, hb2, hB2⟩; have hc := conv_brow hb2; unfold S at hc))
  all_goals
    clear AL1 AL2
    go_wp2_with fail
    go_ret
    exact ⟨rfl, grow_trans (grow_drew hgy) (grow_of_below (hB1.trans hB2))⟩

set_option maxRecDepth 20000 in
set_option maxRecDepth 100000 in
set_option maxHeartbeats 2000000 in
theorem code_htimes (w : World) (p q : Nat) (hp : p < 2 ^ 128) (hq : q < 2 ^ 128) :
    Calls Tryz.prog 260 #[G2 p, G2 q] w (Grown (G2 (hmul p q)) w) := by
  have HP := Lib.hid hp
  have lph := hi64_lt hp
  have lpl := lo64_lt p
  obtain ⟨B, hB⟩ : ∃ B, B = w.heap.size := ⟨_, rfl⟩
  obtain ⟨x, hx⟩ : ∃ x, x = (((w.alloc (.cells (g2 p).toArray 341)).alloc (.cells (g2 q).toArray 341)).alloc (.cells (g2 0).toArray 341)).alloc (.cells (g2 0).toArray 341) := ⟨_, rfl⟩
  have s1 : (w.alloc (.cells (g2 p).toArray 341)).heap.size = B + 1 := by rw [hB]; simp
  have s2 : ((w.alloc (.cells (g2 p).toArray 341)).alloc (.cells (g2 q).toArray 341)).heap.size = B + 1 + 1 := by rw [hB]; simp
  have s3 : (((w.alloc (.cells (g2 p).toArray 341)).alloc (.cells (g2 q).toArray 341)).alloc (.cells (g2 0).toArray 341)).heap.size = B + 1 + 1 + 1 := by rw [hB]; simp
  have bP : Blk x B 341 (g2 p) := by rw [hx, hB]; exact obj_alloc (obj_alloc (obj_alloc (obj_new w _)))
  have bQ : Blk x (B + 1) 341 (g2 q) := by rw [hx, ← s1]; exact obj_alloc (obj_alloc (obj_new _ _))
  have bR : Blk x (B + 1 + 1) 341 (g2 0) := by rw [hx, ← s2]; exact obj_alloc (obj_new _ _)
  have bO : Blk x (B + 1 + 1 + 1) 341 (g2 0) := by rw [hx, ← s3]; exact obj_new _ _
  have hgx : w.grownBy x none := by rw [hx]; exact grow_alloc (grow_alloc (grow_alloc (grow_alloc (grow_refl w none) _) _) _) _
  have HX := Lib.hid hx
  have HB := Lib.hid hB
  have HbP := Lib.hid bP
  have HbQ := Lib.hid bQ
  have HbR := Lib.hid bR
  have HbO := Lib.hid bO
  have HG := Lib.hid hgx
  have hBs : w.heap.size ≤ B := by omega
  clear hx hB s1 s2 s3 bP bQ bR bO hgx
  unfold G2
  go_enter Tryz.func260, Tryz.ntmps260
  go_wp2_with fail
  rw [← HB.out]
  have hX := HX.out
  unfold g2 at hX
  simp only [show hi64 0 = 0 from rfl, show lo64 0 = 0 from rfl, show ((0 : Nat) : Int) = 0 from rfl] at hX
  rw [← hX]
  clear hX
  go_loopw [6, 7, 8, 9] (fun v6 v7 v8 vi wr => ∃ i n r : Nat, i ≤ 128 ∧ vi = .int .i64 i ∧ n < 2 ^ 128 ∧ r < 2 ^ 128 ∧ Hid (hm (128 - i) n p r = hmul p q) ∧ Hid (Blk wr B 341 (g2 p)) ∧ Hid (Blk wr (B + 1) 341 (g2 r)) ∧ Hid (Blk wr (B + 1 + 1) 341 (g2 0)) ∧ Hid (Blk wr (B + 1 + 1 + 1) 341 (g2 n)) ∧ Hid (w.grownBy wr none)) (fun _ _ _ vi _ => 128 - (intOf vi).toNat)
  case atStart => exact ⟨0, 0, q, by omega, rfl, by decide, hq, Lib.hid rfl, HbP, HbQ, HbR, HbO, HG⟩
  case round =>
    clear HbP HbQ HbR HbO HG HX hp hq
    obtain ⟨i, n, r, hi, rfl, hn, hr, hE, hbP, hbQ, hbR, hbO, hg⟩ := hrel
    by_cases hlt : i < 128
    · have hd : decide ((i : Int) < 128) = true := by simp; omega
      obtain ⟨⟨p0, p1⟩, _⟩ := blk2 hbP.out
      obtain ⟨t, ht, ht2⟩ : ∃ t : Nat, t = p / 2 ^ (127 - i) % 2 ∧ t < 2 := ⟨_, rfl, by omega⟩
      have hnx : Hid (hm (127 - i) (n ^^^ t * r) p (qx r) = hmul p q) := Lib.hid (by
        rw [← hE.out, show 128 - i = (127 - i) + 1 from by omega, hm, ht])
      have HN := Lib.hid hn
      have HRr := Lib.hid hr
      clear hn hr
      obtain ⟨sh, hsh, hsl⟩ : ∃ sh : Nat, 63 - (i : Int) % 64 = (sh : Int) ∧ sh = 63 - i % 64 := ⟨63 - i % 64, by omega, rfl⟩
      go_upto_if 15 with (fail)
      go_cut [7] (fun v7 wx => ∃ wd : Nat, v7 = .int .u64 (wd : Int) ∧ wd < 18446744073709551616 ∧ Hid (wd / 2 ^ sh % 2 = t) ∧ wx = wr)
      case first =>
        by_cases h64 : i < 64
        · have q : ¬ (64 : Int) ≤ (i : Int) := by omega
          have hw : Hid (hi64 p / 2 ^ sh % 2 = t) := Lib.hid (by rw [ht, bit_hi h64, hsl, Nat.mod_eq_of_lt h64])
          clear ht
          go_wp2_with fail
          go_meet
          exact ⟨_, rfl, lph, hw, rfl⟩
        · have q : (64 : Int) ≤ (i : Int) := by omega
          have hw : Hid (lo64 p / 2 ^ sh % 2 = t) := Lib.hid (by rw [ht, bit_lo (by omega) hlt, hsl])
          clear ht
          go_wp2_with fail
          go_meet
          exact ⟨_, rfl, lpl, hw, rfl⟩
      case rest =>
        obtain ⟨wd, rfl, lwd, hwt, rfl⟩ := hcut
        have q1 : (0 : Int) ≤ (sh : Int) := by omega
        have q2 : (sh : Int) ≤ 63 := by omega
        clear p0 p1 ht hsl
        have hA : bits .and .u64 ((wd : Int) / 2 ^ sh) 1 = (t : Int) := by
          have e : ((wd : Int) / 2 ^ sh) = ((wd / 2 ^ sh : Nat) : Int) := by simp
          have hle : wd / 2 ^ sh ≤ wd := Nat.div_le_self _ _
          have := u64_and_nat (wd / 2 ^ sh) 1 (by omega) (by omega)
          rw [e]
          rw [show ((1 : Nat) : Int) = 1 from rfl] at this
          rw [this, Nat.and_one_is_mod, hwt.out]
        have HNx := Lib.hid (show n ^^^ t * r < 2 ^ 128 from hxor_lt HN.out (hbit_lt ht2 HRr.out))
        go_upto_if 24 with (fail)
        go_cut [7] (fun v7 wx => Hid (Blk wx B 341 (g2 p)) ∧ Hid (Blk wx (B + 1) 341 (g2 r)) ∧ Hid (Blk wx (B + 1 + 1) 341 (g2 0)) ∧ Hid (Blk wx (B + 1 + 1 + 1) 341 (g2 (n ^^^ t * r))) ∧ Hid (w.grownBy wx none))
        case first =>
          clear HNx
          rcases (show t = 0 ∨ t = 1 by omega) with h0 | h1
          · subst h0
            have hz : Hid (n ^^^ 0 * r = n) := Lib.hid (by rw [Nat.zero_mul, Nat.xor_zero])
            go_wp2_with fail
            go_meet
            exact ⟨hbP, hbQ, hbR, Lib.hid (by rw [hz.out]; exact hbO.out), hg⟩
          · subst h1
            have hz : Hid (n ^^^ 1 * r = n ^^^ r) := Lib.hid (by rw [Nat.one_mul])
            obtain ⟨⟨o0, o1⟩, _⟩ := blk2 hbO.out
            obtain ⟨⟨r0, r1⟩, _⟩ := blk2 hbQ.out
            have A1 : ∀ W : World, Calls Tryz.prog 258 #[.agg #[.int .u64 (hi64 n : Nat), .int .u64 (lo64 n : Nat)], .agg #[.int .u64 (hi64 r : Nat), .int .u64 (lo64 r : Nat)]] W (Grown (.agg #[.int .u64 (hi64 (n ^^^ r) : Nat), .int .u64 (lo64 (n ^^^ r) : Nat)]) W) := fun W => code_hplus W n r HN.out HRr.out
            go_wp2_with fail
            refine (A1 _).mono ?_
            rintro e w2 ⟨rfl, hg2⟩
            have bO2 := Blk.kept hbO.out hg2 nofun
            obtain ⟨⟨o0, o1⟩, f0, f1⟩ := blk2 bO2
            have HbO2 := Lib.hid bO2
            have HG2 := Lib.hid hg2
            have hlt4 : w.heap.size ≤ B + 1 + 1 + 1 := by omega
            clear bO2 hg2 A1 r0 r1
            go_wp2_with fail
            go_meet
            exact ⟨Lib.hid (Blk.kept (Blk.kept hbP.out HG2.out nofun) (grow_setCell (grow_setCell (grow_refl w2 (some (B + 1 + 1 + 1))) 0 _) 1 _) (by simp; omega)),
              Lib.hid (Blk.kept (Blk.kept hbQ.out HG2.out nofun) (grow_setCell (grow_setCell (grow_refl w2 (some (B + 1 + 1 + 1))) 0 _) 1 _) (by simp)),
              Lib.hid (Blk.kept (Blk.kept hbR.out HG2.out nofun) (grow_setCell (grow_setCell (grow_refl w2 (some (B + 1 + 1 + 1))) 0 _) 1 _) (by simp)),
              Lib.hid (by rw [hz.out]; exact blk2_set HbO2.out _ _), Lib.hid (grow2 (grow_trans hg.out HG2.out) hlt4 _ _ _ _)⟩
        case rest =>
          obtain ⟨cP, cQ, cR, cO, cg⟩ := hcut
          clear hbP hbQ hbR hbO hg hA
          obtain ⟨⟨r0, r1⟩, f0, f1⟩ := blk2 cQ.out
          have a1 : bits .and .u64 ((lo64 r : Nat) : Int) 1 = ((lo64 r % 2 : Nat) : Int) := by
            have := u64_and_nat (lo64 r) 1 (lo64_lt r) (by omega)
            rw [show ((1 : Nat) : Int) = 1 from rfl] at this
            rw [this, Nat.and_one_is_mod]
          go_wp2_with fail
          go_roundw
          case rel =>
            obtain ⟨g1, g2'⟩ := qx_words r
            have lr := lo64_lt r
            have hr := hi64_lt HRr.out
            have eX : bits .or .u64 ((lo64 r : Nat) / 2 : Int) (IntKind.u64.wrap (((hi64 r : Nat) : Int) * 9223372036854775808)) = ((lo64 (qx r) : Nat) : Int) := by
              have h1 : IntKind.u64.wrap (((hi64 r : Nat) : Int) * 9223372036854775808) = ((hi64 r * 9223372036854775808 % 18446744073709551616 : Nat) : Int) := by
                rw [IntKind.wrap_u64]; omega
              have h2 : (((lo64 r : Nat) : Int) / 2) = ((lo64 r / 2 : Nat) : Int) := by omega
              rw [h1, h2, u64_or_nat _ _ (by omega) (by omega), or63 _ _ lr, g2']
            have eY : bits .xor .u64 ((hi64 r : Nat) / 2 : Int) (((lo64 r : Nat) : Int) % 2 * 225 * 72057594037927936) = ((hi64 (qx r) : Nat) : Int) := by
              have h1 : (((lo64 r : Nat) : Int) % 2 * 225 * 72057594037927936) = ((lo64 r % 2 * 16212958658533785600 : Nat) : Int) := by omega
              have h2 : (((hi64 r : Nat) : Int) / 2) = ((hi64 r / 2 : Nat) : Int) := by omega
              rw [h1, h2, u64_xor_nat _ _ (by omega) (by omega), g1]
            have kQ := blk2_set' cQ.out (.int .u64 ((hi64 (qx r) : Nat) : Int)) (.int .u64 ((lo64 (qx r) : Nat) : Int))
            have kg := fun (u v : Value) => grow_setCell (grow_setCell (grow_refl wc (some (B + 1))) 1 u) 0 v
            rw [eX, eY]
            exact ⟨i + 1, _, _, by omega, by go_num, HNx.out, qx_lt HRr.out, (by rw [show 128 - (i + 1) = 127 - i from by omega]; exact hnx), Lib.hid (Blk.kept cP.out (kg _ _) (by simp)), Lib.hid kQ, Lib.hid (Blk.kept cR.out (kg _ _) (by simp)), Lib.hid (Blk.kept cO.out (kg _ _) (by simp; omega)), Lib.hid (grow2 cg.out (by omega) _ _ _ _)⟩
          case measure => simp [intOf]; omega
    · obtain rfl : i = 128 := by omega
      have hz : n = hmul p q := by rw [← hE.out]; rfl
      obtain ⟨⟨o0, o1⟩, _⟩ := blk2 hbO.out
      have bR := hbR.out
      obtain ⟨⟨r0, r1⟩, f0, f1⟩ := blk2 bR
      have HZ := Lib.hid hz
      have hs : w.heap.size ≤ B + 1 + 1 := by omega
      have hfin := Lib.hid (grow2 (B := B + 1 + 1) hg.out hs 0 1 (.int .u64 ((hi64 n : Nat) : Int)) (.int .u64 ((lo64 n : Nat) : Int)))
      clear hz bR
      go_wp2_with fail
      refine bodyPost_ret (v := .agg #[.int .u64 ((hi64 n : Nat) : Int), .int .u64 ((lo64 n : Nat) : Int)]) (by simp [results, Tryz.results260, go_sem, r0, r1]) rfl ?_
      exact ⟨by rw [HZ.out], hfin.out⟩

end Go.Proofs.YtmomfbkpniblgaaGreatDoor
