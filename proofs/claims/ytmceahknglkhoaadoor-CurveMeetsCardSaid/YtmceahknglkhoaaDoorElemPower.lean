/- Numbers modulo 2^255 - 19: powers. -/
import Derived.Test.YtmceahknglkhoaaDoorElemPowPlain
namespace Go.Proofs.YtmceahknglkhoaaDoor
open Go.RowKit
set_option linter.unusedVariables false

theorem code_none (w : World) : Calls Tryd.prog 39 #[] w (Grown (N5 [1, 0, 0, 0, 0]) w) := by
  rw [N5_lit]
  go_enter Tryd.func39, Tryd.ntmps39
  go_wp2_with fail
  refine bodyPost_ret (v := .agg #[.int .u64 1, .int .u64 0, .int .u64 0, .int .u64 0, .int .u64 0]) (by simp [results, Tryd.results39, go_sem]) rfl ?_
  exact ⟨rfl, grow_alloc (grow_refl w none) _⟩

def PowIs (l : List Nat) (n : Nat) (w : World) (e : Ending) (w' : World) : Prop := ∃ L, e = .returned (N5 L) ∧ PowAt l L n ∧ w.grownBy w' none

set_option maxRecDepth 20000 in
set_option maxHeartbeats 4000000 in
theorem code_npower (w : World) (l : List Nat) (ok : Ok5 l) (K : Nat) (t : TypeId) (ws : List Nat) (hK : KB w K t ws) (hb : ∀ x ∈ ws, x < 18446744073709551616) (hn : ws.length ≤ 4) :
    Calls Tryd.prog 43 #[N5 l, .slice (some ⟨K, 0, none⟩) ws.length ws.length] w (PowIs l (wval ws) w) := by
  obtain ⟨B, hB⟩ : ∃ B, B = w.heap.size := ⟨_, rfl⟩
  obtain ⟨a0, a1, a2, a3, a4, el⟩ := five ok.length
  obtain ⟨x, hx⟩ : ∃ x, x = (w.alloc (.cells #[.int .u64 (a0 : Int), .int .u64 (a1 : Int), .int .u64 (a2 : Int), .int .u64 (a3 : Int), .int .u64 (a4 : Int)] 64)).alloc (.cells #[.int .u64 0, .int .u64 0, .int .u64 0, .int .u64 0, .int .u64 0] 64) := ⟨_, rfl⟩
  have s1 : (w.alloc (.cells #[.int .u64 (a0 : Int), .int .u64 (a1 : Int), .int .u64 (a2 : Int), .int .u64 (a3 : Int), .int .u64 (a4 : Int)] 64)).heap.size = B + 1 := by rw [hB]; simp
  have bA : NB x B [a0, a1, a2, a3, a4] := by rw [hx, hB]; exact obj_alloc (obj_new _ _)
  have bR : NB x (B + 1) [0, 0, 0, 0, 0] := by rw [hx, ← s1]; exact obj_new _ _
  have bK : KB x K t ws := by rw [hx]; exact obj_alloc (obj_alloc hK)
  have hgx : w.grownBy x none := by rw [hx]; exact grow_alloc (grow_alloc (grow_refl w none) _) _
  have hKB : K < B := by rw [hB]; exact Blk.lt hK
  have hN : N5 l = .agg #[.int .u64 (a0 : Int), .int .u64 (a1 : Int), .int .u64 (a2 : Int), .int .u64 (a3 : Int), .int .u64 (a4 : Int)] := by rw [el]; rfl
  rw [hN]
  have HA := Lib.hid bA
  have HR := Lib.hid bR
  have HK := Lib.hid bK
  have HG := Lib.hid hgx
  have HB := Lib.hid hB
  have HX := Lib.hid hx
  have HEL := Lib.hid el
  have HOK := Lib.hid ok
  have HWB := Lib.hid hb
  clear bA bR bK hgx hB hx el ok hb hN s1 hK
  go_enter Tryd.func43, Tryd.ntmps43
  go_upto_region 1 with (fail)
  rw [← HB.out, ← HX.out]
  go_wp2_with fail
  (with_reducible refine (code_none _).mono ?_)
  rintro e x1 ⟨rfl, hg1⟩
  rw [N5_lit]
  obtain ⟨O, hO⟩ : ∃ O, O = x1.heap.size := ⟨_, rfl⟩
  obtain ⟨y, hy⟩ : ∃ y, y = x1.alloc (.cells #[.int .u64 1, .int .u64 0, .int .u64 0, .int .u64 0, .int .u64 0] 64) := ⟨_, rfl⟩
  have bO : NB y O [1, 0, 0, 0, 0] := by rw [hy, hO]; exact obj_new _ _
  have b1 : NB y B [a0, a1, a2, a3, a4] := by rw [hy]; exact obj_alloc (Blk.kept HA.out hg1 nofun)
  have b2 : NB y (B + 1) [0, 0, 0, 0, 0] := by rw [hy]; exact obj_alloc (Blk.kept HR.out hg1 nofun)
  have b3 : KB y K t ws := by rw [hy]; exact obj_alloc (Blk.kept HK.out hg1 nofun)
  have hgy : w.grownBy y none := by rw [hy]; exact grow_alloc (grow_trans HG.out hg1) _
  have hBO : B + 1 < O := by rw [hO]; exact Blk.lt (Blk.kept HR.out hg1 nofun)
  have HBO := Lib.hid bO
  have HB1 := Lib.hid b1
  have HB2 := Lib.hid b2
  have HB3 := Lib.hid b3
  have HGY := Lib.hid hgy
  have HO := Lib.hid hO
  have HY := Lib.hid hy
  clear bO b1 b2 b3 hgy hO hy hg1 HA HR HK HG HX
  go_upto_region 3 with (fail)
  rw [← HO.out, ← HY.out]
  have hP0 : PowAt l [1, 0, 0, 0, 0] (exAt (wval ws) ws.length 0) := by
    rw [exAt_top ws HWB.out]
    exact ⟨⟨1, [0, 0, 0, 0], rfl, rfl, by omega, by simp⟩, by simp [lval]⟩
  have HP0 := Lib.hid hP0
  have HFIN := Lib.hid (exAt_zero (wval ws))
  generalize hW : wval ws = W at *
  have HWV := Lib.hid hW
  clear hP0 hW
  go_loopw [6, 7] (fun v6 v7 wr => ∃ (i : Nat) (L : List Nat), i ≤ ws.length ∧ v6 = .int .i64 ((i : Int) - 1) ∧ Hid (PowAt l L (exAt W i 0)) ∧ Hid (NB wr O L) ∧ Hid (y.grownBy wr (some O))) (fun v6 _ _ => (intOf v6 + 1).toNat)
  case atStart => exact ⟨ws.length, _, by omega, rfl, HP0, HBO, Lib.hid (grow_refl _ _)⟩
  case round =>
    clear HP0 HBO
    obtain ⟨i, L, hi, rfl, hP, hL, hg⟩ := hrel
    by_cases hi0 : i = 0
    · subst hi0
      rw [show ((0 : Nat) : Int) - 1 = -1 from rfl]
      obtain ⟨r0, r1, r2, r3, r4, eL⟩ := five hP.out.1.length
      have bL := hL.out
      rw [eL] at bL
      obtain ⟨⟨c0, c1, c2, c3, c4⟩, _⟩ := bL.five
      have bR : NB wr (B + 1) [0, 0, 0, 0, 0] := Blk.kept HB2.out hg.out (by simp; omega)
      obtain ⟨⟨z0, z1, z2, z3, z4⟩, f0, f1, f2, f3, f4⟩ := bR.five
      have hfin := Lib.hid (grow5 (B := B + 1) (grow_trans_new HGY.out hg.out (by have := HB.out; omega)) (by have := HB.out; omega) (.int .u64 (r0 : Int)) (.int .u64 (r1 : Int)) (.int .u64 (r2 : Int)) (.int .u64 (r3 : Int)) (.int .u64 (r4 : Int)))
      have HL2 := Lib.hid eL
      clear eL bL bR hL hg
      go_wp2_with fail
      refine bodyPost_ret (v := .agg #[.int .u64 (r0 : Int), .int .u64 (r1 : Int), .int .u64 (r2 : Int), .int .u64 (r3 : Int), .int .u64 (r4 : Int)]) (by simp [results, Tryd.results43, go_sem, z0, z1, z2, z3, z4]) rfl ?_
      exact ⟨L, by have e := HL2.out; rw [e]; rfl, by have e := hP.out; rw [HFIN.out] at e; exact e, hfin.out⟩
    · obtain ⟨j, rfl⟩ : ∃ j, i = j + 1 := ⟨i - 1, by omega⟩
      have ej : ((j + 1 : Nat) : Int) - 1 = (j : Int) := by omega
      rw [ej]
      have jn : (0 : Int) ≤ (j : Int) := by omega
      have hd : decide ((0 : Int) ≤ (j : Int)) = true := by simp
      go_wp2_with fail
      go_loopw [7] (fun v7 wr => ∃ (k : Nat) (M : List Nat), k ≤ 64 ∧ v7 = .int .i64 ((k : Int) - 1) ∧ Hid (PowAt l M (exAt W j k)) ∧ Hid (NB wr O M) ∧ Hid (y.grownBy wr (some O))) (fun v7 _ => (intOf v7 + 1).toNat)
      case atStart => exact ⟨64, L, by omega, rfl, Lib.hid (by rw [exAt_word]; exact hP.out), hL, hg⟩
      case round =>
        clear hP hL hg
        obtain ⟨k, M, hk, rfl, hP, hL, hg⟩ := hrel
        by_cases hk0 : k = 0
        · subst hk0
          rw [show ((0 : Nat) : Int) - 1 = -1 from rfl]
          go_wp2_with fail
          go_roundw
          case rel => exact ⟨j, M, by omega, rfl, hP, hL, hg⟩
          case measure => simp [intOf]
        · obtain ⟨m, rfl⟩ : ∃ m, k = m + 1 := ⟨k - 1, by omega⟩
          have em : ((m + 1 : Nat) : Int) - 1 = (m : Int) := by omega
          rw [em]
          have mn : (0 : Int) ≤ (m : Int) := by omega
          have mx : (m : Int) ≤ 63 := by omega
          have hdm : decide ((0 : Int) ≤ (m : Int)) = true := by simp
          obtain ⟨m0, m1, m2, m3, m4, eM⟩ := five hP.out.1.length
          have bM := hL.out
          rw [eM] at bM
          obtain ⟨⟨c0, c1, c2, c3, c4⟩, _⟩ := bM.five
          have A1 : ∀ V : World, Calls Tryd.prog 42 #[N5 M, N5 M] V (NumIs (lval M * lval M) V) := fun V => code_ntimes V M M hP.out.1 hP.out.1
          rw [eM, N5_lit, ← eM] at A1
          have HBM := Lib.hid bM
          have HG2 := hg
          clear bM eM hL hg
          go_wp2_with fail
          (with_reducible refine (A1 _).mono ?_)
          rintro e w2 ⟨M1, rfl, ok1, hv1, hg1⟩
          obtain ⟨p0, p1, p2, p3, p4, eM1⟩ := five ok1.length
          have hN1 : N5 M1 = .agg #[.int .u64 (p0 : Int), .int .u64 (p1 : Int), .int .u64 (p2 : Int), .int .u64 (p3 : Int), .int .u64 (p4 : Int)] := by rw [eM1]; rfl
          rw [hN1]
          have bM2 : NB w2 O [m0, m1, m2, m3, m4] := Blk.kept HBM.out hg1 nofun
          obtain ⟨y2, hy2⟩ : ∃ y2, y2 = ((((w2.setCell ⟨O, 0, none⟩ (.int .u64 (p0 : Int))).setCell ⟨O, 1, none⟩ (.int .u64 (p1 : Int))).setCell ⟨O, 2, none⟩ (.int .u64 (p2 : Int))).setCell ⟨O, 3, none⟩ (.int .u64 (p3 : Int))).setCell ⟨O, 4, none⟩ (.int .u64 (p4 : Int)) := ⟨_, rfl⟩
          have b3 : NB y2 O M1 := by rw [hy2, eM1]; exact bM2.set5 p0 p1 p2 p3 p4
          have g3 : y.grownBy y2 (some O) := by
            rw [hy2]
            exact grow_setCell (grow_setCell (grow_setCell (grow_setCell (grow_setCell (grow_trans HG2.out (grow_none hg1)) _ _) _ _) _ _) _ _) _ _
          have hj : j < ws.length := by omega
          have bk : KB y2 K t ws := Blk.kept HB3.out g3 (by simp; omega)
          have ck := bk.cell j hj
          have hwj := HWB.out ws[j] (List.getElem_mem hj)
          obtain ⟨b, hbt⟩ : ∃ b, b = ws[j] / 2 ^ m % 2 := ⟨_, rfl⟩
          have hex := exAt_bit ws HWB.out j m hj (by omega)
          rw [HWV.out, ← hbt] at hex
          have hP1 : PowAt l M1 (2 * exAt W j (m + 1)) := hP.out.twice ok1 hv1
          generalize ws[j] = wj at *
          have hA : bits .and .u64 ((wj : Int) / 2 ^ m) 1 = (b : Int) := by
            have e : ((wj : Int) / 2 ^ m) = ((wj / 2 ^ m : Nat) : Int) := by simp
            have hle : wj / 2 ^ m ≤ wj := Nat.div_le_self _ _
            have := u64_and_nat (wj / 2 ^ m) 1 (by omega) (by omega)
            rw [e]
            rw [show ((1 : Nat) : Int) = 1 from rfl] at this
            rw [this, Nat.and_one_is_mod, hbt]
          have j1 : (j : Int) < (ws.length : Int) := by omega
          have hb2 : b ≤ 1 := by omega
          have HP1 := Lib.hid hP1
          have HB3' := Lib.hid b3
          have HG3 := Lib.hid g3
          have HEX := Lib.hid hex
          have HM1 := Lib.hid eM1
          have HO1 := Lib.hid ok1
          have HY2 := Lib.hid hy2
          obtain ⟨⟨z0, z1, z2, z3, z4⟩, f0, f1, f2, f3, f4⟩ := bM2.five
          clear hy2 b3 g3 bk hP1 hex hbt hg1 hv1 hN1 eM1 ok1 bM2 c0 c1 c2 c3 c4 A1 hP HBM HG2
          go_upto_region 9 with (fail)
          rw [← HY2.out]
          clear z0 z1 z2 z3 z4 f0 f1 f2 f3 f4
          rcases (show b = 0 ∨ b = 1 by omega) with h0 | h1
          · subst h0
            go_wp2_with fail
            go_roundw
            case rel => exact ⟨m, M1, by omega, rfl, Lib.hid (by have e := HEX.out; rw [e]; exact HP1.out), HB3', HG3⟩
            case measure => simp [intOf]
          · subst h1
            have bM1 := HB3'.out
            rw [HM1.out] at bM1
            obtain ⟨⟨c0, c1, c2, c3, c4⟩, _⟩ := bM1.five
            have bA : NB y2 B [a0, a1, a2, a3, a4] := Blk.kept HB1.out HG3.out (by simp; omega)
            obtain ⟨⟨d0, d1, d2, d3, d4⟩, _⟩ := bA.five
            have A2 : ∀ V : World, Calls Tryd.prog 42 #[N5 M1, N5 l] V (NumIs (lval M1 * lval l) V) := fun V => code_ntimes V M1 l HO1.out HOK.out
            have hq1 : N5 M1 = .agg #[.int .u64 (p0 : Int), .int .u64 (p1 : Int), .int .u64 (p2 : Int), .int .u64 (p3 : Int), .int .u64 (p4 : Int)] := by have e := HM1.out; rw [e]; rfl
            have hq2 : N5 l = .agg #[.int .u64 (a0 : Int), .int .u64 (a1 : Int), .int .u64 (a2 : Int), .int .u64 (a3 : Int), .int .u64 (a4 : Int)] := by have e := HEL.out; rw [e]; rfl
            rw [hq1, hq2] at A2
            have HBM1 := Lib.hid bM1
            clear bM1 bA hq1 hq2
            go_wp2_with fail
            (with_reducible refine (A2 _).mono ?_)
            rintro e w3 ⟨M2, rfl, ok2, hv2, hg2⟩
            obtain ⟨q0, q1, q2, q3, q4, eM2⟩ := five ok2.length
            have hN2 : N5 M2 = .agg #[.int .u64 (q0 : Int), .int .u64 (q1 : Int), .int .u64 (q2 : Int), .int .u64 (q3 : Int), .int .u64 (q4 : Int)] := by rw [eM2]; rfl
            rw [hN2]
            have bM3 : NB w3 O [p0, p1, p2, p3, p4] := Blk.kept HBM1.out hg2 nofun
            have b4 : NB (((((w3.setCell ⟨O, 0, none⟩ (.int .u64 (q0 : Int))).setCell ⟨O, 1, none⟩ (.int .u64 (q1 : Int))).setCell ⟨O, 2, none⟩ (.int .u64 (q2 : Int))).setCell ⟨O, 3, none⟩ (.int .u64 (q3 : Int))).setCell ⟨O, 4, none⟩ (.int .u64 (q4 : Int))) O M2 := by rw [eM2]; exact bM3.set5 q0 q1 q2 q3 q4
            have HB4 := Lib.hid b4
            have HG4 := Lib.hid (grow_setCell (grow_setCell (grow_setCell (grow_setCell (grow_setCell (grow_trans HG3.out (grow_none hg2)) 0 (.int .u64 (q0 : Int))) 1 (.int .u64 (q1 : Int))) 2 (.int .u64 (q2 : Int))) 3 (.int .u64 (q3 : Int))) 4 (.int .u64 (q4 : Int)))
            have HP2 := Lib.hid (HP1.out.more ok2 hv2)
            obtain ⟨⟨z0, z1, z2, z3, z4⟩, f0, f1, f2, f3, f4⟩ := bM3.five
            clear c0 c1 c2 c3 c4 d0 d1 d2 d3 d4 b4 bM3 hN2 eM2 hg2 hv2 ok2 A2
            go_wp2_with fail
            go_roundw
            case rel => exact ⟨m, M2, by omega, rfl, Lib.hid (by have e := HEX.out; rw [e]; exact HP2.out), HB4, HG4⟩
            case measure => simp [intOf]

end Go.Proofs.YtmceahknglkhoaaDoor
