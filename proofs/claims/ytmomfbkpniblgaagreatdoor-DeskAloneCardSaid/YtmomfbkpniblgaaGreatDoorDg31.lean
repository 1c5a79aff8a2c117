/-
  Several texts of this claim in one: ElemText, ElemTwo, ElemErr, ElemLowM, ElemPlainLaws, ElemPowPlain, LadPlain, ElemPower, FinP, ElemTwoVal, ElemAddMul, ElemPowM, ElemPowersPlain, ElemInvPlain, ElemInv.
-/
import Derived.Test.YtmomfbkpniblgaaGreatDoorDgElemRead
import Derived.Test.YtmomfbkpniblgaaGreatDoorDg07
import Derived.Test.YtmomfbkpniblgaaGreatDoorDg01
namespace Go.Proofs.YtmomfbkpniblgaaGreatDoor
open Go.RowKit
set_option linter.unusedVariables false

theorem NB.set5 {w : World} {B a0 a1 a2 a3 a4 : Nat} (h : NB w B [a0, a1, a2, a3, a4]) (x0 x1 x2 x3 x4 : Nat) :
    NB (((((w.setCell ⟨B, 0, none⟩ (.int .u64 (x0 : Int))).setCell ⟨B, 1, none⟩ (.int .u64 (x1 : Int))).setCell ⟨B, 2, none⟩ (.int .u64 (x2 : Int))).setCell ⟨B, 3, none⟩ (.int .u64 (x3 : Int))).setCell ⟨B, 4, none⟩ (.int .u64 (x4 : Int))) B [x0, x1, x2, x3, x4] :=
  ((((h.set 0 x0).set 1 x1).set 2 x2).set 3 x3).set 4 x4

theorem nidx4_0 (w : World) (a0 a1 a2 a3 : Int) : (Instr.index 282 (.agg #[.int .u64 a0, .int .u64 a1, .int .u64 a2, .int .u64 a3]) (.int .i64 0)).run Tryz.prog w = .ok (.int .u64 a0) w := by kernel_rfl
theorem nidx4_1 (w : World) (a0 a1 a2 a3 : Int) : (Instr.index 282 (.agg #[.int .u64 a0, .int .u64 a1, .int .u64 a2, .int .u64 a3]) (.int .i64 1)).run Tryz.prog w = .ok (.int .u64 a1) w := by kernel_rfl
theorem nidx4_2 (w : World) (a0 a1 a2 a3 : Int) : (Instr.index 282 (.agg #[.int .u64 a0, .int .u64 a1, .int .u64 a2, .int .u64 a3]) (.int .i64 2)).run Tryz.prog w = .ok (.int .u64 a2) w := by kernel_rfl
theorem nidx4_3 (w : World) (a0 a1 a2 a3 : Int) : (Instr.index 282 (.agg #[.int .u64 a0, .int .u64 a1, .int .u64 a2, .int .u64 a3]) (.int .i64 3)).run Tryz.prog w = .ok (.int .u64 a3) w := by kernel_rfl
theorem nidx4 (w : World) (a0 a1 a2 a3 : Nat) (k : Nat) (hk : k < [a0, a1, a2, a3].length) :
    (Instr.index 282 (.agg #[.int .u64 (a0 : Int), .int .u64 (a1 : Int), .int .u64 (a2 : Int), .int .u64 (a3 : Int)]) (.int .i64 (k : Int))).run Tryz.prog w = .ok (.int .u64 (([a0, a1, a2, a3][k] : Nat) : Int)) w := by
  match k, hk with
  | 0, _ => exact nidx4_0 w _ _ _ _
  | 1, _ => exact nidx4_1 w _ _ _ _
  | 2, _ => exact nidx4_2 w _ _ _ _
  | 3, _ => exact nidx4_3 w _ _ _ _

/-- Words as bytes, eight each. -/
def textQ (l : List Nat) : List UInt8 := l.flatMap fun n => leB n 8
theorem textQ_length (l : List Nat) : (textQ l).length = 8 * l.length := by
  induction l with
  | nil => rfl
  | cons n l ih => simp only [textQ, List.flatMap_cons, List.length_append, leB_length, List.length_cons] at ih ⊢; omega
theorem textQ_snoc (l : List Nat) (n : Nat) : textQ (l ++ [n]) = textQ l ++ leB n 8 := by simp [textQ]

/-- What goes on from limb to limb. -/
def carO (L : List Nat) (c i : Nat) : Nat := (carF (L.take i) c).2
theorem carO_next (L : List Nat) (c i : Nat) (hi : i < L.length) : carO L c (i + 1) = (L[i] + carO L c i) / 2251799813685248 := by
  have et : L.take (i + 1) = L.take i ++ [L[i]] := List.take_succ_eq_append_getElem hi
  unfold carO
  rw [et, carF_snoc]

set_option maxRecDepth 20000 in
set_option maxHeartbeats 4000000 in
theorem code_ntext (w : World) (l : List Nat) (hl : l.length = 5) (hb : ∀ x ∈ l, x ≤ 9223372036854775808) : Calls Tryz.prog 139 #[N5 l] w (Grown (S (leB (lval l % PP) 32)) w) := by
  obtain ⟨B, hB⟩ : ∃ B, B = w.heap.size := ⟨_, rfl⟩
  obtain ⟨a0, a1, a2, a3, a4, el⟩ := five hl
  obtain ⟨x, hx⟩ : ∃ x, x = w.alloc (.cells (l.map c64).toArray 144) := ⟨_, rfl⟩
  have bN : NB x B [a0, a1, a2, a3, a4] := by rw [hx, hB, ← el]; exact obj_new _ _
  have hgx : w.grownBy x none := by rw [hx]; exact grow_alloc (grow_refl w none) _
  have hxl : x = w.alloc (.cells #[.int .u64 (a0 : Int), .int .u64 (a1 : Int), .int .u64 (a2 : Int), .int .u64 (a3 : Int), .int .u64 (a4 : Int)] 144) := by rw [hx, el]; rfl
  have hok := carL_ok l hl hb
  have hfull := full_twice l hl hb
  have hle : ∀ x ∈ carL l, x ≤ 9223372036854775808 := fun z hz => by have := hok.le z hz; omega
  have A1 : ∀ V : World, Calls Tryz.prog 140 #[N5 l] V (Grown (N5 (carL l)) V) := fun V => code_ncarried V l hl hb
  have A2 : ∀ V : World, Calls Tryz.prog 140 #[N5 (carL l)] V (Grown (N5 (carL (carL l))) V) := fun V => code_ncarried V _ hok.length hle
  have hv : lval (carL (carL l)) % PP = lval l % PP := by rw [carL_val _ hok.length, carL_val _ hl]
  obtain ⟨b0, b1, b2, b3, b4, e1⟩ := five hok.length
  obtain ⟨L, hL⟩ : ∃ L, L = carL (carL l) := ⟨_, rfl⟩
  rw [← hL] at hfull hv A2
  obtain ⟨x0, x1, x2, x3, x4, e2⟩ := five hfull.1
  rw [e1, el, N5_lit, N5_lit] at A1
  rw [e1, e2, N5_lit, N5_lit] at A2
  obtain ⟨hLF, hLV⟩ := leastL_ok hfull
  rw [hv] at hLV
  obtain ⟨V, hV⟩ : ∃ V, V = leB (lval l % PP) 32 := ⟨_, rfl⟩
  rw [← hV]
  rw [← hLV] at hV
  have k0 := bN.five.1
  obtain ⟨p0, p1, p2, p3, p4⟩ := k0
  have HBN := Lib.hid bN
  have HG := Lib.hid hgx
  have HB := Lib.hid hB
  have HX := Lib.hid hxl
  have HV := Lib.hid hV
  have HLF := Lib.hid hLF
  have HFU := Lib.hid hfull
  have HEL := Lib.hid e2
  have hN5 : N5 l = .agg #[.int .u64 (a0 : Int), .int .u64 (a1 : Int), .int .u64 (a2 : Int), .int .u64 (a3 : Int), .int .u64 (a4 : Int)] := by rw [el]; rfl
  rw [hN5]
  clear hN5 hv hok hfull hle hL e1 e2 el hl hb hx hxl bN hgx hB hV hLF hLV
  go_enter Tryz.func139, Tryz.ntmps139
  go_upto_region 1 with (fail)
  rw [← HB.out, ← HX.out]
  go_wp2_with fail
  (with_reducible refine (A1 _).mono ?_)
  rintro e w1 ⟨rfl, hg1⟩
  clear p0 p1 p2 p3 p4
  go_wp2_with fail
  (with_reducible refine (A2 _).mono ?_)
  rintro e w2 ⟨rfl, hg2⟩
  have bN2 : NB w2 B [a0, a1, a2, a3, a4] := Blk.kept (Blk.kept HBN.out hg1 nofun) hg2 nofun
  obtain ⟨⟨z0, z1, z2, z3, z4⟩, f0, f1, f2, f3, f4⟩ := bN2.five
  obtain ⟨y, hy⟩ : ∃ y, y = ((((w2.setCell ⟨B, 0, none⟩ (.int .u64 (x0 : Int))).setCell ⟨B, 1, none⟩ (.int .u64 (x1 : Int))).setCell ⟨B, 2, none⟩ (.int .u64 (x2 : Int))).setCell ⟨B, 3, none⟩ (.int .u64 (x3 : Int))).setCell ⟨B, 4, none⟩ (.int .u64 (x4 : Int)) := ⟨_, rfl⟩
  have bY := bN2.set5 x0 x1 x2 x3 x4
  have hgy : w.grownBy y none := by rw [hy]; exact grow5 (grow_trans (grow_trans HG.out hg1) hg2) (by have := HB.out; omega) _ _ _ _ _
  rw [← hy] at bY
  have HBY := Lib.hid bY
  have HGY := Lib.hid hgy
  have HY := Lib.hid hy
  clear bN2 hg1 hg2 hy hgy A1 A2
  have ff := HFU.out.2
  rw [HEL.out] at ff
  have k0 := ff x0 (by simp)
  have k1 := ff x1 (by simp)
  have k2 := ff x2 (by simp)
  have k3 := ff x3 (by simp)
  have k4 := ff x4 (by simp)
  obtain ⟨⟨c0, c1, c2, c3, c4⟩, g0, g1, g2, g3, g4⟩ := bY.five
  clear ff bY
  go_upto_region 2 with (fail)
  rw [← HY.out]
  clear z0 z1 z2 z3 z4 f0 f1 f2 f3 f4
  obtain ⟨q0, hq0⟩ : ∃ q0, q0 = (x0 + 19) / 2251799813685248 := ⟨_, rfl⟩
  have eq0 : ((x0 : Int) + 19) / 2251799813685248 = (q0 : Int) := by rw [hq0]; rfl
  have lq0 : q0 ≤ 1 := by omega
  have HQ0 := Lib.hid hq0
  clear hq0
  obtain ⟨M, hM⟩ : ∃ M : List Nat, M = L.set 0 (L.getD 0 0 + 19 * (carF L 19).2) := ⟨_, rfl⟩
  have HM := Lib.hid hM
  clear hM
  have HBL : Hid (NB y B L) := Lib.hid (by rw [HEL.out]; exact HBY.out)
  go_upto_region 4 with (fail)
  clear c0 c1 c2 c3 c4 g0 g1 g2 g3 g4 lq0 eq0
  go_loop [3, 5, 19] (fun v3 v5 vi => ∃ i c : Nat, i ≤ 4 ∧ vi = .int .i64 i ∧ v3 = .int .u64 (c : Int) ∧ c ≤ 19 ∧ Hid (c = carO L 19 (i + 1))) (fun _ _ vi => 4 - (intOf vi).toNat)
  case atStart => exact ⟨0, q0, by omega, rfl, rfl, by have := HQ0.out; omega, Lib.hid (by rw [carO_next L 19 0 (by rw [HFU.out.1]; omega)]; have e := HEL.out; subst e; exact HQ0.out)⟩
  case round =>
    obtain ⟨i, c, hi, rfl, rfl, hcb, hc⟩ := hrel
    by_cases hli : i < 4
    · have hiL : i + 1 < L.length := by rw [HFU.out.1]; omega
      have hx := HFU.out.2 L[i + 1] (List.getElem_mem hiL)
      have hn := carO_next L 19 (i + 1) hiL
      have cl' : y.cell? ⟨B, 1 + i, none⟩ = some (.int .u64 (L[i + 1] : Nat)) := by
        rw [Nat.add_comm 1 i]
        exact HBL.out.cell (i + 1) hiL
      rw [← hc.out] at hn
      generalize L[i + 1] = z at *
      have HNX := Lib.hid hn
      clear hn hiL
      have hcn : (z + c) / 2251799813685248 ≤ 19 := by omega
      go_wp2_with fail
      go_round
      case rel => exact ⟨i + 1, (z + c) / 2251799813685248, by omega, by go_num, by congr 1, hcn, Lib.hid HNX.out.symm⟩
      case measure => simp [intOf]; omega
    · obtain rfl : i = 4 := by omega
      have hcF : c = (carF L 19).2 := by
        have := hc.out
        unfold carO at this
        rwa [List.take_of_length_le (by have := HFU.out.1; omega)] at this
      have hMe : M = [x0 + 19 * c, x1, x2, x3, x4] := by rw [HM.out, ← hcF, HEL.out]; rfl
      obtain ⟨⟨c0, c1, c2, c3, c4⟩, g0, g1, g2, g3, g4⟩ := HBY.out.five
      have hst := HBY.out.set 0 (x0 + 19 * c)
      obtain ⟨y2, hy2⟩ : ∃ y2, y2 = y.setCell ⟨B, 0, none⟩ (.int .u64 ((x0 : Int) + 19 * (c : Int))) := ⟨_, rfl⟩
      have hst' : NB y2 B M := by rw [hMe, hy2]; simpa using hst
      have gy2 : y.grownBy y2 (some B) := by rw [hy2]; exact grow_setCell (grow_refl _ _) _ _
      have hM5 : M.length = 5 := by rw [hMe]; rfl
      have hMb : ∀ z ∈ M, z ≤ 2251799813685248 + 361 := by
        rw [hMe]
        intro z hz
        simp only [List.mem_cons, List.not_mem_nil, or_false] at hz
        omega
      have HML := Lib.hid hM5
      have HMB := Lib.hid hMb
      have HB2 := Lib.hid hst'
      have HG2 := Lib.hid (grow_trans_new HGY.out gy2 (by have := HB.out; omega))
      have HY2 := Lib.hid hy2
      have HLE : Hid (leastL L = (carF M 0).1) := Lib.hid (by rw [HM.out]; rfl)
      clear hcF hMe hst hst' gy2 hM5 hMb hy2 hc
      go_upto_region 9 with (fail)
      rw [← HY2.out]
      clear c0 c1 c2 c3 c4 g0 g1 g2 g3 g4
      go_wp2_with fail
      clear hcb k0 k1 k2 k3 k4 HBY HBL HY
      go_loopw [3, 6, 34] (fun v3 v6 vi wr => ∃ (i c : Nat), i ≤ 5 ∧ vi = .int .i64 i ∧ v3 = .int .u64 (c : Int) ∧ c ≤ 4096 ∧ Hid (c = (carF (M.take i) 0).2) ∧ Hid (NB wr B (carI M i)) ∧ Hid (y2.grownBy wr (some B))) (fun _ _ vi _ => 5 - (intOf vi).toNat)
      case atStart => exact ⟨0, 0, by omega, rfl, rfl, by omega, Lib.hid rfl, Lib.hid (by show NB _ _ ([] ++ M.drop 0); rw [List.drop_zero, List.nil_append]; exact HB2.out), Lib.hid (grow_refl _ _)⟩
      case round =>
        obtain ⟨i, c, hi, rfl, rfl, hc, hce, hK, hg⟩ := hrel
        by_cases hli : i < 5
        · have hiL : i < M.length := by rw [HML.out]; exact hli
          have hxb := HMB.out M[i] (List.getElem_mem hiL)
          have cl := hK.out.cell i (by rw [carI_length]; exact hiL)
          rw [carI_at M i hiL] at cl
          have fr := hK.out.frozen i
          obtain ⟨n1, n2⟩ := carI_next M i hiL
          rw [← hce.out] at n1 n2
          have hst := (hK.out.set i (M[i] + c)).set i ((M[i] + c) % 2251799813685248)
          rw [List.set_set, n1] at hst
          have hgs := grow_setCell (grow_setCell hg.out i (.int .u64 ((M[i] + c : Nat) : Int))) i (.int .u64 (((M[i] + c) % 2251799813685248 : Nat) : Int))
          have HS := Lib.hid (And.intro hst hgs)
          have HN2 := Lib.hid n2
          generalize M[i] = z at *
          have m1 : bits .and .u64 ((z : Int) + (c : Int)) 2251799813685247 = (((z + c) % 2251799813685248 : Nat) : Int) := by
            have := mask51 (z + c) (by omega)
            simpa using this
          have hcn : (z + c) / 2251799813685248 ≤ 4096 := by omega
          clear hst hgs n1 n2 hK hg hiL
          have hst' : NB ((wr.setCell ⟨B, i, none⟩ (.int .u64 ((z : Int) + (c : Int)))).setCell ⟨B, i, none⟩ (.int .u64 (((z : Int) + (c : Int)) % 2251799813685248))) B (carI M (i + 1)) := by simpa using HS.out.1
          have hgs' : y2.grownBy ((wr.setCell ⟨B, i, none⟩ (.int .u64 ((z : Int) + (c : Int)))).setCell ⟨B, i, none⟩ (.int .u64 (((z : Int) + (c : Int)) % 2251799813685248))) (some B) := by simpa using HS.out.2
          have HS1 := Lib.hid hst'
          have HS2 := Lib.hid hgs'
          clear hst' hgs' HS
          go_wp2_with fail
          go_roundw
          case rel => exact ⟨i + 1, (z + c) / 2251799813685248, by omega, by go_num, by congr 1, hcn, Lib.hid HN2.out.symm, HS1, HS2⟩
          case measure => simp [intOf]; omega
        · obtain rfl : i = 5 := by omega
          have e5 : carI M 5 = leastL L := by
            rw [HLE.out]
            unfold carI
            rw [List.take_of_length_le (by have := HML.out; omega), List.drop_of_length_le (by have := HML.out; omega), List.append_nil]
          have hK2 := hK.out
          rw [e5] at hK2
          obtain ⟨y0, y1, y2', y3, y4, e6⟩ := five HLF.out.1
          rw [e6] at hK2
          have ff := HLF.out.2
          have hVe := HV.out
          rw [e6] at ff hVe
          have k0 := ff y0 (by simp)
          have k1 := ff y1 (by simp)
          have k2 := ff y2' (by simp)
          have k3 := ff y3 (by simp)
          have k4 := ff y4 (by simp)
          rw [← pk_text y0 y1 y2' y3 y4 k0 k1 k2 k3 k4] at hVe
          have q1 : bits .or .u64 (y0 : Int) (IntKind.u64.wrap ((y1 : Int) * 2251799813685248)) = (pk0 y0 y1 : Int) := shl_or y0 y1 0 (by omega) (by omega) 2251799813685248 0 (by omega)
          have q2 : bits .or .u64 ((y1 : Int) / 8192) (IntKind.u64.wrap ((y2' : Int) * 274877906944)) = (pk1 y1 y2' : Int) := shl_or (y1 / 8192) y2' 0 (by omega) (by omega) 274877906944 0 (by omega)
          have q3 : bits .or .u64 ((y2' : Int) / 67108864) (IntKind.u64.wrap ((y3 : Int) * 33554432)) = (pk2 y2' y3 : Int) := shl_or (y2' / 67108864) y3 0 (by omega) (by omega) 33554432 0 (by omega)
          have q4 : bits .or .u64 ((y3 : Int) / 549755813888) ((y4 : Int) * 4096) = (pk3 y3 y4 : Int) := by
            have := shl_or (y3 / 549755813888) y4 0 (by omega) (by omega) 4096 0 (by omega)
            rw [IntWalk.u64_in _ (by omega)] at this
            exact this
          have l1 : pk0 y0 y1 < 18446744073709551616 := Nat.or_lt_two_pow (n := 64) (by omega) (by omega)
          have l2 : pk1 y1 y2' < 18446744073709551616 := Nat.or_lt_two_pow (n := 64) (by omega) (by omega)
          have l3 : pk2 y2' y3 < 18446744073709551616 := Nat.or_lt_two_pow (n := 64) (by omega) (by omega)
          have l4 : pk3 y3 y4 < 18446744073709551616 := Nat.or_lt_two_pow (n := 64) (by omega) (by omega)
          generalize pk0 y0 y1 = t0 at *
          generalize pk1 y1 y2' = t1 at *
          generalize pk2 y2' y3 = t2 at *
          generalize pk3 y3 y4 = t3 at *
          have hVt : V = textQ [t0, t1, t2, t3] := by rw [hVe]; simp [textQ]
          have hT : ∀ z ∈ [t0, t1, t2, t3], z < 18446744073709551616 := by
            intro z hz
            simp only [List.mem_cons, List.not_mem_nil, or_false] at hz
            omega
          obtain ⟨T, hTe⟩ : ∃ T, T = [t0, t1, t2, t3] := ⟨_, rfl⟩
          rw [← hTe] at hVt hT
          have hTl : T.length = 4 := by rw [hTe]; rfl
          have HTE := Lib.hid hTe
          have HTL := Lib.hid hTl
          have HTB := Lib.hid hT
          have HVT := Lib.hid hVt
          have HGR := Lib.hid (grow_trans_new HG2.out hg.out (by have := HB.out; omega))
          obtain ⟨⟨c0, c1, c2, c3, c4⟩, _⟩ := hK2.five
          clear hVe ff e6 e5 hK2 hK hg hce hVt hT hTe hTl l1 l2 l3 l4 HV HLF HLE HY2 HG2 HM HMB HML HB2
          rw [show ((5 : Nat) : Int) = 5 from rfl]
          go_upto_region 19 with (fail)
          clear c0 c1 c2 c3 c4 q1 q2 q3 q4
          obtain ⟨ws, hws⟩ : ∃ ws, ws = wr := ⟨_, rfl⟩
          subst hws
          go_loopw [7, 9, 81] (fun vb v9 vi wt => ∃ j : Nat, j ≤ 4 ∧ vi = .int .i64 j ∧ brow wt ws.heap.size vb (textQ (T.take j)) ∧ Below ws.heap.size ws wt) (fun _ _ vi _ => 4 - (intOf vi).toNat)
          case atStart => exact ⟨0, by omega, rfl, brow_nil _ _, Below.refl _ _⟩
          case round =>
            obtain ⟨j, hj, rfl, hown, hBel⟩ := hrel
            by_cases hlj : j < 4
            · have hjT : j < T.length := by rw [HTL.out]; exact hlj
              obtain ⟨t, ht⟩ : ∃ t, t = T[j] := ⟨_, rfl⟩
              have ix : ∀ W : World, (Instr.index 282 (.agg #[.int .u64 (t0 : Int), .int .u64 (t1 : Int), .int .u64 (t2 : Int), .int .u64 (t3 : Int)]) (.int .i64 (j : Int))).run Tryz.prog W = .ok (.int .u64 (t : Int)) W := fun W => by
                have e := HTE.out
                subst e
                rw [ht]
                exact nidx4 W t0 t1 t2 t3 j hjT
              have hn := HTB.out T[j] (List.getElem_mem hjT)
              have hsn := Lib.hid (show textQ (T.take (j + 1)) = textQ (T.take j) ++ leB T[j] 8 from by rw [List.take_succ_eq_append_getElem hjT, textQ_snoc])
              have hlen : (textQ (T.take j)).length + 8 ≤ 140737488355328 := by rw [textQ_length, List.length_take]; omega
              rw [← ht] at hn hsn
              have hbz := hBel.size
              have HLN := Lib.hid hlen
              clear ht hjT hlen
              go_wp2_with fail
              refine (wire_appendLittle _ ws.heap.size _ _ t 8 hown (by omega) (by omega) HLN.out hbz).mono ?_
              rintro e w5 ⟨v', rfl, hown', hB'⟩
              rw [← hsn.out] at hown'
              replace hBel := hBel.trans hB'
              clear hown hB' hbz ix
              go_wp2_with fail
              go_roundw
              case rel => exact ⟨j + 1, by omega, by go_num, hown', hBel⟩
              case measure => simp [intOf]; omega
            · obtain rfl : j = 4 := by omega
              have hcv := conv_brow hown
              rw [List.take_of_length_le (by have := HTL.out; omega), ← HVT.out] at hcv
              have HFI := Lib.hid (grow_trans HGR.out (grow_of_below hBel))
              unfold S at *
              clear hown hBel
              go_wp2_with fail
              go_ret
              exact ⟨rfl, HFI.out⟩

end Go.Proofs.YtmomfbkpniblgaaGreatDoor

namespace Go.Proofs.YtmomfbkpniblgaaGreatDoor
open Go.RowKit
set_option linter.unusedVariables false

/-- The numbers of two texts go in, a number's text comes out. -/
def TwoIs (s t : List UInt8) (R : Nat → Nat → Nat → Prop) (w : World) (e : Ending) (w' : World) : Prop :=
  ∃ x y z : Nat, x % PP = leN s % PP ∧ y % PP = leN t % PP ∧ R x y z ∧ e = .returned (.tuple #[S (leB (z % PP) 32), .int .i64 0]) ∧ w.grownBy w' none
def FunIs (a b : List Nat) (R : Nat → Nat → Nat → Prop) (w : World) (e : Ending) (w' : World) : Prop :=
  ∃ l, e = .returned (N5 l) ∧ Ok5 l ∧ R (lval a) (lval b) (lval l) ∧ w.grownBy w' none

set_option maxRecDepth 20000 in
set_option maxHeartbeats 4000000 in
theorem code_ntwo (w : World) (s t : List UInt8) (hs : s.length = 32) (ht : t.length = 32) (k : Nat) (cap : Array Value) (R : Nat → Nat → Nat → Prop)
    (hk : ∀ (x y : Value) (W : World), (callFunc k (#[x, y] ++ cap)).run Tryz.prog W = .ok (.enter k (#[x, y] ++ cap)) W)
    (hF : ∀ (W : World) (a b : List Nat), Ok5 a → Ok5 b → w.grownBy W none → Calls Tryz.prog k (#[N5 a, N5 b] ++ cap) W (FunIs a b R W)) :
    Calls Tryz.prog 85 #[S s, S t, .func (.func k) #[] cap] w (TwoIs s t R w) := by
  have A1 : ∀ W : World, Calls Tryz.prog 138 #[S s] W (ReadIs s W) := fun W => code_nread W s hs
  have A2 : ∀ W : World, Calls Tryz.prog 138 #[S t] W (ReadIs t W) := fun W => code_nread W t ht
  have HF := Lib.hid hF
  unfold S at A1 A2 ⊢
  clear hs ht hF
  go_enter Tryz.func85, Tryz.ntmps85
  go_wp2_with fail
  (with_reducible refine (A1 _).mono ?_)
  rintro e w1 ⟨a, rfl, oka, hva, hg1⟩
  obtain ⟨a0, a1, a2, a3, a4, ea⟩ := five oka.length
  have HEA := Lib.hid ea
  have hN : N5 a = .agg #[.int .u64 (a0 : Int), .int .u64 (a1 : Int), .int .u64 (a2 : Int), .int .u64 (a3 : Int), .int .u64 (a4 : Int)] := by rw [ea]; rfl
  rw [hN]
  clear ea hN A1
  obtain ⟨O1, hO1⟩ : ∃ O1, O1 = w1.heap.size := ⟨_, rfl⟩
  obtain ⟨x1, hx1⟩ : ∃ x1, x1 = w1.alloc (.cells #[.int .u64 (a0 : Int), .int .u64 (a1 : Int), .int .u64 (a2 : Int), .int .u64 (a3 : Int), .int .u64 (a4 : Int)] 144) := ⟨_, rfl⟩
  have b1 : NB x1 O1 [a0, a1, a2, a3, a4] := by rw [hx1, hO1]; exact obj_new _ _
  have HB1 := Lib.hid b1
  have HG1 := Lib.hid (show w.grownBy x1 none by rw [hx1]; exact grow_alloc hg1 _)
  have HO1 := Lib.hid hO1
  have HX1 := Lib.hid hx1
  have HVA := Lib.hid hva
  have HOA := Lib.hid oka
  clear hO1 hx1 b1 hg1 hva oka
  go_upto_region 2 with (fail)
  rw [← HO1.out, ← HX1.out]
  go_wp2_with fail
  (with_reducible refine (A2 _).mono ?_)
  rintro e w2 ⟨b, rfl, okb, hvb, hg2⟩
  obtain ⟨b0, b1, b2, b3, b4, eb⟩ := five okb.length
  have HEB := Lib.hid eb
  have hN : N5 b = .agg #[.int .u64 (b0 : Int), .int .u64 (b1 : Int), .int .u64 (b2 : Int), .int .u64 (b3 : Int), .int .u64 (b4 : Int)] := by rw [eb]; rfl
  rw [hN]
  clear eb hN A2
  obtain ⟨O2, hO2⟩ : ∃ O2, O2 = w2.heap.size := ⟨_, rfl⟩
  obtain ⟨x2, hx2⟩ : ∃ x2, x2 = w2.alloc (.cells #[.int .u64 (b0 : Int), .int .u64 (b1 : Int), .int .u64 (b2 : Int), .int .u64 (b3 : Int), .int .u64 (b4 : Int)] 144) := ⟨_, rfl⟩
  have c1 : NB x2 O2 [b0, b1, b2, b3, b4] := by rw [hx2, hO2]; exact obj_new _ _
  have c2 : NB x2 O1 [a0, a1, a2, a3, a4] := by rw [hx2]; exact obj_alloc (Blk.kept HB1.out hg2 nofun)
  obtain ⟨⟨p0, p1, p2, p3, p4⟩, _⟩ := c2.five
  obtain ⟨⟨q0, q1, q2, q3, q4⟩, _⟩ := c1.five
  have hg3 : w.grownBy x2 none := by rw [hx2]; exact grow_alloc (grow_trans HG1.out hg2) _
  have A3 := HF.out x2 a b HOA.out okb hg3
  have HG3 := Lib.hid hg3
  have HO2 := Lib.hid hO2
  have HX2 := Lib.hid hx2
  have HVB := Lib.hid hvb
  clear hO2 hx2 c1 c2 hg2 hg3 hvb okb HB1
  have hNa : N5 a = .agg #[.int .u64 (a0 : Int), .int .u64 (a1 : Int), .int .u64 (a2 : Int), .int .u64 (a3 : Int), .int .u64 (a4 : Int)] := by have e := HEA.out; rw [e]; rfl
  have hNb : N5 b = .agg #[.int .u64 (b0 : Int), .int .u64 (b1 : Int), .int .u64 (b2 : Int), .int .u64 (b3 : Int), .int .u64 (b4 : Int)] := by have e := HEB.out; rw [e]; rfl
  rw [hNa, hNb] at A3
  clear hNa hNb
  go_upto_region 3 with (fail)
  rw [← HO2.out, ← HX2.out]
  go_wp2_with fail
  (with_reducible refine A3.mono ?_)
  rintro e w3 ⟨l, rfl, okl, hR, hg4⟩
  have AT : ∀ V : World, Calls Tryz.prog 139 #[N5 l] V (Grown (S (leB (lval l % PP) 32)) V) := fun V => code_ntext V l okl.length (fun z hz => by have := okl.le z hz; omega)
  have HRR := Lib.hid hR
  have HG4 := Lib.hid (grow_trans HG3.out hg4)
  have HVA' := HVA
  obtain ⟨V, hV⟩ : ∃ V, V = leB (lval l % PP) 32 := ⟨_, rfl⟩
  rw [← hV] at AT
  have HV := Lib.hid hV
  unfold S at AT
  clear hR hg4 okl hV hk p0 p1 p2 p3 p4 q0 q1 q2 q3 q4
  go_wp2_with fail
  (with_reducible refine (AT _).mono ?_)
  rintro e w4 ⟨rfl, hg5⟩
  have HG5 := Lib.hid (grow_trans HG4.out hg5)
  clear hg5 AT
  go_wp2_with fail
  refine bodyPost_ret (v := .tuple #[.string ⟨V.toArray⟩, .int .i64 0]) (by simp [results, Tryz.results85, go_sem]) rfl ?_
  exact ⟨lval a, lval b, lval l, HVA.out, HVB.out, HRR.out, by rw [HV.out]; rfl, HG5.out⟩

end Go.Proofs.YtmomfbkpniblgaaGreatDoor

namespace Go.Proofs.YtmomfbkpniblgaaGreatDoor
open Go.RowKit
set_option linter.unusedVariables false

theorem code_nread_err (w : World) (s : List UInt8) (hs : s.length ≠ 32) : Calls Tryz.prog 138 #[S s] w fun e w' => e = .returned (.tuple #[N5 [0, 0, 0, 0, 0], .bool false]) ∧ w.grownBy w' none := by
  have q : ((s.length : Int) != 32) = true := by rw [bne_iff_ne]; omega
  clear hs
  unfold S
  go_enter Tryz.func138, Tryz.ntmps138
  go_wp2_with fail
  refine bodyPost_ret (v := .tuple #[.agg #[.int .u64 0, .int .u64 0, .int .u64 0, .int .u64 0, .int .u64 0], .bool false]) (by simp [results, Tryz.results138, go_sem]) rfl ?_
  exact ⟨rfl, by first | exact grow_refl _ _ | exact grow_alloc (grow_refl _ _) _⟩

/-- What read answers, in one form. -/
def ReadAny (s : List UInt8) (w : World) (e : Ending) (w' : World) : Prop := ∃ a0 a1 a2 a3 a4 : Nat, e = .returned (.tuple #[.agg #[.int .u64 (a0 : Int), .int .u64 (a1 : Int), .int .u64 (a2 : Int), .int .u64 (a3 : Int), .int .u64 (a4 : Int)], .bool (decide (s.length = 32))]) ∧ w.grownBy w' none
theorem code_nread_any (w : World) (s : List UInt8) : Calls Tryz.prog 138 #[S s] w (ReadAny s w) := by
  by_cases hs : s.length = 32
  · refine (code_nread w s hs).mono ?_
    rintro e w' ⟨l, rfl, ok, _, hg⟩
    obtain ⟨a0, a1, a2, a3, a4, ea⟩ := five ok.length
    exact ⟨a0, a1, a2, a3, a4, by rw [ea]; simp [N5, c64, hs], hg⟩
  · refine (code_nread_err w s hs).mono ?_
    rintro e w' ⟨rfl, hg⟩
    exact ⟨0, 0, 0, 0, 0, by simp [N5, c64, hs], hg⟩

theorem code_ntwo_err (w : World) (s t : List UInt8) (h : ¬ (s.length = 32 ∧ t.length = 32)) (f : Value) : Calls Tryz.prog 85 #[S s, S t, f] w (Grown (.tuple #[S [], .int .i64 1]) w) := by
  have A1 := fun W : World => code_nread_any W s
  have A2 := fun W : World => code_nread_any W t
  unfold ReadAny at A1 A2
  have hd : decide (s.length = 32) = true → decide (t.length = 32) = false := fun h1 => by
    simp only [decide_eq_true_eq, decide_eq_false_iff_not] at h1 ⊢
    exact fun h2 => h ⟨h1, h2⟩
  generalize decide (s.length = 32) = bs at *
  generalize decide (t.length = 32) = bt at *
  clear h
  unfold S at *
  cases bs with
  | false =>
    go_enter Tryz.func85, Tryz.ntmps85
    go_wp2_with fail
    (with_reducible refine (A1 _).mono ?_)
    rintro e w1 ⟨a0, a1, a2, a3, a4, rfl, hg1⟩
    go_wp2_with fail
    (with_reducible refine (A2 _).mono ?_)
    rintro e w2 ⟨b0, b1, b2, b3, b4, rfl, hg2⟩
    have HG := Lib.hid (grow_trans (grow_alloc hg1 (.cells #[.int .u64 (a0 : Int), .int .u64 (a1 : Int), .int .u64 (a2 : Int), .int .u64 (a3 : Int), .int .u64 (a4 : Int)] 144)) hg2)
    clear hg1 hg2 A1 A2 hd
    go_wp2_with fail
    go_ret2
    exact ⟨rfl, by first | exact grow_alloc HG.out _ | exact HG.out⟩
  | true =>
    obtain rfl := hd rfl
    go_enter Tryz.func85, Tryz.ntmps85
    go_wp2_with fail
    (with_reducible refine (A1 _).mono ?_)
    rintro e w1 ⟨a0, a1, a2, a3, a4, rfl, hg1⟩
    go_wp2_with fail
    (with_reducible refine (A2 _).mono ?_)
    rintro e w2 ⟨b0, b1, b2, b3, b4, rfl, hg2⟩
    have HG := Lib.hid (grow_trans (grow_alloc hg1 (.cells #[.int .u64 (a0 : Int), .int .u64 (a1 : Int), .int .u64 (a2 : Int), .int .u64 (a3 : Int), .int .u64 (a4 : Int)] 144)) hg2)
    clear hg1 hg2 A1 A2 hd
    go_wp2_with fail
    go_ret2
    exact ⟨rfl, by first | exact grow_alloc HG.out _ | exact HG.out⟩

theorem code_nadd_err (w : World) (s t : List UInt8) (h : ¬ (s.length = 32 ∧ t.length = 32)) : Calls Tryz.prog 51 #[S s, S t] w (Grown (.tuple #[S [], .int .i64 1]) w) := by
  have A := fun W : World => code_ntwo_err W s t h
  clear h
  unfold S at *
  go_enter Tryz.func51, Tryz.ntmps51
  go_wp2_with fail
  (with_reducible refine (A _ _).mono ?_)
  rintro e x ⟨rfl, hg⟩
  go_wp2_with fail
  go_ret2
  exact ⟨rfl, hg⟩
theorem code_nmul_err (w : World) (s t : List UInt8) (h : ¬ (s.length = 32 ∧ t.length = 32)) : Calls Tryz.prog 52 #[S s, S t] w (Grown (.tuple #[S [], .int .i64 1]) w) := by
  have A := fun W : World => code_ntwo_err W s t h
  clear h
  unfold S at *
  go_enter Tryz.func52, Tryz.ntmps52
  go_wp2_with fail
  (with_reducible refine (A _ _).mono ?_)
  rintro e x ⟨rfl, hg⟩
  go_wp2_with fail
  go_ret2
  exact ⟨rfl, hg⟩
theorem code_ninv_err (w : World) (s : List UInt8) (h : s.length ≠ 32) : Calls Tryz.prog 53 #[S s] w (Grown (.tuple #[S [], .int .i64 1]) w) := by
  have A := fun W : World => code_ntwo_err W s s (fun h2 => h h2.1)
  clear h
  unfold S at *
  go_enter Tryz.func53, Tryz.ntmps53
  go_wp2_with fail
  (with_reducible refine (A _ _).mono ?_)
  rintro e x ⟨rfl, hg⟩
  have HG := Lib.hid (grow_trans (World.grownBy_alloc w (.cells #[.int .u64 18446744073709551615] 97) none) hg)
  clear hg
  go_wp2_with fail
  go_ret2
  exact ⟨rfl, HG.out⟩

end Go.Proofs.YtmomfbkpniblgaaGreatDoor

namespace Go.Proofs.YtmomfbkpniblgaaGreatDoor
open Go.RowKit
set_option linter.unusedVariables false

def lowM (s : List UInt8) : List UInt8 := leB (leN s % PP) 32
def addM (s t : List UInt8) : List UInt8 := leB ((leN s + leN t) % PP) 32
def subM (s t : List UInt8) : List UInt8 := leB ((leN s + (PP - leN t % PP)) % PP) 32
def mulM (s t : List UInt8) : List UInt8 := leB ((leN s * leN t) % PP) 32
theorem lowM_length (s : List UInt8) : (lowM s).length = 32 := leB_length _ _
theorem addM_length (s t : List UInt8) : (addM s t).length = 32 := leB_length _ _
theorem subM_length (s t : List UInt8) : (subM s t).length = 32 := leB_length _ _
theorem mulM_length (s t : List UInt8) : (mulM s t).length = 32 := leB_length _ _

end Go.Proofs.YtmomfbkpniblgaaGreatDoor

namespace Go.Proofs.YtmomfbkpniblgaaGreatDoor
set_option linter.unusedVariables false

theorem PP_le : PP < 256 ^ 32 := by rw [PP_eq]; omega
theorem leN_least (n : Nat) : leN (leB (n % PP) 32) = n % PP := by
  rw [leN_leB, Nat.mod_eq_of_lt (Nat.lt_trans (Nat.mod_lt _ PP_pos) PP_le)]
theorem leN_lowM (s : List UInt8) : leN (lowM s) = leN s % PP := leN_least _
theorem leN_addM (s t : List UInt8) : leN (addM s t) = (leN s + leN t) % PP := leN_least _
theorem leN_subM (s t : List UInt8) : leN (subM s t) = (leN s + (PP - leN t % PP)) % PP := leN_least _
theorem leN_mulM (s t : List UInt8) : leN (mulM s t) = (leN s * leN t) % PP := leN_least _
theorem leN_zeros : ∀ n : Nat, leN (zerosL n) = 0
  | 0 => rfl
  | n + 1 => by
    show leN (0 :: zerosL n) = 0
    simp only [leN, leN_zeros n]
    rfl
theorem leB_zero : ∀ n : Nat, leB 0 n = zerosL n
  | 0 => rfl
  | n + 1 => by
    show UInt8.ofNat 0 :: leB (0 / 256) n = 0 :: zerosL n
    rw [Nat.zero_div, leB_zero n]
    rfl
theorem take_back (x y : Nat) : (x + y + (PP - y % PP)) % PP = x % PP := by
  have hp := PP_pos
  generalize PP = p at *
  have hy := Nat.mod_lt y hp
  have e : x + y + (p - y % p) = x + p * (y / p + 1) := by
    have := Nat.div_add_mod y p
    rw [Nat.mul_add, Nat.mul_one]
    omega
  rw [e, Nat.add_mul_mod_self_left]

theorem add_comm' (a b : List UInt8) : addM a b = addM b a := by unfold addM; rw [Nat.add_comm]
theorem add_assoc' (a b c : List UInt8) : addM (addM a b) c = addM a (addM b c) := by
  unfold addM
  rw [leN_least, leN_least, Nat.mod_add_mod, Nat.add_mod_mod, Nat.add_assoc]
theorem sub_add (a b : List UInt8) : subM (addM a b) b = lowM a := by
  unfold subM lowM
  rw [leN_addM, Nat.mod_add_mod, take_back]
theorem add_sub (a b : List UInt8) : addM (subM a b) b = lowM a := by
  unfold addM lowM
  rw [leN_subM, Nat.mod_add_mod, Nat.add_right_comm, take_back]
theorem sub_self (a : List UInt8) : subM a a = zerosL 32 := by
  unfold subM
  have := take_back 0 (leN a)
  rw [Nat.zero_add, Nat.zero_mod] at this
  rw [this, leB_zero]

theorem mul_comm' (a b : List UInt8) : mulM a b = mulM b a := by unfold mulM; rw [Nat.mul_comm]
theorem mul_assoc' (a b c : List UInt8) : mulM (mulM a b) c = mulM a (mulM b c) := by
  unfold mulM
  rw [leN_least, leN_least, Nat.mod_mul_mod, Nat.mul_mod_mod, Nat.mul_assoc]
theorem mul_add (a b c : List UInt8) : mulM a (addM b c) = addM (mulM a b) (mulM a c) := by
  unfold mulM addM
  rw [leN_least, leN_least, leN_least, Nat.mul_mod_mod, Nat.mod_add_mod, Nat.add_mod_mod, Nat.mul_add]
theorem leN_one : leN (sizedL [1] 32) = 1 := by decide +kernel
theorem mul_one' (a : List UInt8) : mulM a (sizedL [1] 32) = lowM a := by
  unfold mulM lowM
  rw [leN_one, Nat.mul_one]

end Go.Proofs.YtmomfbkpniblgaaGreatDoor

namespace Go.Proofs.YtmomfbkpniblgaaGreatDoor
set_option linter.unusedVariables false

/-- The number of words, the lowest first. -/
def wval : List Nat → Nat
  | [] => 0
  | x :: r => x + 18446744073709551616 * wval r
theorem wval_lt : ∀ l : List Nat, (∀ x ∈ l, x < 18446744073709551616) → wval l < 18446744073709551616 ^ l.length
  | [], _ => by simp [wval]
  | x :: r, h => by
    have ih := wval_lt r (fun y hy => h y (by simp [hy]))
    have := h x (by simp)
    simp only [wval, List.length_cons, Nat.pow_succ]
    generalize 18446744073709551616 ^ r.length = z at *
    omega
theorem wval_at : ∀ (l : List Nat) (i : Nat) (h : i < l.length), (∀ x ∈ l, x < 18446744073709551616) → wval l / 18446744073709551616 ^ i % 18446744073709551616 = l[i]
  | x :: r, 0, _, h => by
    have := h x (by simp)
    simp only [wval, Nat.pow_zero, Nat.div_one, List.getElem_cons_zero]
    omega
  | x :: r, i + 1, hi, h => by
    have ih := wval_at r i (by simpa using hi) (fun y hy => h y (by simp [hy]))
    have := h x (by simp)
    simp only [wval, List.getElem_cons_succ]
    rw [Nat.pow_succ, Nat.mul_comm (18446744073709551616 ^ i), ← Nat.div_div_eq_div_mul, show (x + 18446744073709551616 * wval r) / 18446744073709551616 = wval r from by omega, ih]

/-- What is left of the exponent: from bit k of word i on. -/
def exAt (n i k : Nat) : Nat := n / 18446744073709551616 ^ i / 2 ^ k
theorem exAt_word (n i : Nat) : exAt n i 64 = exAt n (i + 1) 0 := by
  unfold exAt
  rw [Nat.pow_zero, Nat.div_one, Nat.div_div_eq_div_mul, Nat.pow_succ 18446744073709551616]
theorem exAt_zero (n : Nat) : exAt n 0 0 = n := by
  unfold exAt
  rw [Nat.pow_zero, Nat.div_one, Nat.div_one]
theorem exAt_top (l : List Nat) (h : ∀ x ∈ l, x < 18446744073709551616) : exAt (wval l) l.length 0 = 0 := by
  unfold exAt
  rw [Nat.div_eq_of_lt (wval_lt l h), Nat.zero_div]
theorem exAt_bit (l : List Nat) (h : ∀ x ∈ l, x < 18446744073709551616) (i k : Nat) (hi : i < l.length) (hk : k < 64) : exAt (wval l) i k = 2 * exAt (wval l) i (k + 1) + l[i] / 2 ^ k % 2 := by
  have ha := wval_at l i hi h
  unfold exAt
  generalize wval l / 18446744073709551616 ^ i = m at *
  rw [← ha, Nat.pow_succ, ← Nat.div_div_eq_div_mul]
  have hb : m % 18446744073709551616 / 2 ^ k % 2 = m / 2 ^ k % 2 := by
    have e : (18446744073709551616 : Nat) = 2 ^ k * (2 * 2 ^ (63 - k)) := by rw [← Nat.pow_succ', ← Nat.pow_add, show k + (63 - k).succ = 64 from by omega]
    rw [e, Nat.mod_mul_right_div_self, Nat.mod_mul_right_mod]
  rw [hb]
  generalize m / 2 ^ k = q
  omega

/-- A number that is the power so far. -/
def PowAt (l L : List Nat) (e : Nat) : Prop := Ok5 L ∧ lval L % PP = lval l ^ e % PP
theorem PowAt.twice {l L M : List Nat} {e : Nat} (h : PowAt l L e) (hM : Ok5 M) (hv : lval M % PP = (lval L * lval L) % PP) : PowAt l M (2 * e) := by
  refine ⟨hM, ?_⟩
  rw [hv, Nat.mul_mod, h.2, ← Nat.mul_mod, ← Nat.pow_add, show e + e = 2 * e from by omega]
theorem PowAt.more {l L M : List Nat} {e : Nat} (h : PowAt l L e) (hM : Ok5 M) (hv : lval M % PP = (lval L * lval l) % PP) : PowAt l M (e + 1) := by
  refine ⟨hM, ?_⟩
  rw [hv, Nat.mul_mod, h.2, ← Nat.mul_mod, ← Nat.pow_succ]

end Go.Proofs.YtmomfbkpniblgaaGreatDoor

namespace Go.Proofs.YtmomfbkpniblgaaGreatDoor
set_option linter.unusedVariables false

def addP (x y : Nat) : Nat := (x + y) % PP
def subP (x y : Nat) : Nat := (x + (PP - y % PP)) % PP
def mulP (x y : Nat) : Nat := (x * y) % PP

/-- One round for the four numbers. -/
def ladX2 (x2 z2 : Nat) : Nat := mulP (mulP (addP x2 z2) (addP x2 z2)) (mulP (subP x2 z2) (subP x2 z2))
def ladE (x2 z2 : Nat) : Nat := subP (mulP (addP x2 z2) (addP x2 z2)) (mulP (subP x2 z2) (subP x2 z2))
def ladZ2 (x2 z2 : Nat) : Nat := mulP (ladE x2 z2) (addP (mulP (addP x2 z2) (addP x2 z2)) (mulP 121665 (ladE x2 z2)))
def ladDA (x2 z2 x3 z3 : Nat) : Nat := mulP (subP x3 z3) (addP x2 z2)
def ladCB (x2 z2 x3 z3 : Nat) : Nat := mulP (addP x3 z3) (subP x2 z2)
def ladX3 (x2 z2 x3 z3 : Nat) : Nat := mulP (addP (ladDA x2 z2 x3 z3) (ladCB x2 z2 x3 z3)) (addP (ladDA x2 z2 x3 z3) (ladCB x2 z2 x3 z3))
def ladZ3 (x x2 z2 x3 z3 : Nat) : Nat := mulP x (mulP (subP (ladDA x2 z2 x3 z3) (ladCB x2 z2 x3 z3)) (subP (ladDA x2 z2 x3 z3) (ladCB x2 z2 x3 z3)))

structure Lad where
  sw : Nat
  x2 : Nat
  z2 : Nat
  x3 : Nat
  z3 : Nat

def Lad.turn (s : Lad) (bit : Nat) : Lad := if bit = s.sw then s else ⟨bit, s.x3, s.z3, s.x2, s.z2⟩
def Lad.step (s : Lad) (x : Nat) : Lad := ⟨s.sw, ladX2 s.x2 s.z2, ladZ2 s.x2 s.z2, ladX3 s.x2 s.z2 s.x3 s.z3, ladZ3 x s.x2 s.z2 s.x3 s.z3⟩
/-- Behind so many rounds, from bit 254 down. -/
def ladS (k x : Nat) : Nat → Lad
  | 0 => ⟨0, 1, 0, x, 1⟩
  | i + 1 => ((ladS k x i).turn (k / 2 ^ (254 - i) % 2)).step x
def ladOut (s : Lad) : Nat := if s.sw = 1 then mulP s.x3 (s.z3 ^ (PP - 2)) else mulP s.x2 (s.z2 ^ (PP - 2))
/-- The ladder's number. -/
def ladN (k x : Nat) : Nat := ladOut (ladS k x 255)

theorem turn_sw (s : Lad) (bit : Nat) : (s.turn bit).sw = bit := by
  unfold Lad.turn
  split <;> simp_all
theorem ladS_sw (k x : Nat) : ∀ i, (ladS k x i).sw ≤ 1
  | 0 => by simp [ladS]
  | i + 1 => by
    simp only [ladS, Lad.step, turn_sw]
    omega

end Go.Proofs.YtmomfbkpniblgaaGreatDoor

namespace Go.Proofs.YtmomfbkpniblgaaGreatDoor
open Go.RowKit
set_option linter.unusedVariables false

theorem code_none (w : World) : Calls Tryz.prog 143 #[] w (Grown (N5 [1, 0, 0, 0, 0]) w) := by
  rw [N5_lit]
  go_enter Tryz.func143, Tryz.ntmps143
  go_wp2_with fail
  refine bodyPost_ret (v := .agg #[.int .u64 1, .int .u64 0, .int .u64 0, .int .u64 0, .int .u64 0]) (by simp [results, Tryz.results143, go_sem]) rfl ?_
  exact ⟨rfl, grow_alloc (grow_refl w none) _⟩

def PowIs (l : List Nat) (n : Nat) (w : World) (e : Ending) (w' : World) : Prop := ∃ L, e = .returned (N5 L) ∧ PowAt l L n ∧ w.grownBy w' none

set_option maxRecDepth 20000 in
set_option maxHeartbeats 4000000 in
theorem code_npower (w : World) (l : List Nat) (ok : Ok5 l) (K : Nat) (t : TypeId) (ws : List Nat) (hK : KB w K t ws) (hb : ∀ x ∈ ws, x < 18446744073709551616) (hn : ws.length ≤ 4) :
    Calls Tryz.prog 89 #[N5 l, .slice (some ⟨K, 0, none⟩) ws.length ws.length] w (PowIs l (wval ws) w) := by
  obtain ⟨B, hB⟩ : ∃ B, B = w.heap.size := ⟨_, rfl⟩
  obtain ⟨a0, a1, a2, a3, a4, el⟩ := five ok.length
  obtain ⟨x, hx⟩ : ∃ x, x = (w.alloc (.cells #[.int .u64 (a0 : Int), .int .u64 (a1 : Int), .int .u64 (a2 : Int), .int .u64 (a3 : Int), .int .u64 (a4 : Int)] 144)).alloc (.cells #[.int .u64 0, .int .u64 0, .int .u64 0, .int .u64 0, .int .u64 0] 144) := ⟨_, rfl⟩
  have s1 : (w.alloc (.cells #[.int .u64 (a0 : Int), .int .u64 (a1 : Int), .int .u64 (a2 : Int), .int .u64 (a3 : Int), .int .u64 (a4 : Int)] 144)).heap.size = B + 1 := by rw [hB]; simp
  have bA : NB x B [a0, a1, a2, a3, a4] := by rw [hx, hB]; exact obj_alloc (obj_new _ _)
  have bR : NB x (B + 1) [0, 0, 0, 0, 0] := by rw [hx, ← s1]; exact obj_new _ _
  have bK : KB x K t ws := by rw [hx]; exact obj_alloc (obj_alloc hK)
  have hgx : w.grownBy x none := by rw [hx]; exact grow_alloc (grow_alloc (grow_refl w none) _) _
  have hKB : K < B := by rw [hB]; exact Blk.lt hK
  have hN : N5 l = .agg #[.int .u64 (a0 : Int), .int .u64 (a1 : Int), .int .u64 (a2 : Int), .int .u64 (a3 : Int), .int .u64 (a4 : Int)] := by rw [el]; rfl
  rw [hN]
  have HA := Lib.hid bA
  have HR := Lib.hid bR
  have HK := Lib.hid bK
  have HG := Lib.hid hgx
  have HB := Lib.hid hB
  have HX := Lib.hid hx
  have HEL := Lib.hid el
  have HOK := Lib.hid ok
  have HWB := Lib.hid hb
  clear bA bR bK hgx hB hx el ok hb hN s1 hK
  go_enter Tryz.func89, Tryz.ntmps89
  go_upto_region 1 with (fail)
  rw [← HB.out, ← HX.out]
  go_wp2_with fail
  (with_reducible refine (code_none _).mono ?_)
  rintro e x1 ⟨rfl, hg1⟩
  rw [N5_lit]
  obtain ⟨O, hO⟩ : ∃ O, O = x1.heap.size := ⟨_, rfl⟩
  obtain ⟨y, hy⟩ : ∃ y, y = x1.alloc (.cells #[.int .u64 1, .int .u64 0, .int .u64 0, .int .u64 0, .int .u64 0] 144) := ⟨_, rfl⟩
  have bO : NB y O [1, 0, 0, 0, 0] := by rw [hy, hO]; exact obj_new _ _
  have b1 : NB y B [a0, a1, a2, a3, a4] := by rw [hy]; exact obj_alloc (Blk.kept HA.out hg1 nofun)
  have b2 : NB y (B + 1) [0, 0, 0, 0, 0] := by rw [hy]; exact obj_alloc (Blk.kept HR.out hg1 nofun)
  have b3 : KB y K t ws := by rw [hy]; exact obj_alloc (Blk.kept HK.out hg1 nofun)
  have hgy : w.grownBy y none := by rw [hy]; exact grow_alloc (grow_trans HG.out hg1) _
  have hBO : B + 1 < O := by rw [hO]; exact Blk.lt (Blk.kept HR.out hg1 nofun)
  have HBO := Lib.hid bO
  have HB1 := Lib.hid b1
  have HB2 := Lib.hid b2
  have HB3 := Lib.hid b3
  have HGY := Lib.hid hgy
  have HO := Lib.hid hO
  have HY := Lib.hid hy
  clear bO b1 b2 b3 hgy hO hy hg1 HA HR HK HG HX
  go_upto_region 3 with (fail)
  rw [← HO.out, ← HY.out]
  have hP0 : PowAt l [1, 0, 0, 0, 0] (exAt (wval ws) ws.length 0) := by
    rw [exAt_top ws HWB.out]
    exact ⟨⟨1, [0, 0, 0, 0], rfl, rfl, by omega, by simp⟩, by simp [lval]⟩
  have HP0 := Lib.hid hP0
  have HFIN := Lib.hid (exAt_zero (wval ws))
  generalize hW : wval ws = W at *
  have HWV := Lib.hid hW
  clear hP0 hW
  go_loopw [6, 7] (fun v6 v7 wr => ∃ (i : Nat) (L : List Nat), i ≤ ws.length ∧ v6 = .int .i64 ((i : Int) - 1) ∧ Hid (PowAt l L (exAt W i 0)) ∧ Hid (NB wr O L) ∧ Hid (y.grownBy wr (some O))) (fun v6 _ _ => (intOf v6 + 1).toNat)
  case atStart => exact ⟨ws.length, _, by omega, rfl, HP0, HBO, Lib.hid (grow_refl _ _)⟩
  case round =>
    clear HP0 HBO
    obtain ⟨i, L, hi, rfl, hP, hL, hg⟩ := hrel
    by_cases hi0 : i = 0
    · subst hi0
      rw [show ((0 : Nat) : Int) - 1 = -1 from rfl]
      obtain ⟨r0, r1, r2, r3, r4, eL⟩ := five hP.out.1.length
      have bL := hL.out
      rw [eL] at bL
      obtain ⟨⟨c0, c1, c2, c3, c4⟩, _⟩ := bL.five
      have bR : NB wr (B + 1) [0, 0, 0, 0, 0] := Blk.kept HB2.out hg.out (by simp; omega)
      obtain ⟨⟨z0, z1, z2, z3, z4⟩, f0, f1, f2, f3, f4⟩ := bR.five
      have hfin := Lib.hid (grow5 (B := B + 1) (grow_trans_new HGY.out hg.out (by have := HB.out; omega)) (by have := HB.out; omega) (.int .u64 (r0 : Int)) (.int .u64 (r1 : Int)) (.int .u64 (r2 : Int)) (.int .u64 (r3 : Int)) (.int .u64 (r4 : Int)))
      have HL2 := Lib.hid eL
      clear eL bL bR hL hg
      go_wp2_with fail
      refine bodyPost_ret (v := .agg #[.int .u64 (r0 : Int), .int .u64 (r1 : Int), .int .u64 (r2 : Int), .int .u64 (r3 : Int), .int .u64 (r4 : Int)]) (by simp [results, Tryz.results89, go_sem, z0, z1, z2, z3, z4]) rfl ?_
      exact ⟨L, by have e := HL2.out; rw [e]; rfl, by have e := hP.out; rw [HFIN.out] at e; exact e, hfin.out⟩
    · obtain ⟨j, rfl⟩ : ∃ j, i = j + 1 := ⟨i - 1, by omega⟩
      have ej : ((j + 1 : Nat) : Int) - 1 = (j : Int) := by omega
      rw [ej]
      have jn : (0 : Int) ≤ (j : Int) := by omega
      have hd : decide ((0 : Int) ≤ (j : Int)) = true := by simp
      go_wp2_with fail
      go_loopw [7] (fun v7 wr => ∃ (k : Nat) (M : List Nat), k ≤ 64 ∧ v7 = .int .i64 ((k : Int) - 1) ∧ Hid (PowAt l M (exAt W j k)) ∧ Hid (NB wr O M) ∧ Hid (y.grownBy wr (some O))) (fun v7 _ => (intOf v7 + 1).toNat)
      case atStart => exact ⟨64, L, by omega, rfl, Lib.hid (by rw [exAt_word]; exact hP.out), hL, hg⟩
      case round =>
        clear hP hL hg
        obtain ⟨k, M, hk, rfl, hP, hL, hg⟩ := hrel
        by_cases hk0 : k = 0
        · subst hk0
          rw [show ((0 : Nat) : Int) - 1 = -1 from rfl]
          go_wp2_with fail
          go_roundw
          case rel => exact ⟨j, M, by omega, rfl, hP, hL, hg⟩
          case measure => simp [intOf]
        · obtain ⟨m, rfl⟩ : ∃ m, k = m + 1 := ⟨k - 1, by omega⟩
          have em : ((m + 1 : Nat) : Int) - 1 = (m : Int) := by omega
          rw [em]
          have mn : (0 : Int) ≤ (m : Int) := by omega
          have mx : (m : Int) ≤ 63 := by omega
          have hdm : decide ((0 : Int) ≤ (m : Int)) = true := by simp
          obtain ⟨m0, m1, m2, m3, m4, eM⟩ := five hP.out.1.length
          have bM := hL.out
          rw [eM] at bM
          obtain ⟨⟨c0, c1, c2, c3, c4⟩, _⟩ := bM.five
          have A1 : ∀ V : World, Calls Tryz.prog 87 #[N5 M, N5 M] V (NumIs (lval M * lval M) V) := fun V => code_ntimes V M M hP.out.1 hP.out.1
          rw [eM, N5_lit, ← eM] at A1
          have HBM := Lib.hid bM
          have HG2 := hg
          clear bM eM hL hg
          go_wp2_with fail
          (with_reducible refine (A1 _).mono ?_)
          rintro e w2 ⟨M1, rfl, ok1, hv1, hg1⟩
          obtain ⟨p0, p1, p2, p3, p4, eM1⟩ := five ok1.length
          have hN1 : N5 M1 = .agg #[.int .u64 (p0 : Int), .int .u64 (p1 : Int), .int .u64 (p2 : Int), .int .u64 (p3 : Int), .int .u64 (p4 : Int)] := by rw [eM1]; rfl
          rw [hN1]
          have bM2 : NB w2 O [m0, m1, m2, m3, m4] := Blk.kept HBM.out hg1 nofun
          obtain ⟨y2, hy2⟩ : ∃ y2, y2 = ((((w2.setCell ⟨O, 0, none⟩ (.int .u64 (p0 : Int))).setCell ⟨O, 1, none⟩ (.int .u64 (p1 : Int))).setCell ⟨O, 2, none⟩ (.int .u64 (p2 : Int))).setCell ⟨O, 3, none⟩ (.int .u64 (p3 : Int))).setCell ⟨O, 4, none⟩ (.int .u64 (p4 : Int)) := ⟨_, rfl⟩
          have b3 : NB y2 O M1 := by rw [hy2, eM1]; exact bM2.set5 p0 p1 p2 p3 p4
          have g3 : y.grownBy y2 (some O) := by
            rw [hy2]
            exact grow_setCell (grow_setCell (grow_setCell (grow_setCell (grow_setCell (grow_trans HG2.out (grow_none hg1)) _ _) _ _) _ _) _ _) _ _
          have hj : j < ws.length := by omega
          have bk : KB y2 K t ws := Blk.kept HB3.out g3 (by simp; omega)
          have ck := bk.cell j hj
          have hwj := HWB.out ws[j] (List.getElem_mem hj)
          obtain ⟨b, hbt⟩ : ∃ b, b = ws[j] / 2 ^ m % 2 := ⟨_, rfl⟩
          have hex := exAt_bit ws HWB.out j m hj (by omega)
          rw [HWV.out, ← hbt] at hex
          have hP1 : PowAt l M1 (2 * exAt W j (m + 1)) := hP.out.twice ok1 hv1
          generalize ws[j] = wj at *
          have hA : bits .and .u64 ((wj : Int) / 2 ^ m) 1 = (b : Int) := by
            have e : ((wj : Int) / 2 ^ m) = ((wj / 2 ^ m : Nat) : Int) := by simp
            have hle : wj / 2 ^ m ≤ wj := Nat.div_le_self _ _
            have := u64_and_nat (wj / 2 ^ m) 1 (by omega) (by omega)
            rw [e]
            rw [show ((1 : Nat) : Int) = 1 from rfl] at this
            rw [this, Nat.and_one_is_mod, hbt]
          have j1 : (j : Int) < (ws.length : Int) := by omega
          have hb2 : b ≤ 1 := by omega
          have HP1 := Lib.hid hP1
          have HB3' := Lib.hid b3
          have HG3 := Lib.hid g3
          have HEX := Lib.hid hex
          have HM1 := Lib.hid eM1
          have HO1 := Lib.hid ok1
          have HY2 := Lib.hid hy2
          obtain ⟨⟨z0, z1, z2, z3, z4⟩, f0, f1, f2, f3, f4⟩ := bM2.five
          clear hy2 b3 g3 bk hP1 hex hbt hg1 hv1 hN1 eM1 ok1 bM2 c0 c1 c2 c3 c4 A1 hP HBM HG2
          go_upto_region 9 with (fail)
          rw [← HY2.out]
          clear z0 z1 z2 z3 z4 f0 f1 f2 f3 f4
          rcases (show b = 0 ∨ b = 1 by omega) with h0 | h1
          · subst h0
            go_wp2_with fail
            go_roundw
            case rel => exact ⟨m, M1, by omega, rfl, Lib.hid (by have e := HEX.out; rw [e]; exact HP1.out), HB3', HG3⟩
            case measure => simp [intOf]
          · subst h1
            have bM1 := HB3'.out
            rw [HM1.out] at bM1
            obtain ⟨⟨c0, c1, c2, c3, c4⟩, _⟩ := bM1.five
            have bA : NB y2 B [a0, a1, a2, a3, a4] := Blk.kept HB1.out HG3.out (by simp; omega)
            obtain ⟨⟨d0, d1, d2, d3, d4⟩, _⟩ := bA.five
            have A2 : ∀ V : World, Calls Tryz.prog 87 #[N5 M1, N5 l] V (NumIs (lval M1 * lval l) V) := fun V => code_ntimes V M1 l HO1.out HOK.out
            have hq1 : N5 M1 = .agg #[.int .u64 (p0 : Int), .int .u64 (p1 : Int), .int .u64 (p2 : Int), .int .u64 (p3 : Int), .int .u64 (p4 : Int)] := by have e := HM1.out; rw [e]; rfl
            have hq2 : N5 l = .agg #[.int .u64 (a0 : Int), .int .u64 (a1 : Int), .int .u64 (a2 : Int), .int .u64 (a3 : Int), .int .u64 (a4 : Int)] := by have e := HEL.out; rw [e]; rfl
            rw [hq1, hq2] at A2
            have HBM1 := Lib.hid bM1
            clear bM1 bA hq1 hq2
            go_wp2_with fail
            (with_reducible refine (A2 _).mono ?_)
            rintro e w3 ⟨M2, rfl, ok2, hv2, hg2⟩
            obtain ⟨q0, q1, q2, q3, q4, eM2⟩ := five ok2.length
            have hN2 : N5 M2 = .agg #[.int .u64 (q0 : Int), .int .u64 (q1 : Int), .int .u64 (q2 : Int), .int .u64 (q3 : Int), .int .u64 (q4 : Int)] := by rw [eM2]; rfl
            rw [hN2]
            have bM3 : NB w3 O [p0, p1, p2, p3, p4] := Blk.kept HBM1.out hg2 nofun
            have b4 : NB (((((w3.setCell ⟨O, 0, none⟩ (.int .u64 (q0 : Int))).setCell ⟨O, 1, none⟩ (.int .u64 (q1 : Int))).setCell ⟨O, 2, none⟩ (.int .u64 (q2 : Int))).setCell ⟨O, 3, none⟩ (.int .u64 (q3 : Int))).setCell ⟨O, 4, none⟩ (.int .u64 (q4 : Int))) O M2 := by rw [eM2]; exact bM3.set5 q0 q1 q2 q3 q4
            have HB4 := Lib.hid b4
            have HG4 := Lib.hid (grow_setCell (grow_setCell (grow_setCell (grow_setCell (grow_setCell (grow_trans HG3.out (grow_none hg2)) 0 (.int .u64 (q0 : Int))) 1 (.int .u64 (q1 : Int))) 2 (.int .u64 (q2 : Int))) 3 (.int .u64 (q3 : Int))) 4 (.int .u64 (q4 : Int)))
            have HP2 := Lib.hid (HP1.out.more ok2 hv2)
            obtain ⟨⟨z0, z1, z2, z3, z4⟩, f0, f1, f2, f3, f4⟩ := bM3.five
            clear c0 c1 c2 c3 c4 d0 d1 d2 d3 d4 b4 bM3 hN2 eM2 hg2 hv2 ok2 A2
            go_wp2_with fail
            go_roundw
            case rel => exact ⟨m, M2, by omega, rfl, Lib.hid (by have e := HEX.out; rw [e]; exact HP2.out), HB4, HG4⟩
            case measure => simp [intOf]

end Go.Proofs.YtmomfbkpniblgaaGreatDoor

namespace Go.Proofs.YtmomfbkpniblgaaGreatDoor
set_option linter.unusedVariables false

section
variable {n : Nat} [NeZero n]
def rX (x z : Fin n) : Fin n := (x + z) * (x + z) * ((x - z) * (x - z))
def rE (x z : Fin n) : Fin n := (x + z) * (x + z) - (x - z) * (x - z)
def rZ (c x z : Fin n) : Fin n := rE x z * ((x + z) * (x + z) + c * rE x z)
def rDA (x2 z2 x3 z3 : Fin n) : Fin n := (x3 - z3) * (x2 + z2)
def rCB (x2 z2 x3 z3 : Fin n) : Fin n := (x3 + z3) * (x2 - z2)
def rX3 (x2 z2 x3 z3 : Fin n) : Fin n := (rDA x2 z2 x3 z3 + rCB x2 z2 x3 z3) * (rDA x2 z2 x3 z3 + rCB x2 z2 x3 z3)
def rZ3 (u x2 z2 x3 z3 : Fin n) : Fin n := u * ((rDA x2 z2 x3 z3 - rCB x2 z2 x3 z3) * (rDA x2 z2 x3 z3 - rCB x2 z2 x3 z3))
theorem rX_sc (s x z : Fin n) : rX (s * x) (s * z) = s * s * (s * s) * rX x z := by unfold rX; grind
theorem rZ_sc (c s x z : Fin n) : rZ c (s * x) (s * z) = s * s * (s * s) * rZ c x z := by unfold rZ rE; grind
theorem rX3_sc (s t x2 z2 x3 z3 : Fin n) : rX3 (s * x2) (s * z2) (t * x3) (t * z3) = s * t * (s * t) * rX3 x2 z2 x3 z3 := by unfold rX3 rDA rCB; grind
theorem rZ3_sc (u s t x2 z2 x3 z3 : Fin n) : rZ3 u (s * x2) (s * z2) (t * x3) (t * z3) = s * t * (s * t) * rZ3 u x2 z2 x3 z3 := by unfold rZ3 rDA rCB; grind
end

instance : NeZero PP := ⟨Nat.pos_iff_ne_zero.1 PP_pos⟩
/-- A number as an element of the ring. -/
def fi (x : Nat) : Fin PP := Fin.ofNat PP x
theorem fi_val (x : Nat) : (fi x).val = x % PP := rfl
theorem fi_eq {x y : Nat} : fi x = fi y ↔ x % PP = y % PP := ⟨fun h => by have := congrArg Fin.val h; exact this, fun h => Fin.ext h⟩
theorem fi_mod (x : Nat) : fi (x % PP) = fi x := fi_eq.2 (Nat.mod_mod _ _)
theorem fi_add (x y : Nat) : fi (addP x y) = fi x + fi y := by
  apply Fin.ext
  rw [Fin.val_add, fi_val, fi_val, fi_val]
  unfold addP
  rw [Nat.mod_mod, ← Nat.add_mod]
theorem fi_mul (x y : Nat) : fi (mulP x y) = fi x * fi y := by
  apply Fin.ext
  rw [Fin.val_mul, fi_val, fi_val, fi_val]
  unfold mulP
  rw [Nat.mod_mod, ← Nat.mul_mod]
theorem fi_sub (x y : Nat) : fi (subP x y) = fi x - fi y := by
  apply Fin.ext
  rw [Fin.sub_def]
  show (subP x y) % PP = ((PP - y % PP) + x % PP) % PP
  unfold subP
  rw [Nat.mod_mod, Nat.add_comm (PP - y % PP) (x % PP), Nat.mod_add_mod]
theorem fi_X2 (x z : Nat) : fi (ladX2 x z) = rX (fi x) (fi z) := by unfold ladX2 rX; simp only [fi_mul, fi_add, fi_sub]
theorem fi_Z2 (x z : Nat) : fi (ladZ2 x z) = rZ (fi 121665) (fi x) (fi z) := by unfold ladZ2 ladE rZ rE; simp only [fi_mul, fi_add, fi_sub]
theorem fi_X3 (a b c d : Nat) : fi (ladX3 a b c d) = rX3 (fi a) (fi b) (fi c) (fi d) := by unfold ladX3 ladDA ladCB rX3 rDA rCB; simp only [fi_mul, fi_add, fi_sub]
theorem fi_Z3 (u a b c d : Nat) : fi (ladZ3 u a b c d) = rZ3 (fi u) (fi a) (fi b) (fi c) (fi d) := by unfold ladZ3 ladDA ladCB rZ3 rDA rCB; simp only [fi_mul, fi_add, fi_sub]

end Go.Proofs.YtmomfbkpniblgaaGreatDoor

namespace Go.Proofs.YtmomfbkpniblgaaGreatDoor
open Go.RowKit
set_option linter.unusedVariables false

def Said (l : List UInt8) (w : World) : Ending → World → Prop := Grown (.tuple #[S l, .int .i64 0]) w

theorem two_val (s t : List UInt8) (w : World) (R : Nat → Nat → Nat → Prop) (V : List UInt8) (h : ∀ x y z, x % PP = leN s % PP → y % PP = leN t % PP → R x y z → leB (z % PP) 32 = V)
    (e : Ending) (w' : World) (hT : TwoIs s t R w e w') : Said V w e w' := by
  obtain ⟨x, y, z, h1, h2, h3, rfl, hg⟩ := hT
  rw [h x y z h1 h2 h3]
  exact ⟨rfl, hg⟩

end Go.Proofs.YtmomfbkpniblgaaGreatDoor

namespace Go.Proofs.YtmomfbkpniblgaaGreatDoor
open Go.RowKit
set_option linter.unusedVariables false

set_option maxRecDepth 20000 in
theorem code_nadd (w : World) (s t : List UInt8) (hs : s.length = 32) (ht : t.length = 32) : Calls Tryz.prog 51 #[S s, S t] w (Said (addM s t) w) := by
  have A : ∀ W : World, Calls Tryz.prog 85 #[S s, S t, .func (.func 86) #[] #[]] W (Said (addM s t) W) := fun W =>
    (code_ntwo W s t hs ht _ #[] (fun x y z => z % PP = (x + y) % PP) (fun x y W => rfl) (fun V a b oa ob _ => (code_nplus V a b oa ob).mono fun e w' ⟨l, h1, h2, h3, h4⟩ => ⟨l, h1, h2, h3, h4⟩)).mono
      (two_val s t W _ _ fun x y z h1 h2 h3 => by rw [h3, Nat.add_mod, h1, h2, ← Nat.add_mod]; rfl)
  unfold S at A ⊢
  obtain ⟨V, hV⟩ : ∃ V, V = addM s t := ⟨_, rfl⟩
  rw [← hV] at A ⊢
  clear hV
  go_enter Tryz.func51, Tryz.ntmps51
  go_wp2_with fail
  (with_reducible refine (A _).mono ?_)
  rintro e w1 ⟨rfl, hg⟩
  unfold S
  go_wp2_with fail
  refine bodyPost_ret (v := .tuple #[.string ⟨V.toArray⟩, .int .i64 0]) (by simp [results, Tryz.results51, go_sem]) rfl ?_
  exact ⟨rfl, hg⟩

set_option maxRecDepth 20000 in
theorem code_nmul (w : World) (s t : List UInt8) (hs : s.length = 32) (ht : t.length = 32) : Calls Tryz.prog 52 #[S s, S t] w (Said (mulM s t) w) := by
  have A : ∀ W : World, Calls Tryz.prog 85 #[S s, S t, .func (.func 87) #[] #[]] W (Said (mulM s t) W) := fun W =>
    (code_ntwo W s t hs ht _ #[] (fun x y z => z % PP = (x * y) % PP) (fun x y W => rfl) (fun V a b oa ob _ => (code_ntimes V a b oa ob).mono fun e w' ⟨l, h1, h2, h3, h4⟩ => ⟨l, h1, h2, h3, h4⟩)).mono
      (two_val s t W _ _ fun x y z h1 h2 h3 => by rw [h3, Nat.mul_mod, h1, h2, ← Nat.mul_mod]; rfl)
  unfold S at A ⊢
  obtain ⟨V, hV⟩ : ∃ V, V = mulM s t := ⟨_, rfl⟩
  rw [← hV] at A ⊢
  clear hV
  go_enter Tryz.func52, Tryz.ntmps52
  go_wp2_with fail
  (with_reducible refine (A _).mono ?_)
  rintro e w1 ⟨rfl, hg⟩
  unfold S
  go_wp2_with fail
  refine bodyPost_ret (v := .tuple #[.string ⟨V.toArray⟩, .int .i64 0]) (by simp [results, Tryz.results52, go_sem]) rfl ?_
  exact ⟨rfl, hg⟩

end Go.Proofs.YtmomfbkpniblgaaGreatDoor

namespace Go.Proofs.YtmomfbkpniblgaaGreatDoor
open Go.RowKit
set_option linter.unusedVariables false

def powM (s : List UInt8) (n : Nat) : List UInt8 := leB (leN s ^ n % PP) 32
theorem powM_length (s : List UInt8) (n : Nat) : (powM s n).length = 32 := leB_length _ _

end Go.Proofs.YtmomfbkpniblgaaGreatDoor

namespace Go.Proofs.YtmomfbkpniblgaaGreatDoor
set_option linter.unusedVariables false

theorem leN_powM (s : List UInt8) (n : Nat) : leN (powM s n) = leN s ^ n % PP := leN_least _
theorem pow_sum (s : List UInt8) (m n : Nat) : mulM (powM s m) (powM s n) = powM s (m + n) := by
  unfold mulM
  rw [leN_powM, leN_powM, ← Nat.mul_mod, ← Nat.pow_add]
  rfl
theorem pow_times (s t : List UInt8) (m : Nat) : mulM (powM s m) (powM t m) = powM (mulM s t) m := by
  unfold mulM
  rw [leN_powM, leN_powM, ← Nat.mul_mod, ← Nat.mul_pow]
  unfold powM
  rw [leN_least, ← Nat.pow_mod]

end Go.Proofs.YtmomfbkpniblgaaGreatDoor

namespace Go.Proofs.YtmomfbkpniblgaaGreatDoor
set_option linter.unusedVariables false

def invM (s : List UInt8) : List UInt8 := powM s (PP - 2)
theorem invM_length (s : List UInt8) : (invM s).length = 32 := powM_length _ _
def invWords : List Nat := [18446744073709551595, 18446744073709551615, 18446744073709551615, 9223372036854775807]
theorem wval_inv : wval invWords = PP - 2 := by rw [PP_eq]; decide +kernel
theorem primeP : Pr.Prime PP := by rw [PP_eq]; exact Pr.prime25519
theorem PP_gt : 2 < PP := by rw [PP_eq]; omega

theorem leB_inj (x y : Nat) (hx : x < 256 ^ 32) (hy : y < 256 ^ 32) (h : leB x 32 = leB y 32) : x = y := by
  have h2 : leN (leB x 32) = leN (leB y 32) := by rw [h]
  rw [leN_leB, leN_leB, Nat.mod_eq_of_lt hx, Nat.mod_eq_of_lt hy] at h2
  exact h2
theorem least_zero (n : Nat) : leB (n % PP) 32 = zerosL 32 ↔ n % PP = 0 := by
  constructor
  · intro h
    have := leN_least n
    rw [h, leN_zeros] at this
    exact this.symm
  · intro h
    rw [h, leB_zero]
theorem low_zero (s : List UInt8) : lowM s = zerosL 32 ↔ leN s % PP = 0 := least_zero _
theorem mul_zero_iff (s t : List UInt8) : mulM s t = zerosL 32 ↔ (lowM s = zerosL 32 ∨ lowM t = zerosL 32) := by
  unfold mulM
  rw [least_zero, low_zero, low_zero]
  constructor
  · intro h
    rcases Pr.Prime.dvd_mul primeP (Nat.dvd_of_mod_eq_zero h) with h | h
    · exact Or.inl (Nat.mod_eq_zero_of_dvd h)
    · exact Or.inr (Nat.mod_eq_zero_of_dvd h)
  · rintro (h | h)
    · exact Nat.mod_eq_zero_of_dvd (Nat.dvd_trans (Nat.dvd_of_mod_eq_zero h) (Nat.dvd_mul_right _ _))
    · exact Nat.mod_eq_zero_of_dvd (Nat.dvd_trans (Nat.dvd_of_mod_eq_zero h) (Nat.dvd_mul_left _ _))
theorem inv_zero (s : List UInt8) (h : lowM s = zerosL 32) : invM s = zerosL 32 := by
  rw [low_zero] at h
  unfold invM powM
  rw [least_zero, Nat.pow_mod, h, Nat.zero_pow (by have := PP_gt; omega), Nat.zero_mod]
theorem one_eq : leB 1 32 = sizedL [1] 32 := by decide +kernel
theorem mul_inv (s : List UInt8) (h : ¬ lowM s = zerosL 32) : mulM s (invM s) = sizedL [1] 32 := by
  rw [low_zero] at h
  unfold mulM invM
  rw [leN_powM, Nat.mul_mod_mod, Nat.mul_comm, ← Nat.pow_succ, show (PP - 2).succ = PP - 1 from by have := PP_gt; omega,
    Pr.fermat primeP (leN s) (fun hd => h (Nat.mod_eq_zero_of_dvd hd))]
  exact one_eq
theorem one_ne : ¬ sizedL [1] 32 = zerosL 32 := by decide +kernel
theorem inv_ne (s : List UInt8) (h : ¬ lowM s = zerosL 32) : ¬ invM s = zerosL 32 := by
  intro hz
  have h1 := mul_inv s h
  have h2 : mulM s (invM s) = zerosL 32 := by
    rw [hz]
    unfold mulM
    rw [leN_zeros, Nat.mul_zero, Nat.zero_mod, leB_zero]
  exact one_ne (h1.symm.trans h2)

end Go.Proofs.YtmomfbkpniblgaaGreatDoor

namespace Go.Proofs.YtmomfbkpniblgaaGreatDoor
open Go.RowKit
set_option linter.unusedVariables false

def invW (al : Nat) : List Nat := [al - 20, al, al, al / 2]

set_option maxHeartbeats 2000000 in
theorem code_ninv1 (w : World) (a b : List Nat) (ha : Ok5 a) (hb : Ok5 b) (K al : Nat) (hn : al < 18446744073709551616) (hn2 : 20 ≤ al) (hc : ∀ V, w.grownBy V none → V.cell? ⟨K, 0, none⟩ = some (.int .u64 (al : Int))) :
    Calls Tryz.prog 88 #[N5 a, N5 b, .pointer (some ⟨K, 0, none⟩)] w (FunIs a b (fun x y z => z % PP = x ^ wval (invW al) % PP) w) := by
  obtain ⟨a0, a1, a2, a3, a4, ea⟩ := five ha.length
  obtain ⟨b0, b1, b2, b3, b4, eb⟩ := five hb.length
  have HA := Lib.hid ha
  have HE := Lib.hid ea
  have hNa : N5 a = .agg #[.int .u64 (a0 : Int), .int .u64 (a1 : Int), .int .u64 (a2 : Int), .int .u64 (a3 : Int), .int .u64 (a4 : Int)] := by rw [ea]; rfl
  have hNb : N5 b = .agg #[.int .u64 (b0 : Int), .int .u64 (b1 : Int), .int .u64 (b2 : Int), .int .u64 (b3 : Int), .int .u64 (b4 : Int)] := by rw [eb]; rfl
  rw [hNa, hNb]
  obtain ⟨x, hx⟩ : ∃ x, x = ((w.alloc (.cells #[.int .u64 (a0 : Int), .int .u64 (a1 : Int), .int .u64 (a2 : Int), .int .u64 (a3 : Int), .int .u64 (a4 : Int)] 144)).alloc (.cells #[.int .u64 (b0 : Int), .int .u64 (b1 : Int), .int .u64 (b2 : Int), .int .u64 (b3 : Int), .int .u64 (b4 : Int)] 144)).alloc (.cells #[.int .u64 0, .int .u64 0, .int .u64 0, .int .u64 0, .int .u64 0] 144) := ⟨_, rfl⟩
  obtain ⟨B, hB⟩ : ∃ B, B = w.heap.size := ⟨_, rfl⟩
  have hgx : w.grownBy x none := by rw [hx]; exact grow_alloc (grow_alloc (grow_alloc (grow_refl w none) _) _) _
  have bA : NB x B [a0, a1, a2, a3, a4] := by rw [hx, hB]; exact obj_alloc (obj_alloc (obj_new _ _))
  have bR : NB x (B + 1 + 1) [0, 0, 0, 0, 0] := by
    rw [hx]
    have := obj_new ((w.alloc (.cells #[.int .u64 (a0 : Int), .int .u64 (a1 : Int), .int .u64 (a2 : Int), .int .u64 (a3 : Int), .int .u64 (a4 : Int)] 144)).alloc (.cells #[.int .u64 (b0 : Int), .int .u64 (b1 : Int), .int .u64 (b2 : Int), .int .u64 (b3 : Int), .int .u64 (b4 : Int)] 144)) (.cells #[.int .u64 0, .int .u64 0, .int .u64 0, .int .u64 0, .int .u64 0] 144)
    rw [show ((w.alloc (.cells #[.int .u64 (a0 : Int), .int .u64 (a1 : Int), .int .u64 (a2 : Int), .int .u64 (a3 : Int), .int .u64 (a4 : Int)] 144)).alloc (.cells #[.int .u64 (b0 : Int), .int .u64 (b1 : Int), .int .u64 (b2 : Int), .int .u64 (b3 : Int), .int .u64 (b4 : Int)] 144)).heap.size = B + 1 + 1 from by rw [hB]; simp] at this
    exact this
  have cK := hc x hgx
  obtain ⟨⟨p0, p1, p2, p3, p4⟩, _⟩ := bA.five
  have HX := Lib.hid hx
  have HB := Lib.hid hB
  have HG := Lib.hid hgx
  have HR := Lib.hid bR
  have AP : Calls Tryz.prog 89 #[.agg #[.int .u64 (a0 : Int), .int .u64 (a1 : Int), .int .u64 (a2 : Int), .int .u64 (a3 : Int), .int .u64 (a4 : Int)], .slice (some ⟨x.heap.size, 0, none⟩) 4 4] (x.alloc (.cells #[.int .u64 ((al : Int) - 20), .int .u64 (al : Int), .int .u64 (al : Int), .int .u64 ((al : Int) / 2)] 97)) (PowIs a (wval (invW al)) (x.alloc (.cells #[.int .u64 ((al : Int) - 20), .int .u64 (al : Int), .int .u64 (al : Int), .int .u64 ((al : Int) / 2)] 97))) := by
    have := code_npower (x.alloc (.cells #[.int .u64 (((al - 20 : Nat)) : Int), .int .u64 (al : Int), .int .u64 (al : Int), .int .u64 ((al / 2 : Nat) : Int)] 97)) a HA.out x.heap.size 97 (invW al) (obj_new _ _) (by unfold invW; simp; omega) (by simp [invW])
    rw [hNa, show (((al - 20 : Nat)) : Int) = (al : Int) - 20 from by omega, show ((al / 2 : Nat) : Int) = (al : Int) / 2 from by omega] at this
    exact this
  generalize wval (invW al) = n at *
  clear ha hb ea eb hNa hNb hx hB hgx bA bR hc
  have a1' : (al : Int) < 18446744073709551616 := by omega
  have a2' : (20 : Int) ≤ (al : Int) := by omega
  clear hn hn2
  go_enter Tryz.func88, Tryz.ntmps88
  go_upto_region 1 with (fail)
  rw [← HB.out, ← HX.out]
  go_wp2_with fail
  (with_reducible refine AP.mono ?_)
  rintro e w2 ⟨L, rfl, hP, hg2⟩
  obtain ⟨r0, r1, r2, r3, r4, eL⟩ := five hP.1.length
  have hN : N5 L = .agg #[.int .u64 (r0 : Int), .int .u64 (r1 : Int), .int .u64 (r2 : Int), .int .u64 (r3 : Int), .int .u64 (r4 : Int)] := by rw [eL]; rfl
  rw [hN]
  have bR2 : NB w2 (B + 1 + 1) [0, 0, 0, 0, 0] := Blk.kept (obj_alloc HR.out) hg2 nofun
  obtain ⟨⟨z0, z1, z2, z3, z4⟩, f0, f1, f2, f3, f4⟩ := bR2.five
  have HP := Lib.hid hP
  have HEL := Lib.hid eL
  have hfin := Lib.hid (grow5 (B := B + 1 + 1) (grow_trans (grow_alloc HG.out _) hg2) (by have := HB.out; omega) (.int .u64 (r0 : Int)) (.int .u64 (r1 : Int)) (.int .u64 (r2 : Int)) (.int .u64 (r3 : Int)) (.int .u64 (r4 : Int)))
  clear hP eL hN bR2 hg2 p0 p1 p2 p3 p4 cK AP
  go_wp2_with fail
  refine bodyPost_ret (v := .agg #[.int .u64 (r0 : Int), .int .u64 (r1 : Int), .int .u64 (r2 : Int), .int .u64 (r3 : Int), .int .u64 (r4 : Int)]) (by simp [results, Tryz.results88, go_sem, z0, z1, z2, z3, z4]) rfl ?_
  exact ⟨L, by have e := HEL.out; rw [e]; rfl, HP.out.1, HP.out.2, hfin.out⟩

theorem invW_val : wval (invW 18446744073709551615) = PP - 2 := wval_inv

set_option maxRecDepth 20000 in
set_option maxHeartbeats 2000000 in
theorem code_ninv (w : World) (s : List UInt8) (hs : s.length = 32) : Calls Tryz.prog 53 #[S s] w (Said (invM s) w) := by
  obtain ⟨B, hB⟩ : ∃ B, B = w.heap.size := ⟨_, rfl⟩
  obtain ⟨x, hx⟩ : ∃ x, x = w.alloc (.cells #[.int .u64 18446744073709551615] 97) := ⟨_, rfl⟩
  have bK : KB x B 97 [18446744073709551615] := by rw [hx, hB]; exact obj_new _ _
  have A : Calls Tryz.prog 85 #[S s, S s, .func (.func 88) #[] #[.pointer (some ⟨B, 0, none⟩)]] x (Said (invM s) x) :=
    (code_ntwo x s s hs hs _ #[.pointer (some ⟨B, 0, none⟩)] (fun x y z => z % PP = x ^ wval (invW 18446744073709551615) % PP) (fun x y W => rfl) (fun V a b oa ob hV => code_ninv1 V a b oa ob B 18446744073709551615 (by omega) (by omega) fun U hU => KB.cell (l := [18446744073709551615]) (Blk.kept (Blk.kept bK hV nofun) hU nofun) 0 (by simp))).mono
      (two_val s s x _ _ fun x y z h1 h2 h3 => by rw [h3, invW_val, Nat.pow_mod, h1, ← Nat.pow_mod]; rfl)
  have hgx : w.grownBy x none := by rw [hx]; exact grow_alloc (grow_refl w none) _
  unfold Said S at A
  unfold Said S
  generalize invM s = V at *
  have HB := Lib.hid hB
  have HX := Lib.hid hx
  clear bK hB hx
  go_enter Tryz.func53, Tryz.ntmps53
  go_upto_region 2 with (fail)
  rw [← HB.out, ← HX.out]
  go_wp2_with fail
  (with_reducible refine A.mono ?_)
  rintro e w1 ⟨rfl, hg⟩
  go_wp2_with fail
  refine bodyPost_ret (v := .tuple #[.string ⟨V.toArray⟩, .int .i64 0]) (by simp [results, Tryz.results53, go_sem]) rfl ?_
  exact ⟨rfl, grow_trans hgx hg⟩

end Go.Proofs.YtmomfbkpniblgaaGreatDoor
