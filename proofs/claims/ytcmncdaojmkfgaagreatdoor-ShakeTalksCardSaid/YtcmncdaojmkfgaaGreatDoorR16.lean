/-
  Several texts of this claim in one: ElemText, ElemLowM, ElemPlainLaws, ElemPowPlain, LadPlain, ElemPower, LadBit, Lift, ShakeSmall, Rest, Stamp, Drawn, Prime, FinP, FieldP, Edw, EdwP, LadEd, EdwMul, LadPts, LadKit, LadPoint, LadHas, PrimeL, RestNat.
-/
import Derived.Test.YtcmncdaojmkfgaaGreatDoorR09
import Derived.Test.YtcmncdaojmkfgaaGreatDoorQ02
import Derived.Laws.BitsAllLaws
import Derived.Test.YtcmncdaojmkfgaaGreatDoorBase
import Derived.Deep.RegionWith
import Derived.Deep.RegionHeld3
namespace Go.Proofs.YtcmncdaojmkfgaaGreatDoor
open Go.RowKit
set_option linter.unusedVariables false

theorem NB.set5 {w : World} {B a0 a1 a2 a3 a4 : Nat} (h : NB w B [a0, a1, a2, a3, a4]) (x0 x1 x2 x3 x4 : Nat) :
    NB (((((w.setCell ⟨B, 0, none⟩ (.int .u64 (x0 : Int))).setCell ⟨B, 1, none⟩ (.int .u64 (x1 : Int))).setCell ⟨B, 2, none⟩ (.int .u64 (x2 : Int))).setCell ⟨B, 3, none⟩ (.int .u64 (x3 : Int))).setCell ⟨B, 4, none⟩ (.int .u64 (x4 : Int))) B [x0, x1, x2, x3, x4] :=
  ((((h.set 0 x0).set 1 x1).set 2 x2).set 3 x3).set 4 x4

theorem nidx4_0 (w : World) (a0 a1 a2 a3 : Int) : (Instr.index 148 (.agg #[.int .u64 a0, .int .u64 a1, .int .u64 a2, .int .u64 a3]) (.int .i64 0)).run Tryz.prog w = .ok (.int .u64 a0) w := by kernel_rfl
theorem nidx4_1 (w : World) (a0 a1 a2 a3 : Int) : (Instr.index 148 (.agg #[.int .u64 a0, .int .u64 a1, .int .u64 a2, .int .u64 a3]) (.int .i64 1)).run Tryz.prog w = .ok (.int .u64 a1) w := by kernel_rfl
theorem nidx4_2 (w : World) (a0 a1 a2 a3 : Int) : (Instr.index 148 (.agg #[.int .u64 a0, .int .u64 a1, .int .u64 a2, .int .u64 a3]) (.int .i64 2)).run Tryz.prog w = .ok (.int .u64 a2) w := by kernel_rfl
theorem nidx4_3 (w : World) (a0 a1 a2 a3 : Int) : (Instr.index 148 (.agg #[.int .u64 a0, .int .u64 a1, .int .u64 a2, .int .u64 a3]) (.int .i64 3)).run Tryz.prog w = .ok (.int .u64 a3) w := by kernel_rfl
theorem nidx4 (w : World) (a0 a1 a2 a3 : Nat) (k : Nat) (hk : k < [a0, a1, a2, a3].length) :
    (Instr.index 148 (.agg #[.int .u64 (a0 : Int), .int .u64 (a1 : Int), .int .u64 (a2 : Int), .int .u64 (a3 : Int)]) (.int .i64 (k : Int))).run Tryz.prog w = .ok (.int .u64 (([a0, a1, a2, a3][k] : Nat) : Int)) w := by
  match k, hk with
  | 0, _ => exact nidx4_0 w _ _ _ _
  | 1, _ => exact nidx4_1 w _ _ _ _
  | 2, _ => exact nidx4_2 w _ _ _ _
  | 3, _ => exact nidx4_3 w _ _ _ _

/-- Words as bytes, eight each. -/
def textQ (l : List Nat) : List UInt8 := l.flatMap fun n => leB n 8
theorem textQ_length (l : List Nat) : (textQ l).length = 8 * l.length := by
  induction l with
  | nil => rfl
  | cons n l ih => simp only [textQ, List.flatMap_cons, List.length_append, leB_length, List.length_cons] at ih ⊢; omega
theorem textQ_snoc (l : List Nat) (n : Nat) : textQ (l ++ [n]) = textQ l ++ leB n 8 := by simp [textQ]

/-- What goes on from limb to limb. -/
def carO (L : List Nat) (c i : Nat) : Nat := (carF (L.take i) c).2
theorem carO_next (L : List Nat) (c i : Nat) (hi : i < L.length) : carO L c (i + 1) = (L[i] + carO L c i) / 2251799813685248 := by
  have et : L.take (i + 1) = L.take i ++ [L[i]] := List.take_succ_eq_append_getElem hi
  unfold carO
  rw [et, carF_snoc]

set_option maxRecDepth 20000 in
set_option maxHeartbeats 4000000 in
theorem code_ntext (w : World) (l : List Nat) (hl : l.length = 5) (hb : ∀ x ∈ l, x ≤ 9223372036854775808) : Calls Tryz.prog 71 #[N5 l] w (Grown (S (leB (lval l % PP) 32)) w) := by
  obtain ⟨B, hB⟩ : ∃ B, B = w.heap.size := ⟨_, rfl⟩
  obtain ⟨a0, a1, a2, a3, a4, el⟩ := five hl
  obtain ⟨x, hx⟩ : ∃ x, x = w.alloc (.cells (l.map c64).toArray 128) := ⟨_, rfl⟩
  have bN : NB x B [a0, a1, a2, a3, a4] := by rw [hx, hB, ← el]; exact obj_new _ _
  have hgx : w.grownBy x none := by rw [hx]; exact grow_alloc (grow_refl w none) _
  have hxl : x = w.alloc (.cells #[.int .u64 (a0 : Int), .int .u64 (a1 : Int), .int .u64 (a2 : Int), .int .u64 (a3 : Int), .int .u64 (a4 : Int)] 128) := by rw [hx, el]; rfl
  have hok := carL_ok l hl hb
  have hfull := full_twice l hl hb
  have hle : ∀ x ∈ carL l, x ≤ 9223372036854775808 := fun z hz => by have := hok.le z hz; omega
  have A1 : ∀ V : World, Calls Tryz.prog 86 #[N5 l] V (Grown (N5 (carL l)) V) := fun V => code_ncarried V l hl hb
  have A2 : ∀ V : World, Calls Tryz.prog 86 #[N5 (carL l)] V (Grown (N5 (carL (carL l))) V) := fun V => code_ncarried V _ hok.length hle
  have hv : lval (carL (carL l)) % PP = lval l % PP := by rw [carL_val _ hok.length, carL_val _ hl]
  obtain ⟨b0, b1, b2, b3, b4, e1⟩ := five hok.length
  obtain ⟨L, hL⟩ : ∃ L, L = carL (carL l) := ⟨_, rfl⟩
  rw [← hL] at hfull hv A2
  obtain ⟨x0, x1, x2, x3, x4, e2⟩ := five hfull.1
  rw [e1, el, N5_lit, N5_lit] at A1
  rw [e1, e2, N5_lit, N5_lit] at A2
  obtain ⟨hLF, hLV⟩ := leastL_ok hfull
  rw [hv] at hLV
  obtain ⟨V, hV⟩ : ∃ V, V = leB (lval l % PP) 32 := ⟨_, rfl⟩
  rw [← hV]
  rw [← hLV] at hV
  have k0 := bN.five.1
  obtain ⟨p0, p1, p2, p3, p4⟩ := k0
  have HBN := Lib.hid bN
  have HG := Lib.hid hgx
  have HB := Lib.hid hB
  have HX := Lib.hid hxl
  have HV := Lib.hid hV
  have HLF := Lib.hid hLF
  have HFU := Lib.hid hfull
  have HEL := Lib.hid e2
  have hN5 : N5 l = .agg #[.int .u64 (a0 : Int), .int .u64 (a1 : Int), .int .u64 (a2 : Int), .int .u64 (a3 : Int), .int .u64 (a4 : Int)] := by rw [el]; rfl
  rw [hN5]
  clear hN5 hv hok hfull hle hL e1 e2 el hl hb hx hxl bN hgx hB hV hLF hLV
  go_enter Tryz.func71, Tryz.ntmps71
  go_upto_region 1 with (fail)
  rw [← HB.out, ← HX.out]
  go_wp2_with fail
  (with_reducible refine (A1 _).mono ?_)
  rintro e w1 ⟨rfl, hg1⟩
  clear p0 p1 p2 p3 p4
  go_wp2_with fail
  (with_reducible refine (A2 _).mono ?_)
  rintro e w2 ⟨rfl, hg2⟩
  have bN2 : NB w2 B [a0, a1, a2, a3, a4] := Blk.kept (Blk.kept HBN.out hg1 nofun) hg2 nofun
  obtain ⟨⟨z0, z1, z2, z3, z4⟩, f0, f1, f2, f3, f4⟩ := bN2.five
  obtain ⟨y, hy⟩ : ∃ y, y = ((((w2.setCell ⟨B, 0, none⟩ (.int .u64 (x0 : Int))).setCell ⟨B, 1, none⟩ (.int .u64 (x1 : Int))).setCell ⟨B, 2, none⟩ (.int .u64 (x2 : Int))).setCell ⟨B, 3, none⟩ (.int .u64 (x3 : Int))).setCell ⟨B, 4, none⟩ (.int .u64 (x4 : Int)) := ⟨_, rfl⟩
  have bY := bN2.set5 x0 x1 x2 x3 x4
  have hgy : w.grownBy y none := by rw [hy]; exact grow5 (grow_trans (grow_trans HG.out hg1) hg2) (by have := HB.out; omega) _ _ _ _ _
  rw [← hy] at bY
  have HBY := Lib.hid bY
  have HGY := Lib.hid hgy
  have HY := Lib.hid hy
  clear bN2 hg1 hg2 hy hgy A1 A2
  have ff := HFU.out.2
  rw [HEL.out] at ff
  have k0 := ff x0 (by simp)
  have k1 := ff x1 (by simp)
  have k2 := ff x2 (by simp)
  have k3 := ff x3 (by simp)
  have k4 := ff x4 (by simp)
  obtain ⟨⟨c0, c1, c2, c3, c4⟩, g0, g1, g2, g3, g4⟩ := bY.five
  clear ff bY
  go_upto_region 2 with (fail)
  rw [← HY.out]
  clear z0 z1 z2 z3 z4 f0 f1 f2 f3 f4
  obtain ⟨q0, hq0⟩ : ∃ q0, q0 = (x0 + 19) / 2251799813685248 := ⟨_, rfl⟩
  have eq0 : ((x0 : Int) + 19) / 2251799813685248 = (q0 : Int) := by rw [hq0]; rfl
  have lq0 : q0 ≤ 1 := by omega
  have HQ0 := Lib.hid hq0
  clear hq0
  obtain ⟨M, hM⟩ : ∃ M : List Nat, M = L.set 0 (L.getD 0 0 + 19 * (carF L 19).2) := ⟨_, rfl⟩
  have HM := Lib.hid hM
  clear hM
  have HBL : Hid (NB y B L) := Lib.hid (by rw [HEL.out]; exact HBY.out)
  go_upto_region 4 with (fail)
  clear c0 c1 c2 c3 c4 g0 g1 g2 g3 g4 lq0 eq0
  go_loop [3, 5, 19] (fun v3 v5 vi => ∃ i c : Nat, i ≤ 4 ∧ vi = .int .i64 i ∧ v3 = .int .u64 (c : Int) ∧ c ≤ 19 ∧ Hid (c = carO L 19 (i + 1))) (fun _ _ vi => 4 - (intOf vi).toNat)
  case atStart => exact ⟨0, q0, by omega, rfl, rfl, by have := HQ0.out; omega, Lib.hid (by rw [carO_next L 19 0 (by rw [HFU.out.1]; omega)]; have e := HEL.out; subst e; exact HQ0.out)⟩
  case round =>
    obtain ⟨i, c, hi, rfl, rfl, hcb, hc⟩ := hrel
    by_cases hli : i < 4
    · have hiL : i + 1 < L.length := by rw [HFU.out.1]; omega
      have hx := HFU.out.2 L[i + 1] (List.getElem_mem hiL)
      have hn := carO_next L 19 (i + 1) hiL
      have cl' : y.cell? ⟨B, 1 + i, none⟩ = some (.int .u64 (L[i + 1] : Nat)) := by
        rw [Nat.add_comm 1 i]
        exact HBL.out.cell (i + 1) hiL
      rw [← hc.out] at hn
      generalize L[i + 1] = z at *
      have HNX := Lib.hid hn
      clear hn hiL
      have hcn : (z + c) / 2251799813685248 ≤ 19 := by omega
      go_wp2_with fail
      go_round
      case rel => exact ⟨i + 1, (z + c) / 2251799813685248, by omega, by go_num, by congr 1, hcn, Lib.hid HNX.out.symm⟩
      case measure => simp [intOf]; omega
    · obtain rfl : i = 4 := by omega
      have hcF : c = (carF L 19).2 := by
        have := hc.out
        unfold carO at this
        rwa [List.take_of_length_le (by have := HFU.out.1; omega)] at this
      have hMe : M = [x0 + 19 * c, x1, x2, x3, x4] := by rw [HM.out, ← hcF, HEL.out]; rfl
      obtain ⟨⟨c0, c1, c2, c3, c4⟩, g0, g1, g2, g3, g4⟩ := HBY.out.five
      have hst := HBY.out.set 0 (x0 + 19 * c)
      obtain ⟨y2, hy2⟩ : ∃ y2, y2 = y.setCell ⟨B, 0, none⟩ (.int .u64 ((x0 : Int) + 19 * (c : Int))) := ⟨_, rfl⟩
      have hst' : NB y2 B M := by rw [hMe, hy2]; simpa using hst
      have gy2 : y.grownBy y2 (some B) := by rw [hy2]; exact grow_setCell (grow_refl _ _) _ _
      have hM5 : M.length = 5 := by rw [hMe]; rfl
      have hMb : ∀ z ∈ M, z ≤ 2251799813685248 + 361 := by
        rw [hMe]
        intro z hz
        simp only [List.mem_cons, List.not_mem_nil, or_false] at hz
        omega
      have HML := Lib.hid hM5
      have HMB := Lib.hid hMb
      have HB2 := Lib.hid hst'
      have HG2 := Lib.hid (grow_trans_new HGY.out gy2 (by have := HB.out; omega))
      have HY2 := Lib.hid hy2
      have HLE : Hid (leastL L = (carF M 0).1) := Lib.hid (by rw [HM.out]; rfl)
      clear hcF hMe hst hst' gy2 hM5 hMb hy2 hc
      go_upto_region 9 with (fail)
      rw [← HY2.out]
      clear c0 c1 c2 c3 c4 g0 g1 g2 g3 g4
      go_wp2_with fail
      clear hcb k0 k1 k2 k3 k4 HBY HBL HY
      go_loopw [3, 6, 34] (fun v3 v6 vi wr => ∃ (i c : Nat), i ≤ 5 ∧ vi = .int .i64 i ∧ v3 = .int .u64 (c : Int) ∧ c ≤ 4096 ∧ Hid (c = (carF (M.take i) 0).2) ∧ Hid (NB wr B (carI M i)) ∧ Hid (y2.grownBy wr (some B))) (fun _ _ vi _ => 5 - (intOf vi).toNat)
      case atStart => exact ⟨0, 0, by omega, rfl, rfl, by omega, Lib.hid rfl, Lib.hid (by show NB _ _ ([] ++ M.drop 0); rw [List.drop_zero, List.nil_append]; exact HB2.out), Lib.hid (grow_refl _ _)⟩
      case round =>
        obtain ⟨i, c, hi, rfl, rfl, hc, hce, hK, hg⟩ := hrel
        by_cases hli : i < 5
        · have hiL : i < M.length := by rw [HML.out]; exact hli
          have hxb := HMB.out M[i] (List.getElem_mem hiL)
          have cl := hK.out.cell i (by rw [carI_length]; exact hiL)
          rw [carI_at M i hiL] at cl
          have fr := hK.out.frozen i
          obtain ⟨n1, n2⟩ := carI_next M i hiL
          rw [← hce.out] at n1 n2
          have hst := (hK.out.set i (M[i] + c)).set i ((M[i] + c) % 2251799813685248)
          rw [List.set_set, n1] at hst
          have hgs := grow_setCell (grow_setCell hg.out i (.int .u64 ((M[i] + c : Nat) : Int))) i (.int .u64 (((M[i] + c) % 2251799813685248 : Nat) : Int))
          have HS := Lib.hid (And.intro hst hgs)
          have HN2 := Lib.hid n2
          generalize M[i] = z at *
          have m1 : bits .and .u64 ((z : Int) + (c : Int)) 2251799813685247 = (((z + c) % 2251799813685248 : Nat) : Int) := by
            have := mask51 (z + c) (by omega)
            simpa using this
          have hcn : (z + c) / 2251799813685248 ≤ 4096 := by omega
          clear hst hgs n1 n2 hK hg hiL
          have hst' : NB ((wr.setCell ⟨B, i, none⟩ (.int .u64 ((z : Int) + (c : Int)))).setCell ⟨B, i, none⟩ (.int .u64 (((z : Int) + (c : Int)) % 2251799813685248))) B (carI M (i + 1)) := by simpa using HS.out.1
          have hgs' : y2.grownBy ((wr.setCell ⟨B, i, none⟩ (.int .u64 ((z : Int) + (c : Int)))).setCell ⟨B, i, none⟩ (.int .u64 (((z : Int) + (c : Int)) % 2251799813685248))) (some B) := by simpa using HS.out.2
          have HS1 := Lib.hid hst'
          have HS2 := Lib.hid hgs'
          clear hst' hgs' HS
          go_wp2_with fail
          go_roundw
          case rel => exact ⟨i + 1, (z + c) / 2251799813685248, by omega, by go_num, by congr 1, hcn, Lib.hid HN2.out.symm, HS1, HS2⟩
          case measure => simp [intOf]; omega
        · obtain rfl : i = 5 := by omega
          have e5 : carI M 5 = leastL L := by
            rw [HLE.out]
            unfold carI
            rw [List.take_of_length_le (by have := HML.out; omega), List.drop_of_length_le (by have := HML.out; omega), List.append_nil]
          have hK2 := hK.out
          rw [e5] at hK2
          obtain ⟨y0, y1, y2', y3, y4, e6⟩ := five HLF.out.1
          rw [e6] at hK2
          have ff := HLF.out.2
          have hVe := HV.out
          rw [e6] at ff hVe
          have k0 := ff y0 (by simp)
          have k1 := ff y1 (by simp)
          have k2 := ff y2' (by simp)
          have k3 := ff y3 (by simp)
          have k4 := ff y4 (by simp)
          rw [← pk_text y0 y1 y2' y3 y4 k0 k1 k2 k3 k4] at hVe
          have q1 : bits .or .u64 (y0 : Int) (IntKind.u64.wrap ((y1 : Int) * 2251799813685248)) = (pk0 y0 y1 : Int) := shl_or y0 y1 0 (by omega) (by omega) 2251799813685248 0 (by omega)
          have q2 : bits .or .u64 ((y1 : Int) / 8192) (IntKind.u64.wrap ((y2' : Int) * 274877906944)) = (pk1 y1 y2' : Int) := shl_or (y1 / 8192) y2' 0 (by omega) (by omega) 274877906944 0 (by omega)
          have q3 : bits .or .u64 ((y2' : Int) / 67108864) (IntKind.u64.wrap ((y3 : Int) * 33554432)) = (pk2 y2' y3 : Int) := shl_or (y2' / 67108864) y3 0 (by omega) (by omega) 33554432 0 (by omega)
          have q4 : bits .or .u64 ((y3 : Int) / 549755813888) ((y4 : Int) * 4096) = (pk3 y3 y4 : Int) := by
            have := shl_or (y3 / 549755813888) y4 0 (by omega) (by omega) 4096 0 (by omega)
            rw [IntWalk.u64_in _ (by omega)] at this
            exact this
          have l1 : pk0 y0 y1 < 18446744073709551616 := Nat.or_lt_two_pow (n := 64) (by omega) (by omega)
          have l2 : pk1 y1 y2' < 18446744073709551616 := Nat.or_lt_two_pow (n := 64) (by omega) (by omega)
          have l3 : pk2 y2' y3 < 18446744073709551616 := Nat.or_lt_two_pow (n := 64) (by omega) (by omega)
          have l4 : pk3 y3 y4 < 18446744073709551616 := Nat.or_lt_two_pow (n := 64) (by omega) (by omega)
          generalize pk0 y0 y1 = t0 at *
          generalize pk1 y1 y2' = t1 at *
          generalize pk2 y2' y3 = t2 at *
          generalize pk3 y3 y4 = t3 at *
          have hVt : V = textQ [t0, t1, t2, t3] := by rw [hVe]; simp [textQ]
          have hT : ∀ z ∈ [t0, t1, t2, t3], z < 18446744073709551616 := by
            intro z hz
            simp only [List.mem_cons, List.not_mem_nil, or_false] at hz
            omega
          obtain ⟨T, hTe⟩ : ∃ T, T = [t0, t1, t2, t3] := ⟨_, rfl⟩
          rw [← hTe] at hVt hT
          have hTl : T.length = 4 := by rw [hTe]; rfl
          have HTE := Lib.hid hTe
          have HTL := Lib.hid hTl
          have HTB := Lib.hid hT
          have HVT := Lib.hid hVt
          have HGR := Lib.hid (grow_trans_new HG2.out hg.out (by have := HB.out; omega))
          obtain ⟨⟨c0, c1, c2, c3, c4⟩, _⟩ := hK2.five
          clear hVe ff e6 e5 hK2 hK hg hce hVt hT hTe hTl l1 l2 l3 l4 HV HLF HLE HY2 HG2 HM HMB HML HB2
          rw [show ((5 : Nat) : Int) = 5 from rfl]
          go_upto_region 19 with (fail)
          clear c0 c1 c2 c3 c4 q1 q2 q3 q4
          obtain ⟨ws, hws⟩ : ∃ ws, ws = wr := ⟨_, rfl⟩
          subst hws
          go_loopw [7, 9, 81] (fun vb v9 vi wt => ∃ j : Nat, j ≤ 4 ∧ vi = .int .i64 j ∧ brow wt ws.heap.size vb (textQ (T.take j)) ∧ Below ws.heap.size ws wt) (fun _ _ vi _ => 4 - (intOf vi).toNat)
          case atStart => exact ⟨0, by omega, rfl, brow_nil _ _, Below.refl _ _⟩
          case round =>
            obtain ⟨j, hj, rfl, hown, hBel⟩ := hrel
            by_cases hlj : j < 4
            · have hjT : j < T.length := by rw [HTL.out]; exact hlj
              obtain ⟨t, ht⟩ : ∃ t, t = T[j] := ⟨_, rfl⟩
              have ix : ∀ W : World, (Instr.index 148 (.agg #[.int .u64 (t0 : Int), .int .u64 (t1 : Int), .int .u64 (t2 : Int), .int .u64 (t3 : Int)]) (.int .i64 (j : Int))).run Tryz.prog W = .ok (.int .u64 (t : Int)) W := fun W => by
                have e := HTE.out
                subst e
                rw [ht]
                exact nidx4 W t0 t1 t2 t3 j hjT
              have hn := HTB.out T[j] (List.getElem_mem hjT)
              have hsn := Lib.hid (show textQ (T.take (j + 1)) = textQ (T.take j) ++ leB T[j] 8 from by rw [List.take_succ_eq_append_getElem hjT, textQ_snoc])
              have hlen : (textQ (T.take j)).length + 8 ≤ 140737488355328 := by rw [textQ_length, List.length_take]; omega
              rw [← ht] at hn hsn
              have hbz := hBel.size
              have HLN := Lib.hid hlen
              clear ht hjT hlen
              go_wp2_with fail
              refine (wire_appendLittle _ ws.heap.size _ _ t 8 hown (by omega) (by omega) HLN.out hbz).mono ?_
              rintro e w5 ⟨v', rfl, hown', hB'⟩
              rw [← hsn.out] at hown'
              replace hBel := hBel.trans hB'
              clear hown hB' hbz ix
              go_wp2_with fail
              go_roundw
              case rel => exact ⟨j + 1, by omega, by go_num, hown', hBel⟩
              case measure => simp [intOf]; omega
            · obtain rfl : j = 4 := by omega
              have hcv := conv_brow hown
              rw [List.take_of_length_le (by have := HTL.out; omega), ← HVT.out] at hcv
              have HFI := Lib.hid (grow_trans HGR.out (grow_of_below hBel))
              unfold S at *
              clear hown hBel
              go_wp2_with fail
              go_ret
              exact ⟨rfl, HFI.out⟩

end Go.Proofs.YtcmncdaojmkfgaaGreatDoor

namespace Go.Proofs.YtcmncdaojmkfgaaGreatDoor
open Go.RowKit
set_option linter.unusedVariables false

def lowM (s : List UInt8) : List UInt8 := leB (leN s % PP) 32
def addM (s t : List UInt8) : List UInt8 := leB ((leN s + leN t) % PP) 32
def subM (s t : List UInt8) : List UInt8 := leB ((leN s + (PP - leN t % PP)) % PP) 32
def mulM (s t : List UInt8) : List UInt8 := leB ((leN s * leN t) % PP) 32
theorem lowM_length (s : List UInt8) : (lowM s).length = 32 := leB_length _ _
theorem addM_length (s t : List UInt8) : (addM s t).length = 32 := leB_length _ _
theorem subM_length (s t : List UInt8) : (subM s t).length = 32 := leB_length _ _
theorem mulM_length (s t : List UInt8) : (mulM s t).length = 32 := leB_length _ _

end Go.Proofs.YtcmncdaojmkfgaaGreatDoor

namespace Go.Proofs.YtcmncdaojmkfgaaGreatDoor
set_option linter.unusedVariables false

theorem PP_le : PP < 256 ^ 32 := by rw [PP_eq]; omega
theorem leN_least (n : Nat) : leN (leB (n % PP) 32) = n % PP := by
  rw [leN_leB, Nat.mod_eq_of_lt (Nat.lt_trans (Nat.mod_lt _ PP_pos) PP_le)]
theorem leN_lowM (s : List UInt8) : leN (lowM s) = leN s % PP := leN_least _
theorem leN_addM (s t : List UInt8) : leN (addM s t) = (leN s + leN t) % PP := leN_least _
theorem leN_subM (s t : List UInt8) : leN (subM s t) = (leN s + (PP - leN t % PP)) % PP := leN_least _
theorem leN_mulM (s t : List UInt8) : leN (mulM s t) = (leN s * leN t) % PP := leN_least _
theorem leN_zeros : ∀ n : Nat, leN (zerosL n) = 0
  | 0 => rfl
  | n + 1 => by
    show leN (0 :: zerosL n) = 0
    simp only [leN, leN_zeros n]
    rfl
theorem leB_zero : ∀ n : Nat, leB 0 n = zerosL n
  | 0 => rfl
  | n + 1 => by
    show UInt8.ofNat 0 :: leB (0 / 256) n = 0 :: zerosL n
    rw [Nat.zero_div, leB_zero n]
    rfl
theorem take_back (x y : Nat) : (x + y + (PP - y % PP)) % PP = x % PP := by
  have hp := PP_pos
  generalize PP = p at *
  have hy := Nat.mod_lt y hp
  have e : x + y + (p - y % p) = x + p * (y / p + 1) := by
    have := Nat.div_add_mod y p
    rw [Nat.mul_add, Nat.mul_one]
    omega
  rw [e, Nat.add_mul_mod_self_left]

theorem add_comm' (a b : List UInt8) : addM a b = addM b a := by unfold addM; rw [Nat.add_comm]
theorem add_assoc' (a b c : List UInt8) : addM (addM a b) c = addM a (addM b c) := by
  unfold addM
  rw [leN_least, leN_least, Nat.mod_add_mod, Nat.add_mod_mod, Nat.add_assoc]
theorem sub_add (a b : List UInt8) : subM (addM a b) b = lowM a := by
  unfold subM lowM
  rw [leN_addM, Nat.mod_add_mod, take_back]
theorem add_sub (a b : List UInt8) : addM (subM a b) b = lowM a := by
  unfold addM lowM
  rw [leN_subM, Nat.mod_add_mod, Nat.add_right_comm, take_back]
theorem sub_self (a : List UInt8) : subM a a = zerosL 32 := by
  unfold subM
  have := take_back 0 (leN a)
  rw [Nat.zero_add, Nat.zero_mod] at this
  rw [this, leB_zero]

theorem mul_comm' (a b : List UInt8) : mulM a b = mulM b a := by unfold mulM; rw [Nat.mul_comm]
theorem mul_assoc' (a b c : List UInt8) : mulM (mulM a b) c = mulM a (mulM b c) := by
  unfold mulM
  rw [leN_least, leN_least, Nat.mod_mul_mod, Nat.mul_mod_mod, Nat.mul_assoc]
theorem mul_add (a b c : List UInt8) : mulM a (addM b c) = addM (mulM a b) (mulM a c) := by
  unfold mulM addM
  rw [leN_least, leN_least, leN_least, Nat.mul_mod_mod, Nat.mod_add_mod, Nat.add_mod_mod, Nat.mul_add]
theorem leN_one : leN (sizedL [1] 32) = 1 := by decide +kernel
theorem mul_one' (a : List UInt8) : mulM a (sizedL [1] 32) = lowM a := by
  unfold mulM lowM
  rw [leN_one, Nat.mul_one]

end Go.Proofs.YtcmncdaojmkfgaaGreatDoor

namespace Go.Proofs.YtcmncdaojmkfgaaGreatDoor
set_option linter.unusedVariables false

/-- The number of words, the lowest first. -/
def wval : List Nat → Nat
  | [] => 0
  | x :: r => x + 18446744073709551616 * wval r
theorem wval_lt : ∀ l : List Nat, (∀ x ∈ l, x < 18446744073709551616) → wval l < 18446744073709551616 ^ l.length
  | [], _ => by simp [wval]
  | x :: r, h => by
    have ih := wval_lt r (fun y hy => h y (by simp [hy]))
    have := h x (by simp)
    simp only [wval, List.length_cons, Nat.pow_succ]
    generalize 18446744073709551616 ^ r.length = z at *
    omega
theorem wval_at : ∀ (l : List Nat) (i : Nat) (h : i < l.length), (∀ x ∈ l, x < 18446744073709551616) → wval l / 18446744073709551616 ^ i % 18446744073709551616 = l[i]
  | x :: r, 0, _, h => by
    have := h x (by simp)
    simp only [wval, Nat.pow_zero, Nat.div_one, List.getElem_cons_zero]
    omega
  | x :: r, i + 1, hi, h => by
    have ih := wval_at r i (by simpa using hi) (fun y hy => h y (by simp [hy]))
    have := h x (by simp)
    simp only [wval, List.getElem_cons_succ]
    rw [Nat.pow_succ, Nat.mul_comm (18446744073709551616 ^ i), ← Nat.div_div_eq_div_mul, show (x + 18446744073709551616 * wval r) / 18446744073709551616 = wval r from by omega, ih]

/-- What is left of the exponent: from bit k of word i on. -/
def exAt (n i k : Nat) : Nat := n / 18446744073709551616 ^ i / 2 ^ k
theorem exAt_word (n i : Nat) : exAt n i 64 = exAt n (i + 1) 0 := by
  unfold exAt
  rw [Nat.pow_zero, Nat.div_one, Nat.div_div_eq_div_mul, Nat.pow_succ 18446744073709551616]
theorem exAt_zero (n : Nat) : exAt n 0 0 = n := by
  unfold exAt
  rw [Nat.pow_zero, Nat.div_one, Nat.div_one]
theorem exAt_top (l : List Nat) (h : ∀ x ∈ l, x < 18446744073709551616) : exAt (wval l) l.length 0 = 0 := by
  unfold exAt
  rw [Nat.div_eq_of_lt (wval_lt l h), Nat.zero_div]
theorem exAt_bit (l : List Nat) (h : ∀ x ∈ l, x < 18446744073709551616) (i k : Nat) (hi : i < l.length) (hk : k < 64) : exAt (wval l) i k = 2 * exAt (wval l) i (k + 1) + l[i] / 2 ^ k % 2 := by
  have ha := wval_at l i hi h
  unfold exAt
  generalize wval l / 18446744073709551616 ^ i = m at *
  rw [← ha, Nat.pow_succ, ← Nat.div_div_eq_div_mul]
  have hb : m % 18446744073709551616 / 2 ^ k % 2 = m / 2 ^ k % 2 := by
    have e : (18446744073709551616 : Nat) = 2 ^ k * (2 * 2 ^ (63 - k)) := by rw [← Nat.pow_succ', ← Nat.pow_add, show k + (63 - k).succ = 64 from by omega]
    rw [e, Nat.mod_mul_right_div_self, Nat.mod_mul_right_mod]
  rw [hb]
  generalize m / 2 ^ k = q
  omega

/-- A number that is the power so far. -/
def PowAt (l L : List Nat) (e : Nat) : Prop := Ok5 L ∧ lval L % PP = lval l ^ e % PP
theorem PowAt.twice {l L M : List Nat} {e : Nat} (h : PowAt l L e) (hM : Ok5 M) (hv : lval M % PP = (lval L * lval L) % PP) : PowAt l M (2 * e) := by
  refine ⟨hM, ?_⟩
  rw [hv, Nat.mul_mod, h.2, ← Nat.mul_mod, ← Nat.pow_add, show e + e = 2 * e from by omega]
theorem PowAt.more {l L M : List Nat} {e : Nat} (h : PowAt l L e) (hM : Ok5 M) (hv : lval M % PP = (lval L * lval l) % PP) : PowAt l M (e + 1) := by
  refine ⟨hM, ?_⟩
  rw [hv, Nat.mul_mod, h.2, ← Nat.mul_mod, ← Nat.pow_succ]

end Go.Proofs.YtcmncdaojmkfgaaGreatDoor

namespace Go.Proofs.YtcmncdaojmkfgaaGreatDoor
set_option linter.unusedVariables false

def addP (x y : Nat) : Nat := (x + y) % PP
def subP (x y : Nat) : Nat := (x + (PP - y % PP)) % PP
def mulP (x y : Nat) : Nat := (x * y) % PP

/-- One round for the four numbers. -/
def ladX2 (x2 z2 : Nat) : Nat := mulP (mulP (addP x2 z2) (addP x2 z2)) (mulP (subP x2 z2) (subP x2 z2))
def ladE (x2 z2 : Nat) : Nat := subP (mulP (addP x2 z2) (addP x2 z2)) (mulP (subP x2 z2) (subP x2 z2))
def ladZ2 (x2 z2 : Nat) : Nat := mulP (ladE x2 z2) (addP (mulP (addP x2 z2) (addP x2 z2)) (mulP 121665 (ladE x2 z2)))
def ladDA (x2 z2 x3 z3 : Nat) : Nat := mulP (subP x3 z3) (addP x2 z2)
def ladCB (x2 z2 x3 z3 : Nat) : Nat := mulP (addP x3 z3) (subP x2 z2)
def ladX3 (x2 z2 x3 z3 : Nat) : Nat := mulP (addP (ladDA x2 z2 x3 z3) (ladCB x2 z2 x3 z3)) (addP (ladDA x2 z2 x3 z3) (ladCB x2 z2 x3 z3))
def ladZ3 (x x2 z2 x3 z3 : Nat) : Nat := mulP x (mulP (subP (ladDA x2 z2 x3 z3) (ladCB x2 z2 x3 z3)) (subP (ladDA x2 z2 x3 z3) (ladCB x2 z2 x3 z3)))

structure Lad where
  sw : Nat
  x2 : Nat
  z2 : Nat
  x3 : Nat
  z3 : Nat

def Lad.turn (s : Lad) (bit : Nat) : Lad := if bit = s.sw then s else ⟨bit, s.x3, s.z3, s.x2, s.z2⟩
def Lad.step (s : Lad) (x : Nat) : Lad := ⟨s.sw, ladX2 s.x2 s.z2, ladZ2 s.x2 s.z2, ladX3 s.x2 s.z2 s.x3 s.z3, ladZ3 x s.x2 s.z2 s.x3 s.z3⟩
/-- Behind so many rounds, from bit 254 down. -/
def ladS (k x : Nat) : Nat → Lad
  | 0 => ⟨0, 1, 0, x, 1⟩
  | i + 1 => ((ladS k x i).turn (k / 2 ^ (254 - i) % 2)).step x
def ladOut (s : Lad) : Nat := if s.sw = 1 then mulP s.x3 (s.z3 ^ (PP - 2)) else mulP s.x2 (s.z2 ^ (PP - 2))
/-- The ladder's number. -/
def ladN (k x : Nat) : Nat := ladOut (ladS k x 255)

theorem turn_sw (s : Lad) (bit : Nat) : (s.turn bit).sw = bit := by
  unfold Lad.turn
  split <;> simp_all
theorem ladS_sw (k x : Nat) : ∀ i, (ladS k x i).sw ≤ 1
  | 0 => by simp [ladS]
  | i + 1 => by
    simp only [ladS, Lad.step, turn_sw]
    omega

end Go.Proofs.YtcmncdaojmkfgaaGreatDoor

namespace Go.Proofs.YtcmncdaojmkfgaaGreatDoor
open Go.RowKit
set_option linter.unusedVariables false

theorem code_none (w : World) : Calls Tryz.prog 66 #[] w (Grown (N5 [1, 0, 0, 0, 0]) w) := by
  rw [N5_lit]
  go_enter Tryz.func66, Tryz.ntmps66
  go_wp2_with fail
  refine bodyPost_ret (v := .agg #[.int .u64 1, .int .u64 0, .int .u64 0, .int .u64 0, .int .u64 0]) (by simp [results, Tryz.results66, go_sem]) rfl ?_
  exact ⟨rfl, grow_alloc (grow_refl w none) _⟩

def PowIs (l : List Nat) (n : Nat) (w : World) (e : Ending) (w' : World) : Prop := ∃ L, e = .returned (N5 L) ∧ PowAt l L n ∧ w.grownBy w' none

set_option maxRecDepth 20000 in
set_option maxHeartbeats 4000000 in
theorem code_npower (w : World) (l : List Nat) (ok : Ok5 l) (K : Nat) (t : TypeId) (ws : List Nat) (hK : KB w K t ws) (hb : ∀ x ∈ ws, x < 18446744073709551616) (hn : ws.length ≤ 4) :
    Calls Tryz.prog 70 #[N5 l, .slice (some ⟨K, 0, none⟩) ws.length ws.length] w (PowIs l (wval ws) w) := by
  obtain ⟨B, hB⟩ : ∃ B, B = w.heap.size := ⟨_, rfl⟩
  obtain ⟨a0, a1, a2, a3, a4, el⟩ := five ok.length
  obtain ⟨x, hx⟩ : ∃ x, x = (w.alloc (.cells #[.int .u64 (a0 : Int), .int .u64 (a1 : Int), .int .u64 (a2 : Int), .int .u64 (a3 : Int), .int .u64 (a4 : Int)] 128)).alloc (.cells #[.int .u64 0, .int .u64 0, .int .u64 0, .int .u64 0, .int .u64 0] 128) := ⟨_, rfl⟩
  have s1 : (w.alloc (.cells #[.int .u64 (a0 : Int), .int .u64 (a1 : Int), .int .u64 (a2 : Int), .int .u64 (a3 : Int), .int .u64 (a4 : Int)] 128)).heap.size = B + 1 := by rw [hB]; simp
  have bA : NB x B [a0, a1, a2, a3, a4] := by rw [hx, hB]; exact obj_alloc (obj_new _ _)
  have bR : NB x (B + 1) [0, 0, 0, 0, 0] := by rw [hx, ← s1]; exact obj_new _ _
  have bK : KB x K t ws := by rw [hx]; exact obj_alloc (obj_alloc hK)
  have hgx : w.grownBy x none := by rw [hx]; exact grow_alloc (grow_alloc (grow_refl w none) _) _
  have hKB : K < B := by rw [hB]; exact Blk.lt hK
  have hN : N5 l = .agg #[.int .u64 (a0 : Int), .int .u64 (a1 : Int), .int .u64 (a2 : Int), .int .u64 (a3 : Int), .int .u64 (a4 : Int)] := by rw [el]; rfl
  rw [hN]
  have HA := Lib.hid bA
  have HR := Lib.hid bR
  have HK := Lib.hid bK
  have HG := Lib.hid hgx
  have HB := Lib.hid hB
  have HX := Lib.hid hx
  have HEL := Lib.hid el
  have HOK := Lib.hid ok
  have HWB := Lib.hid hb
  clear bA bR bK hgx hB hx el ok hb hN s1 hK
  go_enter Tryz.func70, Tryz.ntmps70
  go_upto_region 1 with (fail)
  rw [← HB.out, ← HX.out]
  go_wp2_with fail
  (with_reducible refine (code_none _).mono ?_)
  rintro e x1 ⟨rfl, hg1⟩
  rw [N5_lit]
  obtain ⟨O, hO⟩ : ∃ O, O = x1.heap.size := ⟨_, rfl⟩
  obtain ⟨y, hy⟩ : ∃ y, y = x1.alloc (.cells #[.int .u64 1, .int .u64 0, .int .u64 0, .int .u64 0, .int .u64 0] 128) := ⟨_, rfl⟩
  have bO : NB y O [1, 0, 0, 0, 0] := by rw [hy, hO]; exact obj_new _ _
  have b1 : NB y B [a0, a1, a2, a3, a4] := by rw [hy]; exact obj_alloc (Blk.kept HA.out hg1 nofun)
  have b2 : NB y (B + 1) [0, 0, 0, 0, 0] := by rw [hy]; exact obj_alloc (Blk.kept HR.out hg1 nofun)
  have b3 : KB y K t ws := by rw [hy]; exact obj_alloc (Blk.kept HK.out hg1 nofun)
  have hgy : w.grownBy y none := by rw [hy]; exact grow_alloc (grow_trans HG.out hg1) _
  have hBO : B + 1 < O := by rw [hO]; exact Blk.lt (Blk.kept HR.out hg1 nofun)
  have HBO := Lib.hid bO
  have HB1 := Lib.hid b1
  have HB2 := Lib.hid b2
  have HB3 := Lib.hid b3
  have HGY := Lib.hid hgy
  have HO := Lib.hid hO
  have HY := Lib.hid hy
  clear bO b1 b2 b3 hgy hO hy hg1 HA HR HK HG HX
  go_upto_region 3 with (fail)
  rw [← HO.out, ← HY.out]
  have hP0 : PowAt l [1, 0, 0, 0, 0] (exAt (wval ws) ws.length 0) := by
    rw [exAt_top ws HWB.out]
    exact ⟨⟨1, [0, 0, 0, 0], rfl, rfl, by omega, by simp⟩, by simp [lval]⟩
  have HP0 := Lib.hid hP0
  have HFIN := Lib.hid (exAt_zero (wval ws))
  generalize hW : wval ws = W at *
  have HWV := Lib.hid hW
  clear hP0 hW
  go_loopw [6, 7] (fun v6 v7 wr => ∃ (i : Nat) (L : List Nat), i ≤ ws.length ∧ v6 = .int .i64 ((i : Int) - 1) ∧ Hid (PowAt l L (exAt W i 0)) ∧ Hid (NB wr O L) ∧ Hid (y.grownBy wr (some O))) (fun v6 _ _ => (intOf v6 + 1).toNat)
  case atStart => exact ⟨ws.length, _, by omega, rfl, HP0, HBO, Lib.hid (grow_refl _ _)⟩
  case round =>
    clear HP0 HBO
    obtain ⟨i, L, hi, rfl, hP, hL, hg⟩ := hrel
    by_cases hi0 : i = 0
    · subst hi0
      rw [show ((0 : Nat) : Int) - 1 = -1 from rfl]
      obtain ⟨r0, r1, r2, r3, r4, eL⟩ := five hP.out.1.length
      have bL := hL.out
      rw [eL] at bL
      obtain ⟨⟨c0, c1, c2, c3, c4⟩, _⟩ := bL.five
      have bR : NB wr (B + 1) [0, 0, 0, 0, 0] := Blk.kept HB2.out hg.out (by simp; omega)
      obtain ⟨⟨z0, z1, z2, z3, z4⟩, f0, f1, f2, f3, f4⟩ := bR.five
      have hfin := Lib.hid (grow5 (B := B + 1) (grow_trans_new HGY.out hg.out (by have := HB.out; omega)) (by have := HB.out; omega) (.int .u64 (r0 : Int)) (.int .u64 (r1 : Int)) (.int .u64 (r2 : Int)) (.int .u64 (r3 : Int)) (.int .u64 (r4 : Int)))
      have HL2 := Lib.hid eL
      clear eL bL bR hL hg
      go_wp2_with fail
      refine bodyPost_ret (v := .agg #[.int .u64 (r0 : Int), .int .u64 (r1 : Int), .int .u64 (r2 : Int), .int .u64 (r3 : Int), .int .u64 (r4 : Int)]) (by simp [results, Tryz.results70, go_sem, z0, z1, z2, z3, z4]) rfl ?_
      exact ⟨L, by have e := HL2.out; rw [e]; rfl, by have e := hP.out; rw [HFIN.out] at e; exact e, hfin.out⟩
    · obtain ⟨j, rfl⟩ : ∃ j, i = j + 1 := ⟨i - 1, by omega⟩
      have ej : ((j + 1 : Nat) : Int) - 1 = (j : Int) := by omega
      rw [ej]
      have jn : (0 : Int) ≤ (j : Int) := by omega
      have hd : decide ((0 : Int) ≤ (j : Int)) = true := by simp
      go_wp2_with fail
      go_loopw [7] (fun v7 wr => ∃ (k : Nat) (M : List Nat), k ≤ 64 ∧ v7 = .int .i64 ((k : Int) - 1) ∧ Hid (PowAt l M (exAt W j k)) ∧ Hid (NB wr O M) ∧ Hid (y.grownBy wr (some O))) (fun v7 _ => (intOf v7 + 1).toNat)
      case atStart => exact ⟨64, L, by omega, rfl, Lib.hid (by rw [exAt_word]; exact hP.out), hL, hg⟩
      case round =>
        clear hP hL hg
        obtain ⟨k, M, hk, rfl, hP, hL, hg⟩ := hrel
        by_cases hk0 : k = 0
        · subst hk0
          rw [show ((0 : Nat) : Int) - 1 = -1 from rfl]
          go_wp2_with fail
          go_roundw
          case rel => exact ⟨j, M, by omega, rfl, hP, hL, hg⟩
          case measure => simp [intOf]
        · obtain ⟨m, rfl⟩ : ∃ m, k = m + 1 := ⟨k - 1, by omega⟩
          have em : ((m + 1 : Nat) : Int) - 1 = (m : Int) := by omega
          rw [em]
          have mn : (0 : Int) ≤ (m : Int) := by omega
          have mx : (m : Int) ≤ 63 := by omega
          have hdm : decide ((0 : Int) ≤ (m : Int)) = true := by simp
          obtain ⟨m0, m1, m2, m3, m4, eM⟩ := five hP.out.1.length
          have bM := hL.out
          rw [eM] at bM
          obtain ⟨⟨c0, c1, c2, c3, c4⟩, _⟩ := bM.five
          have A1 : ∀ V : World, Calls Tryz.prog 69 #[N5 M, N5 M] V (NumIs (lval M * lval M) V) := fun V => code_ntimes V M M hP.out.1 hP.out.1
          rw [eM, N5_lit, ← eM] at A1
          have HBM := Lib.hid bM
          have HG2 := hg
          clear bM eM hL hg
          go_wp2_with fail
          (with_reducible refine (A1 _).mono ?_)
          rintro e w2 ⟨M1, rfl, ok1, hv1, hg1⟩
          obtain ⟨p0, p1, p2, p3, p4, eM1⟩ := five ok1.length
          have hN1 : N5 M1 = .agg #[.int .u64 (p0 : Int), .int .u64 (p1 : Int), .int .u64 (p2 : Int), .int .u64 (p3 : Int), .int .u64 (p4 : Int)] := by rw [eM1]; rfl
          rw [hN1]
          have bM2 : NB w2 O [m0, m1, m2, m3, m4] := Blk.kept HBM.out hg1 nofun
          obtain ⟨y2, hy2⟩ : ∃ y2, y2 = ((((w2.setCell ⟨O, 0, none⟩ (.int .u64 (p0 : Int))).setCell ⟨O, 1, none⟩ (.int .u64 (p1 : Int))).setCell ⟨O, 2, none⟩ (.int .u64 (p2 : Int))).setCell ⟨O, 3, none⟩ (.int .u64 (p3 : Int))).setCell ⟨O, 4, none⟩ (.int .u64 (p4 : Int)) := ⟨_, rfl⟩
          have b3 : NB y2 O M1 := by rw [hy2, eM1]; exact bM2.set5 p0 p1 p2 p3 p4
          have g3 : y.grownBy y2 (some O) := by
            rw [hy2]
            exact grow_setCell (grow_setCell (grow_setCell (grow_setCell (grow_setCell (grow_trans HG2.out (grow_none hg1)) _ _) _ _) _ _) _ _) _ _
          have hj : j < ws.length := by omega
          have bk : KB y2 K t ws := Blk.kept HB3.out g3 (by simp; omega)
          have ck := bk.cell j hj
          have hwj := HWB.out ws[j] (List.getElem_mem hj)
          obtain ⟨b, hbt⟩ : ∃ b, b = ws[j] / 2 ^ m % 2 := ⟨_, rfl⟩
          have hex := exAt_bit ws HWB.out j m hj (by omega)
          rw [HWV.out, ← hbt] at hex
          have hP1 : PowAt l M1 (2 * exAt W j (m + 1)) := hP.out.twice ok1 hv1
          generalize ws[j] = wj at *
          have hA : bits .and .u64 ((wj : Int) / 2 ^ m) 1 = (b : Int) := by
            have e : ((wj : Int) / 2 ^ m) = ((wj / 2 ^ m : Nat) : Int) := by simp
            have hle : wj / 2 ^ m ≤ wj := Nat.div_le_self _ _
            have := u64_and_nat (wj / 2 ^ m) 1 (by omega) (by omega)
            rw [e]
            rw [show ((1 : Nat) : Int) = 1 from rfl] at this
            rw [this, Nat.and_one_is_mod, hbt]
          have j1 : (j : Int) < (ws.length : Int) := by omega
          have hb2 : b ≤ 1 := by omega
          have HP1 := Lib.hid hP1
          have HB3' := Lib.hid b3
          have HG3 := Lib.hid g3
          have HEX := Lib.hid hex
          have HM1 := Lib.hid eM1
          have HO1 := Lib.hid ok1
          have HY2 := Lib.hid hy2
          obtain ⟨⟨z0, z1, z2, z3, z4⟩, f0, f1, f2, f3, f4⟩ := bM2.five
          clear hy2 b3 g3 bk hP1 hex hbt hg1 hv1 hN1 eM1 ok1 bM2 c0 c1 c2 c3 c4 A1 hP HBM HG2
          go_upto_region 9 with (fail)
          rw [← HY2.out]
          clear z0 z1 z2 z3 z4 f0 f1 f2 f3 f4
          rcases (show b = 0 ∨ b = 1 by omega) with h0 | h1
          · subst h0
            go_wp2_with fail
            go_roundw
            case rel => exact ⟨m, M1, by omega, rfl, Lib.hid (by have e := HEX.out; rw [e]; exact HP1.out), HB3', HG3⟩
            case measure => simp [intOf]
          · subst h1
            have bM1 := HB3'.out
            rw [HM1.out] at bM1
            obtain ⟨⟨c0, c1, c2, c3, c4⟩, _⟩ := bM1.five
            have bA : NB y2 B [a0, a1, a2, a3, a4] := Blk.kept HB1.out HG3.out (by simp; omega)
            obtain ⟨⟨d0, d1, d2, d3, d4⟩, _⟩ := bA.five
            have A2 : ∀ V : World, Calls Tryz.prog 69 #[N5 M1, N5 l] V (NumIs (lval M1 * lval l) V) := fun V => code_ntimes V M1 l HO1.out HOK.out
            have hq1 : N5 M1 = .agg #[.int .u64 (p0 : Int), .int .u64 (p1 : Int), .int .u64 (p2 : Int), .int .u64 (p3 : Int), .int .u64 (p4 : Int)] := by have e := HM1.out; rw [e]; rfl
            have hq2 : N5 l = .agg #[.int .u64 (a0 : Int), .int .u64 (a1 : Int), .int .u64 (a2 : Int), .int .u64 (a3 : Int), .int .u64 (a4 : Int)] := by have e := HEL.out; rw [e]; rfl
            rw [hq1, hq2] at A2
            have HBM1 := Lib.hid bM1
            clear bM1 bA hq1 hq2
            go_wp2_with fail
            (with_reducible refine (A2 _).mono ?_)
            rintro e w3 ⟨M2, rfl, ok2, hv2, hg2⟩
            obtain ⟨q0, q1, q2, q3, q4, eM2⟩ := five ok2.length
            have hN2 : N5 M2 = .agg #[.int .u64 (q0 : Int), .int .u64 (q1 : Int), .int .u64 (q2 : Int), .int .u64 (q3 : Int), .int .u64 (q4 : Int)] := by rw [eM2]; rfl
            rw [hN2]
            have bM3 : NB w3 O [p0, p1, p2, p3, p4] := Blk.kept HBM1.out hg2 nofun
            have b4 : NB (((((w3.setCell ⟨O, 0, none⟩ (.int .u64 (q0 : Int))).setCell ⟨O, 1, none⟩ (.int .u64 (q1 : Int))).setCell ⟨O, 2, none⟩ (.int .u64 (q2 : Int))).setCell ⟨O, 3, none⟩ (.int .u64 (q3 : Int))).setCell ⟨O, 4, none⟩ (.int .u64 (q4 : Int))) O M2 := by rw [eM2]; exact bM3.set5 q0 q1 q2 q3 q4
            have HB4 := Lib.hid b4
            have HG4 := Lib.hid (grow_setCell (grow_setCell (grow_setCell (grow_setCell (grow_setCell (grow_trans HG3.out (grow_none hg2)) 0 (.int .u64 (q0 : Int))) 1 (.int .u64 (q1 : Int))) 2 (.int .u64 (q2 : Int))) 3 (.int .u64 (q3 : Int))) 4 (.int .u64 (q4 : Int)))
            have HP2 := Lib.hid (HP1.out.more ok2 hv2)
            obtain ⟨⟨z0, z1, z2, z3, z4⟩, f0, f1, f2, f3, f4⟩ := bM3.five
            clear c0 c1 c2 c3 c4 d0 d1 d2 d3 d4 b4 bM3 hN2 eM2 hg2 hv2 ok2 A2
            go_wp2_with fail
            go_roundw
            case rel => exact ⟨m, M2, by omega, rfl, Lib.hid (by have e := HEX.out; rw [e]; exact HP2.out), HB4, HG4⟩
            case measure => simp [intOf]

end Go.Proofs.YtcmncdaojmkfgaaGreatDoor

namespace Go.Proofs.YtcmncdaojmkfgaaGreatDoor
open Go.RowKit
set_option linter.unusedVariables false

theorem leN_drop : ∀ (l : List UInt8) (q : Nat), leN l / 256 ^ q = leN (l.drop q)
  | l, 0 => by simp
  | [], q + 1 => by simp [leN]
  | c :: l, q + 1 => by
    have := c.toNat_lt
    rw [List.drop_succ_cons, ← leN_drop l q, Nat.pow_succ, Nat.mul_comm, ← Nat.div_div_eq_div_mul]
    congr 1
    simp only [leN]
    omega

theorem byte_bit (c m r : Nat) (hr : r < 8) (hc : c < 256) : (c + 256 * m) / 2 ^ r % 2 = c / 2 ^ r % 2 := by
  match r, hr with
  | 0, _ => omega
  | 1, _ => omega
  | 2, _ => omega
  | 3, _ => omega
  | 4, _ => omega
  | 5, _ => omega
  | 6, _ => omega
  | 7, _ => omega

theorem leN_bit (l : List UInt8) (t : Nat) (h : t / 8 < l.length) : leN l / 2 ^ t % 2 = (l[t / 8]).toNat / 2 ^ (t % 8) % 2 := by
  have e : 2 ^ t = 256 ^ (t / 8) * 2 ^ (t % 8) := by
    rw [show (256 : Nat) = 2 ^ 8 from rfl, ← Nat.pow_mul, ← Nat.pow_add]
    congr 1
    omega
  rw [e, ← Nat.div_div_eq_div_mul, leN_drop, List.drop_eq_getElem_cons h]
  simp only [leN]
  exact byte_bit _ _ _ (by omega) (UInt8.toNat_lt _)

theorem bit_at (kl : List UInt8) (t : Nat) (h : t / 8 < kl.length) (h2 : t / 8 < (ByteArray.mk kl.toArray).size) :
    bits .and .u8 ((((ByteArray.mk kl.toArray)[t / 8]'h2).toNat : Int) / 2 ^ (t % 8)) 1 = ((leN kl / 2 ^ t % 2 : Nat) : Int) := by
  rw [leN_bit kl t h]
  have e : ((ByteArray.mk kl.toArray)[t / 8]'h2) = kl[t / 8] := rfl
  rw [e]
  generalize kl[t / 8] = c
  have hc := c.toNat_lt
  have e2 : ((c.toNat : Int) / 2 ^ (t % 8)) = ((c.toNat / 2 ^ (t % 8) : Nat) : Int) := by simp
  rw [e2]
  have hlt : c.toNat / 2 ^ (t % 8) < 256 := Nat.lt_of_le_of_lt (Nat.div_le_self _ _) (by omega)
  generalize c.toNat / 2 ^ (t % 8) = n at *
  clear e e2
  have : ∀ n : Fin 256, bits .and .u8 ((n.val : Nat) : Int) 1 = ((n.val % 2 : Nat) : Int) := by decide +kernel
  exact this ⟨n, hlt⟩

end Go.Proofs.YtcmncdaojmkfgaaGreatDoor

namespace Go.Proofs.YtcmncdaojmkfgaaGreatDoor
open Go.RowKit
set_option linter.unusedVariables false

def GrownH (w : World) (v : Value) (e : Ending) (w' : World) : Prop := e = .returned v ∧ Hid (w.grownBy w' none)
theorem lift (w : World) {k : FuncId} {args : Array Value} {v : Value} (A : ∀ W : World, Calls Tryz.prog k args W (Grown v W)) (W : World) (h : Hid (w.grownBy W none)) : Calls Tryz.prog k args W (GrownH w v) :=
  (A W).mono fun e w' ⟨h1, h2⟩ => ⟨h1, Lib.hid (grow_trans h.out h2)⟩

end Go.Proofs.YtcmncdaojmkfgaaGreatDoor

namespace Go.Proofs.YtcmncdaojmkfgaaGreatDoor
open Go.RowKit
set_option linter.unusedVariables false

set_option maxHeartbeats 1000000 in
theorem code_iskey (w : World) (b n : Nat) (ls : List (List UInt8)) (hn : ls.length = n) (hb : n ≤ 100) (hc : ∀ i (hi : i < ls.length), w.cell? ⟨b, i, none⟩ = some (S ls[i])) (h32 : ∀ x ∈ ls, x.length = 32) :
    Calls Tryz.prog 19 #[.slice (some ⟨b, 0, none⟩) n n] w fun e w' => e = .returned (.bool true) ∧ w = w' := by
  have HC := Lib.hid hc
  have HN := Lib.hid hn
  have H32 := Lib.hid h32
  clear hc hn h32
  go_enter Tryz.func19, Tryz.ntmps19
  go_wp2_with fail
  go_loop [7] (fun v7 => ∃ i : Nat, i ≤ n ∧ v7 = .int .i64 i) (fun v7 => n - (intOf v7).toNat)
  case atStart => exact ⟨0, by omega, rfl⟩
  case round =>
    obtain ⟨i, hi, rfl⟩ := hrel
    by_cases hlt : i < n
    · have hil : i < ls.length := by rw [HN.out]; exact hlt
      have e1 := HC.out i hil
      have l1 := H32.out _ (List.getElem_mem hil)
      generalize ls[i] = l at *
      unfold S at e1
      have i1 : (i : Int) < (n : Int) := by omega
      have q1 : ((l.length : Int) != 32) = false := by rw [l1]; rfl
      go_wp2_with fail
      go_round
      case rel => exact ⟨i + 1, by omega, by go_num⟩
      case measure => simp [intOf]; omega
    · obtain rfl : i = n := by omega
      go_wp2_with fail
      go_ret
      exact ⟨rfl, rfl⟩

theorem code_issuite (w : World) (s : Nat) (h12 : s = 1 ∨ s = 2) : Calls Tryz.prog 26 #[.int .i64 (s : Int)] w fun e w' => e = .returned (.bool true) ∧ w = w' := by
  rcases h12 with rfl | rfl
  · go_enter Tryz.func26, Tryz.ntmps26
    go_wp2_with fail
    go_ret
    exact ⟨rfl, rfl⟩
  · go_enter Tryz.func26, Tryz.ntmps26
    go_wp2_with fail
    go_ret
    exact ⟨rfl, rfl⟩

set_option maxHeartbeats 1000000 in
theorem code_sindex (w : World) (n : Nat) (hn : n < 4294967296) : Calls Tryz.prog 39 #[.int .u32 (n : Int)] w (Grown (S (leB n 4)) w) := by
  have A1 : ∀ W : World, Calls Tryz.prog 60 #[.slice none 0 0, .int .u64 (n : Int), .int .i64 4] W (OwnBytesN W W.heap.size (leB n 4)) := fun W => wire_appendLittle W W.heap.size (.slice none 0 0) [] n 4 (brow_nil _ _) (by omega) (by omega) (by simp) (Nat.le_refl _)
  have u1 : IntKind.u64.wrap (n : Int) = (n : Int) := IntWalk.u64_in _ (by omega)
  generalize leB n 4 = B at *
  unfold S
  go_enter Tryz.func39, Tryz.ntmps39
  go_wp2_with fail
  (with_reducible refine (A1 _).mono ?_)
  rintro e w1 ⟨v, rfl, hr, hb⟩
  have hcv := conv_brow hr
  unfold S at hcv
  have HG : Hid (w.grownBy w1 none) := Lib.hid (grow_of_below hb)
  clear A1 hb hr
  go_wp2_with fail
  go_ret
  exact ⟨rfl, HG.out⟩

/-- A message begins so. -/
theorem code_sform (w : World) (l : List UInt8) (c : UInt8) (s n : Nat) (h12 : s = 1 ∨ s = 2) (t : List UInt8) (hl : l = c :: UInt8.ofNat s :: t) (hn : l.length = n) (hb : n ≤ 1000) :
    Calls Tryz.prog 20 #[S l, .int .i64 (n : Int), .int .u8 (c.toNat : Int)] w fun e w' => e = .returned (.int .i64 0) ∧ w = w' := by
  have A1 : ∀ W : World, Calls Tryz.prog 26 #[.int .i64 1] W fun e w' => e = .returned (.bool true) ∧ W = w' := fun W => code_issuite W 1 (Or.inl rfl)
  have A2 : ∀ W : World, Calls Tryz.prog 26 #[.int .i64 2] W fun e w' => e = .returned (.bool true) ∧ W = w' := fun W => code_issuite W 2 (Or.inr rfl)
  have k2 : 2 ≤ l.length := by rw [hl]; simp
  have e0 : (ByteArray.mk l.toArray)[0]'(by simp [ByteArray.size]; omega) = c := by subst hl; rfl
  have e1 : (ByteArray.mk l.toArray)[1]'(by simp [ByteArray.size]; omega) = UInt8.ofNat s := by subst hl; rfl
  have c1 : ((UInt8.ofNat s).toNat : Int) = (s : Int) := by rcases h12 with rfl | rfl <;> rfl
  have i0 : (0 : Int) < (l.length : Int) := by omega
  have i1 : (1 : Int) < (l.length : Int) := by omega
  have q1 : ¬ (l.length : Int) < (n : Int) := by omega
  have q2 : ¬ (n : Int) < (l.length : Int) := by omega
  clear hl
  unfold S
  rcases h12 with rfl | rfl
  all_goals
    go_enter Tryz.func20, Tryz.ntmps20
    go_wp2_with fail
    (first | (with_reducible refine (A1 _).mono ?_) | (with_reducible refine (A2 _).mono ?_))
    rintro e w1 ⟨rfl, rfl⟩
    go_wp2_with fail
    go_ret
    exact ⟨rfl, rfl⟩
theorem code_sform_short (w : World) (l : List UInt8) (c : UInt8) (n : Nat) (hn : l.length < n) (hb : n ≤ 1000) :
    Calls Tryz.prog 20 #[S l, .int .i64 (n : Int), .int .u8 (c.toNat : Int)] w fun e w' => e = .returned (.int .i64 4) ∧ w = w' := by
  have q1 : (l.length : Int) < (n : Int) := by omega
  unfold S
  go_enter Tryz.func20, Tryz.ntmps20
  go_wp2_with fail
  go_ret
  exact ⟨rfl, rfl⟩
theorem code_sform_long (w : World) (l : List UInt8) (c : UInt8) (n : Nat) (hn : n < l.length) (hl : l.length ≤ 9223372036854775807) (hb : n ≤ 1000) :
    Calls Tryz.prog 20 #[S l, .int .i64 (n : Int), .int .u8 (c.toNat : Int)] w fun e w' => e = .returned (.int .i64 5) ∧ w = w' := by
  have q1 : ¬ (l.length : Int) < (n : Int) := by omega
  have q2 : (n : Int) < (l.length : Int) := by omega
  unfold S
  go_enter Tryz.func20, Tryz.ntmps20
  go_wp2_with fail
  go_ret
  exact ⟨rfl, rfl⟩

end Go.Proofs.YtcmncdaojmkfgaaGreatDoor

namespace Go.Proofs.YtcmncdaojmkfgaaGreatDoor
open Go.RowKit
set_option linter.unusedVariables false

theorem tmod_rest (n m : Int) (hm : 0 < m) : (if n.tmod m < 0 then n.tmod m + m else n.tmod m) = n % m := by
  have h1 := Int.tmod_eq_emod (a := n) (b := m)
  have h2 := Int.emod_nonneg n (b := m) (by omega)
  have h3 := Int.emod_lt_of_pos n hm
  by_cases hn : 0 ≤ n ∨ m ∣ n
  · rw [if_pos hn] at h1
    rw [if_neg (by omega)]; omega
  · rw [if_neg hn] at h1
    have : (m.natAbs : Int) = m := by omega
    have h4 : n % m ≠ 0 := fun h => hn (Or.inr (Int.dvd_of_emod_eq_zero h))
    rw [if_pos (by omega)]; omega

set_option maxHeartbeats 400000 in
theorem rest_any (n m : Int) (w : World) (hn0 : -9223372036854775808 ≤ n) (hn1 : n ≤ 9223372036854775807) (hm : 0 < m) (hm1 : m ≤ 9223372036854775807) :
    Calls Tryz.prog 9 #[.int .i64 n, .int .i64 m] w fun e w' => e = .returned (.int .i64 (n % m)) ∧ w = w' := by
  have hr := tmod_rest n m hm
  have b1 : n.tmod m < m := Int.tmod_lt_of_pos n hm
  have b2 : -m < n.tmod m := by
    have := Int.emod_nonneg n (b := m) (by omega)
    by_cases h : n.tmod m < 0
    · rw [if_pos h] at hr
      have h4 : n % m ≠ 0 := by
        intro h0
        rw [Int.tmod_eq_zero_of_dvd (Int.dvd_of_emod_eq_zero h0)] at h; omega
      omega
    · omega
  have HR := Lib.hid hr
  clear hr
  go_enter Tryz.func9, Tryz.ntmps9
  go_wp2
  all_goals
    go_ret
    refine ⟨ret_int ?_, rfl⟩
    have := HR.out
    first | rwa [if_pos (by assumption)] at this | rwa [if_neg (by omega)] at this

end Go.Proofs.YtcmncdaojmkfgaaGreatDoor

namespace Go.Proofs.YtcmncdaojmkfgaaGreatDoor
open Go.RowKit
set_option linter.unusedVariables false

def isT (s n : Int) : Bool := decide (0 ≤ s) && decide (s ≤ 1099511627776) && decide (0 ≤ n) && decide (n ≤ 999999999)

set_option maxHeartbeats 400000 in
theorem stamp_isTime (w : World) (s n : Int) : Calls Tryz.prog 48 #[.agg #[.int .i64 s, .int .i64 n]] w fun e w' => e = .returned (.bool (isT s n)) ∧ w.grownBy w' none := by
  have hB : ∃ b, b = isT s n := ⟨_, rfl⟩
  obtain ⟨b, hB⟩ := hB
  have HB := Lib.hid hB
  rw [← hB]
  clear hB
  go_enter Tryz.func48, Tryz.ntmps48
  go_wp2
  all_goals
    go_ret
    refine ⟨ret_bool ?_, grow_alloc (grow_refl _ _) _⟩
    rw [HB.out]
    unfold isT
    first | rfl | (simp [*]; done) | (simp [*]; omega)

set_option maxHeartbeats 400000 in
theorem stamp_write_no (w : World) (s n : Int) (h : isT s n = false) : Calls Tryz.prog 37 #[.agg #[.int .i64 s, .int .i64 n]] w fun e w' => e = .returned (.tuple #[S [], .int .i64 1]) ∧ w.grownBy w' none := by
  go_enter Tryz.func37, Tryz.ntmps37
  go_wp2_with fail
  refine (stamp_isTime _ s n).mono ?_
  rintro e x1 ⟨rfl, hg⟩
  rw [h]
  go_wp2_with fail
  go_ret2
  exact ⟨rfl, grow_trans (World.grownBy_alloc _ _ _) hg⟩

def stampB (s n : Int) : List UInt8 := bigB (4611686018427387904 + s.toNat) 8 ++ bigB n.toNat 4

set_option maxHeartbeats 400000 in
theorem stamp_write_ok (w : World) (s n : Int) (h : isT s n = true) : Calls Tryz.prog 37 #[.agg #[.int .i64 s, .int .i64 n]] w fun e w' => e = .returned (.tuple #[S (stampB s n), .int .i64 0]) ∧ w.grownBy w' none := by
  have hb : 0 ≤ s ∧ s ≤ 1099511627776 ∧ 0 ≤ n ∧ n ≤ 999999999 := by unfold isT at h; simp at h; omega
  obtain ⟨s0, s1, n0, n1⟩ := hb
  have HS := Lib.hid h
  clear h
  go_enter Tryz.func37, Tryz.ntmps37
  go_wp2_with fail
  refine (stamp_isTime _ s n).mono ?_
  rintro e x1 ⟨rfl, hg⟩
  rw [HS.out]
  go_wp2_with fail
  have hz := hg.size
  have hc0 : x1.cell? ⟨w.heap.size, 0, none⟩ = some (.int .i64 s) := by
    rw [World.cell?_of_block (hg.block w.heap.size (by simp) (by simp))]
    rw [obj_cell (obj_new w _)]; rfl
  have hc1 : x1.cell? ⟨w.heap.size, 1, none⟩ = some (.int .i64 n) := by
    rw [World.cell?_of_block (hg.block w.heap.size (by simp) (by simp))]
    rw [obj_cell (obj_new w _)]; rfl
  obtain ⟨sn, rfl⟩ := Int.eq_ofNat_of_zero_le s0
  obtain ⟨nn, rfl⟩ := Int.eq_ofNat_of_zero_le n0
  have hN : ∃ N : Nat, N = 4611686018427387904 + sn := ⟨_, rfl⟩
  obtain ⟨N, hN⟩ := hN
  have e1 : IntKind.u64.wrap (sn : Int) = (sn : Int) := IntWalk.u64_in _ (by omega)
  have e2 : IntKind.u64.wrap (4611686018427387904 + (sn : Int)) = (N : Int) := by rw [IntWalk.u64_in _ (by omega)]; omega
  have e3 : IntKind.u64.wrap (nn : Int) = (nn : Int) := IntWalk.u64_in _ (by omega)
  have hNl : N < 18446744073709551616 := by omega
  have hfin : stampB (sn : Int) (nn : Int) = bigB N 8 ++ bigB nn 4 := by unfold stampB; rw [hN]; rfl
  have HF := Lib.hid hfin
  have hg1 := grow_trans (World.grownBy_alloc w _ none) hg
  clear hN HS hfin hg
  have hB : w.heap.size + 1 ≤ x1.heap.size := by simpa using hz
  generalize hbase : w.heap.size + 1 = base at *
  have hlt : w.heap.size < base := by omega
  have Hb := Lib.hid hbase
  clear hbase hz
  have A1 : ∀ W : World, base ≤ W.heap.size → Calls Tryz.prog 58 #[.slice none 0 0, .int .u64 N, .int .i64 8] W (OwnBytes W base (bigB N 8)) :=
    fun W h => wire_appendBig W base (.slice none 0 0) [] N 8 (brow_nil _ _) hNl (by omega) (by omega) (by simp) h
  have A2 : ∀ (W : World) (v : Value), brow W base v (bigB N 8) → base ≤ W.heap.size → Calls Tryz.prog 58 #[v, .int .u64 nn, .int .i64 4] W (OwnBytes W base (bigB N 8 ++ bigB nn 4)) :=
    fun W v h1 h => wire_appendBig W base v (bigB N 8) nn 4 h1 (by omega) (by omega) (by omega) (by rw [bigB_length]; omega) h
  go_region_with
    (first
      | (go_at_call 58; (with_reducible refine (A1 _ ?_).mono ?_); (exact hB); rintro e x2 ⟨v2, rfl, hv2, hB2⟩; have k0 : x2.cell? ⟨w.heap.size, 0, none⟩ = some (.int .i64 sn) := (hB2.cell hlt).trans hc0; have k1 : x2.cell? ⟨w.heap.size, 1, none⟩ = some (.int .i64 nn) := (hB2.cell hlt).trans hc1; have hz2 := hB2.size)
      | (go_at_call 58; (with_reducible refine (A2 _ _ ?_ ?_).mono ?_); (exact hv2); (exact Nat.le_trans hB hz2); rintro e x3 ⟨v3, rfl, hv3, hB3⟩; have hcv := conv_brow hv3))
  all_goals
    go_wp2_with fail
    go_ret2
    refine ⟨?_, ?_⟩
    · rw [HF.out]; rfl
    · exact grow_of_below (((grow_below hg1 w.heap.size (Nat.le_refl _) (by simp)).drew.trans (Below.mono hB2 (Nat.le_of_lt hlt))).trans (Below.mono hB3 (Nat.le_of_lt hlt)))

end Go.Proofs.YtcmncdaojmkfgaaGreatDoor

namespace Go.Proofs.YtcmncdaojmkfgaaGreatDoor
open Go.RowKit
set_option linter.unusedVariables false

/-- A frame with values laid into slots. -/
def layAll (a : Act) : List Nat → List Value → Act
  | s :: r, v :: vs => layAll (a.put (some s) v) r vs
  | _, _ => a
theorem put_put (a : Act) (s : Nat) (v x : Value) : (a.put (some s) v).put (some s) x = a.put (some s) x := by
  simp only [Act.put]
  congr 1
  apply Array.ext_getElem?
  intro i
  by_cases h : s = i
  · subst h
    by_cases hs : s < a.tmps.size
    · simp [hs]
    · simp [hs]
  · simp [Array.getElem?_setIfInBounds_ne h]
theorem put_comm (a : Act) (s t : Nat) (v x : Value) (h : s ≠ t) : (a.put (some s) v).put (some t) x = (a.put (some t) x).put (some s) v := by
  simp only [Act.put]
  congr 1
  exact Array.setIfInBounds_comm v x h
theorem put_out (a : Act) (s : Nat) (v : Value) (h : a.tmps.size ≤ s) : a.put (some s) v = a := by
  have : a.tmps.setIfInBounds s v = a.tmps := by
    apply Array.ext_getElem?
    intro i
    by_cases e : s = i
    · subst e
      rw [Array.getElem?_eq_none (by simpa using h), Array.getElem?_eq_none h]
    · rw [Array.getElem?_setIfInBounds_ne e]
  simp only [Act.put, this]
theorem layAll_put : ∀ (r : List Nat) (vs : List Value) (a : Act) (s : Nat) (x : Value), s ∉ r → (layAll a r vs).put (some s) x = layAll (a.put (some s) x) r vs
  | [], _, a, s, x, _ => rfl
  | t :: r, [], a, s, x, _ => rfl
  | t :: r, v :: vs, a, s, x, h => by
    rw [layAll, layAll, layAll_put r vs _ s x (fun e => h (List.mem_cons_of_mem _ e)), put_comm _ _ _ _ _ (fun e => h (by rw [e]; exact List.mem_cons_self))]
theorem layAll_set : ∀ (W : List Nat) (vs : List Value) (a : Act) (i s : Nat) (x : Value), W.Nodup → W[i]? = some s → vs.length = W.length → layAll a W (vs.set i x) = (layAll a W vs).put (some s) x
  | [], _, _, _, _, _, _, h, _ => by simp at h
  | t :: W, [], _, _, _, _, _, _, h => by simp at h
  | t :: W, v :: vs, a, 0, s, x, hn, h, hl => by
    obtain rfl : t = s := by simpa using h
    rw [List.set_cons_zero, layAll, layAll, layAll_put W vs _ t x (List.nodup_cons.1 hn).1, put_put]
  | t :: W, v :: vs, a, i + 1, s, x, hn, h, hl => by
    rw [List.set_cons_succ, layAll, layAll, layAll_set W vs _ i s x (List.nodup_cons.1 hn).2 (by simpa using h) (by simpa using hl)]
theorem layAll_size : ∀ (W : List Nat) (vs : List Value) (a : Act), (layAll a W vs).tmps.size = a.tmps.size
  | [], _, _ => rfl
  | _ :: _, [], _ => rfl
  | s :: W, v :: vs, a => by
    rw [layAll, layAll_size W vs]
    simp [Act.put]

/-- Does an operation wait for another one? -/
def waitsB (o : Oper) (n : Nat) : Bool := o.after.any fun e => Region.binds .any e && e.on == n
theorem waitsB_spec {o : Oper} {n : Nat} {L : Nat → Bool} (h : waitsB o n = true) (hd : ∀ e ∈ o.after, Region.binds .any e = true → L e.on = true) : L n = true := by
  unfold waitsB at h
  obtain ⟨e, he, h2⟩ := Array.any_eq_true'.1 h
  simp only [Bool.and_eq_true, beq_iff_eq] at h2
  have := hd e he h2.1
  rwa [h2.2] at this
/-- The slots of the operations, one by one; one that has none is given a number beyond the frame. -/
def okSlots (size : Nat) : List Oper → List Nat → Bool
  | o :: l, s :: W => (match o.dst with
    | some d => d == s
    | none => decide (size ≤ s)) && o.guard.isNone && okSlots size l W
  | [], [] => true
  | _, _ => false
theorem okSlots_at {size : Nat} : ∀ {l : List Oper} {W : List Nat}, okSlots size l W = true → l.length = W.length ∧ ∀ (i : Nat) (o : Oper), l[i]? = some o → o.guard = none ∧ ∃ s, W[i]? = some s ∧ ((o.dst = some s) ∨ (o.dst = none ∧ size ≤ s))
  | [], [], _ => ⟨rfl, fun i o h => by simp at h⟩
  | [], _ :: _, h => by simp [okSlots] at h
  | _ :: _, [], h => by simp [okSlots] at h
  | o :: l, s :: W, h => by
    simp only [okSlots, Bool.and_eq_true] at h
    obtain ⟨⟨h1, h2⟩, h3⟩ := h
    obtain ⟨e, f⟩ := okSlots_at h3
    refine ⟨by simp [e], fun i o' ho => ?_⟩
    cases i with
    | zero =>
      obtain rfl : o = o' := by simpa using ho
      refine ⟨by simpa using h2, s, rfl, ?_⟩
      cases hd : o.dst with
      | none => rw [hd] at h1; exact Or.inr ⟨rfl, by simpa using h1⟩
      | some d => rw [hd] at h1; left; rw [show d = s by simpa using h1]
    | succ i =>
      obtain ⟨g, s', h4, h5⟩ := f i o' (by simpa using ho)
      exact ⟨g, s', by simpa using h4, h5⟩

/-- An operation that must come behind another one. -/
def reachB (l : List Oper) : Nat → Nat → Nat → Bool
  | 0, _, _ => false
  | f + 1, i, j => match l[i]? with
    | some o => waitsB o j || (List.range l.length).any fun k => waitsB o k && reachB l f k j
    | none => false
theorem reachB_spec {l : List Oper} {L : Nat → Bool} (hc : ∀ (i : Nat) (o : Oper), l[i]? = some o → L i = true → ∀ e ∈ o.after, Region.binds .any e = true → L e.on = true) : ∀ (f i j : Nat), reachB l f i j = true → L i = true → L j = true
  | 0, _, _, h, _ => by cases h
  | f + 1, i, j, h, hL => by
    rw [reachB] at h
    cases e : l[i]? with
    | none => rw [e] at h; cases h
    | some o =>
      rw [e] at h
      simp only [Bool.or_eq_true, List.any_eq_true, Bool.and_eq_true] at h
      rcases h with h | ⟨k, _, h1, h2⟩
      · exact waitsB_spec h (hc i o e hL)
      · exact reachB_spec hc f k j h2 (waitsB_spec h1 (hc i o e hL))
def Waited (Ps : List (Value → World → Prop)) (o : Oper) (vs : List Value) (x : World) : Prop := ∀ j, waitsB o j = true → Ps.getD j (fun _ _ => True) (vs.getD j undef) x
/-- What is to be shown of one operation. -/
def Step1 (P : Program) (Q : Exit → Act → World → Prop) (D : Option Nat) (R : World → Prop) (A : Act) (vs : List Value) (x : World) (Ps : List (Value → World → Prop)) (o : Oper) (p : Value → World → Prop) : Prop :=
  ∀ K : Act → World → Prop, Waited Ps o vs x → R x → (∀ v y, p v y → x.grownBy y D → K (A.put o.dst v) y) → o.wp P A x K Q
/-- .. of each: the operation N writes the block D, which is R till then. -/
def StepsL (P : Program) (Q : Exit → Act → World → Prop) (D : Option Nat) (N : Nat) (R : World → Prop) (l0 : List Oper) (A : Act) (vs : List Value) (x : World) (Ps : List (Value → World → Prop)) : Nat → List Oper → List (Value → World → Prop) → Prop
  | i, o :: l, p :: r => Step1 P Q (if i = N then D else none) (fun y => i = N ∨ reachB l0 20 N i = true → R y) A vs x Ps o p ∧ StepsL P Q D N R l0 A vs x Ps (i + 1) l r
  | _, _, _ => True
theorem stepsL_cons {P : Program} {Q : Exit → Act → World → Prop} {D : Option Nat} {N : Nat} {R : World → Prop} {l0 : List Oper} {A : Act} {vs : List Value} {x : World} {Ps : List (Value → World → Prop)} {i : Nat} {o : Oper} {p : Value → World → Prop} {l : List Oper} {r : List (Value → World → Prop)}
    (h : Step1 P Q (if i = N then D else none) (fun y => i = N ∨ reachB l0 20 N i = true → R y) A vs x Ps o p) (t : StepsL P Q D N R l0 A vs x Ps (i + 1) l r) : StepsL P Q D N R l0 A vs x Ps i (o :: l) (p :: r) := ⟨h, t⟩
theorem stepsL_nil {P : Program} {Q : Exit → Act → World → Prop} {D : Option Nat} {N : Nat} {R : World → Prop} {l0 : List Oper} {A : Act} {vs : List Value} {x : World} {Ps : List (Value → World → Prop)} {i : Nat} : StepsL P Q D N R l0 A vs x Ps i [] [] := True.intro
theorem stepsL_at {P : Program} {Q : Exit → Act → World → Prop} {D : Option Nat} {N : Nat} {R : World → Prop} {l0 : List Oper} {A : Act} {vs : List Value} {x : World} {Ps : List (Value → World → Prop)} : ∀ {l : List Oper} {r : List (Value → World → Prop)} {n : Nat}, StepsL P Q D N R l0 A vs x Ps n l r → ∀ (i : Nat) (o : Oper) (p : Value → World → Prop), l[i]? = some o → r[i]? = some p → Step1 P Q (if n + i = N then D else none) (fun y => n + i = N ∨ reachB l0 20 N (n + i) = true → R y) A vs x Ps o p
  | [], _, _, _, i, _, _, h, _ => by simp at h
  | _ :: _, [], _, _, i, _, _, _, h => by simp at h
  | o :: l, p :: r, n, h, 0, o', p', h1, h2 => by
    obtain rfl : o = o' := by simpa using h1
    obtain rfl : p = p' := by simpa using h2
    exact h.1
  | o :: l, p :: r, n, h, i + 1, o', p', h1, h2 => by
    have := stepsL_at h.2 i o' p' (by simpa using h1) (by simpa using h2)
    rwa [show n + 1 + i = n + (i + 1) from by omega] at this
/-- What is once so stays so; what the operation N did, behind it. -/
def MonoL (D : Option Nat) (N : Nat) : Nat → List (Value → World → Prop) → Prop
  | i, p :: r => (∀ v x y, p v x → x.grownBy y (if i = N then none else D) → p v y) ∧ MonoL D N (i + 1) r
  | _, [] => True
theorem monoL_at {D : Option Nat} {N : Nat} : ∀ {Ps : List (Value → World → Prop)} {n : Nat}, MonoL D N n Ps → ∀ (i : Nat) (p : Value → World → Prop), Ps[i]? = some p → ∀ v x y, p v x → x.grownBy y (if n + i = N then none else D) → p v y
  | [], _, _, i, p, hp => by simp at hp
  | q :: r, n, h, 0, p, hp => by
    obtain rfl : q = p := by simpa using hp
    exact h.1
  | q :: r, n, h, i + 1, p, hp => by
    have := monoL_at h.2 i p (by simpa using hp)
    rwa [show n + 1 + i = n + (i + 1) from by omega] at this
/-- A value that is known. -/
def PEq (v : Value) : Value → World → Prop := fun u _ => u = v
/-- A new block. -/
def PBlk (base : Nat) (t : TypeId) (cs : List Value) (f : Nat → Value) : Value → World → Prop := fun u x => ∃ g, u = f g ∧ base ≤ g ∧ Blk x g t cs
/-- A block that the region writes into. -/
def PKept (B : Nat) (t : TypeId) (cs : List Value) : Value → World → Prop := fun _ x => Blk x B t cs
theorem mono_eq {D : Option Nat} (v : Value) : ∀ u x y, PEq v u x → x.grownBy y D → PEq v u y := fun _ _ _ h _ => h
theorem mono_blk {D : Option Nat} {base : Nat} (hB : ∀ B, D = some B → B < base) (t : TypeId) (cs : List Value) (f : Nat → Value) : ∀ u x y, PBlk base t cs f u x → x.grownBy y D → PBlk base t cs f u y := by
  rintro u x y ⟨g, h1, h2, h3⟩ hg
  exact ⟨g, h1, h2, h3.kept hg (fun e => by have := hB g e.symm; omega)⟩

theorem drawn_region {P : Program} {l : List Oper} {Q : Exit → Act → World → Prop} {id : Nat} {a0 : Act} {w : World} (D : Option Nat) (N : Nat) (R : World → Prop) (W : List Nat) (Ps : List (Value → World → Prop)) (hm : P.follows .mixedOrders = true) (he : earlierB .any l.toArray = true) (hW : okSlots a0.tmps.size l W = true) (hn : W.Nodup)
    (hl : Ps.length = l.length) (hR0 : R w) (hR : ∀ x y, R x → x.grownBy y none → R y)
    (mono : MonoL D N 0 Ps)
    (hf : ∀ (vs : List Value) (x : World), vs.length = W.length → w.grownBy x D → StepsL P Q D N R l (layAll a0 W vs) vs x Ps 0 l Ps)
    (fin : ∀ (vs : List Value) (x : World), vs.length = W.length → w.grownBy x D → (∀ (j : Nat) (p : Value → World → Prop), Ps[j]? = some p → p (vs.getD j undef) x) → Q .normal (layAll a0 W vs) x) : (Code.region id l.toArray true).wp P Q a0 w := by
  obtain ⟨hlen, hat⟩ := okSlots_at hW
  refine wp_region_inv hm he (fun L a x => ∃ vs : List Value, vs.length = W.length ∧ a = layAll a0 W vs ∧ w.grownBy x D ∧ (L N = false → R x) ∧ (∀ (i : Nat) (o : Oper), l[i]? = some o → L i = true → ∀ e ∈ o.after, Region.binds .any e = true → L e.on = true) ∧ ∀ (j : Nat) (p : Value → World → Prop), Ps[j]? = some p → L j = true → p (vs.getD j undef) x) ?_ ?_ ?_
  · rintro L i o a x ho hLi hdeps ⟨vs, hv, rfl, hg, hr, hc, hp⟩
    have ho' : l[i]? = some o := by simpa using ho
    obtain ⟨hgd, s, hs, hds⟩ := hat i o ho'
    have hil : i < Ps.length := by rw [hl]; exact (List.getElem?_eq_some_iff.1 ho').1
    have hpi : Ps[i]? = some Ps[i] := by simp [hil]
    have hwait : Waited Ps o vs x := fun j hj => by
      have hLj := waitsB_spec hj hdeps
      cases e : Ps[j]? with
      | none => rw [List.getD_eq_getElem?_getD, e]; exact True.intro
      | some p => rw [List.getD_eq_getElem?_getD, e]; exact hp j p e hLj
    have key := stepsL_at (hf vs x hv hg) i o Ps[i] ho' hpi (fun a x => ∃ vs : List Value, vs.length = W.length ∧ a = layAll a0 W vs ∧ w.grownBy x D ∧ ((N == i || L N) = false → R x) ∧ (∀ (k : Nat) (o : Oper), l[k]? = some o → (k == i || L k) = true → ∀ e ∈ o.after, Region.binds .any e = true → (e.on == i || L e.on) = true) ∧ ∀ (j : Nat) (p : Value → World → Prop), Ps[j]? = some p → (j == i || L j) = true → p (vs.getD j undef) x) hwait (fun e => hr (by
      rw [Nat.zero_add] at e
      rcases e with e | e
      · rw [← e]; exact hLi
      · cases h : L N with
        | false => rfl
        | true =>
          have := reachB_spec hc 20 N i e h
          rw [hLi] at this
          cases this)) (fun v y hv2 hg2' => by
      rw [Nat.zero_add] at hg2'
      have hg2 : x.grownBy y D := by
        by_cases e : i = N
        · rwa [if_pos e] at hg2'
        · rw [if_neg e] at hg2'; exact grow_none hg2'
      refine ⟨vs.set i v, by simp [hv], ?_, ?_, ?_, ?_, ?_⟩
      · rw [layAll_set W vs a0 i s v hn hs hv]
        rcases hds with h | ⟨h, h2⟩
        · rw [h]
        · rw [h, put_out _ _ _ (by rw [layAll_size]; exact h2)]
          rfl
      · exact grow_trans hg hg2
      · intro hN
        have h1 : ¬ i = N := fun e => by rw [e] at hN; simp at hN
        rw [if_neg h1] at hg2'
        have h2 : L N = false := by
          have : (N == i) = false := by simpa using fun e => h1 e.symm
          rwa [this, Bool.false_or] at hN
        exact hR _ _ (hr h2) hg2'
      · intro k o' hk hL e he hbd
        by_cases q : k = i
        · subst q
          rw [ho'] at hk
          obtain rfl := Option.some.inj hk
          rw [hdeps e he hbd, Bool.or_true]
        · have : (k == i) = false := by simpa using q
          rw [this, Bool.false_or] at hL
          rw [hc k o' hk hL e he hbd, Bool.or_true]
      · intro j p hj hL
        by_cases e : j = i
        · subst e
          rw [hpi] at hj
          obtain rfl := Option.some.inj hj
          have hiv : j < vs.length := by rw [hv, ← hlen, ← hl]; exact hil
          rw [List.getD_eq_getElem?_getD, List.getElem?_set_self hiv]
          exact hv2
        · have hLj : L j = true := by
            have : (j == i) = false := by simpa using e
            rwa [this, Bool.false_or] at hL
          rw [List.getD_eq_getElem?_getD, List.getElem?_set_ne (fun h => e h.symm), ← List.getD_eq_getElem?_getD]
          refine monoL_at mono j p hj _ _ _ (hp j p hj hLj) ?_
          rw [Nat.zero_add]
          by_cases q : j = N
          · rw [if_pos q]
            rw [if_neg (fun h => e (by rw [q, h]))] at hg2'
            exact hg2'
          · rw [if_neg q]
            exact hg2)
    unfold wpOp
    simp only [ho]
    rw [if_pos (by unfold Region.wanted; rw [hgd])]
    exact Or.inl key
  · rintro L a x hL ⟨vs, hv, rfl, hg, hr, hc, hp⟩
    exact fin vs x hv hg fun j p hj => hp j p hj (hL j (by
      have := (List.getElem?_eq_some_iff.1 hj).1
      simp
      omega))
  · refine ⟨W.map fun s => a0.tmps.getD s undef, by simp, ?_, grow_drew (grow_refl w D), fun _ => hR _ _ hR0 (grow_drew (grow_refl w none)), fun _ _ _ h => (nomatch h), fun j p _ h => by cases h⟩
    have : ∀ (W : List Nat) (a : Act), layAll a W (W.map fun s => a.tmps.getD s undef) = a := by
      intro W
      induction W with
      | nil => intro a; rfl
      | cons s W ih =>
        intro a
        have e : a.put (some s) (a.tmps.getD s undef) = a := by
          by_cases h : s < a.tmps.size
          · simp only [Act.put]
            have : a.tmps.setIfInBounds s (a.tmps.getD s undef) = a.tmps := by
              apply Array.ext_getElem?
              intro i
              by_cases q : s = i
              · subst q; simp [h]
              · rw [Array.getElem?_setIfInBounds_ne q]
            rw [this]
          · exact put_out _ _ _ (by omega)
        rw [List.map_cons, layAll, e]
        exact ih a
    exact (this W a0).symm

theorem mono_kept (B : Nat) (t : TypeId) (cs : List Value) : ∀ u x y, PKept B t cs u x → x.grownBy y none → PKept B t cs u y := fun _ _ _ h g => Blk.kept h g (by simp)
/-- A piece that ends in one way alone. -/
theorem wp_one {P : Program} {c : Code} {Q : Exit → Act → World → Prop} {a : Act} {w : World} (F : Act) (X : World) (h : c.wp P (fun e a' w' => e = .normal ∧ a' = F ∧ w' = X) a w) (k : Q .normal F X) : c.wp P Q a w :=
  wp_mono h (by rintro e a' w' ⟨rfl, rfl, rfl⟩; exact k)

/-- A piece that ends in one frame, in a world of a kind. -/
theorem wp_some {P : Program} {c : Code} {Q : Exit → Act → World → Prop} {a : Act} {w : World} (X : World → Prop) (F : Act) (h : c.wp P (fun e a' w' => e = .normal ∧ a' = F ∧ X w') a w) (k : ∀ w', X w' → Q .normal F w') : c.wp P Q a w :=
  wp_mono h (by rintro e a' w' ⟨rfl, rfl, hx⟩; exact k _ hx)

end Go.Proofs.YtcmncdaojmkfgaaGreatDoor

namespace Go.Proofs.YtcmncdaojmkfgaaGreatDoor.Pr
def Prime (p : Nat) : Prop := 2 ≤ p ∧ ∀ m, m ∣ p → m = 1 ∨ m = p

theorem exists_prime (n : Nat) : 2 ≤ n → ∃ p, Prime p ∧ p ∣ n := by
  induction n using Nat.strongRecOn with
  | ind n ih =>
    intro h
    by_cases hp : Prime n
    · exact ⟨n, hp, Nat.dvd_refl n⟩
    · have : ∃ m, m ∣ n ∧ m ≠ 1 ∧ m ≠ n := by
        apply Classical.byContradiction
        intro hc
        apply hp
        refine ⟨h, fun m hm => ?_⟩
        apply Classical.byContradiction
        intro hq
        exact hc ⟨m, hm, fun e => hq (Or.inl e), fun e => hq (Or.inr e)⟩
      obtain ⟨m, hm, h1, hn⟩ := this
      have hle := Nat.le_of_dvd (by omega) hm
      have hm0 : m ≠ 0 := by
        intro e
        subst e
        have := Nat.eq_zero_of_zero_dvd hm
        omega
      obtain ⟨p, hp, hd⟩ := ih m (by omega) (by omega)
      exact ⟨p, hp, Nat.dvd_trans hd hm⟩

theorem Prime.coprime {p a : Nat} (hp : Prime p) (h : ¬ p ∣ a) : Nat.Coprime p a := by
  rcases hp.2 (Nat.gcd p a) (Nat.gcd_dvd_left p a) with e | e
  · exact e
  · exact absurd (e ▸ Nat.gcd_dvd_right p a) h

theorem Prime.dvd_mul {p a b : Nat} (hp : Prime p) (h : p ∣ a * b) : p ∣ a ∨ p ∣ b := by
  by_cases ha : p ∣ a
  · exact Or.inl ha
  · exact Or.inr ((hp.coprime ha).dvd_of_dvd_mul_left h)

theorem Prime.dvd_prod {p : Nat} (hp : Prime p) : ∀ l : List Nat, p ∣ l.prod → ∃ x ∈ l, p ∣ x
  | [], h => by
    have := Nat.le_of_dvd (by simp) h
    have := hp.1
    simp at *
    omega
  | a :: l, h => by
    rw [List.prod_cons] at h
    rcases hp.dvd_mul h with h | h
    · exact ⟨a, by simp, h⟩
    · obtain ⟨x, hx, hd⟩ := hp.dvd_prod l h
      exact ⟨x, by simp [hx], hd⟩

theorem dvd_sub_of_mod {a b p : Nat} (h : a % p = b % p) : p ∣ a - b := Nat.dvd_of_mod_eq_zero (Nat.sub_mod_eq_zero_of_mod_eq h)

theorem perm_of_sub : ∀ {l r : List Nat}, l.Nodup → l.length = r.length → (∀ x ∈ l, x ∈ r) → l.Perm r
  | [], r, _, hl, _ => by
    obtain rfl : r = [] := List.eq_nil_of_length_eq_zero hl.symm
    exact List.Perm.refl _
  | a :: l, r, hn, hl, hs => by
    have ha : a ∈ r := hs a (by simp)
    obtain ⟨h1, h2⟩ := List.nodup_cons.1 hn
    have hp := perm_of_sub (l := l) (r := r.erase a) h2 (by rw [List.length_erase_of_mem ha]; simp at hl; omega) (fun x hx => (List.mem_erase_of_ne (fun e => by subst e; exact h1 hx)).2 (hs x (by simp [hx])))
    exact (List.Perm.cons a hp).trans (List.perm_cons_erase ha).symm

theorem prod_map_mod (a p : Nat) : ∀ l : List Nat, (l.map fun x => a * x % p).prod % p = (a ^ l.length * l.prod) % p
  | [] => by simp
  | x :: l => by
    have ih := prod_map_mod a p l
    rw [List.map_cons, List.prod_cons, List.prod_cons, List.length_cons, Nat.mul_mod, ih, Nat.mod_mod, ← Nat.mul_mod]
    congr 1
    rw [Nat.pow_succ]
    ac_rfl

/-- FERMAT. -/
theorem fermat {p : Nat} (hp : Prime p) (a : Nat) (ha : ¬ p ∣ a) : a ^ (p - 1) % p = 1 := by
  have hp2 := hp.1
  let L := (List.range (p - 1)).map (· + 1)
  have hL : ∀ x, x ∈ L ↔ 1 ≤ x ∧ x < p := by
    intro x
    simp only [L, List.mem_map, List.mem_range]
    constructor
    · rintro ⟨y, hy, rfl⟩; omega
    · rintro ⟨h1, h2⟩; exact ⟨x - 1, by omega, by omega⟩
  have hlen : L.length = p - 1 := by simp [L]
  have hnd : L.Nodup := by
    rw [List.nodup_iff_pairwise_ne, List.pairwise_map]
    exact (List.nodup_iff_pairwise_ne.1 (List.nodup_range (n := p - 1))).imp fun h e => h (by omega)
  have hno : ∀ x, 1 ≤ x → x < p → ¬ p ∣ x := fun x h1 h2 hd => by
    have := Nat.le_of_dvd (by omega) hd
    omega
  have hmul : ∀ x ∈ L, ¬ p ∣ a * x := by
    intro x hx hd
    obtain ⟨h1, h2⟩ := (hL x).1 hx
    rcases hp.dvd_mul hd with h | h
    · exact ha h
    · exact hno x h1 h2 h
  have hperm : (L.map fun x => a * x % p).Perm L := by
    apply perm_of_sub
    · rw [List.nodup_iff_pairwise_ne, List.pairwise_map]
      refine (List.nodup_iff_pairwise_ne.1 hnd).imp_of_mem ?_
      intro x y hx hy hne e
      have e2 : a * x % p = a * y % p := e
      obtain ⟨x1, x2⟩ := (hL x).1 hx
      obtain ⟨y1, y2⟩ := (hL y).1 hy
      rcases Nat.lt_or_gt_of_ne hne with h | h
      · have hd : p ∣ a * y - a * x := dvd_sub_of_mod e2.symm
        rw [← Nat.mul_sub] at hd
        rcases hp.dvd_mul hd with q | q
        · exact ha q
        · exact hno (y - x) (by omega) (by omega) q
      · have hd : p ∣ a * x - a * y := dvd_sub_of_mod e2
        rw [← Nat.mul_sub] at hd
        rcases hp.dvd_mul hd with q | q
        · exact ha q
        · exact hno (x - y) (by omega) (by omega) q
    · simp
    · intro z hz
      obtain ⟨x, hx, rfl⟩ := List.mem_map.1 hz
      have hm : a * x % p ≠ 0 := fun e => hmul x hx (Nat.dvd_of_mod_eq_zero e)
      have hlt : a * x % p < p := Nat.mod_lt _ (by omega)
      exact (hL _).2 ⟨by omega, hlt⟩
  have h1 := prod_map_mod a p L
  rw [hperm.prod_nat, hlen] at h1
  have hP : ¬ p ∣ L.prod := by
    intro hd
    obtain ⟨x, hx, hxd⟩ := hp.dvd_prod L hd
    obtain ⟨x1, x2⟩ := (hL x).1 hx
    exact hno x x1 x2 hxd
  have ha0 : 0 < a := Nat.pos_of_ne_zero (fun e => ha (by rw [e]; exact Nat.dvd_zero p))
  have hpow : 1 ≤ a ^ (p - 1) := Nat.pow_pos ha0
  have hle : L.prod ≤ a ^ (p - 1) * L.prod := Nat.le_mul_of_pos_left _ hpow
  have hd : p ∣ a ^ (p - 1) * L.prod - L.prod := dvd_sub_of_mod h1.symm
  have hd2 : p ∣ (a ^ (p - 1) - 1) * L.prod := by
    rw [Nat.sub_mul, Nat.one_mul]; exact hd
  rcases hp.dvd_mul hd2 with h | h
  · obtain ⟨k, hk⟩ := h
    have : a ^ (p - 1) = 1 + p * k := by omega
    rw [this, Nat.add_mul_mod_self_left]
    exact Nat.mod_eq_of_lt (by omega)
  · exact absurd h hP

/-- Powers by halves. -/
def powMod (n : Nat) : Nat → Nat → Nat → Nat
  | 0, a, e => a ^ e % n
  | f + 1, a, e => if e = 0 then 1 % n else if e % 2 = 1 then a * powMod n f (a * a % n) (e / 2) % n else powMod n f (a * a % n) (e / 2)

theorem powMod_eq (n : Nat) : ∀ (f a e : Nat), powMod n f a e = a ^ e % n
  | 0, a, e => rfl
  | f + 1, a, e => by
    unfold powMod
    have hsq : ∀ k, (a * a % n) ^ k % n = (a ^ (2 * k)) % n := by
      intro k
      rw [← Nat.pow_mod, Nat.pow_mul, Nat.pow_two]
    by_cases h0 : e = 0
    · simp [h0]
    · rw [if_neg h0, powMod_eq n f, hsq]
      by_cases h1 : e % 2 = 1
      · rw [if_pos h1, Nat.mul_mod, Nat.mod_mod, ← Nat.mul_mod]
        congr 1
        rw [Nat.mul_comm, ← Nat.pow_succ]
        congr 1
        omega
      · rw [if_neg h1]
        congr 2
        omega

/-- What is 1 at two exponents is so at their greatest common divisor. -/
theorem gcd_one {p a : Nat} (hp : 2 ≤ p) : ∀ x y : Nat, a ^ x % p = 1 → a ^ y % p = 1 → a ^ Nat.gcd x y % p = 1 := by
  intro x y
  induction x, y using Nat.gcd.induction with
  | H0 n => intro _ h; rw [Nat.gcd_zero_left]; exact h
  | H1 m n hm ih =>
    intro h1 h2
    rw [Nat.gcd_rec]
    refine ih ?_ h1
    have e : a ^ n = (a ^ m) ^ (n / m) * a ^ (n % m) := by
      rw [← Nat.pow_mul, ← Nat.pow_add, Nat.div_add_mod]
    rw [e, Nat.mul_mod, Nat.pow_mod, h1, Nat.one_pow, Nat.mod_eq_of_lt (show 1 < p by omega), Nat.one_mul, Nat.mod_mod] at h2
    exact h2

theorem dvd_pow_pos {a k : Nat} (h : 0 < k) : a ∣ a ^ k := by
  obtain ⟨j, rfl⟩ : ∃ j, k = j + 1 := ⟨k - 1, by omega⟩
  exact ⟨a ^ j, by rw [Nat.pow_succ, Nat.mul_comm]⟩

/-- A prime q divides p - 1, if a^(q m) is 1 and a^m is not. -/
theorem dvd_pred {p q m a : Nat} (hp : Prime p) (hq : Prime q) (h1 : a ^ (q * m) % p = 1) (h2 : a ^ m % p ≠ 1) (hm : 0 < m) : q ∣ p - 1 := by
  have hp2 := hp.1
  have ha : ¬ p ∣ a := by
    intro hd
    have : p ∣ a ^ (q * m) := Nat.dvd_trans hd (dvd_pow_pos (Nat.mul_pos (show 0 < q by have := hq.1; omega) hm))
    rw [Nat.mod_eq_zero_of_dvd this] at h1
    cases h1
  have hf := fermat hp a ha
  apply Classical.byContradiction
  intro hn
  have hg := gcd_one hp2 _ _ h1 hf
  have hgq : ¬ q ∣ Nat.gcd (q * m) (p - 1) := fun h => hn (Nat.dvd_trans h (Nat.gcd_dvd_right _ _))
  have hgm : Nat.gcd (q * m) (p - 1) ∣ m := (Nat.Coprime.symm (hq.coprime hgq)).dvd_of_dvd_mul_left (Nat.gcd_dvd_left _ _)
  obtain ⟨k, hk⟩ := hgm
  apply h2
  rw [hk, Nat.pow_mul, Nat.pow_mod, hg, Nat.one_pow, Nat.mod_eq_of_lt (by omega)]

/-- No number from 2 to k + 1 divides n. -/
def noDiv (n : Nat) : Nat → Bool
  | 0 => true
  | k + 1 => !(n % (k + 2) == 0) && noDiv n k

theorem noDiv_spec {n : Nat} : ∀ k, noDiv n k = true → ∀ m, 2 ≤ m → m ≤ k + 1 → ¬ m ∣ n
  | 0, _, m, h1, h2, _ => by omega
  | k + 1, h, m, h1, h2, hd => by
    simp only [noDiv, Bool.and_eq_true, Bool.not_eq_true', beq_eq_false_iff_ne] at h
    by_cases e : m = k + 2
    · subst e
      exact h.1 (Nat.mod_eq_zero_of_dvd hd)
    · exact noDiv_spec k h.2 m h1 (by omega) hd

/-- A number whose every prime divisor has a square beyond it is prime. -/
theorem prime_of_big {n : Nat} (hn : 2 ≤ n) (h : ∀ p, Prime p → p ∣ n → n < p * p) : Prime n := by
  refine ⟨hn, fun m hm => ?_⟩
  obtain ⟨k, rfl⟩ := hm
  apply Classical.byContradiction
  intro hc
  have hm1 : m ≠ 1 := fun e => hc (Or.inl e)
  have hk1 : k ≠ 1 := fun e => hc (Or.inr (by rw [e, Nat.mul_one]))
  have hm0 : m ≠ 0 := fun e => by subst e; simp at hn
  have hk0 : k ≠ 0 := fun e => by subst e; simp at hn
  rcases Nat.le_total m k with q | q
  · obtain ⟨p, hp, hd⟩ := exists_prime m (by omega)
    have h1 := h p hp (Nat.dvd_trans hd (Nat.dvd_mul_right m k))
    have h2 := Nat.le_of_dvd (by omega) hd
    have h3 : p * p ≤ m * k := Nat.mul_le_mul h2 (Nat.le_trans h2 q)
    omega
  · obtain ⟨p, hp, hd⟩ := exists_prime k (by omega)
    have h1 := h p hp (Nat.dvd_trans hd (Nat.dvd_mul_left k m))
    have h2 := Nat.le_of_dvd (by omega) hd
    have h3 : p * p ≤ m * k := Nat.mul_le_mul (Nat.le_trans h2 q) h2
    omega

theorem prime_small (n k : Nat) (hn : 2 ≤ n) (hk : n < (k + 2) * (k + 2)) (h : noDiv n k = true) : Prime n := by
  refine prime_of_big hn fun p hp hd => ?_
  have h2 := hp.1
  have h3 : ¬ p ≤ k + 1 := fun hle => noDiv_spec k h p h2 hle hd
  have : (k + 2) * (k + 2) ≤ p * p := Nat.mul_le_mul (by omega) (by omega)
  omega

/-- One known prime factor q of n - 1. -/
theorem factor_pred {n q m a : Nat} (hq : Prime q) (hm : 0 < m) (h1 : powMod n 400 a (q * m) = 1) (h2 : Nat.gcd (powMod n 400 a m + n - 1) n = 1) (hn : 2 ≤ n) : ∀ p, Prime p → p ∣ n → q ∣ p - 1 := by
  intro p hp hd
  rw [powMod_eq] at h1 h2
  have hp2 := hp.1
  refine dvd_pred hp hq (m := m) (a := a) ?_ ?_ hm
  · have := congrArg (· % p) h1
    simp only [Nat.mod_mod_of_dvd _ hd] at this
    rw [this]
    exact Nat.mod_eq_of_lt (by omega)
  · intro e
    have h3 : a ^ m % n % p = 1 := by rw [Nat.mod_mod_of_dvd _ hd]; exact e
    have h4 : p ∣ a ^ m % n + n - 1 := by
      obtain ⟨k, hk⟩ := hd
      have h5 := Nat.div_add_mod (a ^ m % n) p
      rw [h3] at h5
      refine ⟨a ^ m % n / p + k, ?_⟩
      rw [Nat.mul_add, ← hk]
      omega
    have h6 : p ∣ Nat.gcd (a ^ m % n + n - 1) n := Nat.dvd_gcd h4 hd
    rw [h2] at h6
    have := Nat.le_of_dvd (by omega) h6
    omega

/-- POCKLINGTON, with one prime factor of n - 1. -/
theorem pock1 (n q m a : Nat) (hq : Prime q) (hn : n = q * m + 1) (hm : 0 < m) (h1 : powMod n 400 a (q * m) = 1) (h2 : Nat.gcd (powMod n 400 a m + n - 1) n = 1) (hb : n < (q + 1) * (q + 1)) : Prime n := by
  have hq2 := hq.1
  have hqm := Nat.mul_pos (show 0 < q by omega) hm
  refine prime_of_big (by omega) fun p hp hd => ?_
  have h := factor_pred hq hm h1 h2 (by omega) p hp hd
  have hp2 := hp.1
  have := Nat.le_of_dvd (by omega) h
  have : (q + 1) * (q + 1) ≤ p * p := Nat.mul_le_mul (by omega) (by omega)
  omega

/-- POCKLINGTON, with two. -/
theorem pock2 (n q m a r l b : Nat) (hq : Prime q) (hr : Prime r) (hne : q ≠ r) (hn : n = q * m + 1) (hn2 : n = r * l + 1) (hm : 0 < m) (hl : 0 < l) (h1 : powMod n 400 a (q * m) = 1) (h2 : Nat.gcd (powMod n 400 a m + n - 1) n = 1)
    (h3 : powMod n 400 b (r * l) = 1) (h4 : Nat.gcd (powMod n 400 b l + n - 1) n = 1) (hb : n < (q * r + 1) * (q * r + 1)) : Prime n := by
  have hq2 := hq.1
  have hqm := Nat.mul_pos (show 0 < q by omega) hm
  refine prime_of_big (by omega) fun p hp hd => ?_
  have e1 := factor_pred hq hm h1 h2 (by omega) p hp hd
  have e2 := factor_pred hr hl h3 h4 (by omega) p hp hd
  have hc : Nat.Coprime q r := hq.coprime fun h => by
    rcases hr.2 q h with e | e
    · omega
    · exact hne e
  have h := hc.mul_dvd_of_dvd_of_dvd e1 e2
  have hp2 := hp.1
  have := Nat.le_of_dvd (by omega) h
  have : (q * r + 1) * (q * r + 1) ≤ p * p := Nat.mul_le_mul (by omega) (by omega)
  omega

theorem p1 : Prime 8574133 := prime_small _ 2928 (by decide) (by decide) (by decide +kernel)
theorem p2 : Prime 430751 := prime_small _ 656 (by decide) (by decide) (by decide +kernel)
theorem p3 : Prime 4153 := prime_small _ 64 (by decide) (by decide) (by decide +kernel)
theorem p4 : Prime 127 := prime_small _ 11 (by decide) (by decide) (by decide +kernel)
theorem p5 : Prime 2773320623 := prime_small _ 52662 (by decide) (by decide) (by decide +kernel)
theorem p6 : Prime 72106336199 := pock1 _ 2773320623 26 2 p5 (by decide) (by decide) (by decide +kernel) (by decide +kernel) (by decide)
theorem p7 : Prime 1919519569386763 := pock2 _ 8574133 223873314 2 127 15114327318006 2 p1 p4 (by decide) (by decide) (by decide) (by decide) (by decide) (by decide +kernel) (by decide +kernel) (by decide +kernel) (by decide +kernel) (by decide)
theorem p8 : Prime 31757755568855353 := pock2 _ 430751 73726481352 2 4153 7646943310584 2 p2 p3 (by decide) (by decide) (by decide) (by decide) (by decide) (by decide +kernel) (by decide +kernel) (by decide +kernel) (by decide +kernel) (by decide)
theorem p9 : Prime 75445702479781427272750846543864801 := pock2 _ 1919519569386763 39304471641247389600 2 72106336199 1046311689884858398375200 2 p7 p6 (by decide) (by decide) (by decide) (by decide) (by decide) (by decide +kernel) (by decide +kernel) (by decide +kernel) (by decide +kernel) (by decide)
theorem p10 : Prime 74058212732561358302231226437062788676166966415465897661863160754340907 := pock2 _ 75445702479781427272750846543864801 981609426360740691344999861639072106 2 31757755568855353 2331972502653487852620185443007392165117953542933313402 2 p9 p8 (by decide) (by decide) (by decide) (by decide) (by decide) (by decide +kernel) (by decide +kernel) (by decide +kernel) (by decide +kernel) (by decide)
/-- 2^255 - 19 is prime. -/
theorem prime25519 : Prime 57896044618658097711785492504343953926634992332820282019728792003956564819949 := pock1 _ 74058212732561358302231226437062788676166966415465897661863160754340907 781764 2 p10 (by decide) (by decide) (by decide +kernel) (by decide +kernel) (by decide)

end Go.Proofs.YtcmncdaojmkfgaaGreatDoor.Pr

namespace Go.Proofs.YtcmncdaojmkfgaaGreatDoor
set_option linter.unusedVariables false

section
variable {n : Nat} [NeZero n]
def rX (x z : Fin n) : Fin n := (x + z) * (x + z) * ((x - z) * (x - z))
def rE (x z : Fin n) : Fin n := (x + z) * (x + z) - (x - z) * (x - z)
def rZ (c x z : Fin n) : Fin n := rE x z * ((x + z) * (x + z) + c * rE x z)
def rDA (x2 z2 x3 z3 : Fin n) : Fin n := (x3 - z3) * (x2 + z2)
def rCB (x2 z2 x3 z3 : Fin n) : Fin n := (x3 + z3) * (x2 - z2)
def rX3 (x2 z2 x3 z3 : Fin n) : Fin n := (rDA x2 z2 x3 z3 + rCB x2 z2 x3 z3) * (rDA x2 z2 x3 z3 + rCB x2 z2 x3 z3)
def rZ3 (u x2 z2 x3 z3 : Fin n) : Fin n := u * ((rDA x2 z2 x3 z3 - rCB x2 z2 x3 z3) * (rDA x2 z2 x3 z3 - rCB x2 z2 x3 z3))
theorem rX_sc (s x z : Fin n) : rX (s * x) (s * z) = s * s * (s * s) * rX x z := by unfold rX; grind
theorem rZ_sc (c s x z : Fin n) : rZ c (s * x) (s * z) = s * s * (s * s) * rZ c x z := by unfold rZ rE; grind
theorem rX3_sc (s t x2 z2 x3 z3 : Fin n) : rX3 (s * x2) (s * z2) (t * x3) (t * z3) = s * t * (s * t) * rX3 x2 z2 x3 z3 := by unfold rX3 rDA rCB; grind
theorem rZ3_sc (u s t x2 z2 x3 z3 : Fin n) : rZ3 u (s * x2) (s * z2) (t * x3) (t * z3) = s * t * (s * t) * rZ3 u x2 z2 x3 z3 := by unfold rZ3 rDA rCB; grind
end

instance : NeZero PP := ⟨Nat.pos_iff_ne_zero.1 PP_pos⟩
/-- A number as an element of the ring. -/
def fi (x : Nat) : Fin PP := Fin.ofNat PP x
theorem fi_val (x : Nat) : (fi x).val = x % PP := rfl
theorem fi_eq {x y : Nat} : fi x = fi y ↔ x % PP = y % PP := ⟨fun h => by have := congrArg Fin.val h; exact this, fun h => Fin.ext h⟩
theorem fi_mod (x : Nat) : fi (x % PP) = fi x := fi_eq.2 (Nat.mod_mod _ _)
theorem fi_add (x y : Nat) : fi (addP x y) = fi x + fi y := by
  apply Fin.ext
  rw [Fin.val_add, fi_val, fi_val, fi_val]
  unfold addP
  rw [Nat.mod_mod, ← Nat.add_mod]
theorem fi_mul (x y : Nat) : fi (mulP x y) = fi x * fi y := by
  apply Fin.ext
  rw [Fin.val_mul, fi_val, fi_val, fi_val]
  unfold mulP
  rw [Nat.mod_mod, ← Nat.mul_mod]
theorem fi_sub (x y : Nat) : fi (subP x y) = fi x - fi y := by
  apply Fin.ext
  rw [Fin.sub_def]
  show (subP x y) % PP = ((PP - y % PP) + x % PP) % PP
  unfold subP
  rw [Nat.mod_mod, Nat.add_comm (PP - y % PP) (x % PP), Nat.mod_add_mod]
theorem fi_X2 (x z : Nat) : fi (ladX2 x z) = rX (fi x) (fi z) := by unfold ladX2 rX; simp only [fi_mul, fi_add, fi_sub]
theorem fi_Z2 (x z : Nat) : fi (ladZ2 x z) = rZ (fi 121665) (fi x) (fi z) := by unfold ladZ2 ladE rZ rE; simp only [fi_mul, fi_add, fi_sub]
theorem fi_X3 (a b c d : Nat) : fi (ladX3 a b c d) = rX3 (fi a) (fi b) (fi c) (fi d) := by unfold ladX3 ladDA ladCB rX3 rDA rCB; simp only [fi_mul, fi_add, fi_sub]
theorem fi_Z3 (u a b c d : Nat) : fi (ladZ3 u a b c d) = rZ3 (fi u) (fi a) (fi b) (fi c) (fi d) := by unfold ladZ3 ladDA ladCB rZ3 rDA rCB; simp only [fi_mul, fi_add, fi_sub]

end Go.Proofs.YtcmncdaojmkfgaaGreatDoor

namespace Go.Proofs.YtcmncdaojmkfgaaGreatDoor
set_option linter.unusedVariables false

theorem prP : Pr.Prime PP := by rw [PP_eq]; exact Pr.prime25519
def invP (a : Fin PP) : Fin PP := a ^ (PP - 2)
theorem fin_pow_val (a : Fin PP) : ∀ n : Nat, (a ^ n).val = a.val ^ n % PP
  | 0 => by
    rw [Lean.Grind.Semiring.pow_zero, Nat.pow_zero]
    rfl
  | n + 1 => by
    rw [Lean.Grind.Semiring.pow_succ, Fin.val_mul, fin_pow_val a n, Nat.pow_succ, Nat.mod_mul_mod]
theorem mul_invP (a : Fin PP) (h : a ≠ 0) : a * invP a = 1 := by
  apply Fin.ext
  have hp : 2 < PP := by rw [PP_eq]; omega
  have h0 : ¬ PP ∣ a.val := fun hd => h (Fin.ext (Nat.eq_zero_of_dvd_of_lt hd a.isLt))
  have hf := Pr.fermat prP a.val h0
  have e : PP - 1 = PP - 2 + 1 := by omega
  rw [e, Nat.pow_succ] at hf
  unfold invP
  rw [Fin.val_mul, fin_pow_val, Nat.mul_mod_mod, Nat.mul_comm, hf]
  have : (1 : Fin PP).val = 1 % PP := rfl
  rw [this, Nat.mod_eq_of_lt (by omega)]
theorem invP_zero : invP 0 = 0 := by
  apply Fin.ext
  have hp : 2 < PP := by rw [PP_eq]; omega
  unfold invP
  rw [fin_pow_val]
  have : (0 : Fin PP).val = 0 := rfl
  rw [this, Nat.zero_pow (by omega), Nat.zero_mod]
theorem zero_ne_oneP : (0 : Fin PP) ≠ 1 := by
  intro h
  have h2 := congrArg Fin.val h
  have hp : 2 < PP := by rw [PP_eq]; omega
  have e1 : (1 : Fin PP).val = 1 % PP := rfl
  rw [e1, Nat.mod_eq_of_lt (by omega)] at h2
  exact absurd h2 (by decide)
def zpowP (a : Fin PP) : Int → Fin PP
  | .ofNat n => a ^ n
  | .negSucc n => invP (a ^ (n + 1))
theorem zpowP_neg (a : Fin PP) : ∀ n : Int, zpowP a (-n) = invP (zpowP a n) := by
  have hone : invP (1 : Fin PP) = 1 := by
    have h := mul_invP 1 (Ne.symm zero_ne_oneP)
    have e : (1 : Fin PP) * invP 1 = invP 1 := by grind
    rw [e] at h
    exact h
  have hinv : ∀ b : Fin PP, invP (invP b) = b := by
    intro b
    by_cases hb : b = 0
    · rw [hb, invP_zero, invP_zero]
    · have h1 := mul_invP b hb
      have hi : invP b ≠ 0 := by
        intro e
        rw [e] at h1
        have e2 : b * 0 = (0 : Fin PP) := by grind
        exact zero_ne_oneP (e2.symm.trans h1)
      have h2 := mul_invP (invP b) hi
      have e3 : b * (invP b * invP (invP b)) = (b * invP b) * invP (invP b) := by grind
      rw [h1, h2] at e3
      grind
  intro n
  rcases n with n | n
  · rcases n with _ | n
    · show a ^ 0 = invP (a ^ 0)
      rw [Lean.Grind.Semiring.pow_zero, hone]
    · rfl
  · show zpowP a (Int.ofNat (n + 1)) = invP (invP (a ^ (n + 1)))
    rw [hinv]
    rfl
/-- The field. -/
instance fieldP : Lean.Grind.Field (Fin PP) where
  inv := invP
  div a b := a * invP b
  zpow := ⟨zpowP⟩
  div_eq_mul_inv _ _ := rfl
  zero_ne_one := zero_ne_oneP
  inv_zero := invP_zero
  mul_inv_cancel {a} h := mul_invP a h
  zpow_zero a := by show zpowP a 0 = 1; exact Lean.Grind.Semiring.pow_zero a
  zpow_succ a n := by show a ^ (n + 1) = a ^ n * a; exact Lean.Grind.Semiring.pow_succ a n
  zpow_neg a n := zpowP_neg a n

end Go.Proofs.YtcmncdaojmkfgaaGreatDoor

namespace Go.Proofs.YtcmncdaojmkfgaaGreatDoor
set_option linter.unusedVariables false
namespace Ed
open Lean.Grind

theorem algA {F : Type} [CommRing F] {D x1 y1 x2 y2 ε : F} (h1 : x1*x1 + y1*y1 = 1 + D*x1*x1*y1*y1) (h : x2*x2 + y2*y2 = 1 + D*x2*x2*y2*y2) (hε : ε*ε = 1) (he : D*x1*x2*y1*y2 = ε) :
   (x1 + ε*y1)*(x1 + ε*y1) = D * ((x1*y1*(x2+y2)) * (x1*y1*(x2+y2))) := by
  have e1 : (D*x1*x2*y1*y2) * (D*x1*x2*y1*y2) = 1 := by rw [he, hε]
  have e2 : D*x1*x1*y1*y1*(x2*x2+y2*y2) = D*x1*x1*y1*y1 + (D*x1*x2*y1*y2) * (D*x1*x2*y1*y2) := by rw [h]; grind
  rw [e1] at e2
  have e3 : D * ((x1*y1*(x2+y2)) * (x1*y1*(x2+y2))) = D*x1*x1*y1*y1*(x2*x2+y2*y2) + (D*x1*x2*y1*y2)*x1*y1 + (D*x1*x2*y1*y2)*x1*y1 := by grind
  rw [e3, e2, he]
  grind
theorem algB {F : Type} [CommRing F] {D x1 y1 x2 y2 ε : F} (h1 : x1*x1 + y1*y1 = 1 + D*x1*x1*y1*y1) (h : x2*x2 + y2*y2 = 1 + D*x2*x2*y2*y2) (hε : ε*ε = 1) (he : D*x1*x2*y1*y2 = ε) :
   (x1 - ε*y1)*(x1 - ε*y1) = D * ((x1*y1*(x2-y2)) * (x1*y1*(x2-y2))) := by
  have e1 : (D*x1*x2*y1*y2) * (D*x1*x2*y1*y2) = 1 := by rw [he, hε]
  have e2 : D*x1*x1*y1*y1*(x2*x2+y2*y2) = D*x1*x1*y1*y1 + (D*x1*x2*y1*y2) * (D*x1*x2*y1*y2) := by rw [h]; grind
  rw [e1] at e2
  have e3 : D * ((x1*y1*(x2-y2)) * (x1*y1*(x2-y2))) = D*x1*x1*y1*y1*(x2*x2+y2*y2) - (D*x1*x2*y1*y2)*x1*y1 - (D*x1*x2*y1*y2)*x1*y1 := by grind
  rw [e3, e2, he]
  grind

theorem assoc_x {F : Type} [CommRing F] (D x1 y1 x2 y2 x3 y3 : F)
  (e1 : x1*x1 + y1*y1 = 1 + D*x1*x1*y1*y1) (e2 : x2*x2 + y2*y2 = 1 + D*x2*x2*y2*y2) (e3 : x3*x3 + y3*y3 = 1 + D*x3*x3*y3*y3) :
  ((x1*y2+y1*x2)*(1 - D*x1*x2*y1*y2)*y3 + (y1*y2-x1*x2)*(1 + D*x1*x2*y1*y2)*x3) * ((1 + D*x2*x3*y2*y3)*(1 - D*x2*x3*y2*y3) + D*(x2*y3+y2*x3)*(y2*y3-x2*x3)*x1*y1)
  = ((x2*y3+y2*x3)*(1 - D*x2*x3*y2*y3)*y1 + (y2*y3-x2*x3)*(1 + D*x2*x3*y2*y3)*x1) * ((1 + D*x1*x2*y1*y2)*(1 - D*x1*x2*y1*y2) + D*(x1*y2+y1*x2)*(y1*y2-x1*x2)*x3*y3) := by
  grind
theorem assoc_y {F : Type} [CommRing F] (D x1 y1 x2 y2 x3 y3 : F)
  (e1 : x1*x1 + y1*y1 = 1 + D*x1*x1*y1*y1) (e2 : x2*x2 + y2*y2 = 1 + D*x2*x2*y2*y2) (e3 : x3*x3 + y3*y3 = 1 + D*x3*x3*y3*y3) :
  ((y1*y2-x1*x2)*(1 + D*x1*x2*y1*y2)*y3 - (x1*y2+y1*x2)*(1 - D*x1*x2*y1*y2)*x3) * ((1 + D*x2*x3*y2*y3)*(1 - D*x2*x3*y2*y3) - D*(x2*y3+y2*x3)*(y2*y3-x2*x3)*x1*y1)
  = ((y2*y3-x2*x3)*(1 + D*x2*x3*y2*y3)*y1 - (x2*y3+y2*x3)*(1 - D*x2*x3*y2*y3)*x1) * ((1 + D*x1*x2*y1*y2)*(1 - D*x1*x2*y1*y2) - D*(x1*y2+y1*x2)*(y1*y2-x1*x2)*x3*y3) := by
  grind
theorem closed {F : Type} [CommRing F] (D x1 y1 x2 y2 : F)
  (e1 : x1*x1 + y1*y1 = 1 + D*x1*x1*y1*y1) (e2 : x2*x2 + y2*y2 = 1 + D*x2*x2*y2*y2) :
  ((x1*y2+y1*x2)*(1 - D*x1*x2*y1*y2))*((x1*y2+y1*x2)*(1 - D*x1*x2*y1*y2)) + ((y1*y2-x1*x2)*(1 + D*x1*x2*y1*y2))*((y1*y2-x1*x2)*(1 + D*x1*x2*y1*y2))
  = ((1 - D*x1*x2*y1*y2)*(1 + D*x1*x2*y1*y2))*((1 - D*x1*x2*y1*y2)*(1 + D*x1*x2*y1*y2)) + D*(x1*y2+y1*x2)*(x1*y2+y1*x2)*(y1*y2-x1*x2)*(y1*y2-x1*x2) := by
  grind

variable {F : Type} [Lean.Grind.Field F]
theorem mul_ne {a b : F} (ha : a ≠ 0) (hb : b ≠ 0) : a * b ≠ 0 := by grind
def On (D x y : F) : Prop := x*x + y*y = 1 + D*x*x*y*y

theorem complete {D x1 y1 x2 y2 : F} (hD : ∀ t : F, t*t ≠ D) (h2 : (2 : F) ≠ 0) (h1 : On D x1 y1) (h : On D x2 y2) (ε : F) (hε : ε * ε = 1) : D*x1*x2*y1*y2 ≠ ε := by
  intro he
  have a := algA h1 h hε he
  have b := algB h1 h hε he
  have hne : D*x1*x2*y1*y2 ≠ 0 := by
    rw [he]; intro e; rw [e] at hε
    have : (1 : F) ≠ 0 := by grind
    apply this; rw [← hε]; grind
  clear h1 h he hε
  have hx1 : x1 ≠ 0 := by intro e; apply hne; rw [e]; grind
  have hy1 : y1 ≠ 0 := by intro e; apply hne; rw [e]; grind
  have hx2 : x2 ≠ 0 := by intro e; apply hne; rw [e]; grind
  clear hne
  have key : ∀ u v : F, u * u = D * (v * v) → v ≠ 0 → False := by
    intro u v h hv
    apply hD (u * v⁻¹)
    have hvv : v * v⁻¹ = 1 := Lean.Grind.Field.mul_inv_cancel hv
    have e1 : (u * v⁻¹) * (u * v⁻¹) = (u * u) * (v⁻¹ * v⁻¹) := by clear hvv h; grind
    have e2 : D * (v * v) * (v⁻¹ * v⁻¹) = D * ((v * v⁻¹) * (v * v⁻¹)) := by clear e1 hvv h; grind
    rw [e1, h, e2, hvv]; clear e1 e2 hvv h; grind
  by_cases q : x2 + y2 = 0
  · by_cases r : x2 - y2 = 0
    · apply mul_ne h2 hx2; clear a b key hD hx1 hy1; grind
    · exact key _ _ b (mul_ne (mul_ne hx1 hy1) r)
  · exact key _ _ a (mul_ne (mul_ne hx1 hy1) q)
/-- The sum of two points, in both coordinates, told by products. -/
structure Sum (D x1 y1 x2 y2 x y : F) : Prop where
  ex : x * (1 + D*x1*x2*y1*y2) = x1*y2 + y1*x2
  ey : y * (1 - D*x1*x2*y1*y2) = y1*y2 - x1*x2

/-- What the curve's number must be. -/
structure Good (D : F) : Prop where
  nonsq : ∀ t : F, t*t ≠ D
  two : (2 : F) ≠ 0

theorem den_p {D x1 y1 x2 y2 : F} (g : Good D) (h1 : On D x1 y1) (h2 : On D x2 y2) : 1 + D*x1*x2*y1*y2 ≠ 0 := by
  intro e
  apply complete g.nonsq g.two h1 h2 (-1) (by grind)
  clear h1 h2; grind
theorem den_m {D x1 y1 x2 y2 : F} (g : Good D) (h1 : On D x1 y1) (h2 : On D x2 y2) : 1 - D*x1*x2*y1*y2 ≠ 0 := by
  intro e
  apply complete g.nonsq g.two h1 h2 1 (by grind)
  clear h1 h2; grind

theorem cancel {a b c : F} (hc : c ≠ 0) (h : a * c = b * c) : a = b := by
  have e : c * c⁻¹ = 1 := Lean.Grind.Field.mul_inv_cancel hc
  have h1 : a * c * c⁻¹ = b * c * c⁻¹ := by rw [h]
  have h2 : ∀ t : F, t * c * c⁻¹ = t * (c * c⁻¹) := fun t => by clear h1 e h; grind
  rw [h2, h2, e] at h1
  clear h2 e h
  grind

theorem on_sum {D x1 y1 x2 y2 x y : F} (g : Good D) (h1 : On D x1 y1) (h2 : On D x2 y2) (s : Sum D x1 y1 x2 y2 x y) : On D x y := by
  have dp := den_p g h1 h2
  have dm := den_m g h1 h2
  have c := closed D x1 y1 x2 y2 h1 h2
  obtain ⟨ex, ey⟩ := s
  unfold On
  rw [← ex, ← ey] at c
  clear h1 h2 ex ey
  generalize 1 + D*x1*x2*y1*y2 = p at *
  generalize 1 - D*x1*x2*y1*y2 = m at *
  have hpm := mul_ne (mul_ne dp dm) (mul_ne dp dm)
  refine cancel hpm ?_
  clear dp dm hpm g
  grind

theorem assoc_xx {D x1 y1 x2 y2 x3 y3 xa ya xb yb xl xr : F} (g : Good D) (h1 : On D x1 y1) (h2 : On D x2 y2) (h3 : On D x3 y3)
    (sa : Sum D x1 y1 x2 y2 xa ya) (sb : Sum D x2 y2 x3 y3 xb yb) (hl : xl * (1 + D*xa*x3*ya*y3) = xa*y3 + ya*x3) (hr : xr * (1 + D*x1*xb*y1*yb) = x1*yb + y1*xb) : xl = xr := by
  have na := den_p g (on_sum g h1 h2 sa) h3
  have nb := den_p g h1 (on_sum g h2 h3 sb)
  have p1 := den_p g h1 h2
  have m1 := den_m g h1 h2
  have p2 := den_p g h2 h3
  have m2 := den_m g h2 h3
  have A := assoc_x D x1 y1 x2 y2 x3 y3 h1 h2 h3
  obtain ⟨a1, a2⟩ := sa
  obtain ⟨b1, b2⟩ := sb
  rw [← a1, ← a2, ← b1, ← b2] at A
  clear h1 h2 h3 a1 a2 b1 b2
  generalize 1 + D*x1*x2*y1*y2 = P1 at *
  generalize 1 - D*x1*x2*y1*y2 = M1 at *
  generalize 1 + D*x2*x3*y2*y3 = P2 at *
  generalize 1 - D*x2*x3*y2*y3 = M2 at *
  have A2 : (P1*M1) * (P2*M2) * ((xa*y3 + ya*x3) * (1 + D*x1*xb*y1*yb)) = (P1*M1) * (P2*M2) * ((x1*yb + y1*xb) * (1 + D*xa*x3*ya*y3)) := by clear na nb p1 m1 p2 m2 hl hr g; grind
  rw [← hl, ← hr] at A2
  have hn := mul_ne (mul_ne (mul_ne p1 m1) (mul_ne p2 m2)) (mul_ne na nb)
  refine cancel hn ?_
  clear hl hr A na nb p1 m1 p2 m2 hn g
  grind

theorem assoc_yy {D x1 y1 x2 y2 x3 y3 xa ya xb yb yl yr : F} (g : Good D) (h1 : On D x1 y1) (h2 : On D x2 y2) (h3 : On D x3 y3)
    (sa : Sum D x1 y1 x2 y2 xa ya) (sb : Sum D x2 y2 x3 y3 xb yb) (hl : yl * (1 - D*xa*x3*ya*y3) = ya*y3 - xa*x3) (hr : yr * (1 - D*x1*xb*y1*yb) = y1*yb - x1*xb) : yl = yr := by
  have na := den_m g (on_sum g h1 h2 sa) h3
  have nb := den_m g h1 (on_sum g h2 h3 sb)
  have p1 := den_p g h1 h2
  have m1 := den_m g h1 h2
  have p2 := den_p g h2 h3
  have m2 := den_m g h2 h3
  have A := assoc_y D x1 y1 x2 y2 x3 y3 h1 h2 h3
  obtain ⟨a1, a2⟩ := sa
  obtain ⟨b1, b2⟩ := sb
  rw [← a1, ← a2, ← b1, ← b2] at A
  clear h1 h2 h3 a1 a2 b1 b2
  generalize 1 + D*x1*x2*y1*y2 = P1 at *
  generalize 1 - D*x1*x2*y1*y2 = M1 at *
  generalize 1 + D*x2*x3*y2*y3 = P2 at *
  generalize 1 - D*x2*x3*y2*y3 = M2 at *
  have A2 : (P1*M1) * (P2*M2) * ((ya*y3 - xa*x3) * (1 - D*x1*xb*y1*yb)) = (P1*M1) * (P2*M2) * ((y1*yb - x1*xb) * (1 - D*xa*x3*ya*y3)) := by clear na nb p1 m1 p2 m2 hl hr g; grind
  rw [← hl, ← hr] at A2
  have hn := mul_ne (mul_ne (mul_ne p1 m1) (mul_ne p2 m2)) (mul_ne na nb)
  refine cancel hn ?_
  clear hl hr A na nb p1 m1 p2 m2 hn g
  grind

/-- A point. -/
structure Pt (D : F) where
  x : F
  y : F
  on : On D x y

theorem Pt.ext {D : F} {P Q : Pt D} (hx : P.x = Q.x) (hy : P.y = Q.y) : P = Q := by
  cases P; cases Q; simp at hx hy; subst hx hy; rfl

def sx (D x1 y1 x2 y2 : F) : F := (x1*y2 + y1*x2) * (1 + D*x1*x2*y1*y2)⁻¹
def sy (D x1 y1 x2 y2 : F) : F := (y1*y2 - x1*x2) * (1 - D*x1*x2*y1*y2)⁻¹

theorem inv_cut (n d : F) (h : d ≠ 0) : n * d⁻¹ * d = n := by
  have e : d * d⁻¹ = 1 := Lean.Grind.Field.mul_inv_cancel h
  have e2 : n * d⁻¹ * d = n * (d * d⁻¹) := by clear e h; grind
  rw [e2, e]; clear e e2 h; grind
theorem sum_is {D x1 y1 x2 y2 : F} (g : Good D) (h1 : On D x1 y1) (h2 : On D x2 y2) : Sum D x1 y1 x2 y2 (sx D x1 y1 x2 y2) (sy D x1 y1 x2 y2) :=
  ⟨inv_cut _ _ (den_p g h1 h2), inv_cut _ _ (den_m g h1 h2)⟩

def add {D : F} (g : Good D) (P Q : Pt D) : Pt D := ⟨sx D P.x P.y Q.x Q.y, sy D P.x P.y Q.x Q.y, on_sum g P.on Q.on (sum_is g P.on Q.on)⟩
def zero (D : F) : Pt D := ⟨0, 1, by unfold On; grind⟩
def neg {D : F} (P : Pt D) : Pt D := ⟨-P.x, P.y, by have := P.on; unfold On at *; grind⟩

theorem add_sum {D : F} (g : Good D) (P Q : Pt D) : Sum D P.x P.y Q.x Q.y (add g P Q).x (add g P Q).y := sum_is g P.on Q.on

theorem add_assoc {D : F} (g : Good D) (P Q R : Pt D) : add g (add g P Q) R = add g P (add g Q R) := by
  have s1 := add_sum g P Q
  have s2 := add_sum g Q R
  have s3 := add_sum g (add g P Q) R
  have s4 := add_sum g P (add g Q R)
  exact Pt.ext (assoc_xx g P.on Q.on R.on s1 s2 s3.ex s4.ex) (assoc_yy g P.on Q.on R.on s1 s2 s3.ey s4.ey)

theorem add_comm {D : F} (g : Good D) (P Q : Pt D) : add g P Q = add g Q P := by
  apply Pt.ext
  · show sx D P.x P.y Q.x Q.y = sx D Q.x Q.y P.x P.y
    unfold sx
    have e1 : P.x * Q.y + P.y * Q.x = Q.x * P.y + Q.y * P.x := by grind
    have e2 : 1 + D*P.x*Q.x*P.y*Q.y = 1 + D*Q.x*P.x*Q.y*P.y := by grind
    rw [e1, e2]
  · show sy D P.x P.y Q.x Q.y = sy D Q.x Q.y P.x P.y
    unfold sy
    have e1 : P.y * Q.y - P.x * Q.x = Q.y * P.y - Q.x * P.x := by grind
    have e2 : 1 - D*P.x*Q.x*P.y*Q.y = 1 - D*Q.x*P.x*Q.y*P.y := by grind
    rw [e1, e2]

theorem eq_of_sum {D x1 y1 x2 y2 x y x' y' : F} (g : Good D) (h1 : On D x1 y1) (h2 : On D x2 y2) (s : Sum D x1 y1 x2 y2 x y) (s' : Sum D x1 y1 x2 y2 x' y') : x = x' ∧ y = y' :=
  ⟨cancel (den_p g h1 h2) (s.ex.trans s'.ex.symm), cancel (den_m g h1 h2) (s.ey.trans s'.ey.symm)⟩

theorem zero_add {D : F} (g : Good D) (P : Pt D) : add g (zero D) P = P := by
  obtain ⟨a, b⟩ := eq_of_sum g (zero D).on P.on (add_sum g (zero D) P) (x' := P.x) (y' := P.y) ⟨by show P.x * (1 + D*0*P.x*1*P.y) = 0*P.y + 1*P.x; grind, by show P.y * (1 - D*0*P.x*1*P.y) = 1*P.y - 0*P.x; grind⟩
  exact Pt.ext a b

theorem neg_add {D : F} (g : Good D) (P : Pt D) : add g (neg P) P = zero D := by
  have hP := P.on
  obtain ⟨a, b⟩ := eq_of_sum g (neg P).on P.on (add_sum g (neg P) P) (x' := 0) (y' := 1) ⟨by show 0 * (1 + D*(-P.x)*P.x*P.y*P.y) = (-P.x)*P.y + P.y*P.x; grind, by show 1 * (1 - D*(-P.x)*P.x*P.y*P.y) = P.y*P.y - (-P.x)*P.x; unfold On at hP; grind⟩
  exact Pt.ext a b
end Ed
end Go.Proofs.YtcmncdaojmkfgaaGreatDoor

namespace Go.Proofs.YtcmncdaojmkfgaaGreatDoor
set_option linter.unusedVariables false

def nrN : Nat := 121665 * 121666
theorem nr_pow : nrN ^ ((PP - 1) / 2) % PP = PP - 1 := by
  rw [← Pr.powMod_eq PP 400, PP_eq]
  decide +kernel
theorem nonres (t : Fin PP) : t * t ≠ fi nrN := by
  intro h
  have h1 : t.val * t.val % PP = nrN % PP := by
    have := congrArg Fin.val h
    rw [Fin.val_mul] at this
    exact this
  have h2 : (t.val * t.val) ^ ((PP - 1) / 2) % PP = PP - 1 := by
    rw [Nat.pow_mod, h1, ← Nat.pow_mod, nr_pow]
  have e : t.val * t.val = t.val ^ 2 := by rw [Nat.pow_two]
  have hodd : 2 * ((PP - 1) / 2) = PP - 1 := by rw [PP_eq]
  rw [e, ← Nat.pow_mul, hodd] at h2
  have hp : 2 < PP := by rw [PP_eq]; omega
  by_cases h0 : PP ∣ t.val
  · have hz : t.val = 0 := Nat.eq_zero_of_dvd_of_lt h0 t.isLt
    rw [hz, Nat.zero_pow (by omega), Nat.zero_mod] at h2
    omega
  · rw [Pr.fermat prP _ h0] at h2
    omega
def ddP : Fin PP := fi 121665 * invP (fi 121666)
def dwP : Fin PP := fi 121666 * invP (fi 121665)
theorem fi_ne {n : Nat} (h : n % PP ≠ 0) : fi n ≠ 0 := fun e => h (by
  have := congrArg Fin.val e
  rw [fi_val] at this
  exact this)
theorem low_mod {n : Nat} (h0 : n ≠ 0) (h : n < 1000000) : n % PP ≠ 0 := by
  rw [Nat.mod_eq_of_lt (by rw [PP_eq]; omega)]
  exact h0
theorem two_ne : (2 : Fin PP) ≠ 0 := by
  have e : (2 : Fin PP) = fi 2 := rfl
  rw [e]
  exact fi_ne (low_mod (by omega) (by omega))
theorem fi_nmul2 (x y : Nat) : fi (x * y) = fi x * fi y := by
  apply Fin.ext
  rw [Fin.val_mul, fi_val, fi_val, fi_val, ← Nat.mul_mod]
theorem frac_nonsq {a b : Nat} (ha : fi a ≠ 0) (hb : fi b ≠ 0) (hab : a * b = nrN) (t : Fin PP) : t * t ≠ fi a * invP (fi b) := by
  intro h
  have hi := mul_invP _ hb
  apply nonres (t * fi b)
  rw [← hab, fi_nmul2]
  generalize fi a = A at *
  generalize fi b = B at *
  generalize invP B = J at *
  have e1 : t * B * (t * B) = t * t * (B * B) := by clear h hi; grind
  have e2 : A * J * (B * B) = A * B * (B * J) := by clear h hi e1; grind
  rw [e1, h, e2, hi]
  clear h hi e1 e2
  grind
theorem goodD : Ed.Good ddP := ⟨frac_nonsq (fi_ne (low_mod (by omega) (by omega))) (fi_ne (low_mod (by omega) (by omega))) rfl, two_ne⟩
theorem goodW : Ed.Good dwP := ⟨frac_nonsq (fi_ne (low_mod (by omega) (by omega))) (fi_ne (low_mod (by omega) (by omega))) (Nat.mul_comm _ _), two_ne⟩
end Go.Proofs.YtcmncdaojmkfgaaGreatDoor

namespace Go.Proofs.YtcmncdaojmkfgaaGreatDoor
set_option linter.unusedVariables false
namespace Ed
variable {F : Type} [Lean.Grind.Field F]

/-- A pair that stands for a point of height y. -/
def Rep (y X Z : F) : Prop := ∃ s : F, s ≠ 0 ∧ X = s * (1 + y) ∧ Z = s * (1 - y)

theorem w_ne {D y : F} (g : Good D) : 1 - D*y*y ≠ 0 := by
  intro e
  by_cases hy : y = 0
  · rw [hy] at e
    have h1 : (0 : F) ≠ 1 := Lean.Grind.Field.zero_ne_one
    apply h1; clear g; grind
  · apply g.nonsq y⁻¹
    have hi : y * y⁻¹ = 1 := Lean.Grind.Field.mul_inv_cancel hy
    generalize y⁻¹ = j at *
    have e1 : D * (y * j) * (y * j) = j * j := by clear g hi hy; grind
    rw [hi] at e1
    rw [← e1]; clear e1 e g hi hy; grind
theorem dbl_y {D x y y' : F} (h : On D x y) (hy : y' * (1 - D*x*x*y*y) = y*y - x*x) :
    (1 + y') * ((1 - D*x*x*y*y) * (1 - D*y*y)) = 2*(1 - D)*(y*y) ∧ (1 - y') * ((1 - D*x*x*y*y) * (1 - D*y*y)) = 2*(1 - y*y)*(1 - D*y*y) := by
  unfold On at h
  have hx : x*x*(1 - D*y*y) = 1 - y*y := by clear hy; grind
  constructor
  · have e : (1 + y') * ((1 - D*x*x*y*y) * (1 - D*y*y)) = (1 - D*x*x*y*y + y' * (1 - D*x*x*y*y)) * (1 - D*y*y) := by clear h hy hx; grind
    rw [e, hy]; clear e hy; grind
  · have e : (1 - y') * ((1 - D*x*x*y*y) * (1 - D*y*y)) = (1 - D*x*x*y*y - y' * (1 - D*x*x*y*y)) * (1 - D*y*y) := by clear h hy hx; grind
    rw [e, hy]; clear e hy; grind
def rX (x z : F) : F := (x + z) * (x + z) * ((x - z) * (x - z))
def rE (x z : F) : F := (x + z) * (x + z) - (x - z) * (x - z)
def rZ (c x z : F) : F := rE x z * ((x + z) * (x + z) + c * rE x z)
theorem rep_dbl {D c x y y' X Z : F} (g : Good D) (hc : D * (c + 1) = c) (hc1 : c + 1 ≠ 0) (h : On D x y) (hy : y' * (1 - D*x*x*y*y) = y*y - x*x) (hr : Rep y X Z) : Rep y' (rX X Z) (rZ c X Z) := by
  obtain ⟨s, hs, rfl, rfl⟩ := hr
  have hM := den_m g h h
  have hW := w_ne (y := y) g
  obtain ⟨a, b⟩ := dbl_y h hy
  have h2 := g.two
  clear g hy h
  generalize 1 - D*x*x*y*y = M at *
  have hn : 2*2*2*(s*s*(s*s))*((c+1)*(M*(1 - D*y*y))) ≠ 0 := mul_ne (mul_ne (mul_ne (mul_ne h2 h2) h2) (mul_ne (mul_ne hs hs) (mul_ne hs hs))) (mul_ne hc1 (mul_ne hM hW))
  refine ⟨_, hn, ?_, ?_⟩
  · have e : 2*2*2*(s*s*(s*s))*((c+1)*(M*(1 - D*y*y))) * (1 + y') = 2*2*2*(s*s*(s*s))*((c+1)*((1 + y')*(M*(1 - D*y*y)))) := by clear a b hc hc1 hM hW h2 hn hs; grind
    rw [e, a]; unfold rX; clear a b e hn hM hW hs h2; grind
  · have e : 2*2*2*(s*s*(s*s))*((c+1)*(M*(1 - D*y*y))) * (1 - y') = 2*2*2*(s*s*(s*s))*((c+1)*((1 - y')*(M*(1 - D*y*y)))) := by clear a b hc hc1 hM hW h2 hn hs; grind
    rw [e, b]; unfold rZ rE; clear a b e hn hM hW hs h2; grind
theorem add_core {D y1 y2 k W : F} (hk : k*k*((1 - D*y1*y1)*(1 - D*y2*y2)) = (1 - y1*y1)*(1 - y2*y2)) :
    ((1 + y1*y2)*(1 + y1*y2) - k*k*((1 + D*(y1*y2))*(1 + D*(y1*y2)))) * ((1 - D*y1*y1)*(1 - D*y2*y2)) = (y1+y2)*(y1+y2)*((1 - D)*(1 - D*(y1*y2*(y1*y2)))) ∧
    ((1 - y1*y2)*(1 - y1*y2) - k*k*((1 - D*(y1*y2))*(1 - D*(y1*y2)))) * ((1 - D*y1*y1)*(1 - D*y2*y2)) = (y1-y2)*(y1-y2)*((1 - D)*(1 - D*(y1*y2*(y1*y2)))) := by
  constructor
  · have e : ((1 + y1*y2)*(1 + y1*y2) - k*k*((1 + D*(y1*y2))*(1 + D*(y1*y2)))) * ((1 - D*y1*y1)*(1 - D*y2*y2)) = (1 + y1*y2)*(1 + y1*y2)*((1 - D*y1*y1)*(1 - D*y2*y2)) - (k*k*((1 - D*y1*y1)*(1 - D*y2*y2)))*((1 + D*(y1*y2))*(1 + D*(y1*y2))) := by clear hk; grind
    rw [e, hk]; clear e hk; grind
  · have e : ((1 - y1*y2)*(1 - y1*y2) - k*k*((1 - D*(y1*y2))*(1 - D*(y1*y2)))) * ((1 - D*y1*y1)*(1 - D*y2*y2)) = (1 - y1*y2)*(1 - y1*y2)*((1 - D*y1*y1)*(1 - D*y2*y2)) - (k*k*((1 - D*y1*y1)*(1 - D*y2*y2)))*((1 - D*(y1*y2))*(1 - D*(y1*y2))) := by clear hk; grind
    rw [e, hk]; clear e hk; grind
theorem add_y {D x1 y1 x2 y2 y3 yb : F} (h1 : On D x1 y1) (h2 : On D x2 y2) (h3 : y3 * (1 - D*x1*x2*y1*y2) = y1*y2 - x1*x2) (hb : yb * (1 + D*x1*x2*y1*y2) = y1*y2 + x1*x2) :
    (1 + y3)*(1 + yb)*((1 - D*x1*x2*y1*y2)*(1 + D*x1*x2*y1*y2)*((1 - D*y1*y1)*(1 - D*y2*y2))) = (y1+y2)*(y1+y2)*((1 - D)*(1 - D*(y1*y2*(y1*y2)))) ∧
    (1 - y3)*(1 - yb)*((1 - D*x1*x2*y1*y2)*(1 + D*x1*x2*y1*y2)*((1 - D*y1*y1)*(1 - D*y2*y2))) = (y1-y2)*(y1-y2)*((1 - D)*(1 - D*(y1*y2*(y1*y2)))) := by
  unfold On at h1 h2
  have hx1 : x1*x1*(1 - D*y1*y1) = 1 - y1*y1 := by clear h2 h3 hb; grind
  have hx2 : x2*x2*(1 - D*y2*y2) = 1 - y2*y2 := by clear h1 h3 hb hx1; grind
  have hk : (x1*x2)*(x1*x2)*((1 - D*y1*y1)*(1 - D*y2*y2)) = (1 - y1*y1)*(1 - y2*y2) := by
    have e : (x1*x2)*(x1*x2)*((1 - D*y1*y1)*(1 - D*y2*y2)) = (x1*x1*(1 - D*y1*y1)) * (x2*x2*(1 - D*y2*y2)) := by clear h1 h2 h3 hb hx1 hx2; grind
    rw [e, hx1, hx2]
  obtain ⟨a, b⟩ := add_core (W := (0 : F)) hk
  clear h1 h2 hx1 hx2 hk
  have q3 : D*x1*x2*y1*y2 = D*(y1*y2)*(x1*x2) := by clear h3 hb a b; grind
  rw [q3] at h3 hb ⊢
  clear q3
  generalize (1 - D*y1*y1)*(1 - D*y2*y2) = W at *
  generalize (1 - D)*(1 - D*(y1*y2*(y1*y2))) = G at *
  generalize x1*x2 = k at *
  constructor
  · rw [← a]
    have e : (1 + y3)*(1 + yb)*((1 - D*(y1*y2)*k)*(1 + D*(y1*y2)*k)*W) = ((1 - D*(y1*y2)*k) + y3*(1 - D*(y1*y2)*k)) * ((1 + D*(y1*y2)*k) + yb*(1 + D*(y1*y2)*k)) * W := by clear a b h3 hb; grind
    rw [e, h3, hb]; clear a b e h3 hb; grind
  · rw [← b]
    have e : (1 - y3)*(1 - yb)*((1 - D*(y1*y2)*k)*(1 + D*(y1*y2)*k)*W) = ((1 - D*(y1*y2)*k) - y3*(1 - D*(y1*y2)*k)) * ((1 + D*(y1*y2)*k) - yb*(1 + D*(y1*y2)*k)) * W := by clear a b h3 hb; grind
    rw [e, h3, hb]; clear a b e h3 hb; grind
def rDA (x2 z2 x3 z3 : F) : F := (x3 - z3) * (x2 + z2)
def rCB (x2 z2 x3 z3 : F) : F := (x3 + z3) * (x2 - z2)
def rX3 (x2 z2 x3 z3 : F) : F := (rDA x2 z2 x3 z3 + rCB x2 z2 x3 z3) * (rDA x2 z2 x3 z3 + rCB x2 z2 x3 z3)
def rZ3 (u x2 z2 x3 z3 : F) : F := u * ((rDA x2 z2 x3 z3 - rCB x2 z2 x3 z3) * (rDA x2 z2 x3 z3 - rCB x2 z2 x3 z3))
theorem rep_add {D x1 y1 x2 y2 y3 yb u X Z X' Z' : F} (g : Good D) (h1 : On D x1 y1) (h2 : On D x2 y2) (h3 : y3 * (1 - D*x1*x2*y1*y2) = y1*y2 - x1*x2) (hb : yb * (1 + D*x1*x2*y1*y2) = y1*y2 + x1*x2)
    (hu : u * (1 - yb) = 1 + yb) (hb1 : 1 + yb ≠ 0) (hD1 : 1 - D ≠ 0) (hr : Rep y1 X Z) (hr' : Rep y2 X' Z') : Rep y3 (rX3 X Z X' Z') (rZ3 u X Z X' Z') := by
  obtain ⟨s, hs, rfl, rfl⟩ := hr
  obtain ⟨t, ht, rfl, rfl⟩ := hr'
  obtain ⟨a, b⟩ := add_y h1 h2 h3 hb
  have hG : (1 - D)*(1 - D*(y1*y2*(y1*y2))) ≠ 0 := by
    refine mul_ne hD1 ?_
    have := w_ne (y := y1*y2) g
    have e : 1 - D*(y1*y2)*(y1*y2) = 1 - D*(y1*y2*(y1*y2)) := by clear this a b h1 h2 h3 hb hu g; grind
    rwa [e] at this
  have hK : (1 - D*x1*x2*y1*y2)*(1 + D*x1*x2*y1*y2)*((1 - D*y1*y1)*(1 - D*y2*y2)) ≠ 0 := mul_ne (mul_ne (den_m g h1 h2) (den_p g h1 h2)) (mul_ne (w_ne g) (w_ne g))
  have h4 := g.two
  clear h1 h2 h3 hb g hD1
  generalize (1 - D*x1*x2*y1*y2)*(1 + D*x1*x2*y1*y2)*((1 - D*y1*y1)*(1 - D*y2*y2)) = K at *
  generalize (1 - D)*(1 - D*(y1*y2*(y1*y2))) = G at *
  have hi : G * G⁻¹ = 1 := Lean.Grind.Field.mul_inv_cancel hG
  have hGi : G⁻¹ ≠ 0 := by
    intro e
    rw [e] at hi
    have h1 : (0 : F) ≠ 1 := Lean.Grind.Field.zero_ne_one
    apply h1; clear a b hu h4 hK hG; grind
  generalize G⁻¹ = J at *
  have hn : 2*2*(2*2)*(s*s*(t*t))*((1+yb)*(K*J)) ≠ 0 := mul_ne (mul_ne (mul_ne (mul_ne h4 h4) (mul_ne h4 h4)) (mul_ne (mul_ne hs hs) (mul_ne ht ht))) (mul_ne hb1 (mul_ne hK hGi))
  refine ⟨_, hn, ?_, ?_⟩
  · have e : 2*2*(2*2)*(s*s*(t*t))*((1+yb)*(K*J)) * (1 + y3) = 2*2*(2*2)*(s*s*(t*t))*(((1 + y3)*(1+yb)*K)*J) := by clear a b hi hn hG hK hGi hu h4 hs ht hb1; grind
    rw [e, a]
    have e2 : (y1+y2)*(y1+y2)*G*J = (y1+y2)*(y1+y2)*(G*J) := by clear a b hi hn hG hK hGi hu h4 hs ht hb1 e; grind
    rw [e2, hi]; unfold rX3 rDA rCB; clear a b e e2 hi hn hG hK hGi hu h4 hs ht hb1; grind
  · have e : 2*2*(2*2)*(s*s*(t*t))*((1+yb)*(K*J)) * (1 - y3) = 2*2*(2*2)*(s*s*(t*t))*(u*((1 - y3)*(1-yb)*K)*J) := by rw [← hu]; clear a b hi hn hG hK hGi hu h4 hs ht hb1; grind
    rw [e, b]
    have e2 : u*((y1-y2)*(y1-y2)*G)*J = u*((y1-y2)*(y1-y2))*(G*J) := by clear a b hi hn hG hK hGi hu h4 hs ht hb1 e; grind
    rw [e2, hi]; unfold rZ3 rDA rCB; clear a b e e2 hi hn hG hK hGi hu h4 hs ht hb1; grind
end Ed
end Go.Proofs.YtcmncdaojmkfgaaGreatDoor

namespace Go.Proofs.YtcmncdaojmkfgaaGreatDoor
set_option linter.unusedVariables false
namespace Ed
variable {F : Type} [Lean.Grind.Field F]

def nm {D : F} (g : Good D) : Nat → Pt D → Pt D
  | 0, _ => zero D
  | n + 1, P => add g (nm g n P) P
theorem nm_one {D : F} (g : Good D) (P : Pt D) : nm g 1 P = P := zero_add g P
theorem add_zero {D : F} (g : Good D) (P : Pt D) : add g P (zero D) = P := by rw [add_comm, zero_add]
theorem nm_add {D : F} (g : Good D) (a b : Nat) (P : Pt D) : nm g (a + b) P = add g (nm g a P) (nm g b P) := by
  induction b with
  | zero => exact (add_zero g _).symm
  | succ b ih =>
    show add g (nm g (a + b) P) P = add g (nm g a P) (add g (nm g b P) P)
    rw [ih, add_assoc]
theorem nm_mul {D : F} (g : Good D) (a b : Nat) (P : Pt D) : nm g (a * b) P = nm g a (nm g b P) := by
  induction a with
  | zero => rw [Nat.zero_mul]; rfl
  | succ a ih =>
    rw [Nat.succ_mul, nm_add, ih]
    rfl
theorem nm_comm {D : F} (g : Good D) (a b : Nat) (P : Pt D) : nm g a (nm g b P) = nm g b (nm g a P) := by
  rw [← nm_mul, ← nm_mul, Nat.mul_comm]
theorem nm_dbl {D : F} (g : Good D) (n : Nat) (P : Pt D) : nm g (2 * n) P = add g (nm g n P) (nm g n P) := by
  rw [Nat.two_mul, nm_add]
theorem add_cancel {D : F} (g : Good D) {P Q R : Pt D} (h : add g P Q = R) : add g (neg P) R = Q := by
  rw [← h, ← add_assoc, neg_add, zero_add]

/-- Doubling: heights. -/
theorem rep_two {D c X Z : F} (g : Good D) (hc : D * (c + 1) = c) (hc1 : c + 1 ≠ 0) (P : Pt D) (hr : Rep P.y X Z) : Rep (add g P P).y (rX X Z) (rZ c X Z) :=
  rep_dbl g hc hc1 P.on (by
    have h := (add_sum g P P).ey
    exact h) hr
/-- Adding what lies P apart: heights. -/
theorem rep_sum {D u X Z X' Z' : F} (g : Good D) {P Q B : Pt D} (hB : add g Q B = P ∨ add g P B = Q) (hu : u * (1 - B.y) = 1 + B.y) (hb1 : 1 + B.y ≠ 0) (hD1 : 1 - D ≠ 0) (hr : Rep P.y X Z) (hr' : Rep Q.y X' Z') :
    Rep (add g P Q).y (rX3 X Z X' Z') (rZ3 u X Z X' Z') := by
  refine rep_add g P.on Q.on (add_sum g P Q).ey ?_ hu hb1 hD1 hr hr'
  rcases hB with hB | hB
  · have h := (add_sum g (neg Q) P).ey
    rw [add_cancel g hB] at h
    have e1 : (neg Q).x = - Q.x := rfl
    have e2 : (neg Q).y = Q.y := rfl
    rw [e1, e2] at h
    have e3 : 1 - D * -Q.x * P.x * Q.y * P.y = 1 + D*P.x*Q.x*P.y*Q.y := by clear h hu hb1 hD1 hr hr'; grind
    have e4 : Q.y * P.y - -Q.x * P.x = P.y * Q.y + P.x * Q.x := by clear h hu hb1 hD1 hr hr' e3; grind
    rw [e3, e4] at h
    exact h
  · have h := (add_sum g (neg P) Q).ey
    rw [add_cancel g hB] at h
    have e1 : (neg P).x = - P.x := rfl
    have e2 : (neg P).y = P.y := rfl
    rw [e1, e2] at h
    have e3 : 1 - D * -P.x * Q.x * P.y * Q.y = 1 + D*P.x*Q.x*P.y*Q.y := by clear h hu hb1 hD1 hr hr'; grind
    have e4 : P.y * Q.y - -P.x * Q.x = P.y * Q.y + P.x * Q.x := by clear h hu hb1 hD1 hr hr' e3; grind
    rw [e3, e4] at h
    exact h
end Ed
end Go.Proofs.YtcmncdaojmkfgaaGreatDoor

namespace Go.Proofs.YtcmncdaojmkfgaaGreatDoor
set_option linter.unusedVariables false

abbrev FP := Fin PP
structure Kit {D : FP} (g : Ed.Good D) (σ u : FP) (B : Ed.Pt D) : Prop where
  sq : σ * σ = 1
  two : ∀ (P : Ed.Pt D) (X Z : FP), Ed.Rep P.y (σ * X) Z → Ed.Rep (Ed.add g P P).y (σ * rX X Z) (rZ (fi 121665) X Z)
  sum : ∀ (P Q : Ed.Pt D) (X Z X' Z' : FP), (Ed.add g Q B = P ∨ Ed.add g P B = Q) → Ed.Rep P.y (σ * X) Z → Ed.Rep Q.y (σ * X') Z' → Ed.Rep (Ed.add g P Q).y (σ * rX3 X Z X' Z') (rZ3 u X Z X' Z')
def Pst {D : FP} (σ : FP) (P Q : Ed.Pt D) (s : Lad) : Prop := Ed.Rep P.y (σ * fi s.x2) (fi s.z2) ∧ Ed.Rep Q.y (σ * fi s.x3) (fi s.z3)
def LInv {D : FP} (g : Ed.Good D) (σ : FP) (B : Ed.Pt D) (s : Lad) (N : Nat) : Prop :=
  (s.sw = 0 ∧ Pst σ (Ed.nm g N B) (Ed.nm g (N + 1) B) s) ∨ (s.sw = 1 ∧ Pst σ (Ed.nm g (N + 1) B) (Ed.nm g N B) s)
theorem step_pst {D : FP} {g : Ed.Good D} {σ u : FP} {B : Ed.Pt D} (K : Kit g σ u B) {x : Nat} (hx : fi x = u) {P Q : Ed.Pt D} (hB : Ed.add g Q B = P ∨ Ed.add g P B = Q) {s : Lad} (h : Pst σ P Q s) : Pst σ (Ed.add g P P) (Ed.add g P Q) (s.step x) := by
  refine ⟨?_, ?_⟩
  · show Ed.Rep _ (σ * fi (ladX2 s.x2 s.z2)) (fi (ladZ2 s.x2 s.z2))
    rw [fi_X2, fi_Z2]
    exact K.two P _ _ h.1
  · show Ed.Rep _ (σ * fi (ladX3 s.x2 s.z2 s.x3 s.z3)) (fi (ladZ3 x s.x2 s.z2 s.x3 s.z3))
    rw [fi_X3, fi_Z3, hx]
    exact K.sum P Q _ _ _ _ hB h.1 h.2
theorem turn_inv {D : FP} {g : Ed.Good D} {σ : FP} {B : Ed.Pt D} {s : Lad} {N b : Nat} (hb : b < 2) (h : LInv g σ B s N) : LInv g σ B (s.turn b) N ∧ (s.turn b).sw = b := by
  refine ⟨?_, turn_sw s b⟩
  unfold Lad.turn
  split
  · exact h
  · rename_i hne
    rcases h with ⟨e, h1, h2⟩ | ⟨e, h1, h2⟩
    · exact Or.inr ⟨by show b = 1; omega, h2, h1⟩
    · exact Or.inl ⟨by show b = 0; omega, h2, h1⟩
theorem round_inv {D : FP} {g : Ed.Good D} {σ u : FP} {B : Ed.Pt D} (K : Kit g σ u B) {x : Nat} (hx : fi x = u) {s : Lad} {N b : Nat} (hb : b < 2) (h : LInv g σ B s N) : LInv g σ B ((s.turn b).step x) (2 * N + b) := by
  obtain ⟨hi, hs⟩ := turn_inv hb h
  generalize s.turn b = t at *
  have a1 : Ed.add g (Ed.nm g N B) B = Ed.nm g (N + 1) B := rfl
  have a2 : Ed.nm g (2 * N + 1) B = Ed.add g (Ed.nm g N B) (Ed.nm g (N + 1) B) := by rw [← Ed.nm_add]; congr 1; omega
  have a3 : Ed.nm g (2 * N + 2) B = Ed.add g (Ed.nm g (N + 1) B) (Ed.nm g (N + 1) B) := by rw [← Ed.nm_add]; congr 1; omega
  rcases hi with ⟨e, hp⟩ | ⟨e, hp⟩
  · have hb0 : b = 0 := by omega
    subst hb0
    refine Or.inl ⟨e, ?_⟩
    have q := step_pst K hx (Or.inr a1) hp
    rw [← Ed.nm_dbl, ← a2] at q
    exact q
  · have hb1 : b = 1 := by omega
    subst hb1
    refine Or.inr ⟨e, ?_⟩
    have q := step_pst K hx (Or.inl a1) hp
    rw [Ed.add_comm g (Ed.nm g (N + 1) B) (Ed.nm g N B), ← a2, ← a3] at q
    exact q
theorem ladS_inv {D : FP} {g : Ed.Good D} {σ u : FP} {B : Ed.Pt D} (K : Kit g σ u B) {x : Nat} (hx : fi x = u) (hB : Ed.Rep B.y (σ * u) 1) (h0 : Ed.Rep (1 : FP) σ 0) (k : Nat) (hk : k < 2 ^ 255) : ∀ i, i ≤ 255 → LInv g σ B (ladS k x i) (k / 2 ^ (255 - i))
  | 0, _ => by
    rw [Nat.sub_zero, Nat.div_eq_of_lt hk]
    refine Or.inl ⟨rfl, ?_, ?_⟩
    · show Ed.Rep (1 : FP) (σ * fi 1) (fi 0)
      have e1 : fi 1 = 1 := rfl
      have e0 : fi 0 = 0 := rfl
      have e : σ * (1 : FP) = σ := by grind
      rw [e1, e0, e]
      exact h0
    · show Ed.Rep (Ed.nm g 1 B).y (σ * fi x) (fi 1)
      rw [Ed.nm_one, hx]
      exact hB
  | i + 1, hi => by
    have ih := ladS_inv K hx hB h0 k hk i (by omega)
    have e : k / 2 ^ (255 - (i + 1)) = 2 * (k / 2 ^ (255 - i)) + k / 2 ^ (254 - i) % 2 := by
      have e1 : 255 - i = (254 - i) + 1 := by omega
      have e2 : 255 - (i + 1) = 254 - i := by omega
      rw [e1, e2, Nat.pow_succ, ← Nat.div_div_eq_div_mul]
      omega
    rw [e]
    exact round_inv K hx (Nat.mod_lt _ (by omega)) ih

def hgt (y : FP) : FP := (1 + y) * invP (1 - y)
theorem fi_pow (z : Nat) : ∀ n, fi (z ^ n) = fi z ^ n
  | 0 => by rw [Lean.Grind.Semiring.pow_zero]; rfl
  | n + 1 => by rw [Nat.pow_succ, fi_nmul2, fi_pow z n, Lean.Grind.Semiring.pow_succ]
theorem invP_mul {a b : FP} (ha : a ≠ 0) : invP (a * b) * a = invP b := by
  by_cases hb : b = 0
  · have e : a * b = 0 := by rw [hb]; grind
    rw [e, hb, invP_zero]; grind
  · have h1 := mul_invP _ (Ed.mul_ne ha hb)
    have h2 := mul_invP _ hb
    generalize invP (a * b) = I at *
    generalize invP b = J at *
    have e : I * a = (a * b * I) * J + I * a * (1 - b * J) := by clear h1 h2; grind
    rw [e, h1, h2]; clear h1 h2 e; grind
theorem rep_out {σ y : FP} (hq : σ * σ = 1) {X Z : Nat} (h : Ed.Rep y (σ * fi X) (fi Z)) : fi (mulP X (Z ^ (PP - 2))) = σ * hgt y := by
  obtain ⟨s, hs, h1, h2⟩ := h
  rw [fi_mul, fi_pow]
  show fi X * invP (fi Z) = σ * hgt y
  unfold hgt
  rw [h2]
  have e := invP_mul (b := 1 - y) hs
  generalize fi X = x at *
  generalize invP (s * (1 - y)) = I at *
  rw [← e]
  have e1 : x = σ * (σ * x) := by
    have e2 : σ * (σ * x) = σ * σ * x := by clear e h1 h2 hq; grind
    rw [e2, hq]; clear e e2 h1 h2 hq; grind
  rw [e1, h1]; clear e e1 h1 h2 hq; grind
theorem ladN_pt {D : FP} {g : Ed.Good D} {σ u : FP} {B : Ed.Pt D} (K : Kit g σ u B) {x : Nat} (hx : fi x = u) (hB : Ed.Rep B.y (σ * u) 1) (h0 : Ed.Rep (1 : FP) σ 0) (k : Nat) (hk : k < 2 ^ 255) : fi (ladN k x) = σ * hgt (Ed.nm g k B).y := by
  have h := ladS_inv K hx hB h0 k hk 255 (Nat.le_refl _)
  rw [Nat.sub_self, Nat.pow_zero, Nat.div_one] at h
  unfold ladN ladOut
  rcases h with ⟨e, h1, h2⟩ | ⟨e, h1, h2⟩
  · rw [if_neg (by omega)]
    exact rep_out K.sq h1
  · rw [if_pos e]
    exact rep_out K.sq h2
end Go.Proofs.YtcmncdaojmkfgaaGreatDoor

namespace Go.Proofs.YtcmncdaojmkfgaaGreatDoor
set_option linter.unusedVariables false

theorem rX_ed (x z : FP) : Ed.rX x z = rX x z := rfl
theorem rZ_ed (c x z : FP) : Ed.rZ c x z = rZ c x z := rfl
theorem rX3_ed (a b c d : FP) : Ed.rX3 a b c d = rX3 a b c d := rfl
theorem rZ3_ed (u a b c d : FP) : Ed.rZ3 u a b c d = rZ3 u a b c d := rfl
theorem fi_succ (n : Nat) : fi (n + 1) = fi n + 1 := by
  apply Fin.ext
  rw [Fin.val_add, fi_val, fi_val]
  show (n + 1) % PP = (n % PP + 1 % PP) % PP
  rw [← Nat.add_mod]
theorem frac_eq {a b : FP} (hb : b ≠ 0) : a * invP b * b = a := by
  have h := mul_invP b hb
  generalize invP b = J at *
  have e : a * J * b = a * (b * J) := by clear h; grind
  rw [e, h]; clear e h; grind
theorem n65 : fi 121665 ≠ 0 := fi_ne (low_mod (by omega) (by omega))
theorem n66 : fi 121666 ≠ 0 := fi_ne (low_mod (by omega) (by omega))
theorem one_sub {a b : FP} (hb : b ≠ 0) (hne : a ≠ b) : 1 - a * invP b ≠ 0 := by
  intro e
  apply hne
  have h := frac_eq (a := a) hb
  generalize a * invP b = q at *
  rw [← h]
  clear h
  grind
theorem ne65 : fi 121665 ≠ fi 121666 := by
  intro e
  have := fi_eq.1 e
  rw [Nat.mod_eq_of_lt (by rw [PP_eq]; omega), Nat.mod_eq_of_lt (by rw [PP_eq]; omega)] at this
  omega
theorem hcD : ddP * (fi 121665 + 1) = fi 121665 := by
  rw [← fi_succ]
  exact frac_eq n66
theorem hcW : dwP * (-(fi 121665) - 1 + 1) = -(fi 121665) - 1 := by
  have e : dwP * fi 121665 = fi 121666 := frac_eq n65
  have e2 : fi 121666 = fi 121665 + 1 := fi_succ 121665
  rw [e2] at e
  generalize fi 121665 = c at *
  generalize dwP = D at *
  clear e2
  grind
theorem kit1 {u : FP} {B : Ed.Pt ddP} (hu : u * (1 - B.y) = 1 + B.y) (hb1 : 1 + B.y ≠ 0) : Kit goodD 1 u B := by
  have o : ∀ a : FP, 1 * a = a := fun a => by grind
  refine ⟨by grind, fun P X Z h => ?_, fun P Q X Z X' Z' hB h h' => ?_⟩
  · rw [o] at h ⊢
    exact Ed.rep_two goodD hcD (by rw [← fi_succ]; exact n66) P h
  · rw [o] at h h' ⊢
    exact Ed.rep_sum goodD hB hu hb1 (one_sub n66 ne65) h h'
theorem rep_neg {y X Z : FP} (h : Ed.Rep y X (-1 * Z)) : Ed.Rep y (-1 * X) Z := by
  obtain ⟨s, hs, h1, h2⟩ := h
  refine ⟨-1 * s, ?_, ?_, ?_⟩
  · intro e
    apply hs
    have : s = -1 * (-1 * s) := by clear h1 h2 e hs; grind
    rw [this, e]; clear this e h1 h2 hs; grind
  · rw [h1]; clear h1 h2 hs; grind
  · have : Z = -1 * (-1 * Z) := by clear h1 h2 hs; grind
    rw [this, h2]; clear this h1 h2 hs; grind
theorem kit2 {u : FP} {B : Ed.Pt dwP} (hu : (-1 * u) * (1 - B.y) = 1 + B.y) (hb1 : 1 + B.y ≠ 0) : Kit goodW (-1) u B := by
  refine ⟨by grind, fun P X Z h => ?_, fun P Q X Z X' Z' hB h h' => ?_⟩
  · have h2 := Ed.rep_two goodW hcW (by
      have e : -(fi 121665) - 1 + 1 = -1 * fi 121665 := by grind
      rw [e]
      intro e2
      apply n65
      have : fi 121665 = -1 * (-1 * fi 121665) := by clear e e2; grind
      rw [this, e2]; clear this e e2; grind) P h
    have e1 : Ed.rX (-1 * X) Z = rX X Z := by unfold Ed.rX rX; clear h h2; grind
    have e2 : Ed.rZ (-(fi 121665) - 1) (-1 * X) Z = -1 * rZ (fi 121665) X Z := by unfold Ed.rZ Ed.rE rZ rE; clear h h2 e1; grind
    rw [e1, e2] at h2
    exact rep_neg h2
  · have h2 := Ed.rep_sum goodW hB hu hb1 (one_sub n65 (Ne.symm ne65)) h h'
    have e1 : Ed.rX3 (-1 * X) Z (-1 * X') Z' = rX3 X Z X' Z' := by unfold Ed.rX3 Ed.rDA Ed.rCB rX3 rDA rCB; clear h h' h2 hu hb1 hB; grind
    have e2 : Ed.rZ3 (-1 * u) (-1 * X) Z (-1 * X') Z' = -1 * rZ3 u X Z X' Z' := by unfold Ed.rZ3 Ed.rDA Ed.rCB rZ3 rDA rCB; clear h h' h2 hu hb1 hB e1; grind
    rw [e1, e2] at h2
    exact rep_neg h2
end Go.Proofs.YtcmncdaojmkfgaaGreatDoor

namespace Go.Proofs.YtcmncdaojmkfgaaGreatDoor
set_option linter.unusedVariables false

def rootI : Nat := 19681161376707505956807079304988542015446066515923890162744021073123829784752
theorem rootI_sq : fi rootI * fi rootI = -1 := by
  have e : fi (rootI * rootI + 1) = 0 := by
    apply Fin.ext
    rw [fi_val]
    show (rootI * rootI + 1) % PP = 0
    rw [PP_eq]
    decide +kernel
  rw [fi_succ, fi_nmul2] at e
  generalize fi rootI = i at *
  grind
theorem pow_sum (a : FP) (m n : Nat) : a ^ (m + n) = a ^ m * a ^ n := Lean.Grind.Semiring.pow_add a m n
theorem two_roots {c : FP} (h : c * c = 1) : c = 1 ∨ c = -1 := by
  by_cases e : c - 1 = 0
  · left; clear h; grind
  · right
    by_cases e2 : c + 1 = 0
    · clear h e; grind
    · exact absurd (show (c - 1) * (c + 1) = 0 by clear e e2; grind) (Ed.mul_ne e e2)
theorem sqrt_gen (a : FP) (m e : Nat) (he : e + e = m + 1) (h : a ^ (m + m) = 1) : ∃ r : FP, r * r = a := by
  rw [pow_sum] at h
  have hr : a ^ e * a ^ e = a ^ m * a := by rw [← pow_sum, he, Lean.Grind.Semiring.pow_succ]
  rcases two_roots h with h1 | h1
  · refine ⟨a ^ e, ?_⟩
    rw [hr, h1]; clear h h1 hr; grind
  · refine ⟨fi rootI * a ^ e, ?_⟩
    have hi := rootI_sq
    generalize a ^ e = r at *
    generalize fi rootI = i at *
    have e1 : i * r * (i * r) = i * i * (r * r) := by clear h h1 hr hi; grind
    rw [e1, hi, hr, h1]; clear h h1 hr hi e1; grind
theorem fermatP {a : FP} (h : a ≠ 0) : a ^ (PP - 1) = 1 := by
  apply Fin.ext
  rw [fin_pow_val, Pr.fermat prP a.val (fun hd => h (Fin.ext (Nat.eq_zero_of_dvd_of_lt hd a.isLt)))]
  have e1 : (1 : FP).val = 1 % PP := rfl
  rw [e1, Nat.mod_eq_of_lt (by rw [PP_eq]; omega)]
theorem pow_prod (a b : FP) : ∀ n : Nat, (a * b) ^ n = a ^ n * b ^ n
  | 0 => by rw [Lean.Grind.Semiring.pow_zero, Lean.Grind.Semiring.pow_zero, Lean.Grind.Semiring.pow_zero]; grind
  | n + 1 => by
    rw [Lean.Grind.Semiring.pow_succ, Lean.Grind.Semiring.pow_succ, Lean.Grind.Semiring.pow_succ, pow_prod a b n]
    generalize a ^ n = x
    generalize b ^ n = y
    grind
theorem nonsq_char {a : FP} (ha : a ≠ 0) (h : ∀ r : FP, r * r ≠ a) : ∀ m e : Nat, e + e = m + 1 → m + m + (m + m) = PP - 1 → a ^ (m + m) = -1 := by
  intro m e he hm
  have h1 : a ^ (m + m) * a ^ (m + m) = 1 := by rw [← pow_sum, hm]; exact fermatP ha
  rcases two_roots h1 with h2 | h2
  · obtain ⟨r, hr⟩ := sqrt_gen a m e he h2
    exact absurd hr (h r)
  · exact h2
theorem sq_or {D q : FP} (hD0 : D ≠ 0) (hD : ∀ r : FP, r * r ≠ D) (hq : q ≠ 0) (hn : ∀ r : FP, r * r ≠ q) : ∃ r : FP, r * r = D * q := by
  obtain ⟨m, hm⟩ : ∃ m, m = (PP - 1) / 4 := ⟨_, rfl⟩
  obtain ⟨e, he⟩ : ∃ e, e = (PP + 3) / 8 := ⟨_, rfl⟩
  have h1 : e + e = m + 1 := by rw [hm, he, PP_eq]
  have h2 : m + m + (m + m) = PP - 1 := by rw [hm, PP_eq]
  clear hm he
  refine sqrt_gen (D * q) m e h1 ?_
  rw [pow_prod, nonsq_char hD0 hD m e h1 h2, nonsq_char hq hn m e h1 h2]
  grind

/-- A number that a point stands behind. -/
structure At {D : FP} (g : Ed.Good D) (σ u : FP) (B : Ed.Pt D) : Prop where
  kit : Kit g σ u B
  h : σ * u * (1 - B.y) = 1 + B.y
  ne : 1 - B.y ≠ 0
  ne1 : 1 + B.y ≠ 0
  kits : ∀ (v : FP) (Q : Ed.Pt D), σ * v * (1 - Q.y) = 1 + Q.y → 1 + Q.y ≠ 0 → Kit g σ v Q
  d1 : 1 - D ≠ 0
theorem invP_ne {a : FP} (h : a ≠ 0) : invP a ≠ 0 := by
  intro e
  have h1 := mul_invP a h
  rw [e] at h1
  have e2 : a * 0 = (0 : FP) := by clear h1 h e; grind
  exact zero_ne_oneP (e2.symm.trans h1)
theorem start_B {σ u y : FP} (h : σ * u * (1 - y) = 1 + y) (hne : 1 - y ≠ 0) : Ed.Rep y (σ * u) 1 := by
  refine ⟨invP (1 - y), invP_ne hne, ?_, ?_⟩
  · have h1 := mul_invP _ hne
    generalize invP (1 - y) = J at *
    rw [← h]
    have e : J * (σ * u * (1 - y)) = (1 - y) * J * (σ * u) := by clear h h1; grind
    rw [e, h1]; clear e h h1; grind
  · have h1 := mul_invP _ hne
    generalize invP (1 - y) = J at *
    have e : J * (1 - y) = (1 - y) * J := by clear h h1; grind
    rw [e, h1]
theorem start_0 {σ : FP} (hq : σ * σ = 1) : Ed.Rep (1 : FP) σ 0 := by
  have hs : σ ≠ 0 := by
    intro e
    rw [e] at hq
    exact zero_ne_oneP (by rw [← hq]; clear hq e; grind)
  have h2 := mul_invP 2 two_ne
  refine ⟨σ * invP 2, Ed.mul_ne hs (invP_ne two_ne), ?_, ?_⟩
  · generalize invP 2 = J at *
    have e : σ * J * (1 + 1) = σ * (2 * J) := by clear h2 hs hq; grind
    rw [e, h2]; clear e h2 hs hq; grind
  · generalize invP 2 = J at *
    clear h2 hs hq; grind
theorem At.num {D : FP} {g : Ed.Good D} {σ u : FP} {B : Ed.Pt D} (a : At g σ u B) {x : Nat} (hx : fi x = u) (k : Nat) (hk : k < 2 ^ 255) : fi (ladN k x) = σ * hgt (Ed.nm g k B).y :=
  ladN_pt a.kit hx (start_B a.h a.ne) (start_0 a.kit.sq) k hk
end Go.Proofs.YtcmncdaojmkfgaaGreatDoor

namespace Go.Proofs.YtcmncdaojmkfgaaGreatDoor
set_option linter.unusedVariables false

theorem lz1 {F : Type} [Lean.Grind.CommRing F] (u : F) : u * 0 + 0 = 0 := by grind
theorem lz2 {F : Type} [Lean.Grind.CommRing F] : (1 : F) * 1 = 1 - 0 * 0 := by grind
theorem lz3 {F : Type} [Lean.Grind.CommRing F] (y : F) : -1 * y * 0 + (1 - 1) = 0 := by grind
theorem lz4 {F : Type} [Lean.Grind.CommRing F] (y : F) : y * 0 + (1 - 1) = 0 := by grind
theorem dd_ne : ddP ≠ 0 := Ed.mul_ne n65 (invP_ne n66)
theorem dw_dd : dwP * ddP = 1 := by
  have a := mul_invP _ n65
  have b := mul_invP _ n66
  unfold dwP ddP
  generalize fi 121665 = c at *
  generalize fi 121666 = d at *
  generalize invP c = i at *
  generalize invP d = j at *
  have e : d * i * (c * j) = (c * i) * (d * j) := by clear a b; grind
  rw [e, a, b]; clear e a b; grind
theorem has_pt {u : FP} (h0 : u ≠ 0) (h1 : u + 1 ≠ 0) : ∃ (D : FP) (g : Ed.Good D) (σ : FP) (B : Ed.Pt D), At g σ u B := by
  obtain ⟨y, hy⟩ : ∃ y, y * (u + 1) = u - 1 := ⟨_, frac_eq h1⟩
  have hu : u * (1 - y) = 1 + y := by clear h0 h1; grind
  have ny : 1 - y ≠ 0 := by
    intro e
    apply two_ne
    have e2 : (2 : FP) = (1 + y) + (1 - y) := by clear h0 h1 hy hu e; grind
    rw [e2, ← hu, e]; exact lz1 u
  have py : 1 + y ≠ 0 := by
    intro e
    rw [e] at hu
    exact Ed.mul_ne h0 ny hu
  have hW := Ed.w_ne (y := y) goodD
  have hdd := dd_ne
  have hdw := dw_dd
  obtain ⟨q, hq⟩ : ∃ q, q * (1 - ddP*y*y) = 1 - y*y := ⟨_, frac_eq hW⟩
  have hq0 : q ≠ 0 := by
    intro e
    rw [e] at hq
    apply Ed.mul_ne ny py
    clear hu hy h0 h1 ny py hW hdd hdw e; grind
  by_cases hs : ∃ r, r * r = q
  · obtain ⟨x, hx⟩ := hs
    have on : Ed.On ddP x y := by
      unfold Ed.On
      rw [← hx] at hq
      clear hu hy h0 h1 ny py hW hdd hdw hx hq0; grind
    exact ⟨ddP, goodD, 1, ⟨x, y, on⟩, kit1 hu py, by
      show 1 * u * (1 - y) = 1 + y
      rw [← hu]; clear hu hy h0 h1 ny py hW hdd hdw hx hq hq0; grind, ny, py, fun v Q h h' => kit1 (by rw [← h]; clear h h' hu hy h0 h1 ny py hW hdd hdw hx hq hq0; grind) h', one_sub n66 ne65⟩
  · obtain ⟨x, hx⟩ := sq_or hdd goodD.nonsq hq0 (fun r hr => hs ⟨r, hr⟩)
    have y0 : y ≠ 0 := by
      intro e
      rw [e] at hq
      apply hs
      refine ⟨1, ?_⟩
      have e1 : (1 : FP) * 1 = 1 - 0 * 0 := lz2
      rw [e1, ← hq]
      generalize ddP = D at *
      clear hu hy h0 h1 ny py hW hdd hdw hx hq0 hs e e1 hq; grind
    have hw := mul_invP y y0
    generalize invP y = w at *
    have on : Ed.On dwP x w := by
      unfold Ed.On
      generalize dwP = E at *
      generalize ddP = D at *
      have e1 : E*x*x*w*w = E*(x*x)*(w*w) := by clear hu hy h0 h1 ny py hW hdd hdw hx hq hq0 hs y0 hw; grind
      have e2 : E*(D*q) = E*D*q := by clear hu hy h0 h1 ny py hW hdd hdw hx hq hq0 hs y0 hw e1; grind
      rw [e1, hx, e2, hdw]
      have e3 : D*q = D*q*((y*w)*(y*w)) := by rw [hw]; clear hu hy h0 h1 ny py hW hdd hdw hx hq hq0 hs y0 hw e1 e2; grind
      have e4 : D*q*((y*w)*(y*w)) = (q - q*(1 - D*y*y))*(w*w) := by clear hu hy h0 h1 ny py hW hdd hdw hx hq hq0 hs y0 hw e1 e2 e3; grind
      have e5 : (q - (1 - y*y))*(w*w) = q*(w*w) - w*w + (y*w)*(y*w) := by clear hu hy h0 h1 ny py hW hdd hdw hx hq hq0 hs y0 hw e1 e2 e3 e4; grind
      rw [e3, e4, hq, e5, hw]
      clear hu hy h0 h1 ny py hW hdd hdw hx hq hq0 hs y0 hw e1 e2 e3 e4 e5; grind
    have m1 : 1 - w ≠ 0 := by
      intro e
      apply ny
      have e1 : 1 - y = -1 * y * (1 - w) + (1 - y*w) := by clear hu hy h0 h1 ny py hW hdd hdw hx hq hq0 hs y0 hw e on; grind
      rw [e1, e, hw]; exact lz3 y
    have m2 : 1 + w ≠ 0 := by
      intro e
      apply py
      have e1 : 1 + y = y * (1 + w) + (1 - y*w) := by clear hu hy h0 h1 ny py hW hdd hdw hx hq hq0 hs y0 hw e on m1; grind
      rw [e1, e, hw]; exact lz4 y
    have hu2 : (-1 * u) * (1 - w) = 1 + w := by
      have e1 : (-1 * u) * (1 - w) = u * (1 - y) * w + u * (y*w - 1) := by clear hu hy h0 h1 ny py hW hdd hdw hx hq hq0 hs y0 hw on m1 m2; grind
      have e2 : (1 + y) * w = w + y*w := by clear hu hy h0 h1 ny py hW hdd hdw hx hq hq0 hs y0 hw on m1 m2 e1; grind
      rw [e1, hu, e2, hw]; clear hu hy h0 h1 ny py hW hdd hdw hx hq hq0 hs y0 hw on m1 m2 e1 e2; grind
    exact ⟨dwP, goodW, -1, ⟨x, w, on⟩, kit2 hu2 m2, hu2, m1, m2, fun v Q h h' => kit2 h h', one_sub n65 (Ne.symm ne65)⟩
end Go.Proofs.YtcmncdaojmkfgaaGreatDoor

namespace Go.Proofs.YtcmncdaojmkfgaaGreatDoor.Pr
theorem l1 : Prime 1224481 := prime_small _ 1106 (by decide) (by decide) (by decide +kernel)
theorem l2 : Prime 531581 := prime_small _ 729 (by decide) (by decide) (by decide +kernel)
theorem l3 : Prime 1257559732178653 := pock2 _ 1224481 1027014492 2 531581 2365697292 2 l1 l2 (by decide) (by decide) (by decide) (by decide) (by decide) (by decide +kernel) (by decide +kernel) (by decide +kernel) (by decide +kernel) (by decide)
theorem l4 : Prime 4434155615661930479 := pock1 _ 1257559732178653 3526 2 l3 (by decide) (by decide) (by decide +kernel) (by decide +kernel) (by decide)
theorem l5 : Prime 172054593956031949258510691 := pock1 _ 4434155615661930479 38802110 2 l4 (by decide) (by decide) (by decide +kernel) (by decide +kernel) (by decide)
theorem l6 : Prime 19757330305831588566944191468367130476339 := pock1 _ 172054593956031949258510691 114831751082918 2 l5 (by decide) (by decide) (by decide +kernel) (by decide +kernel) (by decide)
theorem l7 : Prime 276602624281642239937218680557139826668747 := pock1 _ 19757330305831588566944191468367130476339 14 2 l6 (by decide) (by decide) (by decide +kernel) (by decide +kernel) (by decide)
theorem l8 : Prime 7237005577332262213973186563042994240857116359379907606001950938285454250989 := pock1 _ 276602624281642239937218680557139826668747 26163907866482859529727157400808004 2 l7 (by decide) (by decide) (by decide +kernel) (by decide +kernel) (by decide)
def LL : Nat := 7237005577332262213973186563042994240857116359379907606001950938285454250989
theorem primeLL : Prime LL := l8
end Go.Proofs.YtcmncdaojmkfgaaGreatDoor.Pr

namespace Go.Proofs.YtcmncdaojmkfgaaGreatDoor
open Go.RowKit
set_option linter.unusedVariables false

theorem rest_nat (n : Int) (m : Nat) (M : Int) (hM : M = (m : Int)) (hn0 : -9223372036854775808 ≤ n) (hn1 : n ≤ 9223372036854775807) (hm : 0 < m) (hm1 : m ≤ 9223372036854775807) :
    ∃ r : Nat, r < m ∧ ∀ W : World, Calls Tryz.prog 9 #[.int .i64 n, .int .i64 M] W fun e w' => e = .returned (.int .i64 (r : Int)) ∧ W = w' := by
  subst hM
  refine ⟨(n % m).toNat, ?_, fun W => ?_⟩
  · have := Int.emod_lt_of_pos n (show (0 : Int) < m by omega)
    have := Int.emod_nonneg n (show (m : Int) ≠ 0 by omega)
    omega
  · have h := rest_any n m W hn0 hn1 (by omega) (by omega)
    have := Int.emod_nonneg n (show (m : Int) ≠ 0 by omega)
    rw [show (((n % (m : Int)).toNat : Nat) : Int) = n % (m : Int) from by omega]
    exact h
theorem wf_i64_of {n : Int} (h : (Lit.int .i64 n).wf = true) : -9223372036854775808 ≤ n ∧ n ≤ 9223372036854775807 := by
  simp only [Lit.wf, Bool.and_eq_true, decide_eq_true_eq] at h
  exact h

end Go.Proofs.YtcmncdaojmkfgaaGreatDoor
