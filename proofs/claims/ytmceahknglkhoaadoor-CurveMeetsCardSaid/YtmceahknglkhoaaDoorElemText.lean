/- Numbers modulo 2^255 - 19: as a text. -/
import Derived.Test.YtmceahknglkhoaaDoorElemRead
namespace Go.Proofs.YtmceahknglkhoaaDoor
open Go.RowKit
set_option linter.unusedVariables false

theorem NB.set5 {w : World} {B a0 a1 a2 a3 a4 : Nat} (h : NB w B [a0, a1, a2, a3, a4]) (x0 x1 x2 x3 x4 : Nat) :
    NB (((((w.setCell ⟨B, 0, none⟩ (.int .u64 (x0 : Int))).setCell ⟨B, 1, none⟩ (.int .u64 (x1 : Int))).setCell ⟨B, 2, none⟩ (.int .u64 (x2 : Int))).setCell ⟨B, 3, none⟩ (.int .u64 (x3 : Int))).setCell ⟨B, 4, none⟩ (.int .u64 (x4 : Int))) B [x0, x1, x2, x3, x4] :=
  ((((h.set 0 x0).set 1 x1).set 2 x2).set 3 x3).set 4 x4

theorem nidx4_0 (w : World) (a0 a1 a2 a3 : Int) : (Instr.index 77 (.agg #[.int .u64 a0, .int .u64 a1, .int .u64 a2, .int .u64 a3]) (.int .i64 0)).run Tryd.prog w = .ok (.int .u64 a0) w := by kernel_rfl
theorem nidx4_1 (w : World) (a0 a1 a2 a3 : Int) : (Instr.index 77 (.agg #[.int .u64 a0, .int .u64 a1, .int .u64 a2, .int .u64 a3]) (.int .i64 1)).run Tryd.prog w = .ok (.int .u64 a1) w := by kernel_rfl
theorem nidx4_2 (w : World) (a0 a1 a2 a3 : Int) : (Instr.index 77 (.agg #[.int .u64 a0, .int .u64 a1, .int .u64 a2, .int .u64 a3]) (.int .i64 2)).run Tryd.prog w = .ok (.int .u64 a2) w := by kernel_rfl
theorem nidx4_3 (w : World) (a0 a1 a2 a3 : Int) : (Instr.index 77 (.agg #[.int .u64 a0, .int .u64 a1, .int .u64 a2, .int .u64 a3]) (.int .i64 3)).run Tryd.prog w = .ok (.int .u64 a3) w := by kernel_rfl
theorem nidx4 (w : World) (a0 a1 a2 a3 : Nat) (k : Nat) (hk : k < [a0, a1, a2, a3].length) :
    (Instr.index 77 (.agg #[.int .u64 (a0 : Int), .int .u64 (a1 : Int), .int .u64 (a2 : Int), .int .u64 (a3 : Int)]) (.int .i64 (k : Int))).run Tryd.prog w = .ok (.int .u64 (([a0, a1, a2, a3][k] : Nat) : Int)) w := by
  match k, hk with
  | 0, _ => exact nidx4_0 w _ _ _ _
  | 1, _ => exact nidx4_1 w _ _ _ _
  | 2, _ => exact nidx4_2 w _ _ _ _
  | 3, _ => exact nidx4_3 w _ _ _ _

/-- Words as bytes, eight each. -/
def textQ (l : List Nat) : List UInt8 := l.flatMap fun n => leB n 8
theorem textQ_length (l : List Nat) : (textQ l).length = 8 * l.length := by
  induction l with
  | nil => rfl
  | cons n l ih => simp only [textQ, List.flatMap_cons, List.length_append, leB_length, List.length_cons] at ih ⊢; omega
theorem textQ_snoc (l : List Nat) (n : Nat) : textQ (l ++ [n]) = textQ l ++ leB n 8 := by simp [textQ]

/-- What goes on from limb to limb. -/
def carO (L : List Nat) (c i : Nat) : Nat := (carF (L.take i) c).2
theorem carO_next (L : List Nat) (c i : Nat) (hi : i < L.length) : carO L c (i + 1) = (L[i] + carO L c i) / 2251799813685248 := by
  have et : L.take (i + 1) = L.take i ++ [L[i]] := List.take_succ_eq_append_getElem hi
  unfold carO
  rw [et, carF_snoc]

set_option maxRecDepth 20000 in
set_option maxHeartbeats 4000000 in
theorem code_ntext (w : World) (l : List Nat) (hl : l.length = 5) (hb : ∀ x ∈ l, x ≤ 9223372036854775808) : Calls Tryd.prog 44 #[N5 l] w (Grown (S (leB (lval l % PP) 32)) w) := by
  obtain ⟨B, hB⟩ : ∃ B, B = w.heap.size := ⟨_, rfl⟩
  obtain ⟨a0, a1, a2, a3, a4, el⟩ := five hl
  obtain ⟨x, hx⟩ : ∃ x, x = w.alloc (.cells (l.map c64).toArray 64) := ⟨_, rfl⟩
  have bN : NB x B [a0, a1, a2, a3, a4] := by rw [hx, hB, ← el]; exact obj_new _ _
  have hgx : w.grownBy x none := by rw [hx]; exact grow_alloc (grow_refl w none) _
  have hxl : x = w.alloc (.cells #[.int .u64 (a0 : Int), .int .u64 (a1 : Int), .int .u64 (a2 : Int), .int .u64 (a3 : Int), .int .u64 (a4 : Int)] 64) := by rw [hx, el]; rfl
  have hok := carL_ok l hl hb
  have hfull := full_twice l hl hb
  have hle : ∀ x ∈ carL l, x ≤ 9223372036854775808 := fun z hz => by have := hok.le z hz; omega
  have A1 : ∀ V : World, Calls Tryd.prog 52 #[N5 l] V (Grown (N5 (carL l)) V) := fun V => code_ncarried V l hl hb
  have A2 : ∀ V : World, Calls Tryd.prog 52 #[N5 (carL l)] V (Grown (N5 (carL (carL l))) V) := fun V => code_ncarried V _ hok.length hle
  have hv : lval (carL (carL l)) % PP = lval l % PP := by rw [carL_val _ hok.length, carL_val _ hl]
  obtain ⟨b0, b1, b2, b3, b4, e1⟩ := five hok.length
  obtain ⟨L, hL⟩ : ∃ L, L = carL (carL l) := ⟨_, rfl⟩
  rw [← hL] at hfull hv A2
  obtain ⟨x0, x1, x2, x3, x4, e2⟩ := five hfull.1
  rw [e1, el, N5_lit, N5_lit] at A1
  rw [e1, e2, N5_lit, N5_lit] at A2
  obtain ⟨hLF, hLV⟩ := leastL_ok hfull
  rw [hv] at hLV
  obtain ⟨V, hV⟩ : ∃ V, V = leB (lval l % PP) 32 := ⟨_, rfl⟩
  rw [← hV]
  rw [← hLV] at hV
  have k0 := bN.five.1
  obtain ⟨p0, p1, p2, p3, p4⟩ := k0
  have HBN := Lib.hid bN
  have HG := Lib.hid hgx
  have HB := Lib.hid hB
  have HX := Lib.hid hxl
  have HV := Lib.hid hV
  have HLF := Lib.hid hLF
  have HFU := Lib.hid hfull
  have HEL := Lib.hid e2
  have hN5 : N5 l = .agg #[.int .u64 (a0 : Int), .int .u64 (a1 : Int), .int .u64 (a2 : Int), .int .u64 (a3 : Int), .int .u64 (a4 : Int)] := by rw [el]; rfl
  rw [hN5]
  clear hN5 hv hok hfull hle hL e1 e2 el hl hb hx hxl bN hgx hB hV hLF hLV
  go_enter Tryd.func44, Tryd.ntmps44
  go_upto_region 1 with (fail)
  rw [← HB.out, ← HX.out]
  go_wp2_with fail
  (with_reducible refine (A1 _).mono ?_)
  rintro e w1 ⟨rfl, hg1⟩
  clear p0 p1 p2 p3 p4
  go_wp2_with fail
  (with_reducible refine (A2 _).mono ?_)
  rintro e w2 ⟨rfl, hg2⟩
  have bN2 : NB w2 B [a0, a1, a2, a3, a4] := Blk.kept (Blk.kept HBN.out hg1 nofun) hg2 nofun
  obtain ⟨⟨z0, z1, z2, z3, z4⟩, f0, f1, f2, f3, f4⟩ := bN2.five
  obtain ⟨y, hy⟩ : ∃ y, y = ((((w2.setCell ⟨B, 0, none⟩ (.int .u64 (x0 : Int))).setCell ⟨B, 1, none⟩ (.int .u64 (x1 : Int))).setCell ⟨B, 2, none⟩ (.int .u64 (x2 : Int))).setCell ⟨B, 3, none⟩ (.int .u64 (x3 : Int))).setCell ⟨B, 4, none⟩ (.int .u64 (x4 : Int)) := ⟨_, rfl⟩
  have bY := bN2.set5 x0 x1 x2 x3 x4
  have hgy : w.grownBy y none := by rw [hy]; exact grow5 (grow_trans (grow_trans HG.out hg1) hg2) (by have := HB.out; omega) _ _ _ _ _
  rw [← hy] at bY
  have HBY := Lib.hid bY
  have HGY := Lib.hid hgy
  have HY := Lib.hid hy
  clear bN2 hg1 hg2 hy hgy A1 A2
  have ff := HFU.out.2
  rw [HEL.out] at ff
  have k0 := ff x0 (by simp)
  have k1 := ff x1 (by simp)
  have k2 := ff x2 (by simp)
  have k3 := ff x3 (by simp)
  have k4 := ff x4 (by simp)
  obtain ⟨⟨c0, c1, c2, c3, c4⟩, g0, g1, g2, g3, g4⟩ := bY.five
  clear ff bY
  go_upto_region 2 with (fail)
  rw [← HY.out]
  clear z0 z1 z2 z3 z4 f0 f1 f2 f3 f4
  obtain ⟨q0, hq0⟩ : ∃ q0, q0 = (x0 + 19) / 2251799813685248 := ⟨_, rfl⟩
  have eq0 : ((x0 : Int) + 19) / 2251799813685248 = (q0 : Int) := by rw [hq0]; rfl
  have lq0 : q0 ≤ 1 := by omega
  have HQ0 := Lib.hid hq0
  clear hq0
  obtain ⟨M, hM⟩ : ∃ M : List Nat, M = L.set 0 (L.getD 0 0 + 19 * (carF L 19).2) := ⟨_, rfl⟩
  have HM := Lib.hid hM
  clear hM
  have HBL : Hid (NB y B L) := Lib.hid (by rw [HEL.out]; exact HBY.out)
  go_upto_region 4 with (fail)
  clear c0 c1 c2 c3 c4 g0 g1 g2 g3 g4 lq0 eq0
  go_loop [3, 5, 19] (fun v3 v5 vi => ∃ i c : Nat, i ≤ 4 ∧ vi = .int .i64 i ∧ v3 = .int .u64 (c : Int) ∧ c ≤ 19 ∧ Hid (c = carO L 19 (i + 1))) (fun _ _ vi => 4 - (intOf vi).toNat)
  case atStart => exact ⟨0, q0, by omega, rfl, rfl, by have := HQ0.out; omega, Lib.hid (by rw [carO_next L 19 0 (by rw [HFU.out.1]; omega)]; have e := HEL.out; subst e; exact HQ0.out)⟩
  case round =>
    obtain ⟨i, c, hi, rfl, rfl, hcb, hc⟩ := hrel
    by_cases hli : i < 4
    · have hiL : i + 1 < L.length := by rw [HFU.out.1]; omega
      have hx := HFU.out.2 L[i + 1] (List.getElem_mem hiL)
      have hn := carO_next L 19 (i + 1) hiL
      have cl' : y.cell? ⟨B, 1 + i, none⟩ = some (.int .u64 (L[i + 1] : Nat)) := by
        rw [Nat.add_comm 1 i]
        exact HBL.out.cell (i + 1) hiL
      rw [← hc.out] at hn
      generalize L[i + 1] = z at *
      have HNX := Lib.hid hn
      clear hn hiL
      have hcn : (z + c) / 2251799813685248 ≤ 19 := by omega
      go_wp2_with fail
      go_round
      case rel => exact ⟨i + 1, (z + c) / 2251799813685248, by omega, by go_num, by congr 1, hcn, Lib.hid HNX.out.symm⟩
      case measure => simp [intOf]; omega
    · obtain rfl : i = 4 := by omega
      have hcF : c = (carF L 19).2 := by
        have := hc.out
        unfold carO at this
        rwa [List.take_of_length_le (by have := HFU.out.1; omega)] at this
      have hMe : M = [x0 + 19 * c, x1, x2, x3, x4] := by rw [HM.out, ← hcF, HEL.out]; rfl
      obtain ⟨⟨c0, c1, c2, c3, c4⟩, g0, g1, g2, g3, g4⟩ := HBY.out.five
      have hst := HBY.out.set 0 (x0 + 19 * c)
      obtain ⟨y2, hy2⟩ : ∃ y2, y2 = y.setCell ⟨B, 0, none⟩ (.int .u64 ((x0 : Int) + 19 * (c : Int))) := ⟨_, rfl⟩
      have hst' : NB y2 B M := by rw [hMe, hy2]; simpa using hst
      have gy2 : y.grownBy y2 (some B) := by rw [hy2]; exact grow_setCell (grow_refl _ _) _ _
      have hM5 : M.length = 5 := by rw [hMe]; rfl
      have hMb : ∀ z ∈ M, z ≤ 2251799813685248 + 361 := by
        rw [hMe]
        intro z hz
        simp only [List.mem_cons, List.not_mem_nil, or_false] at hz
        omega
      have HML := Lib.hid hM5
      have HMB := Lib.hid hMb
      have HB2 := Lib.hid hst'
      have HG2 := Lib.hid (grow_trans_new HGY.out gy2 (by have := HB.out; omega))
      have HY2 := Lib.hid hy2
      have HLE : Hid (leastL L = (carF M 0).1) := Lib.hid (by rw [HM.out]; rfl)
      clear hcF hMe hst hst' gy2 hM5 hMb hy2 hc
      go_upto_region 9 with (fail)
      rw [← HY2.out]
      clear c0 c1 c2 c3 c4 g0 g1 g2 g3 g4
      go_wp2_with fail
      clear hcb k0 k1 k2 k3 k4 HBY HBL HY
      go_loopw [3, 6, 34] (fun v3 v6 vi wr => ∃ (i c : Nat), i ≤ 5 ∧ vi = .int .i64 i ∧ v3 = .int .u64 (c : Int) ∧ c ≤ 4096 ∧ Hid (c = (carF (M.take i) 0).2) ∧ Hid (NB wr B (carI M i)) ∧ Hid (y2.grownBy wr (some B))) (fun _ _ vi _ => 5 - (intOf vi).toNat)
      case atStart => exact ⟨0, 0, by omega, rfl, rfl, by omega, Lib.hid rfl, Lib.hid (by show NB _ _ ([] ++ M.drop 0); rw [List.drop_zero, List.nil_append]; exact HB2.out), Lib.hid (grow_refl _ _)⟩
      case round =>
        obtain ⟨i, c, hi, rfl, rfl, hc, hce, hK, hg⟩ := hrel
        by_cases hli : i < 5
        · have hiL : i < M.length := by rw [HML.out]; exact hli
          have hxb := HMB.out M[i] (List.getElem_mem hiL)
          have cl := hK.out.cell i (by rw [carI_length]; exact hiL)
          rw [carI_at M i hiL] at cl
          have fr := hK.out.frozen i
          obtain ⟨n1, n2⟩ := carI_next M i hiL
          rw [← hce.out] at n1 n2
          have hst := (hK.out.set i (M[i] + c)).set i ((M[i] + c) % 2251799813685248)
          rw [List.set_set, n1] at hst
          have hgs := grow_setCell (grow_setCell hg.out i (.int .u64 ((M[i] + c : Nat) : Int))) i (.int .u64 (((M[i] + c) % 2251799813685248 : Nat) : Int))
          have HS := Lib.hid (And.intro hst hgs)
          have HN2 := Lib.hid n2
          generalize M[i] = z at *
          have m1 : bits .and .u64 ((z : Int) + (c : Int)) 2251799813685247 = (((z + c) % 2251799813685248 : Nat) : Int) := by
            have := mask51 (z + c) (by omega)
            simpa using this
          have hcn : (z + c) / 2251799813685248 ≤ 4096 := by omega
          clear hst hgs n1 n2 hK hg hiL
          have hst' : NB ((wr.setCell ⟨B, i, none⟩ (.int .u64 ((z : Int) + (c : Int)))).setCell ⟨B, i, none⟩ (.int .u64 (((z : Int) + (c : Int)) % 2251799813685248))) B (carI M (i + 1)) := by simpa using HS.out.1
          have hgs' : y2.grownBy ((wr.setCell ⟨B, i, none⟩ (.int .u64 ((z : Int) + (c : Int)))).setCell ⟨B, i, none⟩ (.int .u64 (((z : Int) + (c : Int)) % 2251799813685248))) (some B) := by simpa using HS.out.2
          have HS1 := Lib.hid hst'
          have HS2 := Lib.hid hgs'
          clear hst' hgs' HS
          go_wp2_with fail
          go_roundw
          case rel => exact ⟨i + 1, (z + c) / 2251799813685248, by omega, by go_num, by congr 1, hcn, Lib.hid HN2.out.symm, HS1, HS2⟩
          case measure => simp [intOf]; omega
        · obtain rfl : i = 5 := by omega
          have e5 : carI M 5 = leastL L := by
            rw [HLE.out]
            unfold carI
            rw [List.take_of_length_le (by have := HML.out; omega), List.drop_of_length_le (by have := HML.out; omega), List.append_nil]
          have hK2 := hK.out
          rw [e5] at hK2
          obtain ⟨y0, y1, y2', y3, y4, e6⟩ := five HLF.out.1
          rw [e6] at hK2
          have ff := HLF.out.2
          have hVe := HV.out
          rw [e6] at ff hVe
          have k0 := ff y0 (by simp)
          have k1 := ff y1 (by simp)
          have k2 := ff y2' (by simp)
          have k3 := ff y3 (by simp)
          have k4 := ff y4 (by simp)
          rw [← pk_text y0 y1 y2' y3 y4 k0 k1 k2 k3 k4] at hVe
          have q1 : bits .or .u64 (y0 : Int) (IntKind.u64.wrap ((y1 : Int) * 2251799813685248)) = (pk0 y0 y1 : Int) := shl_or y0 y1 0 (by omega) (by omega) 2251799813685248 0 (by omega)
          have q2 : bits .or .u64 ((y1 : Int) / 8192) (IntKind.u64.wrap ((y2' : Int) * 274877906944)) = (pk1 y1 y2' : Int) := shl_or (y1 / 8192) y2' 0 (by omega) (by omega) 274877906944 0 (by omega)
          have q3 : bits .or .u64 ((y2' : Int) / 67108864) (IntKind.u64.wrap ((y3 : Int) * 33554432)) = (pk2 y2' y3 : Int) := shl_or (y2' / 67108864) y3 0 (by omega) (by omega) 33554432 0 (by omega)
          have q4 : bits .or .u64 ((y3 : Int) / 549755813888) ((y4 : Int) * 4096) = (pk3 y3 y4 : Int) := by
            have := shl_or (y3 / 549755813888) y4 0 (by omega) (by omega) 4096 0 (by omega)
            rw [IntWalk.u64_in _ (by omega)] at this
            exact this
          have l1 : pk0 y0 y1 < 18446744073709551616 := Nat.or_lt_two_pow (n := 64) (by omega) (by omega)
          have l2 : pk1 y1 y2' < 18446744073709551616 := Nat.or_lt_two_pow (n := 64) (by omega) (by omega)
          have l3 : pk2 y2' y3 < 18446744073709551616 := Nat.or_lt_two_pow (n := 64) (by omega) (by omega)
          have l4 : pk3 y3 y4 < 18446744073709551616 := Nat.or_lt_two_pow (n := 64) (by omega) (by omega)
          generalize pk0 y0 y1 = t0 at *
          generalize pk1 y1 y2' = t1 at *
          generalize pk2 y2' y3 = t2 at *
          generalize pk3 y3 y4 = t3 at *
          have hVt : V = textQ [t0, t1, t2, t3] := by rw [hVe]; simp [textQ]
          have hT : ∀ z ∈ [t0, t1, t2, t3], z < 18446744073709551616 := by
            intro z hz
            simp only [List.mem_cons, List.not_mem_nil, or_false] at hz
            omega
          obtain ⟨T, hTe⟩ : ∃ T, T = [t0, t1, t2, t3] := ⟨_, rfl⟩
          rw [← hTe] at hVt hT
          have hTl : T.length = 4 := by rw [hTe]; rfl
          have HTE := Lib.hid hTe
          have HTL := Lib.hid hTl
          have HTB := Lib.hid hT
          have HVT := Lib.hid hVt
          have HGR := Lib.hid (grow_trans_new HG2.out hg.out (by have := HB.out; omega))
          obtain ⟨⟨c0, c1, c2, c3, c4⟩, _⟩ := hK2.five
          clear hVe ff e6 e5 hK2 hK hg hce hVt hT hTe hTl l1 l2 l3 l4 HV HLF HLE HY2 HG2 HM HMB HML HB2
          rw [show ((5 : Nat) : Int) = 5 from rfl]
          go_upto_region 19 with (fail)
          clear c0 c1 c2 c3 c4 q1 q2 q3 q4
          obtain ⟨ws, hws⟩ : ∃ ws, ws = wr := ⟨_, rfl⟩
          subst hws
          go_loopw [7, 9, 81] (fun vb v9 vi wt => ∃ j : Nat, j ≤ 4 ∧ vi = .int .i64 j ∧ brow wt ws.heap.size vb (textQ (T.take j)) ∧ Below ws.heap.size ws wt) (fun _ _ vi _ => 4 - (intOf vi).toNat)
          case atStart => exact ⟨0, by omega, rfl, brow_nil _ _, Below.refl _ _⟩
          case round =>
            obtain ⟨j, hj, rfl, hown, hBel⟩ := hrel
            by_cases hlj : j < 4
            · have hjT : j < T.length := by rw [HTL.out]; exact hlj
              obtain ⟨t, ht⟩ : ∃ t, t = T[j] := ⟨_, rfl⟩
              have ix : ∀ W : World, (Instr.index 77 (.agg #[.int .u64 (t0 : Int), .int .u64 (t1 : Int), .int .u64 (t2 : Int), .int .u64 (t3 : Int)]) (.int .i64 (j : Int))).run Tryd.prog W = .ok (.int .u64 (t : Int)) W := fun W => by
                have e := HTE.out
                subst e
                rw [ht]
                exact nidx4 W t0 t1 t2 t3 j hjT
              have hn := HTB.out T[j] (List.getElem_mem hjT)
              have hsn := Lib.hid (show textQ (T.take (j + 1)) = textQ (T.take j) ++ leB T[j] 8 from by rw [List.take_succ_eq_append_getElem hjT, textQ_snoc])
              have hlen : (textQ (T.take j)).length + 8 ≤ 140737488355328 := by rw [textQ_length, List.length_take]; omega
              rw [← ht] at hn hsn
              have hbz := hBel.size
              have HLN := Lib.hid hlen
              clear ht hjT hlen
              go_wp2_with fail
              refine (wire_appendLittle _ ws.heap.size _ _ t 8 hown (by omega) (by omega) HLN.out hbz).mono ?_
              rintro e w5 ⟨v', rfl, hown', hB'⟩
              rw [← hsn.out] at hown'
              replace hBel := hBel.trans hB'
              clear hown hB' hbz ix
              go_wp2_with fail
              go_roundw
              case rel => exact ⟨j + 1, by omega, by go_num, hown', hBel⟩
              case measure => simp [intOf]; omega
            · obtain rfl : j = 4 := by omega
              have hcv := conv_brow hown
              rw [List.take_of_length_le (by have := HTL.out; omega), ← HVT.out] at hcv
              have HFI := Lib.hid (grow_trans HGR.out (grow_of_below hBel))
              unfold S at *
              clear hown hBel
              go_wp2_with fail
              go_ret
              exact ⟨rfl, HFI.out⟩

end Go.Proofs.YtmceahknglkhoaaDoor
