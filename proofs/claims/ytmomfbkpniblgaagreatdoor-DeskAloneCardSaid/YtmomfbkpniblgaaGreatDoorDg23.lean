/-
  Several texts of this claim in one: ShaSum, ShaLaws.
-/
import Derived.Test.YtmomfbkpniblgaaGreatDoorDgShaHash
import Derived.Test.YtmomfbkpniblgaaGreatDoorDg07
import Derived.Test.YtmomfbkpniblgaaGreatDoorDg04
namespace Go.Proofs.YtmomfbkpniblgaaGreatDoor
open Go.RowKit
set_option linter.unusedVariables false

theorem digest_snoc (s : List Nat) (i : Nat) (h : i < s.length) : digest (s.take (i + 1)) = digest (s.take i) ++ bigB (s.getD i 0) 4 := by
  rw [List.take_succ_eq_append_getElem h]
  unfold digest
  rw [List.flatMap_append, List.getD_eq_getElem?_getD, List.getElem?_eq_getElem h]
  simp
theorem zeros_snoc (l : List UInt8) (k : Nat) : l ++ List.replicate k 0 ++ [0] = l ++ List.replicate (k + 1) (0 : UInt8) := by
  rw [List.append_assoc, List.replicate_succ']

set_option maxRecDepth 20000 in
set_option maxHeartbeats 4000000 in
theorem code_hsum (w : World) (P : Nat) (s : List Nat) (r : List UInt8) (m : Nat) (hP : HashIs w P s r m) (hs : s.length = 8) (hs2 : Small32 s) (hm : m < 18446744073709551616) (hr : r.length < 64) :
    Calls Tryz.prog 213 #[.pointer (some ⟨P, 0, none⟩)] w (Grown (S (shaEnd s r m)) w) := by
  obtain ⟨K, hK⟩ : ∃ K, K = (119 - r.length % 64) % 64 := ⟨_, rfl⟩
  have hK1 : (r.length + 1 + K) % 64 = 56 := by omega
  have hK2 : ∀ k, k < K → (r.length + 1 + k) % 64 ≠ 56 := by intro k hk; omega
  have hK3 : K ≤ 63 := by omega
  obtain ⟨q, hq⟩ : ∃ q, q = 8 * m % 18446744073709551616 := ⟨_, rfl⟩
  obtain ⟨L, hL⟩ : ∃ L, L = r ++ [128] ++ List.replicate K 0 ++ bigB q 8 := ⟨_, rfl⟩
  have lL : L.length = r.length + 1 + K + 8 := by rw [hL]; simp [bigB_length]; omega
  have hfin : shaEnd s r m = digest (absorb 2 s L).1 := by unfold shaEnd shaPad; rw [← hK, ← hq, ← hL]
  have hD : Doing s L (absorb 2 s L) := ⟨2, by omega, rfl⟩
  rw [hfin]
  generalize absorb 2 s L = X at *
  obtain ⟨V, hV⟩ : ∃ V, V = digest X.1 := ⟨_, rfl⟩
  rw [← hV]
  have HV := Lib.hid hV
  have HD := Lib.hid hD
  have HL := Lib.hid hL
  have HQ := Lib.hid hq
  have LL := Lib.hid lL
  have H1 := Lib.hid hK1
  have H0 : Hid ((r.length + 1 + K) % 64 = 56) := Lib.hid hK1
  have H2 := Lib.hid hK2
  have HS := Lib.hid hs
  have HS2 := Lib.hid hs2
  have hP0 := hP
  obtain ⟨a0, a1, a2, a3, a4, a5, a6, a7, es⟩ := eight hs
  rw [es] at hP0
  obtain ⟨_, c8, _⟩ := hP0.cells
  have HP := Lib.hid hP
  have ES := Lib.hid es
  obtain ⟨v, x, hcv, hbr, hgx⟩ := to_bro w r (by unfold maxLen; omega)
  obtain ⟨v1, x1, hr1, hb1, hg1⟩ := bro_app1 128 hbr (by omega) hgx.size
  obtain ⟨g, cap, hv, k1, k2, k3, k4, h5, h6⟩ := id hbr
  subst hv
  have hgx1 : w.grownBy x1 none := grow_trans_new hgx hg1 k1
  have HB1 := Lib.hid hb1
  have HG1 := Lib.hid hgx1
  clear hK hq hL lL hfin hD hV hK1 hK2 hs hs2 hP hP0 es hbr hgx hb1 hg1 hgx1 k1 k2 k3 k4 h5 h6
  unfold S
  go_enter Tryz.func213, Tryz.ntmps213
  go_wp2_with (at_builtin; go_must (refine append_run rfl _ _ _ _ v1 x1 hr1 rfl rfl rfl rfl ?_))
  clear hr1 hcv
  go_loopw [3] (fun v3 wr => ∃ k : Nat, k ≤ K ∧ Hid (bro wr w.heap.size v3 (r ++ [128] ++ List.replicate k 0)) ∧ Hid (w.grownBy wr none)) (fun v3 _ => 200 - (match v3 with | .slice _ n _ => n | _ => 0))
  case atStart => exact ⟨0, by omega, Lib.hid (by simpa using HB1.out), HG1⟩
  case round =>
    clear HB1 HG1
    obtain ⟨k, hk, hb, hg⟩ := hrel
    obtain ⟨g1, cap1, hv, k1, k2, k3, k4, h5, h6⟩ := id hb.out
    subst hv
    have hln : (r ++ [128] ++ List.replicate k (0 : UInt8)).length = r.length + 1 + k := by simp; omega
    by_cases hlt : k < K
    · obtain ⟨v2, x2, hr2, hb2, hg2⟩ := bro_app1 0 hb.out (by omega) (by have := hg.out.size; omega)
      rw [zeros_snoc] at hb2
      have hne := H2.out k hlt
      have HB2 := Lib.hid hb2
      have HG2 := Lib.hid (grow_trans_new hg.out hg2 k1)
      obtain ⟨g2, cap2, hv2, _⟩ := id hb2
      have HV2 := Lib.hid hv2
      clear hv2
      have hln2 : (r ++ [128] ++ List.replicate (k + 1) (0 : UInt8)).length = r.length + 1 + k + 1 := by simp; omega
      have HLN2 := Lib.hid hln2
      have HLN := Lib.hid hln
      generalize (r ++ [128] ++ List.replicate k (0 : UInt8)).length = ln at *
      obtain rfl : ln = r.length + 1 + k := HLN.out
      obtain ⟨ln, hl⟩ : ∃ ln, ln = r.length + 1 + k := ⟨_, rfl⟩
      rw [← hl] at hr2 hne ⊢
      have HLL := Lib.hid hl
      have n1 : (((ln : Int) % 64) != 56) = true := by rw [bne_iff_ne]; omega
      have n2 : (((ln : Int) % 64) == 56) = false := by rw [beq_eq_false_iff_ne]; omega
      clear hb2 hg2 hb hg h5 h6 k1 k2 k3 k4 hln hln2 hl HLN
      go_wp2_with (at_builtin; go_must (refine append_run rfl _ _ _ _ _ x2 hr2 rfl rfl rfl rfl ?_))
      clear hr2
      go_wp2_with fail
      go_roundw
      case rel => exact ⟨k + 1, by omega, HB2, HG2⟩
      case measure =>
        have e1 := HLN2.out
        have e2 := HLL.out
        rw [HV2.out]
        show 200 - (r ++ [128] ++ List.replicate (k + 1) (0 : UInt8)).length < 200 - ln
        omega
    · obtain rfl : k = K := by omega
      have he := H1.out
      rw [← hln] at he
      have hP1 := HP.out.kept hg.out nofun
      rw [ES.out] at hP1
      obtain ⟨⟨c0, c1, c2, c3, c4, c5, c6, c7⟩, _, c9⟩ := hP1.cells
      obtain ⟨B, hB⟩ : ∃ B, B = wr.heap.size := ⟨_, rfl⟩
      obtain ⟨y, hy⟩ : ∃ y, y = wr.alloc (.cells #[.int .u32 (a0 : Int), .int .u32 (a1 : Int), .int .u32 (a2 : Int), .int .u32 (a3 : Int), .int .u32 (a4 : Int), .int .u32 (a5 : Int), .int .u32 (a6 : Int), .int .u32 (a7 : Int)] 350) := ⟨_, rfl⟩
      have bS : HB y B 350 s := by rw [hy, hB, ES.out]; exact obj_new _ _
      have hb2 := hb.out.alloc (.cells #[.int .u32 (a0 : Int), .int .u32 (a1 : Int), .int .u32 (a2 : Int), .int .u32 (a3 : Int), .int .u32 (a4 : Int), .int .u32 (a5 : Int), .int .u32 (a6 : Int), .int .u32 (a7 : Int)] 350)
      rw [← hy] at hb2
      have hgy : w.grownBy y none := by rw [hy]; exact grow_alloc hg.out _
      have d9 : y.cell? ⟨P, 9, none⟩ = some (.int .u64 (m : Int)) := by
        have := HP.out.kept hgy nofun
        rw [ES.out] at this
        exact this.cells.2.2
      have hgB : g1 < B := by rw [hB]; exact k2
      have hBw : w.heap.size ≤ B := by rw [hB]; exact hg.out.size
      have A1 := bro_appendBig2 y w.heap.size _ _ q 8 hb2 (by have := HQ.out; omega) (by omega) (by rw [hln]; omega) hgy.size
      rw [← HL.out] at A1
      generalize (r ++ [128] ++ List.replicate k (0 : UInt8)).length = ln at *
      have q1 : IntKind.u64.wrap (8 * (m : Int)) = (q : Int) := by rw [IntKind.wrap_u64]; have := HQ.out; omega
      have n1 : (((ln : Int) % 64) != 56) = false := by rw [bne_eq_false_iff_eq]; omega
      have n2 : (((ln : Int) % 64) == 56) = true := by rw [beq_iff_eq]; omega
      have HY := Lib.hid hy
      have HBB := Lib.hid hB
      have HBS := Lib.hid bS
      have HGY := Lib.hid hgy
      clear hlt he hln hP1 hy hB bS hb2 hgy h5 h6 k2 k3 k4 hb hg H1 H2
      have A2 : Calls Tryz.prog 70 #[.slice (some ⟨g1, 0, none⟩) ln cap1, .int .u64 q, .int .i64 8] y (OwnBro2 y w.heap.size (some g1) L) := A1
      clear A1
      go_upto_region 5 with (fail)
      rw [← HBB.out, ← HY.out]
      go_wp2_with fail
      (with_reducible refine A2.mono ?_)
      rintro e z ⟨v3, rfl, hb3, hg3⟩
      have hcv := conv_bro hb3
      have HBS2 := Lib.hid (Blk.kept HBS.out hg3 (by simp; omega))
      have HGZ := Lib.hid (grow_trans_new HGY.out hg3 k1)
      clear hb3 hg3 A2 c0 c1 c2 c3 c4 c5 c6 c7 c9 d9
      clear q1 n1 n2
      go_wp2_with fail
      clear hcv
      have lL := LL.out
      have r2 := rule_ext
      go_loopw [5] (fun v5 wr => ∃ (s' : List Nat) (u' : List UInt8), v5 = .string ⟨u'.toArray⟩ ∧ Hid (HB wr B 350 s') ∧ Hid (s'.length = 8) ∧ Hid (Small32 s') ∧ Hid (Doing s' u' X) ∧ Hid (u'.length % 64 = 0) ∧ u'.length ≤ 9223372036854775807 ∧ Hid (w.grownBy wr none)) (fun v5 _ => match v5 with | .string b => b.size | _ => 0)
      case atStart => exact ⟨s, L, rfl, HBS2, HS, HS2, HD, Lib.hid (by have := H0.out; omega), by omega, HGZ⟩
      case round =>
        clear HBS2 HS HS2 HD HGZ
        obtain ⟨s', u', rfl, hB, hs, hs2, hD, hl64, lu, hg⟩ := hrel
        by_cases hlt : 64 ≤ u'.length
        · obtain ⟨a0, a1, a2, a3, a4, a5, a6, a7, es⟩ := eight hs.out
          have hB0 := hB.out
          rw [es] at hB0
          obtain ⟨c0, c1, c2, c3, c4, c5, c6, c7⟩ := hB0.eight
          have A1 : ∀ W : World, Calls Tryz.prog 265 #[A32 s', S (u'.take 64)] W (Grown (A32 (takenL s' (u'.take 64))) W) := fun W => code_taken W s' (u'.take 64) hs.out hs2.out (by rw [List.length_take]; omega)
          have hD2 := Lib.hid (hD.out.more hlt)
          have lT := takenL_length s' (u'.take 64) hs.out
          have sT := Lib.hid (takenL_small s' (u'.take 64))
          generalize takenL s' (u'.take 64) = T at *
          obtain ⟨b0, b1, b2, b3, b4, b5, b6, b7, eT⟩ := eight lT
          have hA : A32 s' = .agg #[.int .u32 (a0 : Int), .int .u32 (a1 : Int), .int .u32 (a2 : Int), .int .u32 (a3 : Int), .int .u32 (a4 : Int), .int .u32 (a5 : Int), .int .u32 (a6 : Int), .int .u32 (a7 : Int)] := by rw [es]; rfl
          have hT : A32 T = .agg #[.int .u32 (b0 : Int), .int .u32 (b1 : Int), .int .u32 (b2 : Int), .int .u32 (b3 : Int), .int .u32 (b4 : Int), .int .u32 (b5 : Int), .int .u32 (b6 : Int), .int .u32 (b7 : Int)] := by rw [eT]; rfl
          rw [hA, hT] at A1
          unfold S at A1
          have ET := Lib.hid eT
          have LT := Lib.hid lT
          have ES := Lib.hid es
          clear hA hT hB0 es eT lT
          have q1 : (64 : Int) ≤ (u'.length : Int) := by omega
          have ne1 : u'.isEmpty = false := by rw [List.isEmpty_eq_false_iff]; intro h; rw [h] at hlt; simp at hlt
          have ne2 : (!u'.isEmpty) = true := by rw [ne1]; rfl
          have ne3 : u' ≠ [] := by intro h; rw [h] at hlt; simp at hlt
          have hrest : List.take (u'.length - 64) (List.drop 64 u') = u'.drop 64 := List.take_of_length_le (by rw [List.length_drop]; omega)
          go_wp2_with fail
          go_region_with (first
            | (go_at_call 265; (with_reducible refine (A1 _).mono ?_); rintro e x1 ⟨rfl, hg1⟩; have hH1 := Blk.kept (Blk.drew hB.out) hg1 nofun; have k0 := Blk.frozen hH1 0; have k1 := Blk.frozen hH1 1; have k2 := Blk.frozen hH1 2; have k3 := Blk.frozen hH1 3; have k4 := Blk.frozen hH1 4; have k5 := Blk.frozen hH1 5; have k6 := Blk.frozen hH1 6; have k7 := Blk.frozen hH1 7; have hq := hH1; rw [ES.out] at hq; obtain ⟨n0, n1, n2, n3, n4, n5, n6, n7⟩ := HB.eight hq; clear hq))
          all_goals
            have h3 : HB ((((((((x1.setCell ⟨B, 0, none⟩ (.int .u32 (b0 : Int))).setCell ⟨B, 1, none⟩ (.int .u32 (b1 : Int))).setCell ⟨B, 2, none⟩ (.int .u32 (b2 : Int))).setCell ⟨B, 3, none⟩ (.int .u32 (b3 : Int))).setCell ⟨B, 4, none⟩ (.int .u32 (b4 : Int))).setCell ⟨B, 5, none⟩ (.int .u32 (b5 : Int))).setCell ⟨B, 6, none⟩ (.int .u32 (b6 : Int))).setCell ⟨B, 7, none⟩ (.int .u32 (b7 : Int))) B 350 T := by
              have hq : HB x1 B 350 [a0, a1, a2, a3, a4, a5, a6, a7] := by have := hH1; rw [ES.out] at this; exact this
              rw [ET.out]
              exact (((((((hq.set 0 b0).set 1 b1).set 2 b2).set 3 b3).set 4 b4).set 5 b5).set 6 b6).set 7 b7
            have hg3 : w.grownBy ((((((((x1.setCell ⟨B, 0, none⟩ (.int .u32 (b0 : Int))).setCell ⟨B, 1, none⟩ (.int .u32 (b1 : Int))).setCell ⟨B, 2, none⟩ (.int .u32 (b2 : Int))).setCell ⟨B, 3, none⟩ (.int .u32 (b3 : Int))).setCell ⟨B, 4, none⟩ (.int .u32 (b4 : Int))).setCell ⟨B, 5, none⟩ (.int .u32 (b5 : Int))).setCell ⟨B, 6, none⟩ (.int .u32 (b6 : Int))).setCell ⟨B, 7, none⟩ (.int .u32 (b7 : Int))) none :=
              grow_setCell_new (grow_setCell_new (grow_setCell_new (grow_setCell_new (grow_setCell_new (grow_setCell_new (grow_setCell_new (grow_setCell_new (grow_trans (grow_drew hg.out) hg1) _ hBw _) _ hBw _) _ hBw _) _ hBw _) _ hBw _) _ hBw _) _ hBw _) _ hBw _
            have H3 := Lib.hid h3
            have HG3 := Lib.hid hg3
            clear h3 hg3 n0 n1 n2 n3 n4 n5 n6 n7 k0 k1 k2 k3 k4 k5 k6 k7 hH1 hg1 hg hB hD
            go_wp2_with fail
            go_roundw
            case rel => exact ⟨T, u'.drop 64, rfl, H3, LT, sT, hD2, Lib.hid (by rw [List.length_drop]; have := hl64.out; omega), by rw [List.length_drop]; omega, HG3⟩
            case measure => simp [ByteArray.size]; omega
        · obtain rfl : u' = [] := List.eq_nil_of_length_eq_zero (by have := hl64.out; omega)
          have hX := hD.out.done hlt
          have hV : V = digest s' := by rw [HV.out, hX]
          have HVV := Lib.hid hV
          obtain ⟨a0, a1, a2, a3, a4, a5, a6, a7, es⟩ := eight hs.out
          have hB0 := hB.out
          rw [es] at hB0
          obtain ⟨c0, c1, c2, c3, c4, c5, c6, c7⟩ := hB0.eight
          have ix : ∀ (W : World) (i : Nat), i < 8 → (Instr.index 350 (.agg #[.int .u32 (a0 : Int), .int .u32 (a1 : Int), .int .u32 (a2 : Int), .int .u32 (a3 : Int), .int .u32 (a4 : Int), .int .u32 (a5 : Int), .int .u32 (a6 : Int), .int .u32 (a7 : Int)]) (.int .i64 (i : Int))).run Tryz.prog W = .ok (.int .u32 ((s'.getD i 0 : Nat) : Int)) W := fun W i hi =>
            run_index_one W 350 33 8 _ i _ Tryz.underlying350 info_u32 (by kernel_rfl) hi (by
              have : (#[Value.int .u32 (a0 : Int), .int .u32 (a1 : Int), .int .u32 (a2 : Int), .int .u32 (a3 : Int), .int .u32 (a4 : Int), .int .u32 (a5 : Int), .int .u32 (a6 : Int), .int .u32 (a7 : Int)] : Array Value) = (s'.map c32).toArray := by rw [es]; rfl
              rw [this, List.getElem?_toArray, List.getElem?_map, List.getD_eq_getElem?_getD, List.getElem?_eq_getElem (by rw [hs.out]; exact hi)]
              rfl)
          have IX := Lib.hid ix
          have hg0 := hg
          have HBR := Lib.hid (brow_nil wr wr.heap.size)
          clear hX hV hD hB0 es ix hB hl64 hlt
          go_wp2_with fail
          clear c0 c1 c2 c3 c4 c5 c6 c7
          obtain ⟨x0, hx0⟩ : ∃ x0, x0 = wr := ⟨_, rfl⟩
          rw [← hx0] at hg0 HBR
          have HX0 := Lib.hid hx0
          go_loopw [6, 44] (fun v6 v44 wr => ∃ i : Nat, i ≤ 8 ∧ v44 = .int .i64 i ∧ Hid (brow wr x0.heap.size v6 (digest (s'.take i))) ∧ Hid (Below x0.heap.size x0 wr)) (fun _ v44 _ => 8 - (intOf v44).toNat)
          case atStart => exact ⟨0, by omega, rfl, by rw [← hx0]; exact HBR, Lib.hid (by rw [← hx0]; exact Below.refl _ _)⟩
          case round =>
            clear HBR hx0 HX0 hg
            obtain ⟨i, hi, rfl, hb, hbl⟩ := hrel
            by_cases hlt : i < 8
            · have ix := fun W => IX.out W i hlt
              have ls := getD_lt hs2.out i
              have hsn := digest_snoc s' i (by rw [hs.out]; exact hlt)
              have A1 := fun (W : World) (hW : brow W x0.heap.size u6 (digest (s'.take i))) (hz : x0.heap.size ≤ W.heap.size) => wire_appendBig W x0.heap.size u6 (digest (s'.take i)) (s'.getD i 0) 4 hW (by omega) (by omega) (by omega) (by rw [digest_length, List.length_take]; omega) hz
              rw [show (4 : Int).toNat = 4 from rfl, ← hsn] at A1
              have HD2 := Lib.hid hsn
              clear hsn
              generalize s'.getD i 0 = n at *
              have wn : IntKind.u64.wrap (n : Int) = (n : Int) := IntWalk.u64_in _ (by omega)
              have A2 := A1 wr hb.out hbl.out.size
              clear A1
              go_wp2_with fail
              (with_reducible refine A2.mono ?_)
              rintro e x2 ⟨v', rfl, hb2, hbl2⟩
              have HB2 := Lib.hid hb2
              have HL2 := Lib.hid (hbl.out.trans hbl2)
              clear A2 hb hbl hb2 hbl2 ix
              go_wp2_with fail
              go_roundw
              case rel => exact ⟨i + 1, by omega, by go_num, HB2, HL2⟩
              case measure => simp [intOf]; omega
            · obtain rfl : i = 8 := by omega
              have hcv := conv_brow hb.out
              rw [List.take_of_length_le (by rw [hs.out]; omega)] at hcv
              have hfin := Lib.hid (grow_trans hg0.out (grow_of_below hbl.out))
              clear hb hbl
              rw [← HVV.out] at hcv
              go_wp2_with fail
              go_ret
              exact ⟨rfl, hfin.out⟩

end Go.Proofs.YtmomfbkpniblgaaGreatDoor

namespace Go.Proofs.YtmomfbkpniblgaaGreatDoor
open Go.RowKit
set_option linter.unusedVariables false

theorem absorb_small : ∀ (f : Nat) (s : List Nat) (r : List UInt8), Small32 s → Small32 (absorb f s r).1
  | 0, s, r, h => h
  | f + 1, s, r, h => by
    rw [absorb]
    split
    · exact absorb_small f _ _ (takenL_small _ _)
    · exact h
theorem shaS_small (t : List UInt8) : Small32 (shaS t).1 := absorb_small _ _ _ shaI_small

/-- A sum under way that has taken a text. -/
def HashOf (w : World) (P : Nat) (t : List UInt8) : Prop := HashIs w P (shaS t).1 (shaS t).2 (t.length % 18446744073709551616)
theorem HashOf.kept {w w' : World} {P : Nat} {t : List UInt8} {x : Option Nat} (h : HashOf w P t) (g : w.grownBy w' x) (hr : some P ≠ x) : HashOf w' P t := HashIs.kept h g hr

def NewIs (w : World) (e : Ending) (w' : World) : Prop := ∃ P, e = .returned (.pointer (some ⟨P, 0, none⟩)) ∧ HashOf w' P [] ∧ w.grownBy w' none ∧ w.heap.size ≤ P
theorem hash_new (w : World) : Calls Tryz.prog 211 #[] w (NewIs w) :=
  (code_new w).mono fun e w' ⟨P, h1, h2, h3, h4⟩ => ⟨P, h1, h2, h3, h4⟩

def TookIs (P : Nat) (t : List UInt8) (w : World) (e : Ending) (w' : World) : Prop := e = .returned (.tuple #[]) ∧ HashOf w' P t ∧ w.grownBy w' (some P)
theorem hash_write (w : World) (P : Nat) (t u : List UInt8) (hP : HashOf w P t) (hu : 64 + u.length ≤ 9223372036854775807) :
    Calls Tryz.prog 212 #[.pointer (some ⟨P, 0, none⟩), S u] w (TookIs P (t ++ u) w) := by
  have hr := shaS_rest t
  refine (code_write w P (shaS t).1 (shaS t).2 u (t.length % 18446744073709551616) hP (shaS_len t) (shaS_small t) (Nat.mod_lt _ (by omega)) (by omega)).mono ?_
  rintro e w' ⟨h1, h2, h3⟩
  refine ⟨h1, ?_, h3⟩
  unfold HashOf
  have e1 : shaS (t ++ u) = absorb ((shaS t).2.length + u.length) (shaS t).1 ((shaS t).2 ++ u) := by
    rw [shaS_app]
    exact absorb_fuel _ _ _ _ (by rw [List.length_append]; omega) (by rw [List.length_append]; omega)
  rw [e1, show (t ++ u).length % 18446744073709551616 = (t.length % 18446744073709551616 + u.length) % 18446744073709551616 from by rw [List.length_append, Nat.mod_add_mod]]
  exact h2
theorem hash_sum (w : World) (P : Nat) (t : List UInt8) (hP : HashOf w P t) : Calls Tryz.prog 213 #[.pointer (some ⟨P, 0, none⟩)] w (Grown (S (shaL t)) w) :=
  code_hsum w P (shaS t).1 (shaS t).2 (t.length % 18446744073709551616) hP (shaS_len t) (shaS_small t) (Nat.mod_lt _ (by omega)) (shaS_rest t)

set_option maxHeartbeats 1000000 in
theorem sha_sum (w : World) (t : List UInt8) (ht : 64 + t.length ≤ 9223372036854775807) : Calls Tryz.prog 162 #[S t] w (Grown (S (shaL t)) w) := by
  have A1 := fun (W : World) (P : Nat) (hP : HashOf W P []) => hash_write W P [] t hP ht
  have A2 := fun (W : World) (P : Nat) (hP : HashOf W P t) => hash_sum W P t hP
  rw [List.nil_append] at A1
  generalize shaL t = V at *
  unfold S at *
  go_enter Tryz.func162, Tryz.ntmps162
  go_wp2_with fail
  (with_reducible refine (hash_new _).mono ?_)
  rintro e x1 ⟨P, rfl, hP, hg1, hPw⟩
  have A3 := A1 x1 P hP
  have HG1 := Lib.hid hg1
  clear hP A1 hg1
  go_wp2_with fail
  (with_reducible refine A3.mono ?_)
  rintro e x2 ⟨rfl, hP2, hg2⟩
  have A4 := A2 x2 P hP2
  have HG2 := Lib.hid (grow_trans_new HG1.out hg2 hPw)
  clear hP2 A2 A3 hg2
  go_wp2_with fail
  (with_reducible refine A4.mono ?_)
  rintro e x3 ⟨rfl, hg3⟩
  go_wp2_with fail
  go_ret
  exact ⟨rfl, grow_trans HG2.out hg3⟩

end Go.Proofs.YtmomfbkpniblgaaGreatDoor
