/- BLAKE2s: the sum of a text by a key. -/
import Derived.Test.YtmomfbkpniblgaaGreatDoorDgBlBlock
import Derived.Test.YtmomfbkpniblgaaGreatDoorDg07
namespace Go.Proofs.YtmomfbkpniblgaaGreatDoor
open Go.RowKit
set_option linter.unusedVariables false

theorem leD_snoc (s : List Nat) (i : Nat) (h : i < s.length) : leD (s.take (i + 1)) = leD (s.take i) ++ leB (s.getD i 0) 4 := by
  rw [List.take_succ_eq_append_getElem h]
  unfold leD
  rw [List.flatMap_append, List.getD_eq_getElem?_getD, List.getElem?_eq_getElem h]
  simp
def strLen : Value → Nat
  | .string b => b.size
  | _ => 0
/-- What is left of the blocks but the last. -/
def BlDoing (h : List Nat) (u : List UInt8) (a : Nat) (X : List Nat × List UInt8 × Nat) : Prop := ∃ f, u.length ≤ 64 * f ∧ blLoop f h u a = X
theorem BlDoing.more {h : List Nat} {u : List UInt8} {a : Nat} {X : List Nat × List UInt8 × Nat} (k : BlDoing h u a X) (hr : 64 < u.length) : BlDoing (blBlock h (u.take 64) (a + 64) false) (u.drop 64) (a + 64) X := by
  obtain ⟨f, h1, h2⟩ := k
  cases f with
  | zero => omega
  | succ f =>
    rw [blLoop, if_pos hr] at h2
    exact ⟨f, by rw [List.length_drop]; omega, h2⟩
theorem BlDoing.done {h : List Nat} {u : List UInt8} {a : Nat} {X : List Nat × List UInt8 × Nat} (k : BlDoing h u a X) (hr : ¬ 64 < u.length) : X = (h, u, a) := by
  obtain ⟨f, h1, h2⟩ := k
  cases f with
  | zero => exact h2.symm
  | succ f =>
    rw [blLoop, if_neg hr] at h2
    exact h2.symm
theorem blBlock_small (h : List Nat) (b : List UInt8) (many : Nat) (last : Bool) (hl : h.length = 8) (hs : Small32 h) (hm : many < 18446744073709551616) : Small32 (blBlock h b many last) := by
  intro x hx
  unfold blBlock at hx
  simp only at hx
  obtain ⟨i, hi, rfl⟩ := List.mem_map.1 hx
  have ok := blRounds_ok (blStart_ok h hl hs many hm last) (blWords b 16) 10
  exact xor32_lt (getD_lt hs i) (xor32_lt (getD_lt ok.2 i) (getD_lt ok.2 (i + 8)))
theorem bl_text_length (key s : List UInt8) (hk : key.length ≤ 32) : (blText key s).length ≤ s.length + 64 := by
  unfold blText
  split
  · omega
  · simp; omega

set_option maxRecDepth 20000 in
set_option maxHeartbeats 4000000 in
theorem code_blsum (w : World) (key s : List UInt8) (many : Nat) (hk : key.length ≤ 32) (m1 : 1 ≤ many) (m2 : many ≤ 32) (hs : s.length ≤ 9223372036854775000) :
    Calls Tryz.prog 161 #[S key, S s, .int .i64 (many : Int)] w (Grown (.tuple #[S (blL key s many), .int .i64 0]) w) := by
  obtain ⟨X, hX⟩ : ∃ X, X = blLoop (blText key s).length (blFirst key.length many) (blText key s) 0 := ⟨_, rfl⟩
  have hD : BlDoing (blFirst key.length many) (blText key s) 0 X := ⟨(blText key s).length, by omega, hX.symm⟩
  have hfin : blL key s many = (leD (blBlock X.1 (X.2.1 ++ List.replicate (64 - X.2.1.length) 0) (X.2.2 + X.2.1.length) true)).take many := by unfold blL; rw [← hX]
  rw [hfin]
  obtain ⟨V, hV⟩ : ∃ V, V = (leD (blBlock X.1 (X.2.1 ++ List.replicate (64 - X.2.1.length) 0) (X.2.2 + X.2.1.length) true)).take many := ⟨_, rfl⟩
  rw [← hV]
  obtain ⟨kl, hkl, lkl⟩ : ∃ kl : Nat, kl = key.length * 256 ∧ kl < 4294967296 := ⟨_, rfl, by omega⟩
  obtain ⟨n1, e1, l1⟩ := nameXor 16842752 kl (by omega) lkl
  obtain ⟨n2, e2, l2⟩ := nameXor n1 many l1 (by omega)
  obtain ⟨n3, e3, l3⟩ := nameXor 1779033703 n2 (by omega) l2
  have hF : blFirst key.length many = [n3, 3144134277, 1013904242, 2773480762, 1359893119, 2600822924, 528734635, 1541459225] := by
    unfold blFirst
    rw [show shaI.getD 0 0 = 1779033703 from rfl, ← hkl, e1.1, e2.1, e3.1]
    rfl
  rw [hF] at hD
  have hFc : ([n3, 3144134277, 1013904242, 2773480762, 1359893119, 2600822924, 528734635, 1541459225] : List Nat).map c32 = [.int .u32 (n3 : Int), .int .u32 3144134277, .int .u32 1013904242, .int .u32 2773480762, .int .u32 1359893119, .int .u32 2600822924, .int .u32 528734635, .int .u32 1541459225] := by
    simp only [c32, List.map_cons, List.map_nil, Int.cast_ofNat_Int]
  have sF : Small32 [n3, 3144134277, 1013904242, 2773480762, 1359893119, 2600822924, 528734635, 1541459225] := by
    intro x hx
    simp only [List.mem_cons, List.not_mem_nil, or_false] at hx
    rcases hx with rfl | rfl | rfl | rfl | rfl | rfl | rfl | rfl <;> omega
  obtain ⟨h0, hh0⟩ : ∃ h0, h0 = [n3, 3144134277, 1013904242, 2773480762, 1359893119, 2600822924, 528734635, 1541459225] := ⟨_, rfl⟩
  rw [← hh0] at hD sF hFc
  have lF : h0.length = 8 := by rw [hh0]; rfl
  have lT := bl_text_length key s hk
  obtain ⟨-, e1⟩ := e1
  obtain ⟨-, e2⟩ := e2
  obtain ⟨-, e3⟩ := e3
  replace e1 : bits .xor .u32 16842752 (kl : Int) = (n1 : Int) := e1
  replace e3 : bits .xor .u32 1779033703 (n2 : Int) = (n3 : Int) := e3
  have k1 : ¬ ((many : Int) < 1) := by omega
  have k2 : ¬ ((32 : Int) < (many : Int)) := by omega
  have k3 : ¬ ((32 : Int) < (key.length : Int)) := by omega
  have q1 : ((key.length : Int)) % 4294967296 = (key.length : Int) := by omega
  have q2 : ((many : Int)) % 4294967296 = (many : Int) := by omega
  have q3 : ((key.length : Int)) * 256 % 4294967296 = (kl : Int) := by omega
  have q3' : ((key.length : Int)) * 256 = (kl : Int) := by omega
  have q4 : IntKind.u32.wrap (key.length : Int) = (key.length : Int) := IntWalk.u32_in _ (by omega)
  have q5 : IntKind.u32.wrap (many : Int) = (many : Int) := IntWalk.u32_in _ (by omega)
  have HD := Lib.hid hD
  have HV := Lib.hid hV
  have HSF := Lib.hid sF
  have HFC := Lib.hid hFc
  have HLF := Lib.hid lF
  clear hkl hX hD hfin hV hF hh0 sF hFc lF
  unfold S
  go_enter Tryz.func161, Tryz.ntmps161
  go_wp2_with fail
  (with_reducible refine (code_iv _).mono ?_)
  rintro e x1 ⟨rfl, hg1⟩
  have HG1 := Lib.hid hg1
  clear hg1
  go_upto_region 5 with (fail)
  clear e1 e2 e3 k1 k2 k3 q1 q2 q3 q3' q4 q5
  obtain ⟨H, hH⟩ : ∃ H, H = x1.heap.size := ⟨_, rfl⟩
  obtain ⟨y, hy⟩ : ∃ y, y = x1.alloc (.cells #[.int .u32 (n3 : Int), .int .u32 3144134277, .int .u32 1013904242, .int .u32 2773480762, .int .u32 1359893119, .int .u32 2600822924, .int .u32 528734635, .int .u32 1541459225] 289) := ⟨_, rfl⟩
  have bH : HB y H 289 h0 := by rw [hy, hH]; unfold HB; rw [HFC.out]; exact obj_new _ _
  have hgy : w.grownBy y none := by rw [hy]; exact grow_alloc HG1.out _
  have hHw : w.heap.size ≤ H := by rw [hH]; exact HG1.out.size
  rw [← hH, ← hy]
  have HBH := Lib.hid bH
  have HGY := Lib.hid hgy
  clear hH hy bH hgy HFC
  have r1 := rule_app
  have r2 := rule_ext
  have key_cases : (key = [] ∧ blText key s = s) ∨ (key ≠ [] ∧ blText key s = key ++ zerosL (64 - key.length) ++ s) := by
    by_cases h : key = []
    · left; exact ⟨h, by unfold blText; rw [if_pos h]⟩
    · right; exact ⟨h, by unfold blText; rw [if_neg h]; rfl⟩
  obtain ⟨T, hT⟩ : ∃ T, T = blText key s := ⟨_, rfl⟩
  rw [← hT] at lT HD key_cases
  clear hT
  rcases key_cases with ⟨rfl, rfl⟩ | ⟨hne, hTT⟩
  all_goals
    first
      | (have hne1 : key.isEmpty = false := by rw [List.isEmpty_eq_false_iff]; exact hne
         have hne2 : (!key.isEmpty) = true := by rw [hne1]; rfl
         have z1 : (64 : Int) - (key.length : Int) = ((64 - key.length : Nat) : Int) := by omega
         have lz := zerosL_length (64 - key.length)
         have AR : ∀ W : World, Calls Tryz.prog 62 #[.string ⟨#[0]⟩, .int .i64 ((64 - key.length : Nat) : Int)] W (Grown (S (zerosL (64 - key.length))) W) := fun W => repeat_zero W (64 - key.length) (by omega)
         rw [List.append_assoc] at hTT
         have HTT := Lib.hid hTT
         have lk : key.length + (zerosL (64 - key.length)).length ≤ 9223372036854775807 := by rw [lz]; omega
         have lk2 : (key ++ zerosL (64 - key.length)).length + s.length ≤ 9223372036854775807 := by rw [List.length_append, lz]; omega
         have lk3 : key.length + (zerosL (64 - key.length)).length + s.length ≤ 9223372036854775807 := by rw [lz]; omega
         clear hTT lz
         unfold S at AR
         go_wp2_with fail
         (with_reducible refine (AR _).mono ?_)
         rintro e x2 ⟨rfl, hg2⟩
         have HBH := Lib.hid (show HB x2 H 289 h0 from Blk.kept HBH.out hg2 nofun)
         have HGY := Lib.hid (grow_trans HGY.out hg2)
         clear hg2
         go_upto_region 7 with (fail)
         rw [← HTT.out]
         clear hne1 hne2 z1 AR HTT lk lk2 lk3 hne)
      | (go_upto_region 7 with (fail)
         obtain ⟨x2, hx2⟩ : ∃ x2, x2 = y := ⟨_, rfl⟩
         rw [← hx2]
         rw [← hx2] at HBH HGY
         clear hx2)
  all_goals
    have lT' : T.length ≤ 9223372036854775100 := by omega
    clear lT
    go_wp2_with fail
    go_loopw [1, 9] (fun v1 v9 wr => ∃ (h' : List Nat) (u : List UInt8) (a : Nat), v1 = .string ⟨u.toArray⟩ ∧ v9 = .int .u64 (a : Int) ∧ Hid (HB wr H 289 h') ∧ Hid (h'.length = 8) ∧ Hid (Small32 h') ∧ Hid (BlDoing h' u a X) ∧ u.length ≤ 9223372036854775100 ∧ a + u.length ≤ 9223372036854775100 ∧ Hid (w.grownBy wr none)) (fun v1 _ _ => strLen v1)
    case atStart => exact ⟨h0, T, 0, rfl, rfl, HBH, HLF, HSF, HD, lT', by omega, HGY⟩
    case round =>
      clear HBH HLF HSF HD HGY lT'
      obtain ⟨h', u, a, rfl, rfl, hB, hl, hsm, hD, lu, la, hg⟩ := hrel
      obtain ⟨a0, a1, a2, a3, a4, a5, a6, a7, es⟩ := eight hl.out
      have hB0 := hB.out
      rw [es] at hB0
      obtain ⟨c0, c1, c2, c3, c4, c5, c6, c7⟩ := hB0.eight
      have hA : A32 h' = .agg #[.int .u32 (a0 : Int), .int .u32 (a1 : Int), .int .u32 (a2 : Int), .int .u32 (a3 : Int), .int .u32 (a4 : Int), .int .u32 (a5 : Int), .int .u32 (a6 : Int), .int .u32 (a7 : Int)] := by rw [es]; rfl
      have ES := Lib.hid es
      clear hB0 es
      by_cases hlt : 64 < u.length
      · have A1 : ∀ W : World, Calls Tryz.prog 210 #[A32 h', S (u.take 64), .int .u64 ((a : Int) + 64), .bool false] W (Grown (A32 (blBlock h' (u.take 64) (a + 64) false)) W) := fun W => by
          have := code_block W h' (u.take 64) (a + 64) false hl.out hsm.out (by rw [List.length_take]; omega) (by omega)
          rw [show (((a + 64 : Nat)) : Int) = (a : Int) + 64 from by omega] at this
          exact this
        have hD2 := Lib.hid (hD.out.more hlt)
        have lT := blBlock_length h' (u.take 64) (a + 64) false
        have sT := Lib.hid (blBlock_small h' (u.take 64) (a + 64) false hl.out hsm.out (by omega))
        generalize blBlock h' (u.take 64) (a + 64) false = T' at *
        obtain ⟨b0, b1, b2, b3, b4, b5, b6, b7, eT⟩ := eight lT
        have hT : A32 T' = .agg #[.int .u32 (b0 : Int), .int .u32 (b1 : Int), .int .u32 (b2 : Int), .int .u32 (b3 : Int), .int .u32 (b4 : Int), .int .u32 (b5 : Int), .int .u32 (b6 : Int), .int .u32 (b7 : Int)] := by rw [eT]; rfl
        rw [hA, hT] at A1
        unfold S at A1
        have ET := Lib.hid eT
        have LT := Lib.hid lT
        clear hA hT eT lT
        have q1 : (64 : Int) < (u.length : Int) := by omega
        have q2 : decide ((64 : Int) < (u.length : Int)) = true := by simpa using q1
        have q3 : (64 : Int) ≤ (u.length : Int) := by omega
        have hrest : List.take (u.length - 64) (List.drop 64 u) = u.drop 64 := List.take_of_length_le (by rw [List.length_drop]; omega)
        go_wp2_with fail
        go_region_with (first
          | (go_at_call 210; (with_reducible refine (A1 _).mono ?_); rintro e x3 ⟨rfl, hg1⟩; have hH1 := Blk.kept (hb_drew hB.out) hg1 nofun; have k0 := Blk.frozen hH1 0; have k1 := Blk.frozen hH1 1; have k2 := Blk.frozen hH1 2; have k3 := Blk.frozen hH1 3; have k4 := Blk.frozen hH1 4; have k5 := Blk.frozen hH1 5; have k6 := Blk.frozen hH1 6; have k7 := Blk.frozen hH1 7; have hq := hH1; rw [ES.out] at hq; obtain ⟨n0, n1, n2, n3, n4, n5, n6, n7⟩ := HB.eight hq; clear hq))
        all_goals
          have h3 : HB ((((((((x3.setCell ⟨H, 0, none⟩ (.int .u32 (b0 : Int))).setCell ⟨H, 1, none⟩ (.int .u32 (b1 : Int))).setCell ⟨H, 2, none⟩ (.int .u32 (b2 : Int))).setCell ⟨H, 3, none⟩ (.int .u32 (b3 : Int))).setCell ⟨H, 4, none⟩ (.int .u32 (b4 : Int))).setCell ⟨H, 5, none⟩ (.int .u32 (b5 : Int))).setCell ⟨H, 6, none⟩ (.int .u32 (b6 : Int))).setCell ⟨H, 7, none⟩ (.int .u32 (b7 : Int))) H 289 T' := by
            have hq : HB x3 H 289 [a0, a1, a2, a3, a4, a5, a6, a7] := by have := hH1; rw [ES.out] at this; exact this
            rw [ET.out]
            exact (((((((hq.set 0 b0).set 1 b1).set 2 b2).set 3 b3).set 4 b4).set 5 b5).set 6 b6).set 7 b7
          have hg3 : w.grownBy ((((((((x3.setCell ⟨H, 0, none⟩ (.int .u32 (b0 : Int))).setCell ⟨H, 1, none⟩ (.int .u32 (b1 : Int))).setCell ⟨H, 2, none⟩ (.int .u32 (b2 : Int))).setCell ⟨H, 3, none⟩ (.int .u32 (b3 : Int))).setCell ⟨H, 4, none⟩ (.int .u32 (b4 : Int))).setCell ⟨H, 5, none⟩ (.int .u32 (b5 : Int))).setCell ⟨H, 6, none⟩ (.int .u32 (b6 : Int))).setCell ⟨H, 7, none⟩ (.int .u32 (b7 : Int))) none :=
            grow_setCell_new (grow_setCell_new (grow_setCell_new (grow_setCell_new (grow_setCell_new (grow_setCell_new (grow_setCell_new (grow_setCell_new (grow_trans (grow_drew hg.out) hg1) _ hHw _) _ hHw _) _ hHw _) _ hHw _) _ hHw _) _ hHw _) _ hHw _) _ hHw _
          have H3 := Lib.hid h3
          have HG3 := Lib.hid hg3
          clear h3 hg3 n0 n1 n2 n3 n4 n5 n6 n7 k0 k1 k2 k3 k4 k5 k6 k7 hH1 hg1 hg hB hD
          generalize ((((((((x3.setCell ⟨H, 0, none⟩ (.int .u32 (b0 : Int))).setCell ⟨H, 1, none⟩ (.int .u32 (b1 : Int))).setCell ⟨H, 2, none⟩ (.int .u32 (b2 : Int))).setCell ⟨H, 3, none⟩ (.int .u32 (b3 : Int))).setCell ⟨H, 4, none⟩ (.int .u32 (b4 : Int))).setCell ⟨H, 5, none⟩ (.int .u32 (b5 : Int))).setCell ⟨H, 6, none⟩ (.int .u32 (b6 : Int))).setCell ⟨H, 7, none⟩ (.int .u32 (b7 : Int))) = x5 at *
          clear A1 c0 c1 c2 c3 c4 c5 c6 c7
          go_wp2_with fail
          go_roundw
          case rel =>
            first
              | exact ⟨T', u.drop 64, a + 64, rfl, by first | rfl | (rw [show (((a + 64 : Nat)) : Int) = (a : Int) + 64 from by omega]), H3, LT, sT, hD2, by rw [List.length_drop]; omega, by rw [List.length_drop]; omega, HG3⟩
              | ((repeat apply Exists.intro)
                 refine ⟨?_, rfl⟩
                 exact ⟨T', u.drop 64, a + 64, rfl, by first | rfl | (rw [show (((a + 64 : Nat)) : Int) = (a : Int) + 64 from by omega]), H3, LT, sT, hD2, by rw [List.length_drop]; omega, by rw [List.length_drop]; omega, HG3⟩)
          case measure =>
            show (u.drop 64).toArray.size < u.toArray.size
            rw [List.size_toArray, List.size_toArray, List.length_drop]
            omega
      · have hX := hD.out.done hlt
        have lz := zerosL_length (64 - u.length)
        have z1 : (64 : Int) - (u.length : Int) = ((64 - u.length : Nat) : Int) := by omega
        have AR : ∀ W : World, Calls Tryz.prog 62 #[.string ⟨#[0]⟩, .int .i64 ((64 - u.length : Nat) : Int)] W (Grown (S (zerosL (64 - u.length))) W) := fun W => repeat_zero W (64 - u.length) (by omega)
        have A1 : ∀ W : World, Calls Tryz.prog 210 #[A32 h', S (u ++ zerosL (64 - u.length)), .int .u64 ((a : Int) + (u.length : Int)), .bool true] W (Grown (A32 (blBlock h' (u ++ zerosL (64 - u.length)) (a + u.length) true)) W) := fun W => by
          have := code_block W h' (u ++ zerosL (64 - u.length)) (a + u.length) true hl.out hsm.out (by rw [List.length_append, lz]; omega) (by omega)
          rw [show (((a + u.length : Nat)) : Int) = (a : Int) + (u.length : Int) from by omega] at this
          exact this
        have hV : V = (leD (blBlock h' (u ++ zerosL (64 - u.length)) (a + u.length) true)).take many := by rw [HV.out, hX]; rfl
        have lT := blBlock_length h' (u ++ zerosL (64 - u.length)) (a + u.length) true
        have sT := Lib.hid (blBlock_small h' (u ++ zerosL (64 - u.length)) (a + u.length) true hl.out hsm.out (by omega))
        have lk : u.length + (zerosL (64 - u.length)).length ≤ 9223372036854775807 := by rw [lz]; omega
        generalize blBlock h' (u ++ zerosL (64 - u.length)) (a + u.length) true = T' at *
        generalize zerosL (64 - u.length) = Zu at *
        obtain ⟨b0, b1, b2, b3, b4, b5, b6, b7, eT⟩ := eight lT
        have hT : A32 T' = .agg #[.int .u32 (b0 : Int), .int .u32 (b1 : Int), .int .u32 (b2 : Int), .int .u32 (b3 : Int), .int .u32 (b4 : Int), .int .u32 (b5 : Int), .int .u32 (b6 : Int), .int .u32 (b7 : Int)] := by rw [eT]; rfl
        rw [hA, hT] at A1
        unfold S at A1 AR
        have ET := Lib.hid eT
        have LT := Lib.hid lT
        have HVV := Lib.hid hV
        clear hA hT eT lT hX hV lz
        have q1 : ¬ ((64 : Int) < (u.length : Int)) := by omega
        have q2 : decide ((64 : Int) < (u.length : Int)) = false := by simpa using q1
        have w1 : IntKind.u64.wrap (u.length : Int) = (u.length : Int) := IntWalk.u64_in _ (by omega)
        have w2 : IntKind.u64.wrap ((a : Int) + (u.length : Int)) = (a : Int) + (u.length : Int) := IntWalk.u64_in _ (by omega)
        have w3 : IntKind.i64.wrap ((64 - u.length : Nat) : Int) = ((64 - u.length : Nat) : Int) := IntWalk.i64_in _ (by omega)
        go_wp2_with fail
        go_region_with (first
          | (go_at_call 62; (with_reducible refine (AR _).mono ?_); rintro e xr ⟨rfl, hgr⟩; have hHr := Blk.kept (hb_drew hB.out) hgr nofun; have hqr := hHr; rw [ES.out] at hqr; obtain ⟨m0, m1, m2, m3, m4, m5, m6, m7⟩ := HB.eight hqr; clear hqr)
          | (go_at_call 210; (with_reducible refine (A1 _).mono ?_); rintro e x3 ⟨rfl, hg1⟩; have hH1 := Blk.kept hHr hg1 nofun; have k0 := Blk.frozen hH1 0; have k1 := Blk.frozen hH1 1; have k2 := Blk.frozen hH1 2; have k3 := Blk.frozen hH1 3; have k4 := Blk.frozen hH1 4; have k5 := Blk.frozen hH1 5; have k6 := Blk.frozen hH1 6; have k7 := Blk.frozen hH1 7; have hq := hH1; rw [ES.out] at hq; obtain ⟨n0, n1, n2, n3, n4, n5, n6, n7⟩ := HB.eight hq; clear hq))
        all_goals
          have h3 : HB ((((((((x3.setCell ⟨H, 0, none⟩ (.int .u32 (b0 : Int))).setCell ⟨H, 1, none⟩ (.int .u32 (b1 : Int))).setCell ⟨H, 2, none⟩ (.int .u32 (b2 : Int))).setCell ⟨H, 3, none⟩ (.int .u32 (b3 : Int))).setCell ⟨H, 4, none⟩ (.int .u32 (b4 : Int))).setCell ⟨H, 5, none⟩ (.int .u32 (b5 : Int))).setCell ⟨H, 6, none⟩ (.int .u32 (b6 : Int))).setCell ⟨H, 7, none⟩ (.int .u32 (b7 : Int))) H 289 T' := by
            have hq : HB x3 H 289 [a0, a1, a2, a3, a4, a5, a6, a7] := by have := hH1; rw [ES.out] at this; exact this
            rw [ET.out]
            exact (((((((hq.set 0 b0).set 1 b1).set 2 b2).set 3 b3).set 4 b4).set 5 b5).set 6 b6).set 7 b7
          have hg3 : w.grownBy ((((((((x3.setCell ⟨H, 0, none⟩ (.int .u32 (b0 : Int))).setCell ⟨H, 1, none⟩ (.int .u32 (b1 : Int))).setCell ⟨H, 2, none⟩ (.int .u32 (b2 : Int))).setCell ⟨H, 3, none⟩ (.int .u32 (b3 : Int))).setCell ⟨H, 4, none⟩ (.int .u32 (b4 : Int))).setCell ⟨H, 5, none⟩ (.int .u32 (b5 : Int))).setCell ⟨H, 6, none⟩ (.int .u32 (b6 : Int))).setCell ⟨H, 7, none⟩ (.int .u32 (b7 : Int))) none :=
            grow_setCell_new (grow_setCell_new (grow_setCell_new (grow_setCell_new (grow_setCell_new (grow_setCell_new (grow_setCell_new (grow_setCell_new (grow_trans (grow_trans (grow_drew hg.out) hgr) hg1) _ hHw _) _ hHw _) _ hHw _) _ hHw _) _ hHw _) _ hHw _) _ hHw _) _ hHw _
          have H3 := Lib.hid h3
          have HG3 := Lib.hid hg3
          clear h3 hg3 n0 n1 n2 n3 n4 n5 n6 n7 m0 m1 m2 m3 m4 m5 m6 m7 k0 k1 k2 k3 k4 k5 k6 k7 hHr hgr hH1 hg1 hg hB hD
          generalize ((((((((x3.setCell ⟨H, 0, none⟩ (.int .u32 (b0 : Int))).setCell ⟨H, 1, none⟩ (.int .u32 (b1 : Int))).setCell ⟨H, 2, none⟩ (.int .u32 (b2 : Int))).setCell ⟨H, 3, none⟩ (.int .u32 (b3 : Int))).setCell ⟨H, 4, none⟩ (.int .u32 (b4 : Int))).setCell ⟨H, 5, none⟩ (.int .u32 (b5 : Int))).setCell ⟨H, 6, none⟩ (.int .u32 (b6 : Int))).setCell ⟨H, 7, none⟩ (.int .u32 (b7 : Int))) = x5 at *
          clear A1 AR c0 c1 c2 c3 c4 c5 c6 c7 q1 q2 w1 w2 w3 z1 lk r1 r2
          have h4 := H3.out
          rw [ET.out] at h4
          obtain ⟨d0, d1, d2, d3, d4, d5, d6, d7⟩ := h4.eight
          have ix : ∀ (W : World) (i : Nat), i < 8 → (Instr.index 289 (.agg #[.int .u32 (b0 : Int), .int .u32 (b1 : Int), .int .u32 (b2 : Int), .int .u32 (b3 : Int), .int .u32 (b4 : Int), .int .u32 (b5 : Int), .int .u32 (b6 : Int), .int .u32 (b7 : Int)]) (.int .i64 (i : Int))).run Tryz.prog W = .ok (.int .u32 ((T'.getD i 0 : Nat) : Int)) W := fun W i hi =>
            run_index_one W 289 33 8 _ i _ Tryz.underlying289 info_u32 (by kernel_rfl) hi (by
              have : (#[.int .u32 (b0 : Int), .int .u32 (b1 : Int), .int .u32 (b2 : Int), .int .u32 (b3 : Int), .int .u32 (b4 : Int), .int .u32 (b5 : Int), .int .u32 (b6 : Int), .int .u32 (b7 : Int)] : Array Value) = (T'.map c32).toArray := by rw [ET.out]; rfl
              rw [this, List.getElem?_toArray, List.getElem?_map, getD_some T' i (by rw [LT.out]; exact hi)]
              rfl)
          have IX := Lib.hid ix
          have HBR := Lib.hid (brow_nil x5 x5.heap.size)
          clear h4 ix
          go_wp2_with fail
          clear d0 d1 d2 d3 d4 d5 d6 d7
          go_loopw [10, 73] (fun v10 v73 wr => ∃ i : Nat, i ≤ 8 ∧ v73 = .int .i64 i ∧ Hid (brow wr x5.heap.size v10 (leD (T'.take i))) ∧ Hid (Below x5.heap.size x5 wr)) (fun _ v73 _ => 8 - (intOf v73).toNat)
          case atStart => exact ⟨0, by omega, rfl, HBR, Lib.hid (Below.refl _ _)⟩
          case round =>
            clear HBR
            obtain ⟨i, hi, rfl, hb, hbl⟩ := hrel
            by_cases hli : i < 8
            · have ix := fun W => IX.out W i hli
              have ls := getD_lt sT.out i
              have hsn := leD_snoc T' i (by rw [LT.out]; exact hli)
              have A1 := wire_appendLittle wr x5.heap.size u10 (leD (T'.take i)) (T'.getD i 0) 4 hb.out (by omega) (by omega) (by rw [leD_length, List.length_take]; omega) hbl.out.size
              rw [← hsn] at A1
              have A2 : Calls Tryz.prog 96 #[u10, .int .u64 ((T'.getD i 0 : Nat) : Int), .int .i64 4] wr (OwnBytesN wr x5.heap.size (leD (T'.take (i + 1)))) := A1
              clear hsn A1
              generalize T'.getD i 0 = n at *
              have wn : IntKind.u64.wrap (n : Int) = (n : Int) := IntWalk.u64_in _ (by omega)
              have hdi : decide ((i : Int) < 8) = true := by simp; omega
              go_wp2_with fail
              (with_reducible refine A2.mono ?_)
              rintro e x6 ⟨v', rfl, hb2, hbl2⟩
              have HB2 := Lib.hid hb2
              have HL2 := Lib.hid (hbl.out.trans hbl2)
              clear A2 hb hbl hb2 hbl2 ix
              go_wp2_with fail
              go_roundw
              case rel => exact ⟨i + 1, by omega, by go_num, HB2, HL2⟩
              case measure => simp [intOf]; omega
            · obtain rfl : i = 8 := by omega
              have hbb := hb.out
              rw [List.take_of_length_le (by rw [LT.out]; omega)] at hbb
              have lD : (leD T').length = 32 := by rw [leD_length, LT.out]
              have hbro := brow_bro hbb (Nat.le_refl _) (by intro e; rw [e] at lD; simp at lD)
              obtain ⟨g, cap, hv, kk1, kk2, kk3, kk4, h5, h6⟩ := hbro
              have hpre : Bys wr g ((leD T').take many) := fun j hj => by
                have hj' : j < (leD T').length := by rw [List.length_take] at hj; omega
                refine ⟨?_, (h5 j hj').2⟩
                rw [(h5 j hj').1, List.getElem_take]
              have lM : ((leD T').take many).length = many := by rw [List.length_take, lD]; omega
              have hcv := conv_bys hpre cap
              rw [lM, ← HVV.out] at hcv
              have hfin := Lib.hid (grow_trans HG3.out (grow_of_below hbl.out))
              subst hv
              rw [lD]
              have c1 : (many : Int) ≤ (cap : Int) := by omega
              have c2 : (0 : Int) ≤ (many : Int) := by omega
              have c3 : (cap : Int) ≤ 9223372036854775807 := by unfold maxLen at kk4; omega
              clear hb hbl hbb h5 h6 hpre lM lD IX
              go_wp2_with fail
              go_ret2
              exact ⟨rfl, hfin.out⟩

end Go.Proofs.YtmomfbkpniblgaaGreatDoor
