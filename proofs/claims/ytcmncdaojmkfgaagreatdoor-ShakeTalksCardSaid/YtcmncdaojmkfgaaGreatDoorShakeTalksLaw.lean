/- The walk of ShakeTalks. -/
import Derived.Test.YtcmncdaojmkfgaaGreatDoorShakeMeetsLaw
import Derived.Test.YtcmncdaojmkfgaaGreatDoorV43
import Derived.Test.YtcmncdaojmkfgaaGreatDoorV39
namespace Go.Proofs.YtcmncdaojmkfgaaGreatDoor
open Go.RowKit
set_option linter.unusedVariables false

theorem min60T (n : Nat) : ∃ k : Nat, k ≤ 60 ∧ k ≤ n ∧ (if (60 : Int) < (n : Int) then (60 : Int) else (n : Int)) = (k : Int) ∧ min (n : Int) 60 = (k : Int) :=
  ⟨min n 60, by omega, by omega, by split <;> omega, by omega⟩
/-- Where two sessions stand: what each has sealed the other one has opened. -/
structure Talk (w : World) (a A b B : Nat) (x y : List UInt8) (su sa sb : Nat) : Prop where
  two : ∃ na nb ma mb, TwoAt w a A b B x y su sa sb na nb ma mb ∧ (0 ≤ na ∧ na ≤ 1099511627777 ∧ ma < 18446744073709551616) ∧ (0 ≤ nb ∧ nb ≤ 1099511627777 ∧ mb < 18446744073709551616) ∧
    (∃ seen, WnJust na ma 0 seen ∧ ∀ z : Int, (sb : Int) ≤ z → seen z = false) ∧ (∃ seen, WnJust nb mb 0 seen ∧ ∀ z : Int, (sa : Int) ≤ z → seen z = false)
theorem TwoAt.new {w w' : World} {a A b B : Nat} {x y : List UInt8} {su sa sb : Nat} {na nb : Int} {ma mb : Nat} (h : TwoAt w a A b B x y su sa sb na nb ma mb) (g : w.grownBy w' none) : TwoAt w' a A b B x y su sa sb na nb ma mb :=
  ⟨h.pa.kept g nofun, h.pb.kept g nofun, h.wa.kept g nofun, h.wb.kept g nofun⟩
theorem Talk.new {w w' : World} {a A b B : Nat} {x y : List UInt8} {su sa sb : Nat} (h : Talk w a A b B x y su sa sb) (g : w.grownBy w' none) : Talk w' a A b B x y su sa sb := by
  obtain ⟨na, nb, ma, mb, h1, h2⟩ := h.two
  exact ⟨na, nb, ma, mb, h1.new g, h2⟩

set_option maxRecDepth 100000 in
set_option maxHeartbeats 8000000 in
theorem walk_ShakeTalks (c0 : Int) (s1 s2 s3 s4 s5 s6 : ByteArray) (a7 : Option Addr) (len7 cap7 : Nat) (h0 : (Lit.int .i64 c0).wf = true) (w1 : s1.size ≤ maxLen) (w2 : s2.size ≤ maxLen) (w3 : s3.size ≤ maxLen) (w4 : s4.size ≤ maxLen) (w5 : s5.size ≤ maxLen) (w6 : s6.size ≤ maxLen) (w : World) (r7 : IsRecs [.str] w a7 len7 cap7) :
    Calls Tryz.prog 5 #[.agg #[.int .i64 c0, .string s1, .string s2, .string s3], .string s4, .string s5, .string s6, .slice a7 len7 cap7] w fun e w' => e = .returned (.bool true) ∧ Below w.heap.size w w' := by
  obtain ⟨cown, rfl, e1⟩ := list_of s1
  obtain ⟨cpeer, rfl, e2⟩ := list_of s2
  obtain ⟨cpsk, rfl, e3⟩ := list_of s3
  obtain ⟨peer, rfl, e4⟩ := list_of s4
  obtain ⟨once, rfl, e5⟩ := list_of s5
  obtain ⟨other, rfl, e6⟩ := list_of s6
  rw [← e1] at w1
  rw [← e3] at w3
  rw [← e4] at w4
  rw [← e5] at w5
  rw [← e6] at w6
  obtain ⟨t, o, AM⟩ := met_law c0 2 2 cown cpeer cpsk peer once other 1 2 w1 w3 w4 w5 w6 h0 rfl rfl rfl rfl
  have l1 : t.k1.length = 32 := mk1_length _ _ _
  have l2 : t.k2.length = 32 := mk2_length _ _ _
  obtain ⟨ha, hb⟩ := wf_i64_of h0
  obtain ⟨r, hr, R⟩ := rest_nat c0 2 2 rfl ha hb (by decide) (by decide)
  obtain ⟨su, hsu⟩ : ∃ su, su = 1 + r := ⟨_, rfl⟩
  have h12 : su = 1 ∨ su = 2 := by omega
  have eu : 1 + (r : Int) = (su : Int) := by omega
  have wu : IntKind.i64.wrap (1 + (r : Int)) = (su : Int) := by rw [eu]; exact IntWalk.i64_in _ (by omega)
  obtain ⟨⟨lc7, cm7⟩, ss, hss, hat, hsl⟩ := strs_of r7
  have gb := World.grownBy_alloc w (.cells #[.int .i64 c0, S cown, S cpeer, S cpsk] 23) none
  have AM1 := AM (w.alloc (.cells #[.int .i64 c0, S cown, S cpeer, S cpsk] 23))
  unfold MetTo at AM1
  have HC := Lib.hid (Blk.new w 23 [.int .i64 c0, S cown, S cpeer, S cpsk])
  have HGB := Lib.hid gb
  have HAT := Lib.hid hat
  have HSS := Lib.hid hss
  have H12 := Lib.hid h12
  unfold maxLen at cm7
  clear AM o w1 w2 w3 w4 w5 w6 e1 e2 e3 e4 e5 e6 h0 ha hb hsu h12 r7 gb hat hsl hss eu
  generalize t.first = first at *
  generalize t.second = second at *
  generalize t.k1 = k1 at *
  generalize t.k2 = k2 at *
  have L1 := Lib.hid l1
  have L2 := Lib.hid l2
  have A3 := fun W : World => code_prnew W su H12.out k1 k2 l1 l2 true
  have A4 := fun W : World => code_prnew W su H12.out k2 k1 l2 l1 false
  obtain ⟨N, n60, nle, nm1, nm2⟩ := min60T len7
  clear l1 l2
  unfold S at *
  go_enter Tryz.func5, Tryz.ntmps5
  go_wp2_with fail
  (with_reducible refine AM1.mono ?_)
  rintro e y ⟨rfl, g⟩
  have HG := Lib.hid (grow_trans HGB.out g)
  have hcf := HC.out.kept g (by simp)
  have c0' : y.cell? ⟨w.heap.size, 0, none⟩ = some (.int .i64 c0) := hcf.cell 0
  have c0'' : ((y.alloc (.cells #[.string ⟨k1.toArray⟩, .string ⟨k2.toArray⟩] 26)).alloc (.cells #[.string ⟨k2.toArray⟩, .string ⟨k1.toArray⟩] 26)).cell? ⟨w.heap.size, 0, none⟩ = some (.int .i64 c0) := obj_cell (obj_alloc (obj_alloc hcf)) 0
  have hlt0 : w.heap.size < y.heap.size := hcf.lt
  clear g AM1 HC hcf
  go_wp2_with fail
  (with_reducible refine (R _).mono ?_)
  rintro e z ⟨rfl, rfl⟩
  have hk0 := obj_alloc (o' := .cells #[.string ⟨k2.toArray⟩, .string ⟨k1.toArray⟩] 26) (obj_new y (.cells #[.string ⟨k1.toArray⟩, .string ⟨k2.toArray⟩] 26))
  have hk1 := obj_new (y.alloc (.cells #[.string ⟨k1.toArray⟩, .string ⟨k2.toArray⟩] 26)) (.cells #[.string ⟨k2.toArray⟩, .string ⟨k1.toArray⟩] 26)
  rw [World.size_alloc] at hk1
  have d0 := obj_cell hk0 0
  have d1 := obj_cell hk0 1
  have HG1 := Lib.hid (grow_alloc (grow_alloc HG.out (.cells #[.string ⟨k1.toArray⟩, .string ⟨k2.toArray⟩] 26)) (.cells #[.string ⟨k2.toArray⟩, .string ⟨k1.toArray⟩] 26))
  have HK1 := Lib.hid hk1
  clear R hk0 hk1 HG
  go_wp2_with fail
  (with_reducible refine (A3 _).mono ?_)
  rintro e x3 ⟨a, A, rfl, hpa, hwa, hg3, la, lA, aA⟩
  have hk1 := grow_obj hg3 HK1.out nofun
  have f0 := obj_cell hk1 0
  have f1 := obj_cell hk1 1
  have HG3 := Lib.hid (grow_trans HG1.out hg3)
  have hz1 := HG1.out.size
  have HPA := Lib.hid hpa
  have HWA := Lib.hid hwa
  clear A3 hk1 HK1 hg3 hpa hwa d0 d1 HG1
  go_wp2_with fail
  (with_reducible refine (A4 _).mono ?_)
  rintro e x4 ⟨b, B, rfl, hpb, hwb, hg4, lb, lB, bB⟩
  have HG4 := Lib.hid (grow_trans HG3.out hg4)
  have z1 := Blk.lt HPA.out
  have z2 := lt_of_obj HWA.out
  have z3 := HG3.out.size
  have HAP : Hid (Apart4 w a A b B) := Lib.hid ⟨by omega, by omega, by omega, by omega, aA, bB, by omega, by omega, by omega, by omega⟩
  have HTK : Hid (Talk x4 a A b B k1 k2 su 0 0) := Lib.hid ⟨0, 0, 0, 0, ⟨HPA.out.kept hg4 nofun, hpb, HWA.out.kept hg4 nofun, hwb⟩, ⟨by omega, by omega, by omega⟩, ⟨by omega, by omega, by omega⟩, ⟨_, WnJust.start (by omega), fun _ _ => rfl⟩, ⟨_, WnJust.start (by omega), fun _ _ => rfl⟩⟩
  clear A4 hg4 hpb hwb HG3 HPA HWA la lA aA lb lB bB z1 z2 z3 hz1 f0 f1
  go_wp2_with fail
  go_loopw [83] (fun i wr => ∃ k sa sb : Nat, k ≤ N ∧ i = .int .i64 k ∧ sa ≤ k ∧ sb ≤ k ∧ Hid (Talk wr a A b B k1 k2 su sa sb) ∧ Hid (w.grownBy wr none)) (fun i _ => N - (intOf i).toNat)
  case atStart => exact ⟨0, 0, 0, by omega, rfl, by omega, by omega, HTK, HG4⟩
  case round =>
    clear HTK HG4
    obtain ⟨k, sa, sb, hk, rfl, hsa, hsb, hT, hg⟩ := hrel
    by_cases hlt : k < N
    · have hks : k < ss.length := by rw [HSS.out]; omega
      obtain ⟨xa, hxa, hc⟩ := HAT.out k hks
      subst hxa
      have hc2 := hg.out.cell hc (by simp)
      obtain ⟨tx, htx⟩ : ∃ tx, tx = ss[k] := ⟨_, rfl⟩
      rw [← htx] at hc2
      obtain ⟨na, nb, ma, mb, h2, ⟨n0, n1, m1⟩, ⟨n2, n3, m2⟩, ⟨seenA, jA, oA⟩, ⟨seenB, jB, oB⟩⟩ := hT.out.two
      have H2 := Lib.hid h2
      unfold S at hc2
      clear hc htx hT
      rcases Nat.mod_two_eq_zero_or_one k with hm | hm
      · have r1 : (k : Int) % 2 = 0 := by omega
        have r2 : ((k : Int).tmod 2) = 0 := by rw [Int.tmod_eq_emod_of_nonneg (by omega)]; exact r1
        by_cases hlg : 2000 < tx.length
        · have q1 : ¬ ((tx.length : Int) ≤ 2000) := by omega
          have AS : Calls Tryz.prog 11 #[.pointer (some ⟨a, 0, none⟩), S tx, .int .i64 5] wr (Grown (.tuple #[.int .i64 0, S [], .int .i64 2]) wr) := code_prseal_large wr a A k1 k2 su sa H12.out true h2.pa L1.out 5 (by omega) (by omega) tx hlg
          unfold S at AS
          clear h2 hm
          go_wp2_with fail
          (with_reducible refine AS.mono ?_)
          rintro e y1 ⟨rfl, hg1⟩
          have HT1 : Hid (Talk y1 a A b B k1 k2 su sa sb) := Lib.hid ⟨⟨na, nb, ma, mb, H2.out.new hg1, ⟨n0, n1, m1⟩, ⟨n2, n3, m2⟩, ⟨seenA, jA, oA⟩, ⟨seenB, jB, oB⟩⟩⟩
          have HG1 := Lib.hid (grow_trans hg.out hg1)
          clear AS hg1
          go_wp2_with fail
          go_roundw
          case rel => exact ⟨k + 1, sa, sb, by omega, by go_num, by omega, by omega, HT1, HG1⟩
          case measure => simp [intOf]; omega
        · have AS : Calls Tryz.prog 11 #[.pointer (some ⟨a, 0, none⟩), S tx, .int .i64 5] wr (Sealed1 wr a A k1 k2 su sa true tx) := code_prseal wr a A k1 k2 su sa H12.out true h2.pa L1.out 5 (by omega) (by omega) tx (by omega)
          have hck : wnCheck nb mb (sa : Int) = 0 := by
            have := jB.check (x := (sa : Int)) (by omega) (by omega) (by omega) (by omega)
            rw [oB _ (Int.le_refl _)] at this
            exact this
          have jN := jB.take (n := (sa : Int)) (by omega) (by omega) (by omega) (by omega)
          have hok := wnTake_ok nb mb (sa : Int) n2 n3 m2
          have hck2 : wnCheck (wnTake nb mb (sa : Int)).1 (wnTake nb mb (sa : Int)).2 (sa : Int) = 11 := by
            have := jN.check (x := (sa : Int)) (by omega) (by omega) (by omega) (by omega)
            simpa using this
          have oN : ∀ z : Int, ((sa + 1 : Nat) : Int) ≤ z → (seenB z || decide (z = (sa : Int))) = false := fun z hz => by
            rw [oB z (by omega)]
            simp
            omega
          have hwf : (Lit.int .i64 (sa : Int)).wf = true := wf_i64 (by omega)
          have HCT : ∀ (y1 : World), PairAt y1 b B k2 k1 su sb false → WnAt y1 B nb mb → Calls Tryz.prog 12 #[.pointer (some ⟨b, 0, none⟩), .int .i64 (sa : Int), S (sealN su k1 sa [] tx), .int .i64 6] y1 (Opened1 y1 b B k2 k1 su sb false tx nb mb sa) := fun y1 h3 h4 =>
            code_propen y1 b B k2 k1 su sb H12.out false h3 (by have := HAP.out.bB; omega) L1.out 6 (by omega) sa (by omega) tx (by omega) nb mb h4 n2 n3 m2 hck
          have HNO : ∀ (y1 : World) (c : List UInt8), PairAt y1 b B k2 k1 su sb false → WnAt y1 B (wnTake nb mb (sa : Int)).1 (wnTake nb mb (sa : Int)).2 → Calls Tryz.prog 12 #[.pointer (some ⟨b, 0, none⟩), .int .i64 (sa : Int), S c, .int .i64 6] y1 (Grown (.tuple #[S [], .int .i64 11]) y1) := fun y1 c h3 h4 =>
            code_propen_no y1 b B k2 k1 su sb false h3 6 (by omega) sa hwf c _ _ h4 (by have := hok.1; omega) hok.2.1 hok.2.2.1 11 hck2 rfl
          unfold Sealed1 at AS
          have HCTH := Lib.hid HCT
          have HNOH := Lib.hid HNO
          generalize sealN su k1 sa [] tx = ct at *
          clear h2 hm HCT HNO hck hck2
          unfold S at AS
          go_wp2_with fail
          (with_reducible refine AS.mono ?_)
          rintro e y1 ⟨rfl, hpa1, hg1⟩
          have HPF := Lib.hid hpa1
          have HWF := Lib.hid (H2.out.wa.kept hg1 (by have := HAP.out.aA; simp; omega))
          have AO := HCTH.out y1 (H2.out.pb.kept hg1 (by have := HAP.out.ab; simp; omega)) (H2.out.wb.kept hg1 (by have := HAP.out.aB; simp; omega))
          have HG1 := Lib.hid (grow_trans_new hg.out hg1 HAP.out.la)
          unfold Opened1 S at AO
          clear AS hg1 hpa1 hg HCTH
          go_wp2_with fail
          (with_reducible refine AO.mono ?_)
          rintro e y2 ⟨rfl, hpb2, hw2, hgz⟩
          have AN := HNOH.out y2 ct hpb2 hw2
          have HT0 : Hid (Talk y2 a A b B k1 k2 su (sa + 1) (sb)) := Lib.hid ⟨⟨na, _, ma, _, ⟨HPF.out.kept hgz (by have := HAP.out.aB; simp; omega), hpb2, HWF.out.kept hgz (by have := HAP.out.AB; simp; omega), hw2⟩, ⟨n0, n1, m1⟩, ⟨by have := hok.1; omega, hok.2.1, hok.2.2.1⟩, ⟨seenA, jA, oA⟩, ⟨_, jN, oN⟩⟩⟩
          have HG2 := Lib.hid (grow_trans_new HG1.out hgz HAP.out.lB)
          unfold S at AN
          clear AO hgz hpb2 hw2 HPF HWF HG1 HNOH H2 jN oN hok
          go_wp2_with fail
          (with_reducible refine AN.mono ?_)
          rintro e y3 ⟨rfl, hg3⟩
          have HT3 := Lib.hid (HT0.out.new hg3)
          have HG3 := Lib.hid (grow_trans HG2.out hg3)
          clear AN hg3 HT0 HG2
          go_wp2_with fail
          go_roundw
          case rel => exact ⟨k + 1, sa + 1, sb, by omega, by go_num, by omega, by omega, HT3, HG3⟩
          case measure => simp [intOf]; omega
      · have r1 : (k : Int) % 2 = 1 := by omega
        have r2 : ((k : Int).tmod 2) = 1 := by rw [Int.tmod_eq_emod_of_nonneg (by omega)]; exact r1
        by_cases hlg : 2000 < tx.length
        · have q1 : ¬ ((tx.length : Int) ≤ 2000) := by omega
          have AS : Calls Tryz.prog 11 #[.pointer (some ⟨b, 0, none⟩), S tx, .int .i64 5] wr (Grown (.tuple #[.int .i64 0, S [], .int .i64 2]) wr) := code_prseal_large wr b B k2 k1 su sb H12.out false h2.pb L2.out 5 (by omega) (by omega) tx hlg
          unfold S at AS
          clear h2 hm
          go_wp2_with fail
          (with_reducible refine AS.mono ?_)
          rintro e y1 ⟨rfl, hg1⟩
          have HT1 : Hid (Talk y1 a A b B k1 k2 su sa sb) := Lib.hid ⟨⟨na, nb, ma, mb, H2.out.new hg1, ⟨n0, n1, m1⟩, ⟨n2, n3, m2⟩, ⟨seenA, jA, oA⟩, ⟨seenB, jB, oB⟩⟩⟩
          have HG1 := Lib.hid (grow_trans hg.out hg1)
          clear AS hg1
          go_wp2_with fail
          go_roundw
          case rel => exact ⟨k + 1, sa, sb, by omega, by go_num, by omega, by omega, HT1, HG1⟩
          case measure => simp [intOf]; omega
        · have AS : Calls Tryz.prog 11 #[.pointer (some ⟨b, 0, none⟩), S tx, .int .i64 5] wr (Sealed1 wr b B k2 k1 su sb false tx) := code_prseal wr b B k2 k1 su sb H12.out false h2.pb L2.out 5 (by omega) (by omega) tx (by omega)
          have hck : wnCheck na ma (sb : Int) = 0 := by
            have := jA.check (x := (sb : Int)) (by omega) (by omega) (by omega) (by omega)
            rw [oA _ (Int.le_refl _)] at this
            exact this
          have jN := jA.take (n := (sb : Int)) (by omega) (by omega) (by omega) (by omega)
          have hok := wnTake_ok na ma (sb : Int) n0 n1 m1
          have hck2 : wnCheck (wnTake na ma (sb : Int)).1 (wnTake na ma (sb : Int)).2 (sb : Int) = 11 := by
            have := jN.check (x := (sb : Int)) (by omega) (by omega) (by omega) (by omega)
            simpa using this
          have oN : ∀ z : Int, ((sb + 1 : Nat) : Int) ≤ z → (seenA z || decide (z = (sb : Int))) = false := fun z hz => by
            rw [oA z (by omega)]
            simp
            omega
          have hwf : (Lit.int .i64 (sb : Int)).wf = true := wf_i64 (by omega)
          have HCT : ∀ (y1 : World), PairAt y1 a A k1 k2 su sa true → WnAt y1 A na ma → Calls Tryz.prog 12 #[.pointer (some ⟨a, 0, none⟩), .int .i64 (sb : Int), S (sealN su k2 sb [] tx), .int .i64 6] y1 (Opened1 y1 a A k1 k2 su sa true tx na ma sb) := fun y1 h3 h4 =>
            code_propen y1 a A k1 k2 su sa H12.out true h3 (by have := HAP.out.aA; omega) L2.out 6 (by omega) sb (by omega) tx (by omega) na ma h4 n0 n1 m1 hck
          have HNO : ∀ (y1 : World) (c : List UInt8), PairAt y1 a A k1 k2 su sa true → WnAt y1 A (wnTake na ma (sb : Int)).1 (wnTake na ma (sb : Int)).2 → Calls Tryz.prog 12 #[.pointer (some ⟨a, 0, none⟩), .int .i64 (sb : Int), S c, .int .i64 6] y1 (Grown (.tuple #[S [], .int .i64 11]) y1) := fun y1 c h3 h4 =>
            code_propen_no y1 a A k1 k2 su sa true h3 6 (by omega) sb hwf c _ _ h4 (by have := hok.1; omega) hok.2.1 hok.2.2.1 11 hck2 rfl
          unfold Sealed1 at AS
          have HCTH := Lib.hid HCT
          have HNOH := Lib.hid HNO
          generalize sealN su k2 sb [] tx = ct at *
          clear h2 hm HCT HNO hck hck2
          unfold S at AS
          go_wp2_with fail
          (with_reducible refine AS.mono ?_)
          rintro e y1 ⟨rfl, hpa1, hg1⟩
          have HPF := Lib.hid hpa1
          have HWF := Lib.hid (H2.out.wb.kept hg1 (by have := HAP.out.bB; simp; omega))
          have AO := HCTH.out y1 (H2.out.pa.kept hg1 (by have := HAP.out.ab; simp; omega)) (H2.out.wa.kept hg1 (by have := HAP.out.bA; simp; omega))
          have HG1 := Lib.hid (grow_trans_new hg.out hg1 HAP.out.lb)
          unfold Opened1 S at AO
          clear AS hg1 hpa1 hg HCTH
          go_wp2_with fail
          (with_reducible refine AO.mono ?_)
          rintro e y2 ⟨rfl, hpb2, hw2, hgz⟩
          have AN := HNOH.out y2 ct hpb2 hw2
          have HT0 : Hid (Talk y2 a A b B k1 k2 su (sa) (sb + 1)) := Lib.hid ⟨⟨_, nb, _, mb, ⟨hpb2, HPF.out.kept hgz (by have := HAP.out.bA; simp; omega), hw2, HWF.out.kept hgz (by have := HAP.out.AB; simp; omega)⟩, ⟨by have := hok.1; omega, hok.2.1, hok.2.2.1⟩, ⟨n2, n3, m2⟩, ⟨_, jN, oN⟩, ⟨seenB, jB, oB⟩⟩⟩
          have HG2 := Lib.hid (grow_trans_new HG1.out hgz HAP.out.lA)
          unfold S at AN
          clear AO hgz hpb2 hw2 HPF HWF HG1 HNOH H2 jN oN hok
          go_wp2_with fail
          (with_reducible refine AN.mono ?_)
          rintro e y3 ⟨rfl, hg3⟩
          have HT3 := Lib.hid (HT0.out.new hg3)
          have HG3 := Lib.hid (grow_trans HG2.out hg3)
          clear AN hg3 HT0 HG2
          go_wp2_with fail
          go_roundw
          case rel => exact ⟨k + 1, sa, sb + 1, by omega, by go_num, by omega, by omega, HT3, HG3⟩
          case measure => simp [intOf]; omega
    · obtain rfl : k = N := by omega
      go_wp2_with fail
      go_ret
      exact ⟨rfl, grow_below hg.out _ (Nat.le_refl _) (by simp)⟩

end Go.Proofs.YtcmncdaojmkfgaaGreatDoor
