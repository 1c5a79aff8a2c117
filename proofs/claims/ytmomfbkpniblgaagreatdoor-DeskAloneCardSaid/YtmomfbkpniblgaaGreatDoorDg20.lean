/-
  Several texts of this claim in one: UnbasePlain, Unbase.
-/
import Derived.Test.YtmomfbkpniblgaaGreatDoorDgBaseEnc
import Derived.Lib.Bytealg
import Derived.Test.YtmomfbkpniblgaaGreatDoorDg07
import Derived.Test.YtmomfbkpniblgaaGreatDoorDgBytesW
import Derived.Test.YtmomfbkpniblgaaGreatDoorShelf
namespace Go.Proofs.YtmomfbkpniblgaaGreatDoor
set_option linter.unusedVariables false

def sgI (c : UInt8) : Int := Lib.indexByte signsL c

theorem sgI_bd (c : UInt8) : -1 ≤ sgI c ∧ sgI c < 64 := by
  have h : ((List.range 256).all fun n => decide (-1 ≤ sgI (UInt8.ofNat n)) && decide (sgI (UInt8.ofNat n) < 64)) = true := by decide +kernel
  have h1 := List.all_eq_true.1 h c.toNat (List.mem_range.2 (u8_lt c))
  rw [UInt8.ofNat_toNat] at h1
  simpa using h1

theorem sgI_sign (n : Nat) (h : n < 64) : sgI (signD n) = n ∧ signD n ≠ 61 := by
  have h2 : ((List.range 64).all fun n => decide (sgI (signD n) = n ∧ signD n ≠ 61)) = true := by decide +kernel
  exact of_decide_eq_true (List.all_eq_true.1 h2 n (List.mem_range.2 h))

/-- The numbers behind one more sign, and the byte that is whole. -/
def ubB (c : UInt8) (b : Nat) : Nat := (b * 64 + (sgI c).toNat) % 4294967296
def decF : List UInt8 → Nat → Nat → List UInt8 → Option (List UInt8)
  | [], _, _, acc => some acc
  | c :: r, b, m, acc => if sgI c < 0 then none else if 8 ≤ m + 6 then decF r (ubB c b) (m - 2) (acc ++ [UInt8.ofNat (ubB c b / 2 ^ (m - 2))]) else decF r (ubB c b) (m + 6) acc

/-- The signs alone. -/
def sigL : List UInt8 → List UInt8
  | a :: b :: c :: r => signD (a.toNat / 4) :: signD (a.toNat % 4 * 16 + b.toNat / 16) :: signD (b.toNat % 16 * 4 + c.toNat / 64) :: signD (c.toNat % 64) :: sigL r
  | [a, b] => [signD (a.toNat / 4), signD (a.toNat % 4 * 16 + b.toNat / 16), signD (b.toNat % 16 * 4)]
  | [a] => [signD (a.toNat / 4), signD (a.toNat % 4 * 16)]
  | [] => []

theorem baseL_sig : ∀ l : List UInt8, ∃ k, baseL l = sigL l ++ List.replicate k 61
  | a :: b :: c :: r => by
    obtain ⟨k, h⟩ := baseL_sig r
    exact ⟨k, by simp only [baseL, sigL, h, List.cons_append]⟩
  | [a, b] => ⟨1, rfl⟩
  | [a] => ⟨2, rfl⟩
  | [] => ⟨0, rfl⟩

theorem sigL_no : ∀ l : List UInt8, ∀ x ∈ sigL l, x ≠ 61
  | a :: b :: c :: r => by
    have la := u8_lt a
    have lb := u8_lt b
    have lc := u8_lt c
    intro x hx
    simp only [sigL, List.mem_cons] at hx
    rcases hx with rfl | rfl | rfl | rfl | hx
    · exact (sgI_sign _ (by omega)).2
    · exact (sgI_sign _ (by omega)).2
    · exact (sgI_sign _ (by omega)).2
    · exact (sgI_sign _ (by omega)).2
    · exact sigL_no r x hx
  | [a, b] => by
    have la := u8_lt a
    have lb := u8_lt b
    intro x hx
    simp only [sigL, List.mem_cons, List.not_mem_nil, or_false] at hx
    rcases hx with rfl | rfl | rfl
    · exact (sgI_sign _ (by omega)).2
    · exact (sgI_sign _ (by omega)).2
    · exact (sgI_sign _ (by omega)).2
  | [a] => by
    have la := u8_lt a
    intro x hx
    simp only [sigL, List.mem_cons, List.not_mem_nil, or_false] at hx
    rcases hx with rfl | rfl
    · exact (sgI_sign _ (by omega)).2
    · exact (sgI_sign _ (by omega)).2
  | [] => by intro x hx; simp [sigL] at hx

theorem byte_is (n : Nat) (a : UInt8) (h : n % 256 = a.toNat) : UInt8.ofNat n = a := by
  apply UInt8.toNat_inj.1
  rw [UInt8.toNat_ofNat', h]

theorem decF_cons (n : Nat) (h : n < 64) (r : List UInt8) (b m : Nat) (acc : List UInt8) :
    decF (signD n :: r) b m acc = if 8 ≤ m + 6 then decF r ((b * 64 + n) % 4294967296) (m - 2) (acc ++ [UInt8.ofNat ((b * 64 + n) % 4294967296 / 2 ^ (m - 2))]) else decF r ((b * 64 + n) % 4294967296) (m + 6) acc := by
  have e := (sgI_sign n h).1
  have e2 : ubB (signD n) b = (b * 64 + n) % 4294967296 := by unfold ubB; rw [e]; simp
  rw [decF, if_neg (by omega), e2]

theorem decF_sig : ∀ (l : List UInt8) (b : Nat) (acc : List UInt8), decF (sigL l) b 0 acc = some (acc ++ l)
  | a :: x :: c :: r, b, acc => by
    have la := u8_lt a
    have lb := u8_lt x
    have lc := u8_lt c
    rw [sigL, decF_cons _ (by omega), if_neg (by omega), decF_cons _ (by omega), if_pos (by omega), decF_cons _ (by omega), if_pos (by omega), decF_cons _ (by omega), if_pos (by omega)]
    simp only [Nat.reduceAdd, Nat.reduceSub]
    rw [decF_sig r]
    rw [byte_is _ a, byte_is _ x, byte_is _ c]
    · simp
    · simp only [Nat.reducePow]; omega
    · simp only [Nat.reducePow]; omega
    · simp only [Nat.reducePow]; omega
  | [a, x], b, acc => by
    have la := u8_lt a
    have lb := u8_lt x
    rw [sigL, decF_cons _ (by omega), if_neg (by omega), decF_cons _ (by omega), if_pos (by omega), decF_cons _ (by omega), if_pos (by omega)]
    simp only [Nat.reduceAdd, Nat.reduceSub, decF]
    rw [byte_is _ a, byte_is _ x]
    · simp
    · simp only [Nat.reducePow]; omega
    · simp only [Nat.reducePow]; omega
  | [a], b, acc => by
    have la := u8_lt a
    rw [sigL, decF_cons _ (by omega), if_neg (by omega), decF_cons _ (by omega), if_pos (by omega)]
    simp only [Nat.reduceAdd, Nat.reduceSub, decF]
    rw [byte_is _ a]
    simp only [Nat.reducePow]; omega
  | [], b, acc => by rw [sigL, decF, List.append_nil]

end Go.Proofs.YtmomfbkpniblgaaGreatDoor

namespace Go.Proofs.YtmomfbkpniblgaaGreatDoor
open Go.RowKit
set_option linter.unusedVariables false

def ubNo : Value := .tuple #[S [], .int .i64 3]
def ubV (l : List UInt8) : Value :=
  if l.length % 4 = 0 then
    match decF (Lib.trimRightB l 61) 0 0 [] with
    | some d => if baseL d = l then .tuple #[S d, .int .i64 0] else ubNo
    | none => ubNo
  else ubNo

theorem index_sign (w : World) (n : Int) (c : UInt8) (x : Int) (hx : sgI c = x) (hn : n = c.toNat) :
    Calls Tryz.prog 84 #[.string ⟨#[65, 66, 67, 68, 69, 70, 71, 72, 73, 74, 75, 76, 77, 78, 79, 80, 81, 82, 83, 84, 85, 86, 87, 88, 89, 90, 97, 98, 99, 100, 101, 102, 103, 104, 105, 106, 107, 108, 109, 110, 111, 112, 113, 114, 115, 116, 117, 118, 119, 120, 121, 122, 48, 49, 50, 51, 52, 53, 54, 55, 56, 57, 43, 47]⟩, .int .u8 n] w fun e w' => e = .returned (.int .i64 x) ∧ w = w' := by
  subst hn hx
  have h := index_byte w ⟨#[65, 66, 67, 68, 69, 70, 71, 72, 73, 74, 75, 76, 77, 78, 79, 80, 81, 82, 83, 84, 85, 86, 87, 88, 89, 90, 97, 98, 99, 100, 101, 102, 103, 104, 105, 106, 107, 108, 109, 110, 111, 112, 113, 114, 115, 116, 117, 118, 119, 120, 121, 122, 48, 49, 50, 51, 52, 53, 54, 55, 56, 57, 43, 47]⟩ (c.toNat : Int)
  have e : (c.toNat : Int).toNat.toUInt8 = c := by rw [Int.toNat_natCast]; exact UInt8.ofNat_toNat
  rw [e] at h
  exact h

theorem trim_len (l : List UInt8) : (Lib.trimRightB l 61).length ≤ l.length := by
  unfold Lib.trimRightB
  rw [List.length_reverse]
  have := (List.dropWhile_sublist (l := l.reverse) (· == (61 : UInt8))).length_le
  rwa [List.length_reverse] at this

set_option maxHeartbeats 400000 in
theorem code_unbase_odd (w : World) (l : List UInt8) (hl : l.length ≤ 9223372036854775807) (ho : l.length % 4 ≠ 0) :
    Calls Tryz.prog 49 #[S l] w fun e w' => e = .returned ubNo ∧ w = w' := by
  unfold S
  have h2 : decide ((0 : Int) < (l.length : Int) % 4) = true := by rw [decide_eq_true_eq]; omega
  have h3 : (0 : Int) < (l.length : Int) % 4 := by omega
  clear ho
  go_enter Tryz.func49, Tryz.ntmps49
  go_wp2
  go_ret2
  exact ⟨rfl, rfl⟩

theorem or_six (b d : Nat) (hd : d < 64) : bits .or .u32 ((b : Int) * 64 % 4294967296) (d : Int) = (((b * 64 + d) % 4294967296 : Nat) : Int) := by
  have h := or32_join 6 (b % 67108864) d (by omega) (by simp only [Nat.reducePow]; omega) (by simp only [Nat.reducePow]; omega)
  simp only [Nat.reducePow] at h
  have e1 : (b : Int) * 64 % 4294967296 = ((b % 67108864 * 64 : Nat) : Int) := by omega
  have e2 : (b * 64 + d) % 4294967296 = b % 67108864 * 64 + d := by omega
  rw [e1, e2, h]

set_option maxRecDepth 20000 in
set_option maxHeartbeats 1000000 in
theorem code_unbase (w : World) (l : List UInt8) (hl : l.length ≤ 70368744177664) (he : l.length % 4 = 0) :
    Calls Tryz.prog 49 #[S l] w fun e w' => e = .returned (ubV l) ∧ w.grownBy w' none := by
  obtain ⟨V, hV⟩ : ∃ V, V = ubV l := ⟨_, rfl⟩
  rw [← hV]
  unfold ubV at hV
  rw [if_pos he] at hV
  have AT : ∀ W : World, Calls Tryz.prog 83 #[S l, .string ⟨#[61]⟩] W fun e w' => e = .returned (S (Lib.trimRightB l 61)) ∧ w' = W := fun W =>
    Tryz.strings_TrimRight_one ⟨l.toArray⟩ 61 (by decide) W (by simp [ByteArray.size]; omega)
  have ht := trim_len l
  generalize Lib.trimRightB l 61 = T at *
  have HV := Lib.hid hV
  clear hV
  have h2 : decide ((0 : Int) < (l.length : Int) % 4) = false := by rw [decide_eq_false_iff_not]; omega
  have h3 : ¬ (0 : Int) < (l.length : Int) % 4 := by omega
  clear he
  have HA := Lib.hid (fun W : World => to_bytes W T (by omega))
  unfold S at *
  go_enter Tryz.func49, Tryz.ntmps49
  go_wp2_with fail
  (with_reducible refine (AT _).mono ?_)
  rintro e x0 ⟨rfl, rfl⟩
  obtain ⟨cap, x, hcv, hcap, hg, hlt, hb⟩ := HA.out x0
  have HB0 := Lib.hid hb
  have HG0 := Lib.hid hg
  have HL := Lib.hid hlt
  clear hb hg hlt HA AT h2 h3
  go_wp2_with fail
  go_loopw [4, 5, 6, 18] (fun vb v5 v6 v18 wr => ∃ (k b m : Nat) (acc : List UInt8), k ≤ T.length ∧ v18 = .int .i64 (k : Int) ∧ v5 = .int .u32 (b : Int) ∧ v6 = .int .i64 (m : Int) ∧ Hid (m = 0 ∨ m = 2 ∨ m = 4 ∨ m = 6) ∧ b < 4294967296 ∧ acc.length ≤ k ∧ Hid (decF T 0 0 [] = decF (T.drop k) b m acc) ∧ brow wr x.heap.size vb acc ∧ Below x.heap.size x wr) (fun _ _ _ v18 _ => T.length - (intOf v18).toNat)
  case atStart => exact ⟨0, 0, 0, [], by omega, rfl, rfl, rfl, Lib.hid (Or.inl rfl), by omega, Nat.le_refl _, rfl, brow_nil _ _, Below.refl _ _⟩
  case round =>
    obtain ⟨k, b, m, acc, hk, rfl, rfl, rfl, hm, hb32, hacc, hdec, hown, HB⟩ := hrel
    by_cases hlt : k < T.length
    · have hc := (HB0.out.kept (r := none) HL.out (grow_of_below HB) (by simp)).cell k hlt
      have u0 : Hid (decF (T.drop k) b m acc = if sgI T[k] < 0 then none else if 8 ≤ m + 6 then decF (T.drop (k + 1)) (ubB T[k] b) (m - 2) (acc ++ [UInt8.ofNat (ubB T[k] b / 2 ^ (m - 2))]) else decF (T.drop (k + 1)) (ubB T[k] b) (m + 6) acc) := by
        rw [List.drop_eq_getElem_cons hlt]
        rfl
      have hD1 : acc.length + 1 ≤ 140737488355328 := by omega
      have hz := HB.size
      generalize T[k] = c at *
      have bd := sgI_bd c
      have HU : Hid (ubB c b = (b * 64 + (sgI c).toNat) % 4294967296) := rfl
      obtain ⟨y, hy⟩ : ∃ y, sgI c = y := ⟨_, rfl⟩
      rw [hy] at u0 bd HU
      have kk : (k : Int) < (T.length : Int) := by omega
      have w1 : IntKind.i64.wrap ((k : Int) + 1) = (k : Int) + 1 := IntWalk.i64_in _ (by omega)
      by_cases hn : y < 0
      · have hno : V = ubNo := by
          rw [HV.out, hdec.out, u0.out, if_pos hn]
        clear u0 HU hdec bd
        go_wp2_with fail
        (with_reducible refine (index_sign _ _ c _ hy rfl).mono ?_)
        rintro e z ⟨rfl, rfl⟩
        go_wp2_with fail
        go_ret2
        exact ⟨by rw [hno]; rfl, grow_trans HG0.out (grow_of_below HB)⟩
      · obtain ⟨d, rfl⟩ : ∃ n : Nat, y = n := ⟨y.toNat, by omega⟩
        have hd : d < 64 := by omega
        have hub : ubB c b = (b * 64 + d) % 4294967296 := by rw [HU.out]; simp
        have o6 := or_six b d hd
        rw [if_neg hn] at u0
        obtain ⟨q, hq⟩ : ∃ q, ubB c b = q := ⟨_, rfl⟩
        rw [hq] at u0 hub
        rw [← hub] at o6
        have hq32 : q < 4294967296 := by omega
        have dm : (d : Int) % 4294967296 = (d : Int) := by omega
        clear HU hub bd hn hb32
        rcases hm.out with rfl | rfl | rfl | rfl
        · have e0 : decF T 0 0 [] = decF (T.drop (k + 1)) q 6 acc := by rw [hdec.out, u0.out, if_neg (by omega)]
          replace hdec := Lib.hid e0
          clear e0 u0 hm
          go_wp2_with fail
          (with_reducible refine (index_sign _ _ c _ hy rfl).mono ?_)
          rintro e z ⟨rfl, rfl⟩
          go_wp2_with fail
          go_roundw
          case rel => exact ⟨k + 1, q, 6, acc, by omega, by go_num, rfl, rfl, Lib.hid (by simp), hq32, by omega, hdec, hown, HB⟩
          case measure => simp [intOf]; omega
        · have e0 : decF T 0 0 [] = decF (T.drop (k + 1)) q 0 (acc ++ [UInt8.ofNat (q / 1)]) := by rw [hdec.out, u0.out, if_pos (by omega)]
          replace hdec := Lib.hid e0
          clear e0 u0 hm
          have hbc := Lib.hid (show Value.int .u8 ((q : Int) % 256) = bcell (UInt8.ofNat (q / 1)) from by
            have e9 : (q : Int) % 256 = ((q / 1 % 256 : Nat) : Int) := by omega
            rw [e9, bcell_of])
          generalize UInt8.ofNat (q / 1) = c' at *
          go_wp2_with fail
          (with_reducible refine (index_sign _ _ c _ hy rfl).mono ?_)
          rintro e z ⟨rfl, rfl⟩
          go_wp2_with (at_builtin; go_must (refine append_byteW rfl _ _ rfl x.heap.size _ _ rfl (hown.alloc _) c' _ ?c1 wr.heap.size rfl (obj_new wr _) hD1 ?c2 ?_))
          case c1 => exact hbc.out
          case c2 => exact Nat.le_trans hz (by simp)
          intro v' w' hown' hg'
          replace HB := own_below HB hown hz (grow_trans (World.grownBy_alloc wr _ _) hg')
          clear hown hg' hz
          go_wp2
          go_roundw
          case rel => exact ⟨k + 1, q, 0, acc ++ [c'], by omega, by go_num, rfl, rfl, Lib.hid (by simp), hq32, by simp; omega, hdec, hown', HB⟩
          case measure => simp [intOf]; omega
        · have e0 : decF T 0 0 [] = decF (T.drop (k + 1)) q 2 (acc ++ [UInt8.ofNat (q / 4)]) := by rw [hdec.out, u0.out, if_pos (by omega)]
          replace hdec := Lib.hid e0
          clear e0 u0 hm
          have hbc := Lib.hid (show Value.int .u8 ((q : Int) / 4 % 256) = bcell (UInt8.ofNat (q / 4)) from by
            have e9 : (q : Int) / 4 % 256 = ((q / 4 % 256 : Nat) : Int) := by omega
            rw [e9, bcell_of])
          generalize UInt8.ofNat (q / 4) = c' at *
          go_wp2_with fail
          (with_reducible refine (index_sign _ _ c _ hy rfl).mono ?_)
          rintro e z ⟨rfl, rfl⟩
          go_wp2_with (at_builtin; go_must (refine append_byteW rfl _ _ rfl x.heap.size _ _ rfl (hown.alloc _) c' _ ?c1 wr.heap.size rfl (obj_new wr _) hD1 ?c2 ?_))
          case c1 => exact hbc.out
          case c2 => exact Nat.le_trans hz (by simp)
          intro v' w' hown' hg'
          replace HB := own_below HB hown hz (grow_trans (World.grownBy_alloc wr _ _) hg')
          clear hown hg' hz
          go_wp2
          go_roundw
          case rel => exact ⟨k + 1, q, 2, acc ++ [c'], by omega, by go_num, rfl, rfl, Lib.hid (by simp), hq32, by simp; omega, hdec, hown', HB⟩
          case measure => simp [intOf]; omega
        · have e0 : decF T 0 0 [] = decF (T.drop (k + 1)) q 4 (acc ++ [UInt8.ofNat (q / 16)]) := by rw [hdec.out, u0.out, if_pos (by omega)]
          replace hdec := Lib.hid e0
          clear e0 u0 hm
          have hbc := Lib.hid (show Value.int .u8 ((q : Int) / 16 % 256) = bcell (UInt8.ofNat (q / 16)) from by
            have e9 : (q : Int) / 16 % 256 = ((q / 16 % 256 : Nat) : Int) := by omega
            rw [e9, bcell_of])
          generalize UInt8.ofNat (q / 16) = c' at *
          go_wp2_with fail
          (with_reducible refine (index_sign _ _ c _ hy rfl).mono ?_)
          rintro e z ⟨rfl, rfl⟩
          go_wp2_with (at_builtin; go_must (refine append_byteW rfl _ _ rfl x.heap.size _ _ rfl (hown.alloc _) c' _ ?c1 wr.heap.size rfl (obj_new wr _) hD1 ?c2 ?_))
          case c1 => exact hbc.out
          case c2 => exact Nat.le_trans hz (by simp)
          intro v' w' hown' hg'
          replace HB := own_below HB hown hz (grow_trans (World.grownBy_alloc wr _ _) hg')
          clear hown hg' hz
          go_wp2
          go_roundw
          case rel => exact ⟨k + 1, q, 4, acc ++ [c'], by omega, by go_num, rfl, rfl, Lib.hid (by simp), hq32, by simp; omega, hdec, hown', HB⟩
          case measure => simp [intOf]; omega
    · have hke : k = T.length := by omega
      rw [hke, List.drop_length] at hdec
      have hfin : decF T 0 0 [] = some acc := hdec.out
      have hV := HV.out
      rw [hfin] at hV
      simp only at hV
      have hcv := conv_brow hown
      have hal : acc.length ≤ 70368744177664 := by omega
      have AB := fun W : World => code_base W acc hal
      unfold S at AB hcv
      clear hdec hfin hke
      by_cases hq : baseL acc = l
      · rw [if_pos hq] at hV
        rw [hq] at AB
        go_wp2_with fail
        (with_reducible refine (AB _).mono ?_)
        rintro e z ⟨rfl, hg2⟩
        have hcv2 := conv_brow (hown.keptb hg2)
        unfold S at hcv2
        go_wp2_with fail
        go_ret2
        exact ⟨by rw [hV]; rfl, grow_trans (grow_trans HG0.out (grow_of_below HB)) hg2⟩
      · rw [if_neg hq] at hV
        have hne : ¬ ((ByteArray.mk (baseL acc).toArray) = ByteArray.mk l.toArray) := fun h => hq (by
          have := congrArg (fun b => b.data.toList) h
          simpa using this)
        have hqb : (baseL acc == l) = false := beq_eq_false_iff_ne.2 hq
        generalize baseL acc = E at *
        go_wp2_with fail
        (with_reducible refine (AB _).mono ?_)
        rintro e z ⟨rfl, hg2⟩
        go_wp2_with fail
        go_ret2
        exact ⟨by rw [hV]; rfl, grow_trans (grow_trans HG0.out (grow_of_below HB)) hg2⟩

end Go.Proofs.YtmomfbkpniblgaaGreatDoor
