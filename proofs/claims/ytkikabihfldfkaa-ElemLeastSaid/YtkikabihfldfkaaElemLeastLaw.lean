/- The walk of ElemLeast. -/
import Derived.Test.YtkikabihfldfkaaElemAddsLaw
import Derived.Test.YtkikabihfldfkaaElemLeastPlain
namespace Go.Proofs.Ytkikabihfldfkaa
open Go.RowKit
set_option linter.unusedVariables false

theorem repeat_255 (w : World) : Calls Try.prog 17 #[.string ⟨#[255]⟩, .int .i64 30] w (Grown (S (Lib.repeatL [255] 30)) w) := by
  refine (Try.strings_Repeat ⟨#[255]⟩ 30 w (by omega) (by simp [ByteArray.size])).mono ?_
  rintro e w' ⟨rfl, hb⟩
  exact ⟨rfl, grow_of_below hb⟩

theorem ix_str (W : World) (l : List UInt8) (j : Nat) (h : j < l.length) : (Instr.index 9 (.string ⟨l.toArray⟩) (.int .i64 (j : Int))).run Try.prog W = .ok (.int .u8 (l[j].toNat : Int)) W := by
  rw [run_index_string W 9 _ _ _ Try.underlying9, dif_pos ⟨by omega, by simpa [ByteArray.size] using h⟩]
  rfl
def sameFrom (l p : List UInt8) (k : Nat) : Prop := ∀ j, k ≤ j → j < 32 → l[j]? = p[j]?

set_option maxRecDepth 20000 in
set_option maxHeartbeats 4000000 in
theorem walk_ElemLeast (s0 : ByteArray) (w0 : s0.size ≤ maxLen) (w : World) :
    Calls Try.prog 4 #[.string s0] w fun e w' => e = .returned (.bool true) ∧ Below w.heap.size w w' := by
  obtain ⟨a0, rfl, ha⟩ := listB s0
  unfold maxLen at w0
  rw [← ha] at w0
  clear ha
  have E0 := lift w (fun W => code_kElems W a0 (by omega))
  have la := sizedL_length a0 32
  generalize sizedL a0 32 = a at *
  have R0 := lift w (fun W => repeat_255 W)
  obtain ⟨p, hp⟩ : ∃ p, p = [237] ++ Lib.repeatL [255] 30 ++ [127] := ⟨_, rfl⟩
  have hpp : p = pL := hp
  have lp : p.length = 32 := by rw [hpp]; exact pL_length
  obtain ⟨l, hl⟩ : ∃ l, l = lowM a := ⟨_, rfl⟩
  have ll : l.length = 32 := by rw [hl]; exact lowM_length _
  have C0 := lift w (fun W => code_kLeast W a la)
  have C1 := lift w (fun W => code_kLeast W l ll)
  have C2 := lift w (fun W => code_kAdd W a p la lp)
  have C3 := lift w (fun W => code_kLeast W p lp)
  have C4' : ∀ W : World, Hid (w.grownBy W none) → Calls Try.prog 18 #[.int .i64 32] W (GrownH w (S (zerosL 32))) := lift w (fun W => code_zeros W 32 (by omega))
  have C4 := C4'
  clear C4'
  have hlt : leN l < leN p := by rw [hl, hpp]; exact low_lt a
  have e1 : lowM l = l := by rw [hl]; exact low_low a
  have e2 : addM a p = l := by rw [hl, hpp]; exact add_p a
  have e3 : lowM p = zerosL 32 := by rw [hpp]; exact low_p
  rw [← hl] at C0
  rw [e1] at C1
  rw [e2] at C2
  rw [e3] at C3
  have hbyte := byte_le l p 32 ll lp hlt
  have HBY := Lib.hid hbyte
  have HLT := Lib.hid hlt
  have HP := Lib.hid hp
  have HLL := Lib.hid ll
  have HLP := Lib.hid lp
  clear hl hpp hp e1 e2 e3 la w0 hlt hbyte
  generalize zerosL 32 = zz at *
  generalize Lib.repeatL [255] 30 = rr at *
  unfold GrownH S at *
  have lne : l.isEmpty = false := by rw [List.isEmpty_eq_false_iff]; intro h; rw [h] at ll; simp at ll
  have lneq : (l == []) = false := by rw [beq_eq_false_iff_ne]; intro h; rw [h] at ll; simp at ll
  have r1 := rule_app
  have lrr : rr.length = 30 := by have := HP.out; rw [this] at lp; simp at lp; omega
  clear lneq
  have hg : Hid (w.grownBy w none) := Lib.hid (grow_refl _ _)
  go_enter Try.func4, Try.ntmps4
  go_upto_region 4 with (first
    | (go_at_call 12; (with_reducible refine (E0 _ hg).mono ?_); clear hg; rintro e x ⟨rfl, hg⟩)
    | (go_at_call 17; (with_reducible refine (R0 _ hg).mono ?_); clear hg; rintro e x ⟨rfl, hg⟩)
    | (go_at_call 16; (with_reducible refine (C0 _ hg).mono ?_); clear hg; rintro e x ⟨rfl, hg⟩)
    | fail)
  have hp2 : (237 :: (rr ++ [127]) : List UInt8) = p := by rw [HP.out]; rfl
  rw [hp2]
  clear hp2 lrr r1
  have L32 : l.length = 32 := HLL.out
  have P32 : p.length = 32 := HLP.out
  have HL32 := Lib.hid L32
  clear L32 P32
  go_wp2_with fail
  go_loopw [6, 7] (fun v6 v7 wr => ∃ (k : Nat) (bl : Bool), k ≤ 32 ∧ v7 = .int .i64 ((k : Int) - 1) ∧ v6 = .bool bl ∧ Hid (bl = false → sameFrom l p k ∧ 0 < k) ∧ Hid (w.grownBy wr none)) (fun _ v7 _ => (intOf v7 + 1).toNat)
  case atStart => exact ⟨32, false, by omega, rfl, rfl, Lib.hid (fun _ => ⟨fun j h1 h2 => by omega, by omega⟩), hg⟩
  case round =>
    clear hg
    obtain ⟨k, bl, hk, rfl, rfl, hs, hg⟩ := hrel
    cases bl with
    | true =>
      have lz : (zz == zz) = true := by simp
      rcases Nat.eq_zero_or_pos k with hk0 | hk0
      · subst hk0
        rw [show ((0 : Nat) : Int) - 1 = -1 from rfl]
        go_wp2_with (first
          | (go_at_call 16; (with_reducible refine (C1 _ hg).mono ?_); clear hg; rintro e x ⟨rfl, hg⟩)
          | (go_at_call 15; (with_reducible refine (C2 _ hg).mono ?_); clear hg; rintro e x ⟨rfl, hg⟩)
          | (go_at_call 16; (with_reducible refine (C3 _ hg).mono ?_); clear hg; rintro e x ⟨rfl, hg⟩)
          | (go_at_call 18; (with_reducible refine (C4 _ hg).mono ?_); clear hg; rintro e x ⟨rfl, hg⟩)
          | fail)
        go_ret
        exact ⟨rfl, grow_below hg.out _ (Nat.le_refl _) (by simp)⟩
      · obtain ⟨j, rfl⟩ : ∃ j, k = j + 1 := ⟨k - 1, by omega⟩
        rw [show ((j + 1 : Nat) : Int) - 1 = (j : Int) from by omega]
        have hd : decide ((0 : Int) ≤ (j : Int)) = true := by simp
        go_wp2_with (first
          | (go_at_call 16; (with_reducible refine (C1 _ hg).mono ?_); clear hg; rintro e x ⟨rfl, hg⟩)
          | (go_at_call 15; (with_reducible refine (C2 _ hg).mono ?_); clear hg; rintro e x ⟨rfl, hg⟩)
          | (go_at_call 16; (with_reducible refine (C3 _ hg).mono ?_); clear hg; rintro e x ⟨rfl, hg⟩)
          | (go_at_call 18; (with_reducible refine (C4 _ hg).mono ?_); clear hg; rintro e x ⟨rfl, hg⟩)
          | fail)
        go_ret
        exact ⟨rfl, grow_below hg.out _ (Nat.le_refl _) (by simp)⟩
    | false =>
      obtain ⟨hsm, hk0⟩ := hs.out rfl
      obtain ⟨j, rfl⟩ : ∃ j, k = j + 1 := ⟨k - 1, by omega⟩
      have hb := HBY.out j (by omega) (fun i h1 h2 => hsm i (by omega) h2)
      have lj : j < l.length := by rw [HLL.out]; omega
      have pj : j < p.length := by rw [HLP.out]; omega
      have ej : ((j + 1 : Nat) : Int) - 1 = (j : Int) := by omega
      rw [ej]
      have hsj : l[j] = p[j] → sameFrom l p j := fun he i h1 h2 => by
        rcases Nat.lt_or_ge j i with h | h
        · exact hsm i (by omega) h2
        · obtain rfl : i = j := by omega
          rw [List.getElem?_eq_getElem lj, List.getElem?_eq_getElem pj, he]
      have HSJ := Lib.hid hsj
      have HB1 := Lib.hid hb
      clear hsj hb hsm hs ej
      have j0 : (0 : Int) ≤ (j : Int) := by omega
      have j1 : (j : Int) < (l.length : Int) := by omega
      have j2 : (j : Int) < (p.length : Int) := by omega
      have hle := HB1.out.1
      have hd1 : decide (p[j].toNat < l[j].toNat) = false := by simp; omega
      have hd1' : decide ((p[j].toNat : Int) < (l[j].toNat : Int)) = false := by simp; omega
      have hsj2 : ¬ l[j].toNat < p[j].toNat → sameFrom l p j ∧ 0 < j := fun h => ⟨HSJ.out (UInt8.toNat_inj.1 (by omega)), by rcases Nat.eq_zero_or_pos j with h0 | h0; exact absurd (HB1.out.2 h0) h; exact h0⟩
      have i1 : ∀ W : World, (Instr.index 9 (.string ⟨l.toArray⟩) (.int .i64 (j : Int))).run Try.prog W = .ok (.int .u8 (l[j].toNat : Int)) W := fun W => ix_str W l j lj
      have i2 : ∀ W : World, (Instr.index 9 (.string ⟨p.toArray⟩) (.int .i64 (j : Int))).run Try.prog W = .ok (.int .u8 (p[j].toNat : Int)) W := fun W => ix_str W p j pj
      clear HSJ HB1
      have HS2 := Lib.hid hsj2
      clear hsj2
      generalize l[j].toNat = xl at *
      generalize p[j].toNat = xp at *
      by_cases hxy : xl < xp
      · have hd2 : decide (xl < xp) = true := by simpa using hxy
        have hd2' : decide ((xl : Int) < (xp : Int)) = true := by simp; omega
        go_wp2_with fail
        go_quiet (fail)
        revert nq
        intro nq1
        go_wp2_with fail
        go_quiet (fail)
        go_wp2_with fail
        go_roundw
        case rel => exact ⟨j, true, by omega, rfl, rfl, Lib.hid nofun, Lib.hid (grow_drewN hg.out _)⟩
        case measure => simp [intOf]
      · have hd2 : decide (xl < xp) = false := by simpa using hxy
        have hd2' : decide ((xl : Int) < (xp : Int)) = false := by simp; omega
        have h2 := Lib.hid (HS2.out hxy)
        clear HS2
        go_wp2_with fail
        go_quiet (fail)
        revert nq
        intro nq1
        go_wp2_with fail
        go_quiet (fail)
        go_wp2_with fail
        go_roundw
        case rel => exact ⟨j, false, by omega, rfl, rfl, Lib.hid (fun _ => h2.out), Lib.hid (grow_drewN hg.out _)⟩
        case measure => simp [intOf]

end Go.Proofs.Ytkikabihfldfkaa
