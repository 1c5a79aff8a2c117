/- Hex and Unhex are inverse; the walk of HexBack. -/
import Derived.Test.YtfiokecaadinaaaHexLaws
import Derived.Test.YtfiokecaadinaaaUnhex
namespace Go.Proofs.Ytfiokecaadinaaa
open Go.RowKit
set_option linter.unusedVariables false

theorem hexI_D (n : Nat) (h : n < 16) : hexI (hexD n) = n := by
  have h1 : ((List.range 16).all fun n => decide (hexI (hexD n) = (n : Int))) = true := by decide +kernel
  exact of_decide_eq_true (List.all_eq_true.1 h1 n (List.mem_range.2 h))

theorem hexD_I (c : UInt8) (h : 0 ≤ hexI c) : hexD (hexI c).toNat = c := by
  have h0 : ((List.range 256).all fun n => !decide (0 ≤ hexI (UInt8.ofNat n)) || decide (hexD (hexI (UInt8.ofNat n)).toNat = UInt8.ofNat n)) = true := by decide +kernel
  have h1 := List.all_eq_true.1 h0 c.toNat (List.mem_range.2 (u8_lt c))
  rw [UInt8.ofNat_toNat] at h1
  simpa [h] using h1

theorem hexOk_hexL : ∀ l : List UInt8, hexOk (hexL l) = true
  | [] => rfl
  | c :: l => by
    have := hexOk_hexL l
    have hc := u8_lt c
    have e : hexL (c :: l) = hexD (c.toNat / 16) :: hexD (c.toNat % 16) :: hexL l := rfl
    unfold hexOk at this ⊢
    rw [e, List.all_cons, List.all_cons, this, hexI_D _ (by omega), hexI_D _ (by omega)]
    simp
    omega

theorem unhexL_hexL : ∀ l : List UInt8, unhexL (hexL l) = l
  | [] => rfl
  | c :: l => by
    have hc := u8_lt c
    have e : hexL (c :: l) = hexD (c.toNat / 16) :: hexD (c.toNat % 16) :: hexL l := rfl
    rw [e, unhexL, unhexL_hexL l, hexV, hexI_D _ (by omega), hexI_D _ (by omega), Int.toNat_natCast, Int.toNat_natCast, show c.toNat / 16 * 16 + c.toNat % 16 = c.toNat from by omega, UInt8.ofNat_toNat]

theorem hexL_unhexL : ∀ l : List UInt8, l.length % 2 = 0 → hexOk l = true → hexL (unhexL l) = l
  | [], _, _ => rfl
  | [_], h, _ => by simp at h
  | a :: b :: r, h, ok => by
    have ih := hexL_unhexL r (by simp only [List.length_cons] at h; omega)
    unfold hexOk at ok ih
    rw [List.all_cons, List.all_cons, Bool.and_eq_true, Bool.and_eq_true, decide_eq_true_eq, decide_eq_true_eq] at ok
    obtain ⟨ha, hb, hr⟩ := ok
    have ba := hexI_bd a
    have bb := hexI_bd b
    have e : hexL (unhexL (a :: b :: r)) = hexD ((hexV a b).toNat / 16) :: hexD ((hexV a b).toNat % 16) :: hexL (unhexL r) := rfl
    have e1 : (hexV a b).toNat = (hexI a).toNat * 16 + (hexI b).toNat := by
      unfold hexV
      rw [UInt8.toNat_ofNat']
      omega
    rw [e, ih hr, e1, show ((hexI a).toNat * 16 + (hexI b).toNat) / 16 = (hexI a).toNat from by omega, show ((hexI a).toNat * 16 + (hexI b).toNat) % 16 = (hexI b).toNat from by omega, hexD_I a ha, hexD_I b hb]

set_option maxHeartbeats 1000000 in
theorem walk_HexBack (s0 s1 : ByteArray) (w0 : s0.size ≤ maxLen) (w1 : s1.size ≤ maxLen) (w : World) (u0 : s0.size ≤ 1048576) (u1 : s1.size ≤ 1048576) :
    Calls Try.prog 5 #[.string s0, .string s1] w fun e w' => e = .returned (.bool true) ∧ Below w.heap.size w w' := by
  obtain ⟨l, rfl, hl⟩ := list_of s0
  obtain ⟨r, rfl, hr⟩ := list_of s1
  rw [← hl] at u0
  rw [← hr] at u1
  clear hl hr w0 w1
  have hlen := hexL_length l
  have j1 : (hexL l).length ≤ 2097152 := by omega
  have j2 : (hexL l).length % 2 = 0 := by omega
  have j3 := Lib.hid (hexOk_hexL l)
  have j4 := Lib.hid (unhexL_hexL l)
  have HL := Lib.hid hlen
  clear hlen
  go_enter Try.func5, Try.ntmps5
  go_wp2_with fail
  refine (code_hex _ l (by omega)).mono ?_
  rintro e x1 ⟨rfl, hg1⟩
  go_wp2_with fail
  refine (code_unhex _ (hexL l) (by omega) j2).mono ?_
  rintro e x2 ⟨rfl, hg2⟩
  rw [if_pos j3.out, j4.out]
  unfold S
  have q1 : ((hexL l).length : Int) = 2 * (l.length : Int) := by rw [HL.out]; simp
  have q2 : IntKind.i64.wrap (2 * (l.length : Int)) = 2 * (l.length : Int) := IntWalk.i64_in _ (by omega)
  have hg := grow_trans hg1 hg2
  clear hg1 hg2 j3 j4 HL
  by_cases hr : r.length % 2 = 1
  · go_wp2_with fail
    refine (code_unhex_odd _ r (by omega) hr).mono ?_
    rintro e x3 ⟨rfl, rfl⟩
    unfold noHex S
    go_wp2_with fail
    go_ret
    exact ⟨rfl, grow_below hg _ (Nat.le_refl _) (by simp)⟩
  · by_cases hok : hexOk r = true
    · have hb := Lib.hid (hexL_unhexL r (by omega) hok)
      go_wp2_with fail
      refine (code_unhex _ r (by omega) (by omega)).mono ?_
      rintro e x3 ⟨rfl, hg3⟩
      rw [if_pos hok]
      have ul := unhexL_length r
      have uk : (unhexL r).length ≤ 70368744177664 := by omega
      clear ul
      unfold S
      go_wp2_with fail
      refine (code_hex _ (unhexL r) uk).mono ?_
      rintro e x4 ⟨rfl, hg4⟩
      rw [hb.out]
      unfold S
      go_wp2_with fail
      go_ret
      exact ⟨rfl, grow_below (grow_trans (grow_trans hg hg3) hg4) _ (Nat.le_refl _) (by simp)⟩
    · go_wp2_with fail
      refine (code_unhex _ r (by omega) (by omega)).mono ?_
      rintro e x3 ⟨rfl, hg3⟩
      rw [if_neg hok]
      unfold noHex S
      go_wp2_with fail
      go_ret
      exact ⟨rfl, grow_below (grow_trans hg hg3) _ (Nat.le_refl _) (by simp)⟩

end Go.Proofs.Ytfiokecaadinaaa
