/- Hex keeps the order; the walk of HexJoins. -/
import Derived.Test.YtfiokecaadinaaaHex
namespace Go.Proofs.Ytfiokecaadinaaa
open Go.RowKit
set_option linter.unusedVariables false

theorem hexD_cmp : ∀ a, a < 16 → ∀ b, b < 16 → (decide (hexD a < hexD b) = decide (a < b) ∧ (hexD a == hexD b) = decide (a = b)) := by
  have h : ((List.range 16).all fun a => (List.range 16).all fun b => (decide (hexD a < hexD b) == decide (a < b)) && ((hexD a == hexD b) == decide (a = b))) = true := by decide +kernel
  intro a ha b hb
  have h1 := List.all_eq_true.1 (List.all_eq_true.1 h a (List.mem_range.2 ha)) b (List.mem_range.2 hb)
  simpa using h1

theorem u8_cmp (a b : UInt8) : decide (a < b) = decide (a.toNat < b.toNat) ∧ (a == b) = decide (a.toNat = b.toNat) := by
  constructor
  · rfl
  · rw [Bool.eq_iff_iff]
    simp [UInt8.toNat_inj]

theorem hex_less : ∀ s t : List UInt8, Op.bytesLess (hexL s) (hexL t) = Op.bytesLess s t
  | [], [] => rfl
  | [], _ :: _ => rfl
  | _ :: _, [] => rfl
  | a :: s, b :: t => by
    have ha := u8_lt a
    have hb := u8_lt b
    have e : ∀ (c : UInt8) (r : List UInt8), hexL (c :: r) = hexD (c.toNat / 16) :: hexD (c.toNat % 16) :: hexL r := fun _ _ => rfl
    rw [e, e]
    simp only [Op.bytesLess]
    rw [hex_less s t, (u8_cmp a b).1, (u8_cmp a b).2]
    have h1 := hexD_cmp (a.toNat / 16) (by omega) (b.toNat / 16) (by omega)
    have h2 := hexD_cmp (a.toNat % 16) (by omega) (b.toNat % 16) (by omega)
    rw [h1.1, h1.2, h2.1, h2.2]
    generalize Op.bytesLess s t = r
    cases r
    · simp only [Bool.and_false, Bool.or_false]
      rw [Bool.eq_iff_iff]
      simp
      omega
    · simp only [Bool.and_true]
      rw [Bool.eq_iff_iff]
      simp
      omega

theorem list_of (s : ByteArray) : ∃ l : List UInt8, s = ⟨l.toArray⟩ ∧ l.length = s.size := ⟨s.data.toList, rfl, by rw [Array.length_toList]; rfl⟩

set_option maxHeartbeats 1000000 in
theorem walk_HexJoins (s0 s1 : ByteArray) (w0 : s0.size ≤ maxLen) (w1 : s1.size ≤ maxLen) (w : World) (u0 : s0.size ≤ 1048576) (u1 : s1.size ≤ 1048576) :
    Calls Try.prog 3 #[.string s0, .string s1] w fun e w' => e = .returned (.bool true) ∧ Below w.heap.size w w' := by
  obtain ⟨l, rfl, hl⟩ := list_of s0
  obtain ⟨r, rfl, hr⟩ := list_of s1
  rw [← hl] at u0
  rw [← hr] at u1
  clear hl hr w0 w1
  have hless := hex_less l r
  have hlen := hexL_length l
  have hrlen := hexL_length r
  have happ := hexL_append l r
  have HA := Lib.hid happ
  have HL := Lib.hid hless
  clear happ hless
  have j1 : (hexL l).length ≤ 2097152 := by omega
  have j2 : (hexL r).length ≤ 2097152 := by omega
  clear hlen hrlen
  go_enter Try.func3, Try.ntmps3
  go_wp2_with fail
  refine (code_hex _ l (by omega)).mono ?_
  rintro e x1 ⟨rfl, hg1⟩
  go_wp2_with fail
  refine (code_hex _ r (by omega)).mono ?_
  rintro e x2 ⟨rfl, hg2⟩
  unfold S
  have hq : ((ByteArray.mk (hexL l).toArray ++ ByteArray.mk (hexL r).toArray).toList == hexL l ++ hexL r) = true := by
    rw [ByteArray.mk_append_mk, ByteArray.toList_mk]; simp
  go_wp2_with fail
  rw [ByteArray.mk_append_mk]
  refine (code_hex _ (l ++ r) (by rw [List.length_append]; omega)).mono ?_
  rintro e x3 ⟨rfl, hg3⟩
  rw [HA.out]
  unfold S
  have hq2 : (Op.bytesLess (hexL l) (hexL r) == Op.bytesLess l r) = true := by rw [HL.out]; simp
  have hq3 : Op.bytesLess (hexL l) (hexL r) = Op.bytesLess l r := HL.out
  go_wp2_with fail
  refine (code_hex _ [31] (by simp)).mono ?_
  rintro e x4 ⟨rfl, hg4⟩
  rw [show hexL [31] = [49, 102] from by decide +kernel]
  unfold S
  go_wp2_with fail
  go_ret
  refine ⟨rfl, ?_⟩
  exact grow_below (grow_trans (grow_trans (grow_trans hg1 hg2) hg3) hg4) _ (Nat.le_refl _) (by simp)

end Go.Proofs.Ytfiokecaadinaaa
