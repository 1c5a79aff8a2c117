/- The walk of BaseJoins. -/
import Derived.Test.YtfiokecaadinaaaBaseEnc
namespace Go.Proofs.Ytfiokecaadinaaa
open Go.RowKit
set_option linter.unusedVariables false

theorem baseL_append : ∀ l r : List UInt8, l.length % 3 = 0 → baseL (l ++ r) = baseL l ++ baseL r
  | [], _, _ => rfl
  | [_], _, h => by simp at h
  | [_, _], _, h => by simp at h
  | a :: b :: c :: l, r, h => by
    have := baseL_append l r (by simp only [List.length_cons] at h; omega)
    simp only [List.cons_append, baseL, this]

theorem list_ofB (s : ByteArray) : ∃ l : List UInt8, s = ⟨l.toArray⟩ ∧ l.length = s.size := ⟨s.data.toList, rfl, by rw [Array.length_toList]; rfl⟩

theorem extract_take (l : List UInt8) (n : Nat) : (ByteArray.mk l.toArray).extract 0 n = ⟨(l.take n).toArray⟩ := by
  apply ByteArray.ext
  rw [ByteArray.data_extract]
  apply Array.toList_inj.1
  simp

set_option maxHeartbeats 1000000 in
theorem walk_BaseJoins (s0 s1 : ByteArray) (w0 : s0.size ≤ maxLen) (w1 : s1.size ≤ maxLen) (w : World) (u0 : s0.size ≤ 1048576) (u1 : s1.size ≤ 1048576) :
    Calls Try.prog 4 #[.string s0, .string s1] w fun e w' => e = .returned (.bool true) ∧ Below w.heap.size w w' := by
  obtain ⟨l, rfl, hl⟩ := list_ofB s0
  obtain ⟨r, rfl, hr⟩ := list_ofB s1
  rw [← hl] at u0
  rw [← hr] at u1
  clear hl hr w0 w1
  have e1 : IntKind.i64.wrap ((l.length : Int) / 3 * 3) = (l.length : Int) / 3 * 3 := IntWalk.i64_in _ (by omega)
  have e2 : 0 ≤ (l.length : Int) / 3 * 3 := by omega
  have e3 : (l.length : Int) / 3 * 3 ≤ l.length := by omega
  have e4 : ((l.length : Int) / 3 * 3).toNat = l.length / 3 * 3 := by omega
  have e5 := extract_take l (l.length / 3 * 3)
  go_enter Try.func4, Try.ntmps4
  go_wp2_with fail
  clear e1 e2 e3 e4 e5
  have el : (l.take (l.length / 3 * 3)).length = l.length / 3 * 3 := by rw [List.length_take]; omega
  have HJ := Lib.hid (baseL_append (l.take (l.length / 3 * 3)) r (by omega))
  have ll : (l.take (l.length / 3 * 3)).length ≤ 1048576 := by omega
  clear el
  generalize l.take (l.length / 3 * 3) = q at *
  have q1 := baseL_length q
  have q2 := baseL_length r
  have j1 : (baseL q).length ≤ 4194304 := by omega
  have j2 : (baseL r).length ≤ 4194304 := by omega
  clear q1 q2
  refine (code_base _ q (by omega)).mono ?_
  rintro e x1 ⟨rfl, hg1⟩
  go_wp2_with fail
  refine (code_base _ r (by omega)).mono ?_
  rintro e x2 ⟨rfl, hg2⟩
  unfold S
  have hq : ((ByteArray.mk (baseL q).toArray ++ ByteArray.mk (baseL r).toArray).toList == baseL q ++ baseL r) = true := by
    rw [ByteArray.mk_append_mk, ByteArray.toList_mk]; simp
  go_wp2_with fail
  rw [ByteArray.mk_append_mk]
  refine (code_base _ (q ++ r) (by rw [List.length_append]; omega)).mono ?_
  rintro e x3 ⟨rfl, hg3⟩
  rw [HJ.out]
  unfold S
  go_wp2_with fail
  refine (code_base _ [77, 97, 110] (by simp)).mono ?_
  rintro e x4 ⟨rfl, hg4⟩
  rw [show baseL [77, 97, 110] = [84, 87, 70, 117] from by decide +kernel]
  unfold S
  go_wp2_with fail
  go_ret
  refine ⟨rfl, ?_⟩
  exact grow_below (grow_trans (grow_trans (grow_trans hg1 hg2) hg3) hg4) _ (Nat.le_refl _) (by simp)

end Go.Proofs.Ytfiokecaadinaaa
