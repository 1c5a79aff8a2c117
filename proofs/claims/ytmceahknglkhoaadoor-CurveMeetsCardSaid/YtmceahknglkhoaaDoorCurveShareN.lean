/- Curve: Share where the multiple is not nought. -/
import Derived.Test.YtmceahknglkhoaaDoorCurvePlain
import Derived.Test.YtmceahknglkhoaaDoorSized
import Derived.Test.YtmceahknglkhoaaDoorLift
namespace Go.Proofs.YtmceahknglkhoaaDoor
open Go.RowKit
set_option linter.unusedVariables false

theorem drop_all {α : Type} (p : α → Bool) : ∀ l : List α, l.dropWhile p = [] → ∀ b ∈ l, p b = true
  | [], _, b, hb => by cases hb
  | a :: l, h, b, hb => by
    rw [List.dropWhile_cons] at h
    split at h
    · rename_i ha
      rcases List.mem_cons.1 hb with rfl | hb
      · exact ha
      · exact drop_all p l h b hb
    · cases h
theorem drop_mem {α : Type} (p : α → Bool) : ∀ l : List α, ∀ b ∈ l, p b = true ∨ b ∈ l.dropWhile p
  | [], b, hb => by cases hb
  | a :: l, b, hb => by
    rw [List.dropWhile_cons]
    split
    · rename_i ha
      rcases List.mem_cons.1 hb with rfl | hb
      · exact Or.inl ha
      · exact drop_mem p l b hb
    · exact Or.inr hb
theorem trim_nought (l : List UInt8) (h : Lib.trimB l 0 = []) : l = List.replicate l.length 0 := by
  refine List.eq_replicate_iff.2 ⟨rfl, fun b hb => ?_⟩
  unfold Lib.trimB Lib.trimLeftB Lib.trimRightB at h
  rcases drop_mem (· == (0 : UInt8)) l.reverse b (List.mem_reverse.2 hb) with q | q
  · simpa using q
  · have := drop_all _ _ h b (List.mem_reverse.2 q)
    simpa using this
theorem leB_nought : leB 0 32 = List.replicate 32 0 := by decide

set_option maxHeartbeats 1000000 in
theorem code_cshareN (w : World) (k u : List UInt8) (hk : k.length = 32) (hu : u.length = 32) (h0 : multL k u ≠ leB 0 32) : Calls Tryd.prog 8 #[S k, S u] w (Grown (.tuple #[S (multL k u), .int .i64 0]) w) := by
  have AM := fun W : World => code_cmult W k u hk hu
  have hl : (multL k u).length = 32 := multL_length _ _
  have hne : Lib.trimB (multL k u) 0 ≠ [] := fun e => h0 (by
    rw [leB_nought, ← hl]
    exact trim_nought _ e)
  clear h0 hk hu
  generalize multL k u = V at *
  have AT : ∀ W : World, Calls Tryd.prog 15 #[S V, .string ⟨#[0]⟩] W (Grown (S (Lib.trimB V 0)) W) := fun W => by
    refine (Tryd.strings_Trim_one ⟨V.toArray⟩ 0 (by decide) W (by show (ByteArray.mk V.toArray).size ≤ _; simp [ByteArray.size]; omega)).mono ?_
    rintro e y ⟨rfl, h⟩
    refine ⟨rfl, ?_⟩
    rcases h with rfl | rfl
    · exact grow_refl _ _
    · exact grow_drew (grow_refl _ _)
  generalize Lib.trimB V 0 = Z at *
  have q1 : (Z == []) = false := beq_eq_false_iff_ne.2 hne
  have q2 : Z.isEmpty = false := by rw [List.isEmpty_eq_false_iff]; exact hne
  have q3 : ¬ Z = [] := hne
  unfold S at *
  go_enter Tryd.func8, Tryd.ntmps8
  go_wp2_with fail
  (with_reducible refine (AM _).mono ?_)
  rintro e x1 ⟨rfl, hg1⟩
  go_wp2_with fail
  (with_reducible refine (AT _).mono ?_)
  rintro e x2 ⟨rfl, hg2⟩
  go_wp2_with fail
  go_ret2
  exact ⟨rfl, grow_trans hg1 hg2⟩

end Go.Proofs.YtmceahknglkhoaaDoor
