/- The walk of BaseBack. -/
import Derived.Test.YtimigoalddfkjaaDoorUnbase
namespace Go.Proofs.YtimigoalddfkjaaDoor
open Go.RowKit
set_option linter.unusedVariables false

theorem trim_sig (l : List UInt8) : Lib.trimRightB (baseL l) 61 = sigL l := by
  obtain ⟨k, h⟩ := baseL_sig l
  rw [h, Lib.trimRightB_take _ 61 (sigL l).length (by simp) ?_ ?_]
  · simp
  · intro j b hj hb
    rw [List.getElem?_append_right hj] at hb
    exact List.eq_of_mem_replicate (List.mem_of_getElem? hb)
  · intro b h0 hb
    rw [List.getElem?_append_left (by omega)] at hb
    exact sigL_no l b (List.mem_of_getElem? hb)
theorem ub_base (l : List UInt8) : ubV (baseL l) = .tuple #[S l, .int .i64 0] := by
  have hl := baseL_length l
  unfold ubV
  rw [if_pos (by omega), trim_sig, decF_sig]
  simp
theorem ub_cases (l : List UInt8) : ubV l = ubNo ∨ ∃ d, ubV l = .tuple #[S d, .int .i64 0] ∧ baseL d = l := by
  unfold ubV
  split
  · split
    · rename_i d _
      split
      · rename_i h
        exact Or.inr ⟨d, rfl, h⟩
      · exact Or.inl rfl
    · exact Or.inl rfl
  · exact Or.inl rfl
theorem code_unb (w : World) (l : List UInt8) (hl : l.length ≤ 70368744177664) :
    Calls Tryd.prog 5 #[S l] w fun e w' => e = .returned (ubV l) ∧ w.grownBy w' none := by
  by_cases h : l.length % 4 = 0
  · exact code_unbase w l hl h
  · refine (code_unbase_odd w l (by omega) h).mono ?_
    rintro e w' ⟨rfl, rfl⟩
    refine ⟨?_, grow_refl _ _⟩
    unfold ubV
    rw [if_neg h]

theorem listB (s : ByteArray) : ∃ l : List UInt8, s = ⟨l.toArray⟩ ∧ l.length = s.size := ⟨s.data.toList, rfl, by rw [Array.length_toList]; rfl⟩

set_option maxRecDepth 100000 in
set_option maxHeartbeats 2000000 in
theorem walk_BaseBack (s0 s1 : ByteArray) (w0 : s0.size ≤ maxLen) (w1 : s1.size ≤ maxLen) (w : World) (u0 : s0.size ≤ 1048576) (u1 : s1.size ≤ 1048576) :
    Calls Tryd.prog 3 #[.string s0, .string s1] w fun e w' => e = .returned (.bool true) ∧ Below w.heap.size w w' := by
  obtain ⟨l, rfl, hl⟩ := listB s0
  obtain ⟨r, rfl, hr⟩ := listB s1
  rw [← hl] at u0
  rw [← hr] at u1
  clear hl hr w0 w1
  have hlen := baseL_length l
  have A1 := fun W : World => code_base W l (by omega)
  have A2 : ∀ W : World, Calls Tryd.prog 5 #[S (baseL l)] W fun e w' => e = .returned (.tuple #[S l, .int .i64 0]) ∧ W.grownBy w' none := fun W => by
    have := code_unb W (baseL l) (by omega)
    rwa [ub_base] at this
  have A3 := fun W : World => code_unb W r (by omega)
  generalize baseL l = E at *
  have q1 : (E.length : Int) = ((l.length : Int) + 2) / 3 * 4 := by omega
  have q0 : (0 : Int) ≤ (l.length : Int) + 2 := by omega
  have q2 : IntKind.i64.wrap ((l.length : Int) + 2) = (l.length : Int) + 2 := IntWalk.i64_in _ (by omega)
  have q3 : Int.tdiv ((l.length : Int) + 2) 3 = ((l.length : Int) + 2) / 3 := Int.tdiv_eq_ediv_of_nonneg q0
  have q4 : IntKind.i64.wrap (((l.length : Int) + 2) / 3 * 4) = ((l.length : Int) + 2) / 3 * 4 := IntWalk.i64_in _ (by omega)
  clear hlen
  unfold S at A1 A2
  go_enter Tryd.func3, Tryd.ntmps3
  go_wp2_with fail
  (with_reducible refine (A1 _).mono ?_)
  rintro e x1 ⟨rfl, hg1⟩
  go_wp2_with fail
  (with_reducible refine (A2 _).mono ?_)
  rintro e x2 ⟨rfl, hg2⟩
  have hg := grow_trans hg1 hg2
  clear hg1 hg2 A1 A2
  rcases ub_cases r with hv | ⟨d, hv, hd⟩
  · rw [hv] at A3
    unfold ubNo S at A3
    go_wp2_with fail
    (with_reducible refine (A3 _).mono ?_)
    rintro e x3 ⟨rfl, hg3⟩
    go_wp2_with fail
    go_ret
    exact ⟨rfl, grow_below (grow_trans hg hg3) _ (Nat.le_refl _) (by simp)⟩
  · rw [hv] at A3
    have hdl := baseL_length d
    rw [hd] at hdl
    have A4 := fun W : World => code_base W d (by omega)
    rw [hd] at A4
    clear hdl hd hv
    unfold S at A3 A4
    go_wp2_with fail
    (with_reducible refine (A3 _).mono ?_)
    rintro e x3 ⟨rfl, hg3⟩
    go_wp2_with fail
    (with_reducible refine (A4 _).mono ?_)
    rintro e x4 ⟨rfl, hg4⟩
    go_wp2_with fail
    go_ret
    exact ⟨rfl, grow_below (grow_trans (grow_trans hg hg3) hg4) _ (Nat.le_refl _) (by simp)⟩

end Go.Proofs.YtimigoalddfkjaaDoor
