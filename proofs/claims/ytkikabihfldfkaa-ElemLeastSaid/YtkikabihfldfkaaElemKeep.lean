/- What the keeper's laws ask of numbers. -/
import Derived.Test.YtkikabihfldfkaaElemFuncs
import Derived.Test.YtkikabihfldfkaaSized
namespace Go.Proofs.Ytkikabihfldfkaa
open Go.RowKit
set_option linter.unusedVariables false

theorem code_kAdd (w : World) (s t : List UInt8) (hs : s.length = 32) (ht : t.length = 32) : Calls Try.prog 15 #[S s, S t] w (Grown (S (addM s t)) w) := by
  have A := fun W : World => code_nadd W s t hs ht
  obtain ⟨V, hV⟩ : ∃ V, V = addM s t := ⟨_, rfl⟩
  rw [← hV]
  rw [← hV] at A
  unfold Said S at A
  unfold S
  clear hV hs ht
  go_enter Try.func15, Try.ntmps15
  go_wp2_with fail
  (with_reducible refine (A _).mono ?_)
  rintro e w1 ⟨rfl, hg⟩
  go_wp2_with fail
  go_ret
  exact ⟨rfl, hg⟩

theorem code_kSub (w : World) (s t : List UInt8) (hs : s.length = 32) (ht : t.length = 32) : Calls Try.prog 20 #[S s, S t] w (Grown (S (subM s t)) w) := by
  have A := fun W : World => code_nsub W s t hs ht
  obtain ⟨V, hV⟩ : ∃ V, V = subM s t := ⟨_, rfl⟩
  rw [← hV]
  rw [← hV] at A
  unfold Said S at A
  unfold S
  clear hV hs ht
  go_enter Try.func20, Try.ntmps20
  go_wp2_with fail
  (with_reducible refine (A _).mono ?_)
  rintro e w1 ⟨rfl, hg⟩
  go_wp2_with fail
  go_ret
  exact ⟨rfl, hg⟩

theorem code_kMul (w : World) (s t : List UInt8) (hs : s.length = 32) (ht : t.length = 32) : Calls Try.prog 14 #[S s, S t] w (Grown (S (mulM s t)) w) := by
  have A := fun W : World => code_nmul W s t hs ht
  obtain ⟨V, hV⟩ : ∃ V, V = mulM s t := ⟨_, rfl⟩
  rw [← hV]
  rw [← hV] at A
  unfold Said S at A
  unfold S
  clear hV hs ht
  go_enter Try.func14, Try.ntmps14
  go_wp2_with fail
  (with_reducible refine (A _).mono ?_)
  rintro e w1 ⟨rfl, hg⟩
  go_wp2_with fail
  go_ret
  exact ⟨rfl, hg⟩

theorem code_kLeast (w : World) (s : List UInt8) (hs : s.length = 32) : Calls Try.prog 16 #[S s] w (Grown (S (lowM s)) w) := by
  have A := fun W : World => code_nlow W s hs
  obtain ⟨V, hV⟩ : ∃ V, V = lowM s := ⟨_, rfl⟩
  rw [← hV]
  rw [← hV] at A
  unfold Said S at A
  unfold S
  clear hV hs
  go_enter Try.func16, Try.ntmps16
  go_wp2_with fail
  (with_reducible refine (A _).mono ?_)
  rintro e w1 ⟨rfl, hg⟩
  go_wp2_with fail
  go_ret
  exact ⟨rfl, hg⟩

theorem mul57 : mulM (sizedL [5] 32) (sizedL [7] 32) = sizedL [35] 32 := by decide +kernel

theorem code_kElems (w : World) (s : List UInt8) (hs : s.length ≤ 9223372036854775807) : Calls Try.prog 12 #[S s] w (Grown (.tuple #[S (sizedL s 32), .bool true]) w) := by
  have A1 : ∀ W : World, Calls Try.prog 13 #[S [5], .int .i64 32] W (Grown (S (sizedL [5] 32)) W) := fun W => code_sized W [5] 32 (by simp) (by omega)
  have A2 : ∀ W : World, Calls Try.prog 13 #[S [7], .int .i64 32] W (Grown (S (sizedL [7] 32)) W) := fun W => code_sized W [7] 32 (by simp) (by omega)
  have A3 : ∀ W : World, Calls Try.prog 13 #[S [35], .int .i64 32] W (Grown (S (sizedL [35] 32)) W) := fun W => code_sized W [35] 32 (by simp) (by omega)
  have A4 : ∀ W : World, Calls Try.prog 13 #[S s, .int .i64 32] W (Grown (S (sizedL s 32)) W) := fun W => code_sized W s 32 hs (by omega)
  have A5 := fun W : World => code_nmul W (sizedL [5] 32) (sizedL [7] 32) (sizedL_length _ _) (sizedL_length _ _)
  rw [mul57] at A5
  generalize sizedL [5] 32 = u at *
  generalize sizedL [7] 32 = v at *
  generalize sizedL [35] 32 = z at *
  generalize sizedL s 32 = V at *
  unfold Said at A5
  unfold S at *
  clear hs
  go_enter Try.func12, Try.ntmps12
  go_wp2_with (first
    | (go_at_call 13; (with_reducible refine (A1 _).mono ?_); rintro e x1 ⟨rfl, hg1⟩)
    | (go_at_call 13; (with_reducible refine (A2 _).mono ?_); rintro e x2 ⟨rfl, hg2⟩)
    | (go_at_call 26; (with_reducible refine (A5 _).mono ?_); rintro e x3 ⟨rfl, hg3⟩)
    | (go_at_call 13; (with_reducible refine (A3 _).mono ?_); rintro e x4 ⟨rfl, hg4⟩)
    | (go_at_call 13; (with_reducible refine (A4 _).mono ?_); rintro e x5 ⟨rfl, hg5⟩)
    | fail)
  refine bodyPost_ret (v := .tuple #[.string ⟨V.toArray⟩, .bool true]) (by simp [results, Try.results12, go_sem]) rfl ?_
  exact ⟨rfl, grow_trans (grow_trans (grow_trans (grow_trans hg1 hg2) hg3) hg5) hg4⟩

end Go.Proofs.Ytkikabihfldfkaa
