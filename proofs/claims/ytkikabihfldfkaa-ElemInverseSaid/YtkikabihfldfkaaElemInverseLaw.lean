/- The walk of ElemInverse. -/
import Derived.Test.YtkikabihfldfkaaElemAddsLaw
import Derived.Test.YtkikabihfldfkaaElemInv
namespace Go.Proofs.Ytkikabihfldfkaa
open Go.RowKit
set_option linter.unusedVariables false

theorem neL {a b : List UInt8} (h : ¬ a = b) : (a == b) = false := by rw [beq_eq_false_iff_ne]; exact h

theorem inverse_ways (a b : List UInt8) :
    (lowM a = zerosL 32 ∧ invM a = zerosL 32 ∧ mulM a (invM a) = zerosL 32 ∧ mulM a b = zerosL 32) ∨
    ((lowM a == zerosL 32) = false ∧ (invM a == zerosL 32) = false ∧ mulM a (invM a) = sizedL [1] 32 ∧ lowM b = zerosL 32 ∧ mulM a b = zerosL 32) ∨
    ((lowM a == zerosL 32) = false ∧ (invM a == zerosL 32) = false ∧ mulM a (invM a) = sizedL [1] 32 ∧ (lowM b == zerosL 32) = false ∧ (mulM a b == zerosL 32) = false) := by
  by_cases h : lowM a = zerosL 32
  · exact Or.inl ⟨h, inv_zero a h, (mul_zero_iff _ _).2 (Or.inl h), (mul_zero_iff _ _).2 (Or.inl h)⟩
  · by_cases k : lowM b = zerosL 32
    · exact Or.inr (Or.inl ⟨neL h, neL (inv_ne a h), mul_inv a h, k, (mul_zero_iff _ _).2 (Or.inr k)⟩)
    · exact Or.inr (Or.inr ⟨neL h, neL (inv_ne a h), mul_inv a h, neL k, neL (fun e => by rcases (mul_zero_iff _ _).1 e with e | e; exact h e; exact k e)⟩)

set_option maxRecDepth 20000 in
set_option maxHeartbeats 8000000 in
theorem walk_ElemInverse (s0 s1 : ByteArray) (w0 : s0.size ≤ maxLen) (w1 : s1.size ≤ maxLen) (w : World) :
    Calls Try.prog 8 #[.string s0, .string s1] w fun e w' => e = .returned (.bool true) ∧ Below w.heap.size w w' := by
  obtain ⟨a0, rfl, ha⟩ := listB s0
  obtain ⟨b0, rfl, hb⟩ := listB s1
  unfold maxLen at w0 w1
  rw [← ha] at w0
  rw [← hb] at w1
  clear ha hb
  have E0 := lift w (fun W => code_kElems W a0 (by omega))
  have E1 : ∀ W : World, Hid (w.grownBy W none) → Calls Try.prog 13 #[S b0, .int .i64 32] W (GrownH w (S (sizedL b0 32))) := lift w (fun W => code_sized W b0 32 (by omega) (by omega))
  have E2 : ∀ W : World, Hid (w.grownBy W none) → Calls Try.prog 13 #[S [1], .int .i64 32] W (GrownH w (S (sizedL [1] 32))) := lift w (fun W => code_sized W [1] 32 (by simp) (by omega))
  have la := sizedL_length a0 32
  have lb := sizedL_length b0 32
  generalize sizedL a0 32 = a at *
  generalize sizedL b0 32 = b at *
  have hways := inverse_ways a b
  have li := invM_length a
  have C0 := lift w (fun W => code_ninv W a (by assumption))
  have C1 := lift w (fun W => code_kLeast W a (by assumption))
  have C2 := lift w (fun W => code_kMul W a (invM a) (by assumption) (by assumption))
  have C3 := lift w (fun W => code_kMul W a b (by assumption) (by assumption))
  have C4 := lift w (fun W => code_kLeast W b (by assumption))
  have C5' : ∀ W : World, Hid (w.grownBy W none) → Calls Try.prog 18 #[.int .i64 32] W (GrownH w (S (zerosL 32))) := lift w (fun W => code_zeros W 32 (by omega))
  have C5 := C5'
  clear C5' la lb li w0 w1
  generalize mulM a (invM a) = q at *
  generalize invM a = i at *
  generalize lowM a = lo at *
  generalize lowM b = lob at *
  generalize mulM a b = m at *
  generalize zerosL 32 = zz at *
  generalize sizedL [1] 32 = one at *
  unfold GrownH S at *
  have hg : Hid (w.grownBy w none) := Lib.hid (grow_refl _ _)
  rcases hways with ⟨rfl, rfl, rfl, rfl⟩ | ⟨k1, k2, rfl, rfl, rfl⟩ | ⟨k1, k2, rfl, k3, k4⟩
  all_goals
    go_enter Try.func8, Try.ntmps8
    go_wp2_with (first
      | (go_at_call 12; (with_reducible refine (E0 _ hg).mono ?_); clear hg; rintro e x ⟨rfl, hg⟩)
      | (go_at_call 13; (with_reducible refine (E1 _ hg).mono ?_); clear hg; rintro e x ⟨rfl, hg⟩)
      | (go_at_call 13; (with_reducible refine (E2 _ hg).mono ?_); clear hg; rintro e x ⟨rfl, hg⟩)
      | (go_at_call 21; (with_reducible refine (C0 _ hg).mono ?_); clear hg; rintro e x ⟨rfl, hg⟩)
      | (go_at_call 16; (with_reducible refine (C1 _ hg).mono ?_); clear hg; rintro e x ⟨rfl, hg⟩)
      | (go_at_call 14; (with_reducible refine (C2 _ hg).mono ?_); clear hg; rintro e x ⟨rfl, hg⟩)
      | (go_at_call 14; (with_reducible refine (C3 _ hg).mono ?_); clear hg; rintro e x ⟨rfl, hg⟩)
      | (go_at_call 16; (with_reducible refine (C4 _ hg).mono ?_); clear hg; rintro e x ⟨rfl, hg⟩)
      | (go_at_call 18; (with_reducible refine (C5 _ hg).mono ?_); clear hg; rintro e x ⟨rfl, hg⟩)
      | fail)
    go_ret
    exact ⟨rfl, grow_below hg.out _ (Nat.le_refl _) (by simp)⟩

end Go.Proofs.Ytkikabihfldfkaa
