/- The two curves' kits. Plain. -/
import Derived.Test.YtmceahknglkhoaaLadPts
namespace Go.Proofs.Ytmceahknglkhoaa
set_option linter.unusedVariables false

theorem rX_ed (x z : FP) : Ed.rX x z = rX x z := rfl
theorem rZ_ed (c x z : FP) : Ed.rZ c x z = rZ c x z := rfl
theorem rX3_ed (a b c d : FP) : Ed.rX3 a b c d = rX3 a b c d := rfl
theorem rZ3_ed (u a b c d : FP) : Ed.rZ3 u a b c d = rZ3 u a b c d := rfl
theorem fi_succ (n : Nat) : fi (n + 1) = fi n + 1 := by
  apply Fin.ext
  rw [Fin.val_add, fi_val, fi_val]
  show (n + 1) % PP = (n % PP + 1 % PP) % PP
  rw [← Nat.add_mod]
theorem frac_eq {a b : FP} (hb : b ≠ 0) : a * invP b * b = a := by
  have h := mul_invP b hb
  generalize invP b = J at *
  have e : a * J * b = a * (b * J) := by clear h; grind
  rw [e, h]; clear e h; grind
theorem n65 : fi 121665 ≠ 0 := fi_ne (low_mod (by omega) (by omega))
theorem n66 : fi 121666 ≠ 0 := fi_ne (low_mod (by omega) (by omega))
theorem one_sub {a b : FP} (hb : b ≠ 0) (hne : a ≠ b) : 1 - a * invP b ≠ 0 := by
  intro e
  apply hne
  have h := frac_eq (a := a) hb
  generalize a * invP b = q at *
  rw [← h]
  clear h
  grind
theorem ne65 : fi 121665 ≠ fi 121666 := by
  intro e
  have := fi_eq.1 e
  rw [Nat.mod_eq_of_lt (by rw [PP_eq]; omega), Nat.mod_eq_of_lt (by rw [PP_eq]; omega)] at this
  omega
theorem hcD : ddP * (fi 121665 + 1) = fi 121665 := by
  rw [← fi_succ]
  exact frac_eq n66
theorem hcW : dwP * (-(fi 121665) - 1 + 1) = -(fi 121665) - 1 := by
  have e : dwP * fi 121665 = fi 121666 := frac_eq n65
  have e2 : fi 121666 = fi 121665 + 1 := fi_succ 121665
  rw [e2] at e
  generalize fi 121665 = c at *
  generalize dwP = D at *
  clear e2
  grind
theorem kit1 {u : FP} {B : Ed.Pt ddP} (hu : u * (1 - B.y) = 1 + B.y) (hb1 : 1 + B.y ≠ 0) : Kit goodD 1 u B := by
  have o : ∀ a : FP, 1 * a = a := fun a => by grind
  refine ⟨by grind, fun P X Z h => ?_, fun P Q X Z X' Z' hB h h' => ?_⟩
  · rw [o] at h ⊢
    exact Ed.rep_two goodD hcD (by rw [← fi_succ]; exact n66) P h
  · rw [o] at h h' ⊢
    exact Ed.rep_sum goodD hB hu hb1 (one_sub n66 ne65) h h'
theorem rep_neg {y X Z : FP} (h : Ed.Rep y X (-1 * Z)) : Ed.Rep y (-1 * X) Z := by
  obtain ⟨s, hs, h1, h2⟩ := h
  refine ⟨-1 * s, ?_, ?_, ?_⟩
  · intro e
    apply hs
    have : s = -1 * (-1 * s) := by clear h1 h2 e hs; grind
    rw [this, e]; clear this e h1 h2 hs; grind
  · rw [h1]; clear h1 h2 hs; grind
  · have : Z = -1 * (-1 * Z) := by clear h1 h2 hs; grind
    rw [this, h2]; clear this h1 h2 hs; grind
theorem kit2 {u : FP} {B : Ed.Pt dwP} (hu : (-1 * u) * (1 - B.y) = 1 + B.y) (hb1 : 1 + B.y ≠ 0) : Kit goodW (-1) u B := by
  refine ⟨by grind, fun P X Z h => ?_, fun P Q X Z X' Z' hB h h' => ?_⟩
  · have h2 := Ed.rep_two goodW hcW (by
      have e : -(fi 121665) - 1 + 1 = -1 * fi 121665 := by grind
      rw [e]
      intro e2
      apply n65
      have : fi 121665 = -1 * (-1 * fi 121665) := by clear e e2; grind
      rw [this, e2]; clear this e e2; grind) P h
    have e1 : Ed.rX (-1 * X) Z = rX X Z := by unfold Ed.rX rX; clear h h2; grind
    have e2 : Ed.rZ (-(fi 121665) - 1) (-1 * X) Z = -1 * rZ (fi 121665) X Z := by unfold Ed.rZ Ed.rE rZ rE; clear h h2 e1; grind
    rw [e1, e2] at h2
    exact rep_neg h2
  · have h2 := Ed.rep_sum goodW hB hu hb1 (one_sub n65 (Ne.symm ne65)) h h'
    have e1 : Ed.rX3 (-1 * X) Z (-1 * X') Z' = rX3 X Z X' Z' := by unfold Ed.rX3 Ed.rDA Ed.rCB rX3 rDA rCB; clear h h' h2 hu hb1 hB; grind
    have e2 : Ed.rZ3 (-1 * u) (-1 * X) Z (-1 * X') Z' = -1 * rZ3 u X Z X' Z' := by unfold Ed.rZ3 Ed.rDA Ed.rCB rZ3 rDA rCB; clear h h' h2 hu hb1 hB e1; grind
    rw [e1, e2] at h2
    exact rep_neg h2
end Go.Proofs.Ytmceahknglkhoaa
