/- The two curves modulo 2^255 - 19: their numbers are no squares. Plain. -/
import Derived.Test.YtmceahknglkhoaaDoorFieldP
import Derived.Test.YtmceahknglkhoaaDoorEdw
namespace Go.Proofs.YtmceahknglkhoaaDoor
set_option linter.unusedVariables false

def nrN : Nat := 121665 * 121666
theorem nr_pow : nrN ^ ((PP - 1) / 2) % PP = PP - 1 := by
  rw [← Pr.powMod_eq PP 400, PP_eq]
  decide +kernel
theorem nonres (t : Fin PP) : t * t ≠ fi nrN := by
  intro h
  have h1 : t.val * t.val % PP = nrN % PP := by
    have := congrArg Fin.val h
    rw [Fin.val_mul] at this
    exact this
  have h2 : (t.val * t.val) ^ ((PP - 1) / 2) % PP = PP - 1 := by
    rw [Nat.pow_mod, h1, ← Nat.pow_mod, nr_pow]
  have e : t.val * t.val = t.val ^ 2 := by rw [Nat.pow_two]
  have hodd : 2 * ((PP - 1) / 2) = PP - 1 := by rw [PP_eq]
  rw [e, ← Nat.pow_mul, hodd] at h2
  have hp : 2 < PP := by rw [PP_eq]; omega
  by_cases h0 : PP ∣ t.val
  · have hz : t.val = 0 := Nat.eq_zero_of_dvd_of_lt h0 t.isLt
    rw [hz, Nat.zero_pow (by omega), Nat.zero_mod] at h2
    omega
  · rw [Pr.fermat prP _ h0] at h2
    omega
def ddP : Fin PP := fi 121665 * invP (fi 121666)
def dwP : Fin PP := fi 121666 * invP (fi 121665)
theorem fi_ne {n : Nat} (h : n % PP ≠ 0) : fi n ≠ 0 := fun e => h (by
  have := congrArg Fin.val e
  rw [fi_val] at this
  exact this)
theorem low_mod {n : Nat} (h0 : n ≠ 0) (h : n < 1000000) : n % PP ≠ 0 := by
  rw [Nat.mod_eq_of_lt (by rw [PP_eq]; omega)]
  exact h0
theorem two_ne : (2 : Fin PP) ≠ 0 := by
  have e : (2 : Fin PP) = fi 2 := rfl
  rw [e]
  exact fi_ne (low_mod (by omega) (by omega))
theorem fi_nmul2 (x y : Nat) : fi (x * y) = fi x * fi y := by
  apply Fin.ext
  rw [Fin.val_mul, fi_val, fi_val, fi_val, ← Nat.mul_mod]
theorem frac_nonsq {a b : Nat} (ha : fi a ≠ 0) (hb : fi b ≠ 0) (hab : a * b = nrN) (t : Fin PP) : t * t ≠ fi a * invP (fi b) := by
  intro h
  have hi := mul_invP _ hb
  apply nonres (t * fi b)
  rw [← hab, fi_nmul2]
  generalize fi a = A at *
  generalize fi b = B at *
  generalize invP B = J at *
  have e1 : t * B * (t * B) = t * t * (B * B) := by clear h hi; grind
  have e2 : A * J * (B * B) = A * B * (B * J) := by clear h hi e1; grind
  rw [e1, h, e2, hi]
  clear h hi e1 e2
  grind
theorem goodD : Ed.Good ddP := ⟨frac_nonsq (fi_ne (low_mod (by omega) (by omega))) (fi_ne (low_mod (by omega) (by omega))) rfl, two_ne⟩
theorem goodW : Ed.Good dwP := ⟨frac_nonsq (fi_ne (low_mod (by omega) (by omega))) (fi_ne (low_mod (by omega) (by omega))) (Nat.mul_comm _ _), two_ne⟩
end Go.Proofs.YtmceahknglkhoaaDoor
