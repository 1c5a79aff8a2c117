/- The least number of a text: plain. -/
import Derived.Test.YtkikabihfldfkaaElemPlainLaws
namespace Go.Proofs.Ytkikabihfldfkaa
set_option linter.unusedVariables false

/-- The bytes of P. -/
def pL : List UInt8 := [237] ++ Lib.repeatL [255] 30 ++ [127]
theorem pL_eq : pL = leB PP 32 := by rw [PP_eq]; decide +kernel
theorem pL_length : pL.length = 32 := by decide +kernel
theorem leN_pL : leN pL = PP := by rw [PP_eq]; decide +kernel

theorem leN_app : ∀ a b : List UInt8, leN (a ++ b) = leN a + 256 ^ a.length * leN b
  | [], b => by simp [leN]
  | c :: a, b => by
    rw [List.cons_append]
    simp only [leN, List.length_cons, Nat.pow_succ]
    rw [leN_app a b, Nat.mul_add, Nat.add_assoc, Nat.mul_comm (256 ^ a.length) 256, Nat.mul_assoc]

/-- Where all above are the same the lesser one's byte is no more. -/
theorem byte_le (l p : List UInt8) (n : Nat) (hl : l.length = n) (hp : p.length = n) (h : leN l < leN p) (i : Nat) (hi : i < n) (he : ∀ j, i < j → j < n → l[j]? = p[j]?) :
    (l[i]'(by omega)).toNat ≤ (p[i]'(by omega)).toNat ∧ (i = 0 → (l[i]'(by omega)).toNat < (p[i]'(by omega)).toNat) := by
  have hd : l.drop (i + 1) = p.drop (i + 1) := by
    apply List.ext_getElem?
    intro k
    rw [List.getElem?_drop, List.getElem?_drop]
    by_cases hk : i + 1 + k < n
    · exact he _ (by omega) hk
    · rw [List.getElem?_eq_none (by omega), List.getElem?_eq_none (by omega)]
  have el : l = l.take i ++ (l[i]'(by omega) :: l.drop (i + 1)) := by rw [List.getElem_cons_drop, List.take_append_drop]
  have ep : p = p.take i ++ (p[i]'(by omega) :: p.drop (i + 1)) := by rw [List.getElem_cons_drop, List.take_append_drop]
  have h1 := leN_lt (l.take i)
  have h2 := leN_lt (p.take i)
  have n1 : (l.take i).length = i := by rw [List.length_take]; omega
  have n2 : (p.take i).length = i := by rw [List.length_take]; omega
  rw [congrArg leN el, congrArg leN ep, leN_app, leN_app, n1, n2, hd] at h
  rw [n1] at h1
  rw [n2] at h2
  generalize (l[i]'(by omega)) = x at *
  generalize (p[i]'(by omega)) = y at *
  simp only [leN] at h
  generalize leN (p.drop (i + 1)) = z at *
  rw [Nat.mul_add, Nat.mul_add] at h
  generalize 256 ^ i * (256 * z) = t at *
  constructor
  · rcases Nat.lt_or_ge y.toNat x.toNat with hc | hc
    · have := Nat.mul_le_mul_left (256 ^ i) (show y.toNat + 1 ≤ x.toNat from hc)
      rw [Nat.mul_add, Nat.mul_one] at this
      omega
    · exact hc
  · intro h0
    subst h0
    simp [leN] at h
    omega

theorem low_lt (a : List UInt8) : leN (lowM a) < leN pL := by
  rw [leN_lowM, leN_pL]
  exact Nat.mod_lt _ PP_pos
theorem low_low (a : List UInt8) : lowM (lowM a) = lowM a := by
  unfold lowM
  rw [leN_least, Nat.mod_mod]
theorem add_p (a : List UInt8) : addM a pL = lowM a := by
  unfold addM lowM
  rw [leN_pL, Nat.add_mod_right]
theorem low_p : lowM pL = zerosL 32 := by
  unfold lowM
  rw [leN_pL, Nat.mod_self, leB_zero]

end Go.Proofs.Ytkikabihfldfkaa
