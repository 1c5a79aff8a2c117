/- Plain laws of xor of texts. -/
import Derived.Test.YtffeekfofbcobaaWxor
namespace Go.Proofs.Ytffeekfofbcobaa
set_option linter.unusedVariables false

theorem xorL_nil_right (s : List UInt8) : xorL s [] = [] := by cases s <;> rfl
theorem xorL_nil_left (s : List UInt8) : xorL [] s = [] := by cases s <;> rfl

theorem xorL_append : ∀ (b s r : List UInt8), xorL s (b ++ r) = xorL s b ++ xorL (s.drop b.length) r
  | [], s, r => by simp [xorL_nil_right]
  | c :: b, [], r => by simp [xorL_nil_left]
  | c :: b, d :: s, r => by
    have := xorL_append b s r
    simp only [xorL, List.cons_append, List.zipWith_cons_cons, List.length_cons, List.drop_succ_cons] at this ⊢
    rw [this]

theorem xorL_append_left : ∀ (s t b r : List UInt8), s.length = b.length → xorL (s ++ t) (b ++ r) = xorL s b ++ xorL t r
  | [], t, [], r, _ => rfl
  | c :: s, t, d :: b, r, h => by
    have := xorL_append_left s t b r (by simpa using h)
    simp only [xorL, List.cons_append, List.zipWith_cons_cons] at this ⊢
    rw [this]

theorem xorL_twice : ∀ (s K : List UInt8), s.length ≤ K.length → xorL (xorL s K) K = s
  | [], K, _ => by simp [xorL_nil_left]
  | c :: s, [], h => by simp at h
  | c :: s, k :: K, h => by
    have := xorL_twice s K (by simpa using h)
    simp only [xorL, List.zipWith_cons_cons] at this ⊢
    rw [this, UInt8.xor_assoc, UInt8.xor_self, UInt8.xor_zero]

theorem xorL_pair : ∀ (s t K : List UInt8), s.length ≤ K.length → t.length ≤ K.length → xorL (xorL s K) (xorL t K) = xorL s t
  | [], t, K, _, _ => by simp [xorL_nil_left]
  | c :: s, [], K, _, _ => by simp [xorL_nil_left, xorL_nil_right]
  | c :: s, d :: t, [], h, _ => by simp at h
  | c :: s, d :: t, k :: K, h1, h2 => by
    have := xorL_pair s t K (by simpa using h1) (by simpa using h2)
    simp only [xorL, List.zipWith_cons_cons] at this ⊢
    rw [this]
    congr 1
    rw [UInt8.xor_assoc, ← UInt8.xor_assoc k, UInt8.xor_comm k d, UInt8.xor_assoc d, UInt8.xor_self, UInt8.xor_zero]

theorem xorL_take (s K r : List UInt8) (h : s.length ≤ K.length) : xorL s (K ++ r) = xorL s K := by
  rw [xorL_append, List.drop_of_length_le h, xorL_nil_left, List.append_nil]

end Go.Proofs.Ytffeekfofbcobaa
