/- ChaCha: plain laws of the stream. -/
import Derived.Test.YtffeekfofbcobaaStream
import Derived.Test.YtffeekfofbcobaaXorPlain
namespace Go.Proofs.Ytffeekfofbcobaa
set_option linter.unusedVariables false

/-- So many blocks of the stream. -/
def streamF (key nonce : List UInt8) : Nat → Nat → List UInt8
  | 0, _ => []
  | f + 1, n => blockL key nonce n ++ streamF key nonce f (next32 n)

theorem streamF_length (key nonce : List UInt8) : ∀ (f n : Nat), (streamF key nonce f n).length = 64 * f
  | 0, _ => rfl
  | f + 1, n => by rw [streamF, List.length_append, blockL_length, streamF_length key nonce f]; omega

theorem chx_stream (key nonce : List UInt8) : ∀ (f n : Nat) (s : List UInt8), s.length ≤ 64 * f → chx key nonce f n s = xorL s (streamF key nonce f n)
  | 0, n, s, h => by
    obtain rfl : s = [] := List.eq_nil_of_length_eq_zero (by omega)
    rfl
  | f + 1, n, s, h => by
    unfold chx
    by_cases e : s = []
    · subst e
      simp [xorL_nil_left]
    · rw [if_neg e, streamF, xorL_append, blockL_length, chx_stream key nonce f _ _ (by rw [List.length_drop]; omega)]

def addn32 (n j : Nat) : Nat := (n + j) % 4294967296

theorem streamF_add (key nonce : List UInt8) : ∀ (j f n : Nat), n < 4294967296 → streamF key nonce (j + f) n = streamF key nonce j n ++ streamF key nonce f (addn32 n j)
  | 0, f, n, h => by
    rw [Nat.zero_add, show addn32 n 0 = n from by unfold addn32; omega]
    rfl
  | j + 1, f, n, h => by
    rw [show j + 1 + f = (j + f) + 1 from by omega, streamF, streamF, streamF_add key nonce j f (next32 n) (Nat.mod_lt _ (by omega)), List.append_assoc]
    rw [show addn32 (next32 n) j = addn32 n (j + 1) from by unfold addn32 next32; omega]

/-- However many blocks beyond the text. -/
theorem chxL_stream (key nonce : List UInt8) (f n : Nat) (s : List UInt8) (h : s.length ≤ 64 * f) (h32 : n < 4294967296) : chxL key nonce n s = xorL s (streamF key nonce f n) := by
  unfold chxL
  rw [chx_stream _ _ _ _ _ (by omega)]
  have h1 := streamF_length key nonce f n
  have h2 := streamF_length key nonce (s.length + 1) n
  rcases Nat.le_total f (s.length + 1) with q | q
  · obtain ⟨d, hd⟩ : ∃ d, s.length + 1 = f + d := ⟨s.length + 1 - f, by omega⟩
    rw [hd, streamF_add _ _ _ _ _ h32, xorL_take _ _ _ (by omega)]
  · obtain ⟨d, hd⟩ : ∃ d, f = (s.length + 1) + d := ⟨f - (s.length + 1), by omega⟩
    rw [hd, streamF_add _ _ (s.length + 1) d _ h32, xorL_take _ _ _ (by omega)]

theorem chxL_twice (key nonce : List UInt8) (n : Nat) (s : List UInt8) (h32 : n < 4294967296) : chxL key nonce n (chxL key nonce n s) = s := by
  have hl := chxL_length key nonce n s
  rw [chxL_stream key nonce (s.length + 1) n (chxL key nonce n s) (by omega) h32, chxL_stream key nonce (s.length + 1) n s (by omega) h32]
  exact xorL_twice _ _ (by rw [streamF_length]; omega)

theorem chxL_pair (key nonce : List UInt8) (n : Nat) (s t : List UInt8) (h32 : n < 4294967296) (h : t.length = s.length) : xorL (chxL key nonce n s) (chxL key nonce n t) = xorL s t := by
  rw [chxL_stream key nonce (s.length + 1) n s (by omega) h32, chxL_stream key nonce (s.length + 1) n t (by omega) h32]
  exact xorL_pair _ _ _ (by rw [streamF_length]; omega) (by rw [streamF_length]; omega)

theorem chxL_split (key nonce : List UInt8) (n j : Nat) (a b : List UInt8) (h32 : n < 4294967296) (ha : a.length = 64 * j) : chxL key nonce n (a ++ b) = chxL key nonce n a ++ chxL key nonce (addn32 n j) b := by
  rw [chxL_stream key nonce (j + (b.length + 1)) n (a ++ b) (by rw [List.length_append]; omega) h32, chxL_stream key nonce j n a (by omega) h32,
    chxL_stream key nonce (b.length + 1) (addn32 n j) b (by omega) (Nat.mod_lt _ (by omega)), streamF_add _ _ _ _ _ h32]
  exact xorL_append_left _ _ _ _ (by rw [streamF_length, ha])

theorem xorL_zeros : ∀ (K : List UInt8), xorL (List.replicate K.length 0) K = K
  | [] => rfl
  | k :: K => by
    have := xorL_zeros K
    simp only [xorL, List.length_cons, List.replicate_succ, List.zipWith_cons_cons] at this ⊢
    rw [this, UInt8.zero_xor]

theorem chxL_zeros (key nonce : List UInt8) (n : Nat) (h32 : n < 4294967296) : chxL key nonce n (zerosL 64) = blockL key nonce n := by
  rw [chxL_stream key nonce 1 n _ (by rw [zerosL_length]; omega) h32, streamF, streamF, List.append_nil]
  have := xorL_zeros (blockL key nonce n)
  rw [blockL_length] at this
  exact this

end Go.Proofs.Ytffeekfofbcobaa
