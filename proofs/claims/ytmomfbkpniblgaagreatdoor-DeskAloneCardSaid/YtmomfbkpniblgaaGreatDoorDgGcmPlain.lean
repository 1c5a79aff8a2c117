/- Sealed by blocks: plain. -/
import Derived.Test.YtmomfbkpniblgaaGreatDoorDg17
import Derived.Test.YtmomfbkpniblgaaGreatDoorDgGhashOut
namespace Go.Proofs.YtmomfbkpniblgaaGreatDoor
open Go.RowKit
set_option linter.unusedVariables false

/-- The block of a number. -/
def gblk (key nonce : List UInt8) (n : Nat) : List UInt8 := encL key (nonce ++ bigB n 4)
theorem gblk_length (key nonce : List UInt8) (n : Nat) (hk : key.length = 32) (hn : nonce.length = 12) : (gblk key nonce n).length = 16 :=
  encL_length key _ (Or.inr hk) (by rw [List.length_append, bigB_length, hn])

/-- A text xored with the blocks from number n on (so many at most). -/
def gcx (key nonce : List UInt8) : Nat → Nat → List UInt8 → List UInt8
  | 0, _, _ => []
  | f + 1, n, s => if s = [] then [] else xorL s (gblk key nonce n) ++ gcx key nonce f (n + 1) (s.drop 16)
def gcxL (key nonce : List UInt8) (s : List UInt8) : List UInt8 := gcx key nonce (s.length + 1) 2 s

theorem gcx_nil (key nonce : List UInt8) (f n : Nat) : gcx key nonce f n [] = [] := by
  cases f <;> simp [gcx]

/-- So many blocks. -/
def gstr (key nonce : List UInt8) : Nat → Nat → List UInt8
  | 0, _ => []
  | f + 1, n => gblk key nonce n ++ gstr key nonce f (n + 1)
theorem gstr_length (key nonce : List UInt8) (hk : key.length = 32) (hn : nonce.length = 12) : ∀ (f n : Nat), (gstr key nonce f n).length = 16 * f
  | 0, _ => rfl
  | f + 1, n => by rw [gstr, List.length_append, gblk_length _ _ _ hk hn, gstr_length key nonce hk hn f]; omega
theorem gcx_stream (key nonce : List UInt8) (hk : key.length = 32) (hn : nonce.length = 12) : ∀ (f n : Nat) (s : List UInt8), s.length ≤ 16 * f → gcx key nonce f n s = xorL s (gstr key nonce f n)
  | 0, n, s, h => by
    obtain rfl : s = [] := List.eq_nil_of_length_eq_zero (by omega)
    rfl
  | f + 1, n, s, h => by
    unfold gcx
    by_cases e : s = []
    · subst e
      simp [xorL_nil_left]
    · rw [if_neg e, gstr, xorL_append, gblk_length _ _ _ hk hn, gcx_stream key nonce hk hn f _ _ (by rw [List.length_drop]; omega)]
theorem gcxL_length (key nonce s : List UInt8) (hk : key.length = 32) (hn : nonce.length = 12) : (gcxL key nonce s).length = s.length := by
  unfold gcxL
  rw [gcx_stream key nonce hk hn _ _ _ (by omega), xorL_length, gstr_length _ _ hk hn]
  omega
theorem gcxL_twice (key nonce s : List UInt8) (hk : key.length = 32) (hn : nonce.length = 12) : gcxL key nonce (gcxL key nonce s) = s := by
  have hl := gcxL_length key nonce s hk hn
  unfold gcxL at hl ⊢
  rw [hl, gcx_stream key nonce hk hn _ _ (gcx key nonce (s.length + 1) 2 s) (by omega), gcx_stream key nonce hk hn _ _ s (by omega)]
  exact xorL_twice _ _ (by rw [gstr_length _ _ hk hn]; omega)
theorem gcxL_pair (key nonce s t : List UInt8) (hk : key.length = 32) (hn : nonce.length = 12) (h : t.length = s.length) : xorL (gcxL key nonce s) (gcxL key nonce t) = xorL s t := by
  unfold gcxL
  rw [h, gcx_stream key nonce hk hn _ _ s (by omega), gcx_stream key nonce hk hn _ _ t (by omega)]
  exact xorL_pair _ _ _ (by rw [gstr_length _ _ hk hn]; omega) (by rw [gstr_length _ _ hk hn]; omega)

def gtagL (key nonce more s : List UInt8) : List UInt8 := xorL (hsumL (encL key (zerosL 16)) more s) (gblk key nonce 1)
theorem gtagL_length (key nonce more s : List UInt8) (hk : key.length = 32) (hn : nonce.length = 12) : (gtagL key nonce more s).length = 16 := by
  unfold gtagL
  rw [xorL_length, hsumL_length, gblk_length _ _ _ hk hn]
  rfl
def gsealL (key nonce more text : List UInt8) : List UInt8 := gcxL key nonce text ++ gtagL key nonce more (gcxL key nonce text)
theorem gsealL_length (key nonce more text : List UInt8) (hk : key.length = 32) (hn : nonce.length = 12) : (gsealL key nonce more text).length = text.length + 16 := by
  unfold gsealL
  rw [List.length_append, gtagL_length _ _ _ _ hk hn, gcxL_length _ _ _ hk hn]
theorem gsealL_take (key nonce more text : List UInt8) (hk : key.length = 32) (hn : nonce.length = 12) : (gsealL key nonce more text).take text.length = gcxL key nonce text := by
  have := gcxL_length key nonce text hk hn
  unfold gsealL
  rw [List.take_append_of_le_length (by omega), List.take_of_length_le (by omega)]

theorem gdrop_part (s b : List UInt8) (hb : b.length = 16) : s.drop (xorL s b).length = s.drop 16 := by
  rw [xorL_length, hb]
  rcases Nat.lt_or_ge s.length 16 with h | h
  · rw [Nat.min_eq_left (by omega), List.drop_length, List.drop_of_length_le (by omega)]
  · rw [Nat.min_eq_right h]

theorem gcm_vec1 : gsealL (zerosL 32) (zerosL 12) [] (zerosL 16) = [206, 167, 64, 61, 77, 96, 107, 110, 7, 78, 197, 211, 186, 243, 157, 24, 208, 209, 200, 167, 153, 153, 107, 240, 38, 91, 152, 181, 212, 138, 185, 25] := by decide +kernel
theorem gcm_vec2 : gsealL (zerosL 32) (zerosL 12) [] [] = [83, 15, 138, 251, 199, 69, 54, 185, 169, 99, 180, 241, 196, 203, 115, 139] := by decide +kernel

end Go.Proofs.YtmomfbkpniblgaaGreatDoor
