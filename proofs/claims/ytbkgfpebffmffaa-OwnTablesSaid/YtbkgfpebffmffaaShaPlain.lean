/- SHA-256: plain. -/
import Derived.Test.YtbkgfpebffmffaaWord
import Derived.Test.YtbkgfpebffmffaaWire
namespace Go.Proofs.Ytbkgfpebffmffaa
set_option linter.unusedVariables false

def sadd (a b : Nat) : Nat := (a + b) % 4294967296
def shaK : List Nat := [
  0x428a2f98, 0x71374491, 0xb5c0fbcf, 0xe9b5dba5, 0x3956c25b, 0x59f111f1, 0x923f82a4, 0xab1c5ed5,
  0xd807aa98, 0x12835b01, 0x243185be, 0x550c7dc3, 0x72be5d74, 0x80deb1fe, 0x9bdc06a7, 0xc19bf174,
  0xe49b69c1, 0xefbe4786, 0x0fc19dc6, 0x240ca1cc, 0x2de92c6f, 0x4a7484aa, 0x5cb0a9dc, 0x76f988da,
  0x983e5152, 0xa831c66d, 0xb00327c8, 0xbf597fc7, 0xc6e00bf3, 0xd5a79147, 0x06ca6351, 0x14292967,
  0x27b70a85, 0x2e1b2138, 0x4d2c6dfc, 0x53380d13, 0x650a7354, 0x766a0abb, 0x81c2c92e, 0x92722c85,
  0xa2bfe8a1, 0xa81a664b, 0xc24b8b70, 0xc76c51a3, 0xd192e819, 0xd6990624, 0xf40e3585, 0x106aa070,
  0x19a4c116, 0x1e376c08, 0x2748774c, 0x34b0bcb5, 0x391c0cb3, 0x4ed8aa4a, 0x5b9cca4f, 0x682e6ff3,
  0x748f82ee, 0x78a5636f, 0x84c87814, 0x8cc70208, 0x90befffa, 0xa4506ceb, 0xbef9a3f7, 0xc67178f2]
def shaI : List Nat := [0x6a09e667, 0xbb67ae85, 0x3c6ef372, 0xa54ff53a, 0x510e527f, 0x9b05688c, 0x1f83d9ab, 0x5be0cd19]

/-- turned to the right by a, by b, moved down by c -/
def mixS (x a b c : Nat) : Nat := (rotl32 x (32 - a) ^^^ rotl32 x (32 - b)) ^^^ x / 2 ^ c
/-- turned to the right by a, by b, by c -/
def mixR (x a b c : Nat) : Nat := (rotl32 x (32 - a) ^^^ rotl32 x (32 - b)) ^^^ rotl32 x (32 - c)

def wNext (b : List UInt8) (l : List Nat) (t : Nat) : Nat :=
  if t < 16 then bigN ((b.drop (4 * t)).take 4)
  else sadd (sadd (sadd (l.getD (t - 16) 0) (l.getD (t - 7) 0)) (mixS (l.getD (t - 15) 0) 7 18 3)) (mixS (l.getD (t - 2) 0) 17 19 10)
def sched (b : List UInt8) : Nat → List Nat
  | 0 => []
  | t + 1 => sched b t ++ [wNext b (sched b t) t]
theorem sched_length (b : List UInt8) : ∀ t, (sched b t).length = t
  | 0 => rfl
  | t + 1 => by rw [sched, List.length_append, sched_length b t]; rfl

def shaOne (v : List Nat) (k w : Nat) : Nat :=
  sadd (sadd (sadd (sadd (v.getD 7 0) (mixR (v.getD 4 0) 6 11 25)) ((v.getD 4 0 &&& v.getD 5 0) ^^^ ((4294967295 ^^^ v.getD 4 0) &&& v.getD 6 0))) k) w
def shaTwo (v : List Nat) : Nat :=
  sadd (mixR (v.getD 0 0) 2 13 22) (((v.getD 0 0 &&& v.getD 1 0) ||| (v.getD 0 0 &&& v.getD 2 0)) ||| (v.getD 1 0 &&& v.getD 2 0))
def shaR (v : List Nat) (k w : Nat) : List Nat :=
  [sadd (shaOne v k w) (shaTwo v), v.getD 0 0, v.getD 1 0, v.getD 2 0, sadd (v.getD 3 0) (shaOne v k w), v.getD 4 0, v.getD 5 0, v.getD 6 0]
def shaRs (ws v : List Nat) : Nat → List Nat
  | 0 => v
  | t + 1 => shaR (shaRs ws v t) (shaK.getD t 0) (ws.getD t 0)
def sumW (a b : List Nat) : List Nat := List.zipWith sadd a b
def takenL (s : List Nat) (b : List UInt8) : List Nat := sumW s (shaRs (sched b 64) s 64)

theorem shaRs_length (ws v : List Nat) (hv : v.length = 8) : ∀ t, (shaRs ws v t).length = 8
  | 0 => hv
  | t + 1 => rfl
theorem takenL_length (s : List Nat) (b : List UInt8) (hs : s.length = 8) : (takenL s b).length = 8 := by
  unfold takenL sumW
  rw [List.length_zipWith, shaRs_length _ _ hs, hs]; rfl

/-- all whole blocks of a text, and what is left of it -/
def absorb : Nat → List Nat → List UInt8 → List Nat × List UInt8
  | 0, s, r => (s, r)
  | f + 1, s, r => if 64 ≤ r.length then absorb f (takenL s (r.take 64)) (r.drop 64) else (s, r)
def absorbL (s : List Nat) (r : List UInt8) : List Nat × List UInt8 := absorb r.length s r

theorem absorb_fuel : ∀ (f g : Nat) (s : List Nat) (r : List UInt8), r.length ≤ 64 * f → r.length ≤ 64 * g → absorb f s r = absorb g s r
  | 0, 0, s, r, _, _ => rfl
  | 0, g + 1, s, r, h, _ => by rw [absorb, absorb, if_neg (by omega)]
  | f + 1, 0, s, r, _, h => by rw [absorb, absorb, if_neg (by omega)]
  | f + 1, g + 1, s, r, h1, h2 => by
    rw [absorb, absorb]
    split
    · exact absorb_fuel f g _ _ (by rw [List.length_drop]; omega) (by rw [List.length_drop]; omega)
    · rfl

theorem absorb_app : ∀ (f g : Nat) (s : List Nat) (r t : List UInt8), r.length ≤ 64 * f → r.length + t.length ≤ 64 * g →
    absorb g s (r ++ t) = absorb g (absorb f s r).1 ((absorb f s r).2 ++ t)
  | 0, g, s, r, t, h1, h2 => rfl
  | f + 1, g, s, r, t, h1, h2 => by
    rw [absorb]
    by_cases h : 64 ≤ r.length
    · rw [if_pos h]
      cases g with
      | zero => omega
      | succ g =>
        rw [absorb, if_pos (by rw [List.length_append]; omega), List.take_append_of_le_length h, List.drop_append_of_le_length h]
        rw [absorb_app f g _ _ t (by rw [List.length_drop]; omega) (by rw [List.length_drop]; omega)]
        refine absorb_fuel _ _ _ _ ?_ ?_
        · have : ((absorb f (takenL s (r.take 64)) (r.drop 64)).2).length ≤ (r.drop 64).length := by
            clear h2 h1
            generalize takenL s (r.take 64) = s'
            generalize r.drop 64 = r'
            induction f generalizing s' r' with
            | zero => exact Nat.le_refl _
            | succ f ih =>
              rw [absorb]; split
              · exact Nat.le_trans (ih _ _) (by rw [List.length_drop]; omega)
              · exact Nat.le_refl _
          rw [List.length_drop] at this
          rw [List.length_append]; omega
        · have : ((absorb f (takenL s (r.take 64)) (r.drop 64)).2).length ≤ (r.drop 64).length := by
            clear h2 h1
            generalize takenL s (r.take 64) = s'
            generalize r.drop 64 = r'
            induction f generalizing s' r' with
            | zero => exact Nat.le_refl _
            | succ f ih =>
              rw [absorb]; split
              · exact Nat.le_trans (ih _ _) (by rw [List.length_drop]; omega)
              · exact Nat.le_refl _
          rw [List.length_drop] at this
          rw [List.length_append]; omega
    · rw [if_neg h]

theorem absorb_rest : ∀ (f : Nat) (s : List Nat) (r : List UInt8), r.length ≤ 64 * f → (absorb f s r).2.length < 64
  | 0, s, r, h => by rw [absorb]; show r.length < 64; omega
  | f + 1, s, r, h => by
    rw [absorb]
    split
    · exact absorb_rest f _ _ (by rw [List.length_drop]; omega)
    · show r.length < 64; omega
theorem absorb_len8 : ∀ (f : Nat) (s : List Nat) (r : List UInt8), s.length = 8 → (absorb f s r).1.length = 8
  | 0, s, r, h => h
  | f + 1, s, r, h => by
    rw [absorb]; split
    · exact absorb_len8 f _ _ (takenL_length _ _ h)
    · exact h

/-- what has come in: state, rest -/
def shaS (t : List UInt8) : List Nat × List UInt8 := absorb (t.length + 1) shaI t
theorem shaS_rest (t : List UInt8) : (shaS t).2.length < 64 := absorb_rest _ _ _ (by omega)
theorem shaS_len (t : List UInt8) : (shaS t).1.length = 8 := absorb_len8 _ _ _ rfl
theorem shaS_app (t u : List UInt8) : shaS (t ++ u) = absorb (u.length + 1) (shaS t).1 ((shaS t).2 ++ u) := by
  unfold shaS
  rw [absorb_app (t.length + 1) ((t ++ u).length + 1) shaI t u (by omega) (by rw [List.length_append]; omega)]
  have := shaS_rest t
  unfold shaS at this
  refine absorb_fuel _ _ _ _ ?_ ?_ <;> · rw [List.length_append]; try rw [List.length_append]
                                         omega

/-- the end: 128, noughts, the number of bits -/
def shaPad (r : List UInt8) : List UInt8 := r ++ [128] ++ List.replicate ((119 - r.length % 64) % 64) 0
def digest (s : List Nat) : List UInt8 := s.flatMap fun n => bigB n 4
def shaEnd (s : List Nat) (r : List UInt8) (many : Nat) : List UInt8 := digest (absorb 2 s (shaPad r ++ bigB (8 * many % 18446744073709551616) 8)).1
def shaL (t : List UInt8) : List UInt8 := shaEnd (shaS t).1 (shaS t).2 (t.length % 18446744073709551616)

theorem digest_length (s : List Nat) : (digest s).length = 4 * s.length := by
  unfold digest
  induction s with
  | nil => rfl
  | cons a s ih => rw [List.flatMap_cons, List.length_append, ih, bigB_length, List.length_cons]; omega
theorem shaL_length (t : List UInt8) : (shaL t).length = 32 := by
  unfold shaL shaEnd
  rw [digest_length, absorb_len8 _ _ _ (shaS_len t)]

end Go.Proofs.Ytbkgfpebffmffaa
