/- Unbase: plain. -/
import Derived.Test.YtimigoalddfkjaaDoorBaseEnc
import Derived.Lib.Bytealg
namespace Go.Proofs.YtimigoalddfkjaaDoor
set_option linter.unusedVariables false

def sgI (c : UInt8) : Int := Lib.indexByte signsL c

theorem sgI_bd (c : UInt8) : -1 ≤ sgI c ∧ sgI c < 64 := by
  have h : ((List.range 256).all fun n => decide (-1 ≤ sgI (UInt8.ofNat n)) && decide (sgI (UInt8.ofNat n) < 64)) = true := by decide +kernel
  have h1 := List.all_eq_true.1 h c.toNat (List.mem_range.2 (u8_lt c))
  rw [UInt8.ofNat_toNat] at h1
  simpa using h1

theorem sgI_sign (n : Nat) (h : n < 64) : sgI (signD n) = n ∧ signD n ≠ 61 := by
  have h2 : ((List.range 64).all fun n => decide (sgI (signD n) = n ∧ signD n ≠ 61)) = true := by decide +kernel
  exact of_decide_eq_true (List.all_eq_true.1 h2 n (List.mem_range.2 h))

/-- The numbers behind one more sign, and the byte that is whole. -/
def ubB (c : UInt8) (b : Nat) : Nat := (b * 64 + (sgI c).toNat) % 4294967296
def decF : List UInt8 → Nat → Nat → List UInt8 → Option (List UInt8)
  | [], _, _, acc => some acc
  | c :: r, b, m, acc => if sgI c < 0 then none else if 8 ≤ m + 6 then decF r (ubB c b) (m - 2) (acc ++ [UInt8.ofNat (ubB c b / 2 ^ (m - 2))]) else decF r (ubB c b) (m + 6) acc

/-- The signs alone. -/
def sigL : List UInt8 → List UInt8
  | a :: b :: c :: r => signD (a.toNat / 4) :: signD (a.toNat % 4 * 16 + b.toNat / 16) :: signD (b.toNat % 16 * 4 + c.toNat / 64) :: signD (c.toNat % 64) :: sigL r
  | [a, b] => [signD (a.toNat / 4), signD (a.toNat % 4 * 16 + b.toNat / 16), signD (b.toNat % 16 * 4)]
  | [a] => [signD (a.toNat / 4), signD (a.toNat % 4 * 16)]
  | [] => []

theorem baseL_sig : ∀ l : List UInt8, ∃ k, baseL l = sigL l ++ List.replicate k 61
  | a :: b :: c :: r => by
    obtain ⟨k, h⟩ := baseL_sig r
    exact ⟨k, by simp only [baseL, sigL, h, List.cons_append]⟩
  | [a, b] => ⟨1, rfl⟩
  | [a] => ⟨2, rfl⟩
  | [] => ⟨0, rfl⟩

theorem sigL_no : ∀ l : List UInt8, ∀ x ∈ sigL l, x ≠ 61
  | a :: b :: c :: r => by
    have la := u8_lt a
    have lb := u8_lt b
    have lc := u8_lt c
    intro x hx
    simp only [sigL, List.mem_cons] at hx
    rcases hx with rfl | rfl | rfl | rfl | hx
    · exact (sgI_sign _ (by omega)).2
    · exact (sgI_sign _ (by omega)).2
    · exact (sgI_sign _ (by omega)).2
    · exact (sgI_sign _ (by omega)).2
    · exact sigL_no r x hx
  | [a, b] => by
    have la := u8_lt a
    have lb := u8_lt b
    intro x hx
    simp only [sigL, List.mem_cons, List.not_mem_nil, or_false] at hx
    rcases hx with rfl | rfl | rfl
    · exact (sgI_sign _ (by omega)).2
    · exact (sgI_sign _ (by omega)).2
    · exact (sgI_sign _ (by omega)).2
  | [a] => by
    have la := u8_lt a
    intro x hx
    simp only [sigL, List.mem_cons, List.not_mem_nil, or_false] at hx
    rcases hx with rfl | rfl
    · exact (sgI_sign _ (by omega)).2
    · exact (sgI_sign _ (by omega)).2
  | [] => by intro x hx; simp [sigL] at hx

theorem byte_is (n : Nat) (a : UInt8) (h : n % 256 = a.toNat) : UInt8.ofNat n = a := by
  apply UInt8.toNat_inj.1
  rw [UInt8.toNat_ofNat', h]

theorem decF_cons (n : Nat) (h : n < 64) (r : List UInt8) (b m : Nat) (acc : List UInt8) :
    decF (signD n :: r) b m acc = if 8 ≤ m + 6 then decF r ((b * 64 + n) % 4294967296) (m - 2) (acc ++ [UInt8.ofNat ((b * 64 + n) % 4294967296 / 2 ^ (m - 2))]) else decF r ((b * 64 + n) % 4294967296) (m + 6) acc := by
  have e := (sgI_sign n h).1
  have e2 : ubB (signD n) b = (b * 64 + n) % 4294967296 := by unfold ubB; rw [e]; simp
  rw [decF, if_neg (by omega), e2]

theorem decF_sig : ∀ (l : List UInt8) (b : Nat) (acc : List UInt8), decF (sigL l) b 0 acc = some (acc ++ l)
  | a :: x :: c :: r, b, acc => by
    have la := u8_lt a
    have lb := u8_lt x
    have lc := u8_lt c
    rw [sigL, decF_cons _ (by omega), if_neg (by omega), decF_cons _ (by omega), if_pos (by omega), decF_cons _ (by omega), if_pos (by omega), decF_cons _ (by omega), if_pos (by omega)]
    simp only [Nat.reduceAdd, Nat.reduceSub]
    rw [decF_sig r]
    rw [byte_is _ a, byte_is _ x, byte_is _ c]
    · simp
    · simp only [Nat.reducePow]; omega
    · simp only [Nat.reducePow]; omega
    · simp only [Nat.reducePow]; omega
  | [a, x], b, acc => by
    have la := u8_lt a
    have lb := u8_lt x
    rw [sigL, decF_cons _ (by omega), if_neg (by omega), decF_cons _ (by omega), if_pos (by omega), decF_cons _ (by omega), if_pos (by omega)]
    simp only [Nat.reduceAdd, Nat.reduceSub, decF]
    rw [byte_is _ a, byte_is _ x]
    · simp
    · simp only [Nat.reducePow]; omega
    · simp only [Nat.reducePow]; omega
  | [a], b, acc => by
    have la := u8_lt a
    rw [sigL, decF_cons _ (by omega), if_neg (by omega), decF_cons _ (by omega), if_pos (by omega)]
    simp only [Nat.reduceAdd, Nat.reduceSub, decF]
    rw [byte_is _ a]
    simp only [Nat.reducePow]; omega
  | [], b, acc => by rw [sigL, decF, List.append_nil]

end Go.Proofs.YtimigoalddfkjaaDoor
