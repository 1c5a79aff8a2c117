/- A bit of a text's number. -/
import Derived.Test.YtmceahknglkhoaaDoorLittle
import Derived.Laws.BitsAllLaws
namespace Go.Proofs.YtmceahknglkhoaaDoor
open Go.RowKit
set_option linter.unusedVariables false

theorem leN_drop : ∀ (l : List UInt8) (q : Nat), leN l / 256 ^ q = leN (l.drop q)
  | l, 0 => by simp
  | [], q + 1 => by simp [leN]
  | c :: l, q + 1 => by
    have := c.toNat_lt
    rw [List.drop_succ_cons, ← leN_drop l q, Nat.pow_succ, Nat.mul_comm, ← Nat.div_div_eq_div_mul]
    congr 1
    simp only [leN]
    omega

theorem byte_bit (c m r : Nat) (hr : r < 8) (hc : c < 256) : (c + 256 * m) / 2 ^ r % 2 = c / 2 ^ r % 2 := by
  match r, hr with
  | 0, _ => omega
  | 1, _ => omega
  | 2, _ => omega
  | 3, _ => omega
  | 4, _ => omega
  | 5, _ => omega
  | 6, _ => omega
  | 7, _ => omega

theorem leN_bit (l : List UInt8) (t : Nat) (h : t / 8 < l.length) : leN l / 2 ^ t % 2 = (l[t / 8]).toNat / 2 ^ (t % 8) % 2 := by
  have e : 2 ^ t = 256 ^ (t / 8) * 2 ^ (t % 8) := by
    rw [show (256 : Nat) = 2 ^ 8 from rfl, ← Nat.pow_mul, ← Nat.pow_add]
    congr 1
    omega
  rw [e, ← Nat.div_div_eq_div_mul, leN_drop, List.drop_eq_getElem_cons h]
  simp only [leN]
  exact byte_bit _ _ _ (by omega) (UInt8.toNat_lt _)

theorem bit_at (kl : List UInt8) (t : Nat) (h : t / 8 < kl.length) (h2 : t / 8 < (ByteArray.mk kl.toArray).size) :
    bits .and .u8 ((((ByteArray.mk kl.toArray)[t / 8]'h2).toNat : Int) / 2 ^ (t % 8)) 1 = ((leN kl / 2 ^ t % 2 : Nat) : Int) := by
  rw [leN_bit kl t h]
  have e : ((ByteArray.mk kl.toArray)[t / 8]'h2) = kl[t / 8] := rfl
  rw [e]
  generalize kl[t / 8] = c
  have hc := c.toNat_lt
  have e2 : ((c.toNat : Int) / 2 ^ (t % 8)) = ((c.toNat / 2 ^ (t % 8) : Nat) : Int) := by simp
  rw [e2]
  have hlt : c.toNat / 2 ^ (t % 8) < 256 := Nat.lt_of_le_of_lt (Nat.div_le_self _ _) (by omega)
  generalize c.toNat / 2 ^ (t % 8) = n at *
  clear e e2
  have : ∀ n : Fin 256, bits .and .u8 ((n.val : Nat) : Int) 1 = ((n.val % 2 : Nat) : Int) := by decide +kernel
  exact this ⟨n, hlt⟩

end Go.Proofs.YtmceahknglkhoaaDoor
