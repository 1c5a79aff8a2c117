/- Poly1305: tags: plain. -/
import Derived.Test.YtffeekfofbcobaaGreatNum3
import Derived.Test.YtffeekfofbcobaaGreatLittle
import Derived.Test.YtffeekfofbcobaaGreatZeros
namespace Go.Proofs.YtffeekfofbcobaaGreat
open Go.RowKit
set_option linter.unusedVariables false

/-- What is heard of the parts, by r. -/
def pacc (r : Nat) : Nat → Nat → List UInt8 → Nat
  | 0, a, _ => a
  | f + 1, a, t => if t = [] then a else pacc r f (pmul (a + leN (t.take 16 ++ [1])) r) (t.drop 16)

def polyR (key : List UInt8) : Nat := (leN (key.take 8) &&& 1152921487695413247) + 18446744073709551616 * (leN ((key.drop 8).take 8) &&& 1152921487695413244)
def polyN (key : List UInt8) : Nat := leN ((key.drop 16).take 8) + 18446744073709551616 * leN ((key.drop 24).take 8)
def polyA (key text : List UInt8) : Nat := pleast (pacc (polyR key) (text.length + 1) 0 text)
def tagL (key text : List UInt8) : List UInt8 := leB ((polyA key text + polyN key) % 18446744073709551616) 8 ++ leB ((polyA key text + polyN key) / 18446744073709551616 % 18446744073709551616) 8

theorem pacc_fuel (r : Nat) : ∀ (f g a : Nat) (t : List UInt8), t.length < f → t.length < g → pacc r f a t = pacc r g a t
  | 0, _, _, _, h, _ => by omega
  | _, 0, _, _, _, h => by omega
  | f + 1, g + 1, a, t, hf, hg => by
    unfold pacc
    by_cases h : t = []
    · rw [if_pos h, if_pos h]
    · rw [if_neg h, if_neg h]
      have hl : 0 < t.length := List.length_pos_iff.mpr h
      exact pacc_fuel r f g _ _ (by rw [List.length_drop]; omega) (by rw [List.length_drop]; omega)

theorem pacc_step (r a : Nat) (t : List UInt8) (h : 0 < t.length) : pacc r (t.length + 1) a t = pacc r ((t.drop 16).length + 1) (pmul (a + leN (t.take 16 ++ [1])) r) (t.drop 16) := by
  have hn : t ≠ [] := List.length_pos_iff.mp h
  conv => lhs; unfold pacc
  rw [if_neg hn]
  exact pacc_fuel r _ _ _ _ (by rw [List.length_drop]; omega) (by omega)

theorem pacc_nil (r a : Nat) : pacc r (([] : List UInt8).length + 1) a [] = a := by simp [pacc]

theorem leN_append : ∀ l r : List UInt8, leN (l ++ r) = leN l + 256 ^ l.length * leN r
  | [], r => by simp [leN]
  | c :: l, r => by
    have := leN_append l r
    simp only [List.cons_append, leN, this, List.length_cons, Nat.pow_succ]
    rw [Nat.mul_add, ← Nat.add_assoc, Nat.mul_comm (256 ^ l.length) 256, Nat.mul_assoc]

/-- A part of at most 17 bytes, by words. -/
theorem leN_words (p : List UInt8) : leN p = leN (p.take 8) + 18446744073709551616 * leN ((p.drop 8).take 8) + 340282366920938463463374607431768211456 * leN (p.drop 16) := by
  have h1 : p = p.take 8 ++ ((p.drop 8).take 8 ++ p.drop 16) := by
    have e1 := List.take_append_drop 8 p
    have e2 := List.take_append_drop 8 (p.drop 8)
    rw [List.drop_drop] at e2
    rw [e2, e1]
  by_cases q : 16 ≤ p.length
  · have l1 : (p.take 8).length = 8 := by rw [List.length_take]; omega
    have l2 : ((p.drop 8).take 8).length = 8 := by rw [List.length_take, List.length_drop]; omega
    conv => lhs; rw [h1]
    rw [leN_append, leN_append, l1, l2]
    omega
  · have l3 : p.drop 16 = [] := List.drop_of_length_le (by omega)
    rw [l3] at h1 ⊢
    rw [List.append_nil] at h1
    by_cases q8 : 8 ≤ p.length
    · have l1 : (p.take 8).length = 8 := by rw [List.length_take]; omega
      conv => lhs; rw [h1]
      rw [leN_append, l1]
      simp [leN]
    · have l4 : p.drop 8 = [] := List.drop_of_length_le (by omega)
      have l5 : p.take 8 = p := List.take_of_length_le (by omega)
      rw [l4, l5]
      simp [leN]

theorem ptag_num (f pt : List UInt8) (hpt : pt = f ++ [1]) (hf : f.length ≤ 16) :
    N3 (leN pt) = .agg #[.int .u64 (leN (pt.take 8) : Int), .int .u64 (leN ((pt.drop 8).take 8) : Int), .int .u64 ((if f.length = 16 then 1 else 0 : Nat) : Int)] := by
  have h0 : leN (pt.take 8) < 18446744073709551616 := leN_lt8 _ (by rw [List.length_take]; omega)
  have h1 : leN ((pt.drop 8).take 8) < 18446744073709551616 := leN_lt8 _ (by rw [List.length_take]; omega)
  have h2 : leN (pt.drop 16) = if f.length = 16 then 1 else 0 := by
    by_cases h : f.length = 16
    · rw [if_pos h, hpt, ← h, List.drop_left]
      rfl
    · rw [if_neg h, hpt, List.drop_of_length_le (by simp; omega)]
      rfl
  rw [leN_words pt, h2]
  exact N3_of _ _ _ h0 h1 (by split <;> omega)

theorem ptag_zero (f pt : List UInt8) (hpt : pt = f ++ [1]) (hf : f.length < 8) : leN ((pt.drop 8).take 8) = 0 := by
  rw [hpt, List.drop_of_length_le (by simp; omega)]
  rfl

theorem ptag_lt (f pt : List UInt8) (hpt : pt = f ++ [1]) (hf : f.length ≤ 16) : leN pt < 87112285931760246646623899502532662132736 := by
  have h := leN_lt pt
  have : 256 ^ pt.length ≤ 256 ^ 17 := Nat.pow_le_pow_right (by omega) (by rw [hpt]; simp; omega)
  exact Nat.lt_of_lt_of_le h this

end Go.Proofs.YtffeekfofbcobaaGreat
