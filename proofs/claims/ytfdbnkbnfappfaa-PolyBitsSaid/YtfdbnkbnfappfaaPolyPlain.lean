/- Poly1305's laws: plain. -/
import Derived.Test.YtfdbnkbnfappfaaTagPlain
namespace Go.Proofs.Ytfdbnkbnfappfaa
set_option linter.unusedVariables false

theorem tagL_length (k t : List UInt8) : (tagL k t).length = 16 := by unfold tagL; rw [List.length_append, leB_length, leB_length]

theorem leN_zeros (n : Nat) : leN (zerosL n) = 0 := by
  induction n with
  | zero => rfl
  | succ n ih => show (0 : UInt8).toNat + 256 * leN (zerosL n) = 0; rw [ih]; rfl

theorem zerosL_take (n k : Nat) : (zerosL n).take k = zerosL (min k n) := by simp [zerosL]
theorem zerosL_drop (n k : Nat) : (zerosL n).drop k = zerosL (n - k) := by simp [zerosL]

/-- The two halves of a key. -/
theorem polyR_app (k n : List UInt8) (hk : k.length = 16) : polyR (k ++ n) = polyR k := by
  unfold polyR
  rw [List.take_append_of_le_length (by omega), List.drop_append_of_le_length (by omega), List.take_append_of_le_length (by rw [List.length_drop]; omega)]

theorem polyN_app (k n : List UInt8) (hk : k.length = 16) : polyN (k ++ n) = leN (n.take 8) + 18446744073709551616 * leN ((n.drop 8).take 8) := by
  have h1 : (k ++ n).drop 16 = n := by rw [← hk]; exact List.drop_left ..
  have h2 : (k ++ n).drop 24 = n.drop 8 := by rw [show 24 = 16 + 8 from rfl, ← List.drop_drop, h1]
  unfold polyN
  rw [h1, h2]

theorem polyA_app (k n t : List UInt8) (hk : k.length = 16) : polyA (k ++ n) t = polyA k t := by unfold polyA; rw [polyR_app k n hk]

theorem take_left8 (a b : Nat) : (leB a 8 ++ leB b 8).take 8 = leB a 8 := by
  have := List.take_left (l₁ := leB a 8) (l₂ := leB b 8); rwa [leB_length] at this
theorem drop_left8 (a b : Nat) : (leB a 8 ++ leB b 8).drop 8 = leB b 8 := by
  have := List.drop_left (l₁ := leB a 8) (l₂ := leB b 8); rwa [leB_length] at this
theorem take8_leB (b : Nat) : (leB b 8).take 8 = leB b 8 := by
  have := List.take_length (l := leB b 8); rwa [leB_length] at this

theorem tag_low (k t : List UInt8) : leN ((tagL k t).take 8) = (polyA k t + polyN k) % 18446744073709551616 := by
  unfold tagL
  rw [take_left8, leN_leB, show (256 : Nat) ^ 8 = 18446744073709551616 from rfl, Nat.mod_mod]
theorem tag_high (k t : List UInt8) : leN (((tagL k t).drop 8).take 8) = (polyA k t + polyN k) / 18446744073709551616 % 18446744073709551616 := by
  unfold tagL
  rw [drop_left8, take8_leB, leN_leB, show (256 : Nat) ^ 8 = 18446744073709551616 from rfl, Nat.mod_mod]

theorem polyN_zero (k : List UInt8) (hk : k.length = 16) : polyN (k ++ zerosL 16) = 0 := by
  rw [polyN_app _ _ hk, zerosL_take, zerosL_drop, zerosL_take, leN_zeros, leN_zeros]

/-- What the second half says is added, and no more. -/
theorem poly_adds (k n t : List UInt8) (hk : k.length = 16) (p u : Nat) (hp : p = leN ((tagL (k ++ zerosL 16) t).take 8)) (hu : u = leN (n.take 8)) :
    leN ((tagL (k ++ n) t).take 8) = (p + u) % 18446744073709551616 ∧
    leN (((tagL (k ++ n) t).drop 8).take 8) = ((leN (((tagL (k ++ zerosL 16) t).drop 8).take 8) + leN ((n.drop 8).take 8)) % 18446744073709551616 + (if (p + u) % 18446744073709551616 < p then 1 else 0)) % 18446744073709551616 := by
  have h8 : u < 18446744073709551616 := hu ▸ leN_lt8 _ (by rw [List.length_take]; omega)
  rw [tag_low] at hp
  rw [tag_low, tag_high, tag_high, polyN_zero k hk, polyA_app k n t hk, polyA_app k (zerosL 16) t hk, polyN_app k n hk, ← hu]
  rw [polyN_zero k hk, polyA_app k (zerosL 16) t hk] at hp
  generalize polyA k t = A at *
  generalize leN ((n.drop 8).take 8) = v at *
  rw [Nat.add_zero] at hp ⊢
  have e : A = p + 18446744073709551616 * (A / 18446744073709551616) := by omega
  generalize A / 18446744073709551616 = q at *
  have hp1 : p < 18446744073709551616 := by omega
  clear hp
  subst e
  constructor
  · omega
  · have e : (p + 18446744073709551616 * q + (u + 18446744073709551616 * v)) / 18446744073709551616 = q + v + (p + u) / 18446744073709551616 := by omega
    rw [e]
    by_cases h : (p + u) % 18446744073709551616 < p
    · rw [if_pos h]
      have : (p + u) / 18446744073709551616 = 1 := by omega
      rw [this]; omega
    · rw [if_neg h]
      have : (p + u) / 18446744073709551616 = 0 := by omega
      rw [this]; omega

/-- With a first half of noughts. -/
theorem pacc_zero : ∀ (f : Nat) (t : List UInt8), pacc 0 f 0 t = 0
  | 0, _ => rfl
  | f + 1, t => by
    unfold pacc
    by_cases h : t = []
    · rw [if_pos h]
    · rw [if_neg h, show pmul (0 + leN (t.take 16 ++ [1])) 0 = 0 from by unfold pmul; rw [Nat.mul_zero]; rfl]
      exact pacc_zero f _

theorem tag_zero (n t : List UInt8) (hn : n.length = 16) : tagL (zerosL 16 ++ n) t = n := by
  have hz : (zerosL 16).length = 16 := zerosL_length 16
  have hA : polyA (zerosL 16 ++ n) t = 0 := by
    unfold polyA
    rw [polyR_app _ _ hz, show polyR (zerosL 16) = 0 from by decide, pacc_zero]
    decide
  unfold tagL
  rw [hA, polyN_app _ _ hz, Nat.zero_add]
  have l1 : (n.take 8).length = 8 := by rw [List.length_take]; omega
  have l2 : ((n.drop 8).take 8).length = 8 := by rw [List.length_take, List.length_drop]; omega
  have b1 := leN_lt8 (n.take 8) (by omega)
  have b2 := leN_lt8 ((n.drop 8).take 8) (by omega)
  have e1 : (leN (n.take 8) + 18446744073709551616 * leN ((n.drop 8).take 8)) % 18446744073709551616 = leN (n.take 8) := by omega
  have e2 : (leN (n.take 8) + 18446744073709551616 * leN ((n.drop 8).take 8)) / 18446744073709551616 % 18446744073709551616 = leN ((n.drop 8).take 8) := by omega
  rw [e1, e2]
  have c1 := leB_leN (n.take 8)
  have c2 := leB_leN ((n.drop 8).take 8)
  rw [l1] at c1
  rw [l2] at c2
  rw [c1, c2, List.take_of_length_le (l := n.drop 8) (by rw [List.length_drop]; omega)]
  exact List.take_append_drop 8 n

/-- Masks go byte by byte. -/
theorem and_digit (c d m e : Nat) (hc : c < 256) (hd : d < 256) : (c + 256 * m) &&& (d + 256 * e) = (c &&& d) + 256 * (m &&& e) := by
  have h : ∀ x y : Nat, x < 256 → x + 256 * y = 2 ^ 8 * y ||| x := fun x y hx => by rw [← Nat.two_pow_add_eq_or_of_lt (by simpa using hx)]; omega
  have hcd : c &&& d < 256 := Nat.lt_of_le_of_lt Nat.and_le_left hc
  rw [h c m hc, h d e hd, h (c &&& d) (m &&& e) hcd]
  apply Nat.eq_of_testBit_eq
  intro i
  simp only [Nat.testBit_and, Nat.testBit_or, Nat.testBit_two_pow_mul]
  by_cases hi : 8 ≤ i
  · have e1 : ∀ z, z < 256 → z.testBit i = false := fun z hz => Nat.testBit_lt_two_pow (Nat.lt_of_lt_of_le hz (Nat.pow_le_pow_right (by omega) hi : 2 ^ 8 ≤ 2 ^ i))
    simp [hi, e1 c hc, e1 d hd]
  · simp [hi]

theorem leN_and : ∀ (l m : List UInt8), l.length = m.length → leN l &&& leN m = leN (List.zipWith (· &&& ·) l m)
  | [], [], _ => rfl
  | c :: l, d :: m, h => by
    show (c.toNat + 256 * leN l) &&& (d.toNat + 256 * leN m) = (c &&& d).toNat + 256 * leN (List.zipWith (· &&& ·) l m)
    rw [and_digit _ _ _ _ (u8_lt c) (u8_lt d), leN_and l m (by simpa using h), UInt8.toNat_and]

/-- The bytes that the masks are. -/
def maskL : List UInt8 := [255, 255, 255, 15, 252, 255, 255, 15, 252, 255, 255, 15, 252, 255, 255, 15]

theorem polyR_mask (k : List UInt8) (hk : 16 ≤ k.length) : polyR k = leN (List.zipWith (· &&& ·) (k.take 8) (maskL.take 8)) + 18446744073709551616 * leN (List.zipWith (· &&& ·) ((k.drop 8).take 8) (maskL.drop 8)) := by
  rw [← leN_and _ _ (by rw [List.length_take]; simp [maskL]; omega), ← leN_and _ _ (by rw [List.length_take, List.length_drop]; simp [maskL]; omega)]
  have e1 : leN (maskL.take 8) = 1152921487695413247 := by decide
  have e2 : leN (maskL.drop 8) = 1152921487695413244 := by decide
  rw [e1, e2]
  rfl

theorem flip_f0 (c : UInt8) : (c ^^^ 240) &&& 15 = c &&& 15 := by
  apply UInt8.toNat_inj.1
  have : ∀ n, n < 256 → ((n ^^^ 240) &&& 15) = (n &&& 15) := by decide +kernel
  simpa [UInt8.toNat_and, UInt8.toNat_xor] using this _ (u8_lt c)
theorem flip_3 (c : UInt8) : (c ^^^ 3) &&& 252 = c &&& 252 := by
  apply UInt8.toNat_inj.1
  have : ∀ n, n < 256 → ((n ^^^ 3) &&& 252) = (n &&& 252) := by decide +kernel
  simpa [UInt8.toNat_and, UInt8.toNat_xor] using this _ (u8_lt c)

theorem zip_set : ∀ (l m : List UInt8) (i : Nat) (x : UInt8), (∀ (h : i < l.length) (h' : i < m.length), x &&& m[i] = l[i] &&& m[i]) → List.zipWith (· &&& ·) (l.set i x) m = List.zipWith (· &&& ·) l m
  | [], _, _, _, _ => by simp
  | c :: l, [], i, x, _ => by simp
  | c :: l, d :: m, 0, x, h => by
    have := h (by simp) (by simp)
    simp only [List.getElem_cons_zero] at this
    simp [this]
  | c :: l, d :: m, i + 1, x, h => by
    simp only [List.set_cons_succ, List.zipWith_cons_cons]
    rw [zip_set l m i x fun h1 h2 => by have := h (by simp; omega) (by simp; omega); simpa using this]

theorem leN_zip_split (a b : List UInt8) (ha : a.length = 8) : leN a + 18446744073709551616 * leN b = leN (a ++ b) := by
  rw [leN_append, ha]

theorem polyR_zip (k : List UInt8) (hk : 16 ≤ k.length) : polyR k = leN (List.zipWith (· &&& ·) (k.take 16) maskL) := by
  rw [polyR_mask k hk, leN_zip_split _ _ (by rw [List.length_zipWith, List.length_take]; simp [maskL]; omega)]
  congr 1
  have e1 : k.take 16 = k.take 8 ++ (k.drop 8).take 8 := by rw [show 16 = 8 + 8 from rfl, List.take_add]
  have e2 : maskL = maskL.take 8 ++ maskL.drop 8 := (List.take_append_drop 8 maskL).symm
  conv => rhs; rw [e1, e2]
  rw [List.zipWith_append (by rw [List.length_take]; simp [maskL]; omega)]

/-- Of the first half just 106 bits count. -/
theorem tag_bits (k t : List UInt8) (hk : k.length = 32) (i : Nat) (hi : i < 16) (x : UInt8) (hx : x &&& maskL.getD i 0 = k.getD i 0 &&& maskL.getD i 0) : tagL (k.set i x) t = tagL k t := by
  have hR : polyR (k.set i x) = polyR k := by
    rw [polyR_zip _ (by rw [List.length_set]; omega), polyR_zip _ (by omega), List.take_set]
    congr 1
    refine zip_set _ _ _ _ fun h1 h2 => ?_
    rw [List.getD_eq_getElem?_getD, List.getD_eq_getElem?_getD, List.getElem?_eq_getElem h2, List.getElem?_eq_getElem (by omega)] at hx
    simpa using hx
  have hN : polyN (k.set i x) = polyN k := by
    unfold polyN
    rw [List.drop_set, List.drop_set, if_pos (by omega), if_pos (by omega)]
  unfold tagL polyA
  rw [hR, hN]

end Go.Proofs.Ytfdbnkbnfappfaa
