/- Numbers in limbs: read, packed, added, taken off, multiplied: plain. -/
import Derived.Test.YtmceahknglkhoaaDoorElemPlain
namespace Go.Proofs.YtmceahknglkhoaaDoor
set_option linter.unusedVariables false

theorem leB_app (k : Nat) : ∀ (j n : Nat), leB n (j + k) = leB n j ++ leB (n / 256 ^ j) k
  | 0, n => by rw [Nat.zero_add, Nat.pow_zero, Nat.div_one]; rfl
  | j + 1, n => by
    rw [show j + 1 + k = (j + k) + 1 from by omega]
    simp only [leB, List.cons_append]
    rw [leB_app k j (n / 256), Nat.div_div_eq_div_mul, Nat.pow_succ, Nat.mul_comm 256]
theorem leB_mod (n k : Nat) : leB (n % 256 ^ k) k = leB n k := by
  have h1 := leN_leB n k
  have h2 := leB_leN (leB n k)
  rw [leB_length, h1] at h2
  exact h2

theorem or_sum (a b k : Nat) (ha : a < 2 ^ k) (hk : k ≤ 64) : a ||| b * 2 ^ k % 18446744073709551616 = a + b * 2 ^ k % 18446744073709551616 := by
  have e : (18446744073709551616 : Nat) = 2 ^ (64 - k) * 2 ^ k := by rw [← Nat.pow_add, show 64 - k + k = 64 from by omega]
  rw [e, Nat.mul_mod_mul_right, Nat.or_comm, Nat.mul_comm, ← Nat.two_pow_add_eq_or_of_lt ha, Nat.add_comm]

/-- The words that limbs are packed into. -/
def pk0 (a b : Nat) : Nat := a ||| b * 2251799813685248 % 18446744073709551616
def pk1 (b c : Nat) : Nat := b / 8192 ||| c * 274877906944 % 18446744073709551616
def pk2 (c d : Nat) : Nat := c / 67108864 ||| d * 33554432 % 18446744073709551616
def pk3 (d e : Nat) : Nat := d / 549755813888 ||| e * 4096 % 18446744073709551616

theorem pk_text (a b c d e : Nat) (ha : a < 2251799813685248) (hb : b < 2251799813685248) (hc : c < 2251799813685248) (hd : d < 2251799813685248) (he : e < 2251799813685248) :
    leB (pk0 a b) 8 ++ leB (pk1 b c) 8 ++ leB (pk2 c d) 8 ++ leB (pk3 d e) 8 = leB (lval [a, b, c, d, e]) 32 := by
  have h0 : pk0 a b = a + b * 2251799813685248 % 18446744073709551616 := or_sum a b 51 (by omega) (by omega)
  have h1 : pk1 b c = b / 8192 + c * 274877906944 % 18446744073709551616 := or_sum (b / 8192) c 38 (by omega) (by omega)
  have h2 : pk2 c d = c / 67108864 + d * 33554432 % 18446744073709551616 := or_sum (c / 67108864) d 25 (by omega) (by omega)
  have h3 : pk3 d e = d / 549755813888 + e * 4096 % 18446744073709551616 := or_sum (d / 549755813888) e 12 (by omega) (by omega)
  rw [h0, h1, h2, h3]
  clear h0 h1 h2 h3
  have hv : lval [a, b, c, d, e] = a + 2251799813685248 * (b + 2251799813685248 * (c + 2251799813685248 * (d + 2251799813685248 * e))) := by simp [lval]
  rw [hv, show (32 : Nat) = 8 + (8 + (8 + 8)) from rfl, leB_app, leB_app, leB_app]
  simp only [Nat.reducePow, Nat.div_div_eq_div_mul, Nat.reduceMul]
  have e0 : ∀ n m : Nat, n % 18446744073709551616 = m % 18446744073709551616 → leB n 8 = leB m 8 := fun n m h => by
    have h1 := leB_mod n 8
    have h2 := leB_mod m 8
    simp only [Nat.reducePow] at h1 h2
    rw [← h1, ← h2, h]
  rw [List.append_assoc, List.append_assoc]
  congr 1
  · exact e0 _ _ (by omega)
  congr 1
  · exact e0 _ _ (by omega)
  congr 1
  · exact e0 _ _ (by omega)
  · exact e0 _ _ (by omega)

/-- The limbs that four words are read into. -/
def rd1 (u v : Nat) : Nat := (u / 2251799813685248 ||| v * 8192 % 18446744073709551616) % 2251799813685248
def rd2 (u v : Nat) : Nat := (u / 274877906944 ||| v * 67108864 % 18446744073709551616) % 2251799813685248
def rd3 (u v : Nat) : Nat := (u / 33554432 ||| v * 549755813888 % 18446744073709551616) % 2251799813685248
def rdL (w0 w1 w2 w3 : Nat) : List Nat := [w0 % 2251799813685248 + 19 * (w3 / 9223372036854775808), rd1 w0 w1, rd2 w1 w2, rd3 w2 w3, w3 / 4096 % 2251799813685248]

theorem rdL_val (w0 w1 w2 w3 : Nat) (h0 : w0 < 18446744073709551616) (h1 : w1 < 18446744073709551616) (h2 : w2 < 18446744073709551616) (h3 : w3 < 18446744073709551616) :
    lval (rdL w0 w1 w2 w3) % PP = (w0 + 18446744073709551616 * (w1 + 18446744073709551616 * (w2 + 18446744073709551616 * w3))) % PP ∧ ∀ x ∈ rdL w0 w1 w2 w3, x ≤ 9223372036854775808 := by
  have e1 : rd1 w0 w1 = (w0 / 2251799813685248 + w1 * 8192 % 18446744073709551616) % 2251799813685248 := by unfold rd1; rw [← or_sum _ w1 13 (by omega) (by omega)]
  have e2 : rd2 w1 w2 = (w1 / 274877906944 + w2 * 67108864 % 18446744073709551616) % 2251799813685248 := by unfold rd2; rw [← or_sum _ w2 26 (by omega) (by omega)]
  have e3 : rd3 w2 w3 = (w2 / 33554432 + w3 * 549755813888 % 18446744073709551616) % 2251799813685248 := by unfold rd3; rw [← or_sum _ w3 39 (by omega) (by omega)]
  unfold rdL
  rw [e1, e2, e3]
  clear e1 e2 e3
  constructor
  · simp only [lval, Nat.mul_zero, Nat.add_zero]
    have key : w0 + 18446744073709551616 * (w1 + 18446744073709551616 * (w2 + 18446744073709551616 * w3)) = w0 % 2251799813685248 + 19 * (w3 / 9223372036854775808) + 2251799813685248 * ((w0 / 2251799813685248 + w1 * 8192 % 18446744073709551616) % 2251799813685248 + 2251799813685248 * ((w1 / 274877906944 + w2 * 67108864 % 18446744073709551616) % 2251799813685248 + 2251799813685248 * ((w2 / 33554432 + w3 * 549755813888 % 18446744073709551616) % 2251799813685248 + 2251799813685248 * (w3 / 4096 % 2251799813685248)))) + 57896044618658097711785492504343953926634992332820282019728792003956564819949 * (w3 / 9223372036854775808) := by omega
    rw [key, PP_eq, Nat.add_mul_mod_self_left]
  · intro x hx
    simp only [List.mem_cons, List.not_mem_nil, or_false] at hx
    omega

/-- Sums. -/
def plusL (a b : List Nat) : List Nat := List.zipWith (· + ·) a b
theorem plusL_val : ∀ a b : List Nat, a.length = b.length → lval (plusL a b) = lval a + lval b
  | [], [], _ => rfl
  | x :: a, y :: b, h => by
    have ih := plusL_val a b (by simpa using h)
    unfold plusL at ih ⊢
    simp only [List.zipWith_cons_cons, lval, ih]
    omega

/-- Differences: each limb and four times the greatest, less the other one; the first 72 less. -/
def minusL (a b : List Nat) : List Nat := (List.range 5).map fun i => a.getD i 0 + 9007199254740988 - b.getD i 0 - (if i = 0 then 72 else 0)
theorem minusL_val (a0 a1 a2 a3 a4 b0 b1 b2 b3 b4 : Nat) (h0 : b0 ≤ 2251799813685266) (h1 : b1 ≤ 2251799813685266) (h2 : b2 ≤ 2251799813685266) (h3 : b3 ≤ 2251799813685266) (h4 : b4 ≤ 2251799813685266) :
    lval (minusL [a0, a1, a2, a3, a4] [b0, b1, b2, b3, b4]) + lval [b0, b1, b2, b3, b4] = lval [a0, a1, a2, a3, a4] + 4 * PP := by
  have e : minusL [a0, a1, a2, a3, a4] [b0, b1, b2, b3, b4] = [a0 + 9007199254740988 - b0 - 72, a1 + 9007199254740988 - b1 - 0, a2 + 9007199254740988 - b2 - 0, a3 + 9007199254740988 - b3 - 0, a4 + 9007199254740988 - b4 - 0] := rfl
  rw [e, PP_eq]
  simp only [lval, Nat.mul_zero, Nat.add_zero, Nat.sub_zero]
  omega

/-- One product added. -/
def tmS (a b : List Nat) (i k : Nat) (W : List Nat) : List Nat :=
  W.set ((i + k) % 5) (W.getD ((i + k) % 5) 0 + a.getD i 0 * (if 5 ≤ i + k then 19 * b.getD k 0 else b.getD k 0))
def tmI (a b : List Nat) (i : Nat) (W : List Nat) : Nat → List Nat
  | 0 => W
  | k + 1 => tmS a b i k (tmI a b i W k)
def tmO (a b : List Nat) : Nat → List Nat
  | 0 => [0, 0, 0, 0, 0]
  | i + 1 => tmI a b i (tmO a b i) 5

theorem tmS_length (a b : List Nat) (i k : Nat) (W : List Nat) : (tmS a b i k W).length = W.length := by unfold tmS; rw [List.length_set]
theorem tmI_length (a b : List Nat) (i : Nat) (W : List Nat) : ∀ k, (tmI a b i W k).length = W.length
  | 0 => rfl
  | k + 1 => by rw [tmI, tmS_length, tmI_length a b i W k]
theorem tmO_length (a b : List Nat) : ∀ i, (tmO a b i).length = 5
  | 0 => rfl
  | i + 1 => by rw [tmO, tmI_length, tmO_length a b i]

theorem getD_le {l : List Nat} {M : Nat} (h : ∀ x ∈ l, x ≤ M) (i : Nat) : l.getD i 0 ≤ M := by
  rw [List.getD_eq_getElem?_getD]
  by_cases q : i < l.length
  · rw [List.getElem?_eq_getElem q]; exact h _ (List.getElem_mem q)
  · rw [List.getElem?_eq_none (by omega)]; exact Nat.zero_le _

theorem prod_le {a b : List Nat} (ha : ∀ x ∈ a, x ≤ 2251799813685266) (hb : ∀ x ∈ b, x ≤ 2251799813685266) (i k : Nat) : a.getD i 0 * (if 5 ≤ i + k then 19 * b.getD k 0 else b.getD k 0) ≤ 100000000000000000000000000000000 := by
  have h1 := getD_le ha i
  have h2 := getD_le hb k
  have h3 : (if 5 ≤ i + k then 19 * b.getD k 0 else b.getD k 0) ≤ 19 * 2251799813685266 := by split <;> omega
  exact Nat.le_trans (Nat.mul_le_mul h1 h3) (by decide)

theorem tmS_le {a b W : List Nat} {M : Nat} (ha : ∀ x ∈ a, x ≤ 2251799813685266) (hb : ∀ x ∈ b, x ≤ 2251799813685266) (hW : ∀ x ∈ W, x ≤ M) (i k : Nat) : ∀ x ∈ tmS a b i k W, x ≤ M + 100000000000000000000000000000000 := by
  intro x hx
  have hp := prod_le ha hb i k
  have hw := getD_le hW ((i + k) % 5)
  unfold tmS at hx
  rcases List.mem_or_eq_of_mem_set hx with h | h
  · have := hW x h; omega
  · subst h; omega
theorem tmI_le {a b W : List Nat} {M : Nat} (ha : ∀ x ∈ a, x ≤ 2251799813685266) (hb : ∀ x ∈ b, x ≤ 2251799813685266) (hW : ∀ x ∈ W, x ≤ M) (i : Nat) : ∀ k, ∀ x ∈ tmI a b i W k, x ≤ M + k * 100000000000000000000000000000000
  | 0 => fun x hx => by have := hW x hx; omega
  | k + 1 => fun x hx => by have := tmS_le ha hb (tmI_le ha hb hW i k) i k x hx; omega
theorem tmO_le {a b : List Nat} (ha : ∀ x ∈ a, x ≤ 2251799813685266) (hb : ∀ x ∈ b, x ≤ 2251799813685266) : ∀ i, ∀ x ∈ tmO a b i, x ≤ i * 500000000000000000000000000000000
  | 0 => fun x hx => by simp [tmO] at hx; omega
  | i + 1 => fun x hx => by have := tmI_le ha hb (tmO_le ha hb i) i 5 x hx; omega

set_option maxHeartbeats 2000000 in
theorem mul5n (a0 a1 a2 a3 a4 b0 b1 b2 b3 b4 : Nat) :
  (a0 + 2251799813685248*a1 + 2251799813685248^2*a2 + 2251799813685248^3*a3 + 2251799813685248^4*a4) * (b0 + 2251799813685248*b1 + 2251799813685248^2*b2 + 2251799813685248^3*b3 + 2251799813685248^4*b4) =
   (a0*b0 + 19*(a1*b4 + a2*b3 + a3*b2 + a4*b1)) + 2251799813685248*(a0*b1+a1*b0 + 19*(a2*b4+a3*b3+a4*b2)) + 2251799813685248^2*(a0*b2+a1*b1+a2*b0+19*(a3*b4+a4*b3)) + 2251799813685248^3*(a0*b3+a1*b2+a2*b1+a3*b0+19*(a4*b4)) + 2251799813685248^4*(a0*b4+a1*b3+a2*b2+a3*b1+a4*b0)
   + (57896044618658097711785492504343953926634992332820282019728792003956564819949)*((a1*b4 + a2*b3 + a3*b2 + a4*b1) + 2251799813685248*(a2*b4+a3*b3+a4*b2) + 2251799813685248^2*(a3*b4+a4*b3) + 2251799813685248^3*(a4*b4)) := by grind

theorem lval5 (a0 a1 a2 a3 a4 : Nat) : lval [a0, a1, a2, a3, a4] = a0 + 2251799813685248*a1 + 2251799813685248^2*a2 + 2251799813685248^3*a3 + 2251799813685248^4*a4 := by
  simp only [lval, Nat.reducePow]; omega

set_option maxHeartbeats 1000000 in
theorem tmO_val (a0 a1 a2 a3 a4 b0 b1 b2 b3 b4 : Nat) : lval (tmO [a0, a1, a2, a3, a4] [b0, b1, b2, b3, b4] 5) % PP = (lval [a0, a1, a2, a3, a4] * lval [b0, b1, b2, b3, b4]) % PP := by
  have e : tmO [a0, a1, a2, a3, a4] [b0, b1, b2, b3, b4] 5 = [
      0 + a0 * b0 + a1 * (19 * b4) + a2 * (19 * b3) + a3 * (19 * b2) + a4 * (19 * b1),
      0 + a0 * b1 + a1 * b0 + a2 * (19 * b4) + a3 * (19 * b3) + a4 * (19 * b2),
      0 + a0 * b2 + a1 * b1 + a2 * b0 + a3 * (19 * b4) + a4 * (19 * b3),
      0 + a0 * b3 + a1 * b2 + a2 * b1 + a3 * b0 + a4 * (19 * b4),
      0 + a0 * b4 + a1 * b3 + a2 * b2 + a3 * b1 + a4 * b0] := by kernel_rfl
  have k : lval [a0, a1, a2, a3, a4] * lval [b0, b1, b2, b3, b4] = ((a0*b0 + 19*(a1*b4 + a2*b3 + a3*b2 + a4*b1)) + 2251799813685248*(a0*b1+a1*b0 + 19*(a2*b4+a3*b3+a4*b2)) + 2251799813685248^2*(a0*b2+a1*b1+a2*b0+19*(a3*b4+a4*b3)) + 2251799813685248^3*(a0*b3+a1*b2+a2*b1+a3*b0+19*(a4*b4)) + 2251799813685248^4*(a0*b4+a1*b3+a2*b2+a3*b1+a4*b0)) + PP * ((a1*b4 + a2*b3 + a3*b2 + a4*b1) + 2251799813685248*(a2*b4+a3*b3+a4*b2) + 2251799813685248^2*(a3*b4+a4*b3) + 2251799813685248^3*(a4*b4)) := by
    rw [lval5 a0, lval5 b0, mul5n, PP_eq]
  have h : lval (tmO [a0, a1, a2, a3, a4] [b0, b1, b2, b3, b4] 5) = (a0*b0 + 19*(a1*b4 + a2*b3 + a3*b2 + a4*b1)) + 2251799813685248*(a0*b1+a1*b0 + 19*(a2*b4+a3*b3+a4*b2)) + 2251799813685248^2*(a0*b2+a1*b1+a2*b0+19*(a3*b4+a4*b3)) + 2251799813685248^3*(a0*b3+a1*b2+a2*b1+a3*b0+19*(a4*b4)) + 2251799813685248^4*(a0*b4+a1*b3+a2*b2+a3*b1+a4*b0) := by
    rw [e, lval5]
    clear e k
    simp only [Nat.mul_left_comm _ 19 _]
    generalize a0 * b0 = p00
    generalize a0 * b1 = p01
    generalize a0 * b2 = p02
    generalize a0 * b3 = p03
    generalize a0 * b4 = p04
    generalize a1 * b0 = p10
    generalize a1 * b1 = p11
    generalize a1 * b2 = p12
    generalize a1 * b3 = p13
    generalize a1 * b4 = p14
    generalize a2 * b0 = p20
    generalize a2 * b1 = p21
    generalize a2 * b2 = p22
    generalize a2 * b3 = p23
    generalize a2 * b4 = p24
    generalize a3 * b0 = p30
    generalize a3 * b1 = p31
    generalize a3 * b2 = p32
    generalize a3 * b3 = p33
    generalize a3 * b4 = p34
    generalize a4 * b0 = p40
    generalize a4 * b1 = p41
    generalize a4 * b2 = p42
    generalize a4 * b3 = p43
    generalize a4 * b4 = p44
    simp only [Nat.reducePow]
    omega
  rw [h, k]
  exact (Nat.add_mul_mod_self_left _ _ _).symm

/-- The product, carried. -/
def tmC (W : List Nat) : List Nat := let r := carF W 0; (r.1.set 0 (r.1.getD 0 0 + 19 * (r.2 % 2251799813685248))).set 1 (r.1.getD 1 0 + 19 * (r.2 / 2251799813685248))

theorem tmC_val (W : List Nat) (h : W.length = 5) : lval (tmC W) % PP = lval W % PP := by
  have e := carF_val W 0
  have hn := carF_length W 0
  rw [h, two255] at e
  simp only [Nat.add_zero] at e
  unfold tmC
  generalize carF W 0 = r at *
  obtain ⟨r1, r2⟩ := r
  simp only at *
  rw [h] at hn
  match r1, hn with
  | [x0, x1, x2, x3, x4], _ =>
    rw [← e]
    simp only [List.set_cons_zero, List.set_cons_succ, List.getD_cons_zero, List.getD_cons_succ, lval, Nat.mul_zero, Nat.add_zero]
    have k1 : x0 + 19 * (r2 % 2251799813685248) + 2251799813685248 * (x1 + 19 * (r2 / 2251799813685248) + 2251799813685248 * (x2 + 2251799813685248 * (x3 + 2251799813685248 * x4))) = x0 + 2251799813685248 * (x1 + 2251799813685248 * (x2 + 2251799813685248 * (x3 + 2251799813685248 * x4))) + 19 * r2 := by omega
    rw [k1, Nat.add_mul, ← Nat.add_assoc]
    generalize x0 + 2251799813685248 * (x1 + 2251799813685248 * (x2 + 2251799813685248 * (x3 + 2251799813685248 * x4))) = y
    rw [show y + PP * r2 + 19 * r2 = (y + 19 * r2) + PP * r2 from by omega, Nat.add_mul_mod_self_left]

end Go.Proofs.YtmceahknglkhoaaDoor
