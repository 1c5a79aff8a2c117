/- Bytes as polynomials, in plain numbers: the laws of the field. -/
import Derived.Test.YtffeekfofbcobaaGreatBase
import Derived.Laws.BitsAllLaws
namespace Go.Proofs.YtffeekfofbcobaaGreat
open Go.RowKit
set_option linter.unusedVariables false

/-- times x -/
def gx (a : Nat) : Nat := (a * 2 % 256) ^^^ (a / 128 * 27)

/-- the loop of Mul, so many rounds -/
def gm : Nat → Nat → Nat → Nat → Nat
  | 0, n, _, _ => n
  | f + 1, n, a, b => gm f (n ^^^ (a * (b &&& 1))) (gx a) (b / 2)

def gmul (a b : Nat) : Nat := gm 8 0 a b

theorem all1_spec {p : Nat → Bool} (h : (List.range 256).all p = true) {a : Nat} (ha : a < 256) : p a = true :=
  List.all_eq_true.1 h a (List.mem_range.2 ha)

theorem xor_double (a b : Nat) : (a ^^^ b) * 2 = a * 2 ^^^ b * 2 := by
  apply Nat.eq_of_testBit_eq
  intro i
  have e : ∀ x : Nat, x * 2 = x * 2 ^ 1 := fun x => by simp
  rw [e, e a, e b, Nat.testBit_xor, Nat.testBit_mul_two_pow, Nat.testBit_mul_two_pow, Nat.testBit_mul_two_pow, Nat.testBit_xor]
  by_cases h : 1 ≤ i <;> simp [h]

theorem xor_mod (a b n : Nat) : (a ^^^ b) % 2 ^ n = a % 2 ^ n ^^^ b % 2 ^ n := Nat.xor_mod_two_pow

theorem xor_div (a b n : Nat) : (a ^^^ b) / 2 ^ n = a / 2 ^ n ^^^ b / 2 ^ n := Nat.xor_div_two_pow

theorem xor_lt {a b : Nat} (ha : a < 256) (hb : b < 256) : a ^^^ b < 256 := Nat.xor_lt_two_pow (n := 8) ha hb

theorem mul_bit_l {a b t : Nat} (ht : t < 2) : (a ^^^ b) * t = a * t ^^^ b * t := by
  match t, ht with
  | 0, _ => simp
  | 1, _ => simp

theorem mul_bit_r {s t k : Nat} (hs : s < 2) (ht : t < 2) : k * (s ^^^ t) = k * s ^^^ k * t := by
  match s, t, hs, ht with
  | 0, 0, _, _ => simp
  | 0, 1, _, _ => simp
  | 1, 0, _, _ => simp
  | 1, 1, _, _ => simp

theorem gx_xor {a b : Nat} (ha : a < 256) (hb : b < 256) : gx (a ^^^ b) = gx a ^^^ gx b := by
  unfold gx
  have e1 : (a ^^^ b) * 2 % 256 = a * 2 % 256 ^^^ b * 2 % 256 := by rw [xor_double]; exact xor_mod _ _ 8
  have e2 : (a ^^^ b) / 128 = a / 128 ^^^ b / 128 := xor_div _ _ 7
  have e3 : (a / 128 ^^^ b / 128) * 27 = a / 128 * 27 ^^^ b / 128 * 27 := by
    rw [Nat.mul_comm, mul_bit_r (by omega) (by omega), Nat.mul_comm, Nat.mul_comm 27]
  rw [e1, e2, e3]
  ac_rfl

theorem gx_lt {a : Nat} (ha : a < 256) : gx a < 256 := by
  unfold gx
  refine xor_lt (Nat.mod_lt _ (by omega)) ?_
  have : a / 128 < 2 := by omega
  omega

theorem and_one_lt (b : Nat) : b &&& 1 < 2 := by rw [nat_mask1]; omega

theorem gm_lt : ∀ (f n a b : Nat), n < 256 → a < 256 → gm f n a b < 256
  | 0, n, a, b, hn, _ => hn
  | f + 1, n, a, b, hn, ha => by
    refine gm_lt f _ _ _ (xor_lt hn ?_) (gx_lt ha)
    have := and_one_lt b
    generalize b &&& 1 = t at *
    match t, this with
    | 0, _ => simp
    | 1, _ => simpa using ha

theorem gmul_lt {a : Nat} (ha : a < 256) (b : Nat) : gmul a b < 256 := gm_lt 8 0 a b (by omega) ha

theorem gm_xor_l : ∀ (f n n' a a' b : Nat), a < 256 → a' < 256 → gm f (n ^^^ n') (a ^^^ a') b = gm f n a b ^^^ gm f n' a' b
  | 0, n, n', a, a', b, _, _ => rfl
  | f + 1, n, n', a, a', b, ha, ha' => by
    simp only [gm]
    rw [gx_xor ha ha', mul_bit_l (and_one_lt b)]
    rw [← gm_xor_l f _ _ _ _ _ (gx_lt ha) (gx_lt ha')]
    congr 1
    ac_rfl

theorem gmul_xor_l {a a' : Nat} (ha : a < 256) (ha' : a' < 256) (b : Nat) : gmul (a ^^^ a') b = gmul a b ^^^ gmul a' b := gm_xor_l 8 0 0 a a' b ha ha'

theorem gm_xor_r : ∀ (f n n' a b b' : Nat), gm f (n ^^^ n') a (b ^^^ b') = gm f n a b ^^^ gm f n' a b'
  | 0, n, n', a, b, b' => rfl
  | f + 1, n, n', a, b, b' => by
    simp only [gm]
    have e1 : (b ^^^ b') / 2 = b / 2 ^^^ b' / 2 := xor_div _ _ 1
    have e2 : (b ^^^ b') &&& 1 = (b &&& 1) ^^^ (b' &&& 1) := by rw [nat_mask1, nat_mask1, nat_mask1]; exact xor_mod _ _ 1
    rw [e1, e2, mul_bit_r (and_one_lt b) (and_one_lt b'), ← gm_xor_r f]
    congr 1
    ac_rfl

theorem gmul_xor_r (a b b' : Nat) : gmul a (b ^^^ b') = gmul a b ^^^ gmul a b' := gm_xor_r 8 0 0 a b b'

/-- A byte is x times a smaller one, and a bit. -/
theorem byte_step {c : Nat} (hc : c < 256) : c / 2 < 256 ∧ c = gx (c / 2) ^^^ (c % 2) := by
  refine ⟨by omega, ?_⟩
  have h : (List.range 256).all (fun c => c == gx (c / 2) ^^^ (c % 2)) = true := by decide +kernel
  simpa using all1_spec h hc

/-- WHAT HOLDS OF 0 AND OF 1, goes over to sums and to x times it, holds of each byte. -/
theorem byte_ind (p : Nat → Prop) (h0 : p 0) (h1 : p 1) (hx : ∀ a, a < 256 → p a → p (gx a)) (ha : ∀ a b, a < 256 → b < 256 → p a → p b → p (a ^^^ b)) : ∀ c, c < 256 → p c := by
  intro c
  induction c using Nat.strongRecOn with
  | ind c ih =>
    intro hc
    by_cases h : c = 0
    · subst h; exact h0
    · obtain ⟨h2, h3⟩ := byte_step hc
      rw [h3]
      refine ha _ _ (gx_lt h2) (by omega) (hx _ h2 (ih _ (by omega) h2)) ?_
      rcases (show c % 2 = 0 ∨ c % 2 = 1 by omega) with e | e <;> rw [e] <;> assumption

theorem gmul_zero (a : Nat) : gmul a 0 = 0 := by
  have := gmul_xor_r a 0 0
  simpa using this

theorem zero_gmul (b : Nat) : gmul 0 b = 0 := by
  have := gmul_xor_l (a := 0) (a' := 0) (by omega) (by omega) b
  simpa using this

theorem gmul_one {a : Nat} (ha : a < 256) : gmul a 1 = a := by
  have h : (List.range 256).all (fun a => gmul a 1 == a) = true := by decide +kernel
  simpa using all1_spec h ha

theorem one_gmul {b : Nat} (hb : b < 256) : gmul 1 b = b := by
  have h : (List.range 256).all (fun b => gmul 1 b == b) = true := by decide +kernel
  simpa using all1_spec h hb

/-- x times a byte is times 2. -/
theorem gmul_two {a : Nat} (ha : a < 256) : gmul a 2 = gx a := by
  have h : (List.range 256).all (fun a => gmul a 2 == gx a) = true := by decide +kernel
  simpa using all1_spec h ha

theorem gm_gx_l : ∀ (f n a b : Nat), n < 256 → a < 256 → gm f (gx n) (gx a) b = gx (gm f n a b)
  | 0, n, a, b, _, _ => rfl
  | f + 1, n, a, b, hn, ha => by
    simp only [gm]
    have hl : a * (b &&& 1) < 256 := by
      have := and_one_lt b
      generalize b &&& 1 = t at *
      match t, this with
      | 0, _ => simp
      | 1, _ => simpa using ha
    rw [← gm_gx_l f _ _ _ (xor_lt hn hl) (gx_lt ha), gx_xor hn hl]
    congr 2
    have := and_one_lt b
    generalize b &&& 1 = t at *
    match t, this with
    | 0, _ => simp [gx]
    | 1, _ => simp

theorem gmul_gx_l {a : Nat} (ha : a < 256) (b : Nat) : gmul (gx a) b = gx (gmul a b) := by
  have := gm_gx_l 8 0 a b (by omega) ha
  simpa [gx, gmul] using this

theorem gmul_gx_r {b : Nat} (hb : b < 256) : ∀ a, a < 256 → gmul a (gx b) = gx (gmul a b) := by
  refine byte_ind _ ?_ ?_ ?_ ?_
  · rw [zero_gmul, zero_gmul]; rfl
  · rw [one_gmul (gx_lt hb), one_gmul hb]
  · intro a ha ih
    rw [gmul_gx_l ha, gmul_gx_l ha, ih]
  · intro a a' ha ha' h h'
    rw [gmul_xor_l ha ha', gmul_xor_l ha ha', h, h', gx_xor (gmul_lt ha _) (gmul_lt ha' _)]

theorem gmul_comm {a : Nat} (ha : a < 256) : ∀ b, b < 256 → gmul a b = gmul b a := by
  refine byte_ind _ ?_ ?_ ?_ ?_
  · rw [gmul_zero, zero_gmul]
  · rw [gmul_one ha, one_gmul ha]
  · intro b hb ih
    rw [gmul_gx_r hb a ha, gmul_gx_l hb, ih]
  · intro b b' hb hb' h h'
    rw [gmul_xor_r, gmul_xor_l hb hb', h, h']

theorem gmul_assoc {a b : Nat} (ha : a < 256) (hb : b < 256) : ∀ c, c < 256 → gmul (gmul a b) c = gmul a (gmul b c) := by
  refine byte_ind _ ?_ ?_ ?_ ?_
  · rw [gmul_zero, gmul_zero, gmul_zero]
  · rw [gmul_one (gmul_lt ha _), gmul_one hb]
  · intro c hc ih
    rw [gmul_gx_r hc _ (gmul_lt ha _), ih, gmul_gx_r hc b hb, gmul_gx_r (gmul_lt hb _) a ha]
  · intro c c' hc hc' h h'
    rw [gmul_xor_r, gmul_xor_r, gmul_xor_r, h, h']

/-- the loop of Inv -/
def gi : Nat → Nat → Nat → Nat
  | 0, n, _ => n
  | f + 1, n, q => gi f (gmul n (gmul q q)) (gmul q q)

def ginv (a : Nat) : Nat := gi 7 1 a

theorem gi_lt : ∀ (f n q : Nat), n < 256 → q < 256 → gi f n q < 256
  | 0, n, q, hn, _ => hn
  | f + 1, n, q, hn, hq => gi_lt f _ _ (gmul_lt hn _) (gmul_lt hq _)

theorem ginv_lt {a : Nat} (ha : a < 256) : ginv a < 256 := gi_lt 7 1 a (by omega) ha

theorem gmul_inv {a : Nat} (ha : a < 256) (h0 : a ≠ 0) : gmul a (ginv a) = 1 := by
  have h : (List.range 256).all (fun a => a == 0 || gmul a (ginv a) == 1) = true := by decide +kernel
  have := all1_spec h ha
  simpa [h0] using this

theorem gmul_eq_zero {a b : Nat} (ha : a < 256) (hb : b < 256) : gmul a b = 0 ↔ a = 0 ∨ b = 0 := by
  constructor
  · intro h
    by_cases h0 : a = 0
    · exact Or.inl h0
    · right
      have e1 := gmul_inv ha h0
      have e2 := gmul_assoc (ginv_lt ha) ha b hb
      rw [gmul_comm (ginv_lt ha) a ha, e1, one_gmul hb, h, gmul_zero] at e2
      exact e2
  · rintro (rfl | rfl)
    · exact zero_gmul b
    · exact gmul_zero a

/-- to the left by so many bits, round -/
def rotl8 (a k : Nat) : Nat := (a * 2 ^ k % 256) ||| (a / 2 ^ (8 - k))

def gsub (a : Nat) : Nat := ginv a ^^^ 99 ^^^ rotl8 (ginv a) 1 ^^^ rotl8 (ginv a) 2 ^^^ rotl8 (ginv a) 3 ^^^ rotl8 (ginv a) 4

def gback (a : Nat) : Nat := ginv (rotl8 (a ^^^ 99) 1 ^^^ rotl8 (a ^^^ 99) 3 ^^^ rotl8 (a ^^^ 99) 6)

theorem rotl8_lt {a k : Nat} (ha : a < 256) : rotl8 a k < 256 := by
  unfold rotl8
  exact Nat.or_lt_two_pow (n := 8) (Nat.mod_lt _ (by omega)) (Nat.lt_of_le_of_lt (Nat.div_le_self _ _) ha)

theorem gsub_lt {a : Nat} (ha : a < 256) : gsub a < 256 := by
  have h := ginv_lt ha
  unfold gsub
  exact xor_lt (xor_lt (xor_lt (xor_lt (xor_lt h (by omega)) (rotl8_lt h)) (rotl8_lt h)) (rotl8_lt h)) (rotl8_lt h)

theorem gback_lt {a : Nat} (ha : a < 256) : gback a < 256 := by
  have h : a ^^^ 99 < 256 := xor_lt ha (by omega)
  exact ginv_lt (xor_lt (xor_lt (rotl8_lt h) (rotl8_lt h)) (rotl8_lt h))

theorem gback_sub {a : Nat} (ha : a < 256) : gback (gsub a) = a ∧ gsub (gback a) = a ∧ gsub a ≠ a ∧ gsub a ≠ 255 - a := by
  have h : (List.range 256).all (fun a => gback (gsub a) == a && gsub (gback a) == a && gsub a != a && gsub a != 255 - a) = true := by decide +kernel
  have := all1_spec h ha
  simpa [and_assoc] using this

theorem gsub_inj {a b : Nat} (ha : a < 256) (hb : b < 256) : gsub a = gsub b ↔ a = b := by
  constructor
  · intro h
    rw [← (gback_sub ha).1, h, (gback_sub hb).1]
  · intro h; rw [h]

end Go.Proofs.YtffeekfofbcobaaGreat
