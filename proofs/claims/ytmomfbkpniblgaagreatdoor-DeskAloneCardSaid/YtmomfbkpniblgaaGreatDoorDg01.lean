/-
  Several texts of this claim in one: Prime, DeskWords, RangeAllB.
-/
import Derived.Lib.IndexLaws
import Derived.RangeFuncNested
import Derived.RangeFuncBound
import Derived.RangeFuncCalls
import Derived.RangeFuncLeaves
import Derived.Shelf.Abstract
import Derived.WalkKit
namespace Go.Proofs.YtmomfbkpniblgaaGreatDoor.Pr
def Prime (p : Nat) : Prop := 2 ≤ p ∧ ∀ m, m ∣ p → m = 1 ∨ m = p

theorem exists_prime (n : Nat) : 2 ≤ n → ∃ p, Prime p ∧ p ∣ n := by
  induction n using Nat.strongRecOn with
  | ind n ih =>
    intro h
    by_cases hp : Prime n
    · exact ⟨n, hp, Nat.dvd_refl n⟩
    · have : ∃ m, m ∣ n ∧ m ≠ 1 ∧ m ≠ n := by
        apply Classical.byContradiction
        intro hc
        apply hp
        refine ⟨h, fun m hm => ?_⟩
        apply Classical.byContradiction
        intro hq
        exact hc ⟨m, hm, fun e => hq (Or.inl e), fun e => hq (Or.inr e)⟩
      obtain ⟨m, hm, h1, hn⟩ := this
      have hle := Nat.le_of_dvd (by omega) hm
      have hm0 : m ≠ 0 := by
        intro e
        subst e
        have := Nat.eq_zero_of_zero_dvd hm
        omega
      obtain ⟨p, hp, hd⟩ := ih m (by omega) (by omega)
      exact ⟨p, hp, Nat.dvd_trans hd hm⟩

theorem Prime.coprime {p a : Nat} (hp : Prime p) (h : ¬ p ∣ a) : Nat.Coprime p a := by
  rcases hp.2 (Nat.gcd p a) (Nat.gcd_dvd_left p a) with e | e
  · exact e
  · exact absurd (e ▸ Nat.gcd_dvd_right p a) h

theorem Prime.dvd_mul {p a b : Nat} (hp : Prime p) (h : p ∣ a * b) : p ∣ a ∨ p ∣ b := by
  by_cases ha : p ∣ a
  · exact Or.inl ha
  · exact Or.inr ((hp.coprime ha).dvd_of_dvd_mul_left h)

theorem Prime.dvd_prod {p : Nat} (hp : Prime p) : ∀ l : List Nat, p ∣ l.prod → ∃ x ∈ l, p ∣ x
  | [], h => by
    have := Nat.le_of_dvd (by simp) h
    have := hp.1
    simp at *
    omega
  | a :: l, h => by
    rw [List.prod_cons] at h
    rcases hp.dvd_mul h with h | h
    · exact ⟨a, by simp, h⟩
    · obtain ⟨x, hx, hd⟩ := hp.dvd_prod l h
      exact ⟨x, by simp [hx], hd⟩

theorem dvd_sub_of_mod {a b p : Nat} (h : a % p = b % p) : p ∣ a - b := Nat.dvd_of_mod_eq_zero (Nat.sub_mod_eq_zero_of_mod_eq h)

theorem perm_of_sub : ∀ {l r : List Nat}, l.Nodup → l.length = r.length → (∀ x ∈ l, x ∈ r) → l.Perm r
  | [], r, _, hl, _ => by
    obtain rfl : r = [] := List.eq_nil_of_length_eq_zero hl.symm
    exact List.Perm.refl _
  | a :: l, r, hn, hl, hs => by
    have ha : a ∈ r := hs a (by simp)
    obtain ⟨h1, h2⟩ := List.nodup_cons.1 hn
    have hp := perm_of_sub (l := l) (r := r.erase a) h2 (by rw [List.length_erase_of_mem ha]; simp at hl; omega) (fun x hx => (List.mem_erase_of_ne (fun e => by subst e; exact h1 hx)).2 (hs x (by simp [hx])))
    exact (List.Perm.cons a hp).trans (List.perm_cons_erase ha).symm

theorem prod_map_mod (a p : Nat) : ∀ l : List Nat, (l.map fun x => a * x % p).prod % p = (a ^ l.length * l.prod) % p
  | [] => by simp
  | x :: l => by
    have ih := prod_map_mod a p l
    rw [List.map_cons, List.prod_cons, List.prod_cons, List.length_cons, Nat.mul_mod, ih, Nat.mod_mod, ← Nat.mul_mod]
    congr 1
    rw [Nat.pow_succ]
    ac_rfl

/-- FERMAT. -/
theorem fermat {p : Nat} (hp : Prime p) (a : Nat) (ha : ¬ p ∣ a) : a ^ (p - 1) % p = 1 := by
  have hp2 := hp.1
  let L := (List.range (p - 1)).map (· + 1)
  have hL : ∀ x, x ∈ L ↔ 1 ≤ x ∧ x < p := by
    intro x
    simp only [L, List.mem_map, List.mem_range]
    constructor
    · rintro ⟨y, hy, rfl⟩; omega
    · rintro ⟨h1, h2⟩; exact ⟨x - 1, by omega, by omega⟩
  have hlen : L.length = p - 1 := by simp [L]
  have hnd : L.Nodup := by
    rw [List.nodup_iff_pairwise_ne, List.pairwise_map]
    exact (List.nodup_iff_pairwise_ne.1 (List.nodup_range (n := p - 1))).imp fun h e => h (by omega)
  have hno : ∀ x, 1 ≤ x → x < p → ¬ p ∣ x := fun x h1 h2 hd => by
    have := Nat.le_of_dvd (by omega) hd
    omega
  have hmul : ∀ x ∈ L, ¬ p ∣ a * x := by
    intro x hx hd
    obtain ⟨h1, h2⟩ := (hL x).1 hx
    rcases hp.dvd_mul hd with h | h
    · exact ha h
    · exact hno x h1 h2 h
  have hperm : (L.map fun x => a * x % p).Perm L := by
    apply perm_of_sub
    · rw [List.nodup_iff_pairwise_ne, List.pairwise_map]
      refine (List.nodup_iff_pairwise_ne.1 hnd).imp_of_mem ?_
      intro x y hx hy hne e
      have e2 : a * x % p = a * y % p := e
      obtain ⟨x1, x2⟩ := (hL x).1 hx
      obtain ⟨y1, y2⟩ := (hL y).1 hy
      rcases Nat.lt_or_gt_of_ne hne with h | h
      · have hd : p ∣ a * y - a * x := dvd_sub_of_mod e2.symm
        rw [← Nat.mul_sub] at hd
        rcases hp.dvd_mul hd with q | q
        · exact ha q
        · exact hno (y - x) (by omega) (by omega) q
      · have hd : p ∣ a * x - a * y := dvd_sub_of_mod e2
        rw [← Nat.mul_sub] at hd
        rcases hp.dvd_mul hd with q | q
        · exact ha q
        · exact hno (x - y) (by omega) (by omega) q
    · simp
    · intro z hz
      obtain ⟨x, hx, rfl⟩ := List.mem_map.1 hz
      have hm : a * x % p ≠ 0 := fun e => hmul x hx (Nat.dvd_of_mod_eq_zero e)
      have hlt : a * x % p < p := Nat.mod_lt _ (by omega)
      exact (hL _).2 ⟨by omega, hlt⟩
  have h1 := prod_map_mod a p L
  rw [hperm.prod_nat, hlen] at h1
  have hP : ¬ p ∣ L.prod := by
    intro hd
    obtain ⟨x, hx, hxd⟩ := hp.dvd_prod L hd
    obtain ⟨x1, x2⟩ := (hL x).1 hx
    exact hno x x1 x2 hxd
  have ha0 : 0 < a := Nat.pos_of_ne_zero (fun e => ha (by rw [e]; exact Nat.dvd_zero p))
  have hpow : 1 ≤ a ^ (p - 1) := Nat.pow_pos ha0
  have hle : L.prod ≤ a ^ (p - 1) * L.prod := Nat.le_mul_of_pos_left _ hpow
  have hd : p ∣ a ^ (p - 1) * L.prod - L.prod := dvd_sub_of_mod h1.symm
  have hd2 : p ∣ (a ^ (p - 1) - 1) * L.prod := by
    rw [Nat.sub_mul, Nat.one_mul]; exact hd
  rcases hp.dvd_mul hd2 with h | h
  · obtain ⟨k, hk⟩ := h
    have : a ^ (p - 1) = 1 + p * k := by omega
    rw [this, Nat.add_mul_mod_self_left]
    exact Nat.mod_eq_of_lt (by omega)
  · exact absurd h hP

/-- Powers by halves. -/
def powMod (n : Nat) : Nat → Nat → Nat → Nat
  | 0, a, e => a ^ e % n
  | f + 1, a, e => if e = 0 then 1 % n else if e % 2 = 1 then a * powMod n f (a * a % n) (e / 2) % n else powMod n f (a * a % n) (e / 2)

theorem powMod_eq (n : Nat) : ∀ (f a e : Nat), powMod n f a e = a ^ e % n
  | 0, a, e => rfl
  | f + 1, a, e => by
    unfold powMod
    have hsq : ∀ k, (a * a % n) ^ k % n = (a ^ (2 * k)) % n := by
      intro k
      rw [← Nat.pow_mod, Nat.pow_mul, Nat.pow_two]
    by_cases h0 : e = 0
    · simp [h0]
    · rw [if_neg h0, powMod_eq n f, hsq]
      by_cases h1 : e % 2 = 1
      · rw [if_pos h1, Nat.mul_mod, Nat.mod_mod, ← Nat.mul_mod]
        congr 1
        rw [Nat.mul_comm, ← Nat.pow_succ]
        congr 1
        omega
      · rw [if_neg h1]
        congr 2
        omega

/-- What is 1 at two exponents is so at their greatest common divisor. -/
theorem gcd_one {p a : Nat} (hp : 2 ≤ p) : ∀ x y : Nat, a ^ x % p = 1 → a ^ y % p = 1 → a ^ Nat.gcd x y % p = 1 := by
  intro x y
  induction x, y using Nat.gcd.induction with
  | H0 n => intro _ h; rw [Nat.gcd_zero_left]; exact h
  | H1 m n hm ih =>
    intro h1 h2
    rw [Nat.gcd_rec]
    refine ih ?_ h1
    have e : a ^ n = (a ^ m) ^ (n / m) * a ^ (n % m) := by
      rw [← Nat.pow_mul, ← Nat.pow_add, Nat.div_add_mod]
    rw [e, Nat.mul_mod, Nat.pow_mod, h1, Nat.one_pow, Nat.mod_eq_of_lt (show 1 < p by omega), Nat.one_mul, Nat.mod_mod] at h2
    exact h2

theorem dvd_pow_pos {a k : Nat} (h : 0 < k) : a ∣ a ^ k := by
  obtain ⟨j, rfl⟩ : ∃ j, k = j + 1 := ⟨k - 1, by omega⟩
  exact ⟨a ^ j, by rw [Nat.pow_succ, Nat.mul_comm]⟩

/-- A prime q divides p - 1, if a^(q m) is 1 and a^m is not. -/
theorem dvd_pred {p q m a : Nat} (hp : Prime p) (hq : Prime q) (h1 : a ^ (q * m) % p = 1) (h2 : a ^ m % p ≠ 1) (hm : 0 < m) : q ∣ p - 1 := by
  have hp2 := hp.1
  have ha : ¬ p ∣ a := by
    intro hd
    have : p ∣ a ^ (q * m) := Nat.dvd_trans hd (dvd_pow_pos (Nat.mul_pos (show 0 < q by have := hq.1; omega) hm))
    rw [Nat.mod_eq_zero_of_dvd this] at h1
    cases h1
  have hf := fermat hp a ha
  apply Classical.byContradiction
  intro hn
  have hg := gcd_one hp2 _ _ h1 hf
  have hgq : ¬ q ∣ Nat.gcd (q * m) (p - 1) := fun h => hn (Nat.dvd_trans h (Nat.gcd_dvd_right _ _))
  have hgm : Nat.gcd (q * m) (p - 1) ∣ m := (Nat.Coprime.symm (hq.coprime hgq)).dvd_of_dvd_mul_left (Nat.gcd_dvd_left _ _)
  obtain ⟨k, hk⟩ := hgm
  apply h2
  rw [hk, Nat.pow_mul, Nat.pow_mod, hg, Nat.one_pow, Nat.mod_eq_of_lt (by omega)]

/-- No number from 2 to k + 1 divides n. -/
def noDiv (n : Nat) : Nat → Bool
  | 0 => true
  | k + 1 => !(n % (k + 2) == 0) && noDiv n k

theorem noDiv_spec {n : Nat} : ∀ k, noDiv n k = true → ∀ m, 2 ≤ m → m ≤ k + 1 → ¬ m ∣ n
  | 0, _, m, h1, h2, _ => by omega
  | k + 1, h, m, h1, h2, hd => by
    simp only [noDiv, Bool.and_eq_true, Bool.not_eq_true', beq_eq_false_iff_ne] at h
    by_cases e : m = k + 2
    · subst e
      exact h.1 (Nat.mod_eq_zero_of_dvd hd)
    · exact noDiv_spec k h.2 m h1 (by omega) hd

/-- A number whose every prime divisor has a square beyond it is prime. -/
theorem prime_of_big {n : Nat} (hn : 2 ≤ n) (h : ∀ p, Prime p → p ∣ n → n < p * p) : Prime n := by
  refine ⟨hn, fun m hm => ?_⟩
  obtain ⟨k, rfl⟩ := hm
  apply Classical.byContradiction
  intro hc
  have hm1 : m ≠ 1 := fun e => hc (Or.inl e)
  have hk1 : k ≠ 1 := fun e => hc (Or.inr (by rw [e, Nat.mul_one]))
  have hm0 : m ≠ 0 := fun e => by subst e; simp at hn
  have hk0 : k ≠ 0 := fun e => by subst e; simp at hn
  rcases Nat.le_total m k with q | q
  · obtain ⟨p, hp, hd⟩ := exists_prime m (by omega)
    have h1 := h p hp (Nat.dvd_trans hd (Nat.dvd_mul_right m k))
    have h2 := Nat.le_of_dvd (by omega) hd
    have h3 : p * p ≤ m * k := Nat.mul_le_mul h2 (Nat.le_trans h2 q)
    omega
  · obtain ⟨p, hp, hd⟩ := exists_prime k (by omega)
    have h1 := h p hp (Nat.dvd_trans hd (Nat.dvd_mul_left k m))
    have h2 := Nat.le_of_dvd (by omega) hd
    have h3 : p * p ≤ m * k := Nat.mul_le_mul (Nat.le_trans h2 q) h2
    omega

theorem prime_small (n k : Nat) (hn : 2 ≤ n) (hk : n < (k + 2) * (k + 2)) (h : noDiv n k = true) : Prime n := by
  refine prime_of_big hn fun p hp hd => ?_
  have h2 := hp.1
  have h3 : ¬ p ≤ k + 1 := fun hle => noDiv_spec k h p h2 hle hd
  have : (k + 2) * (k + 2) ≤ p * p := Nat.mul_le_mul (by omega) (by omega)
  omega

/-- One known prime factor q of n - 1. -/
theorem factor_pred {n q m a : Nat} (hq : Prime q) (hm : 0 < m) (h1 : powMod n 400 a (q * m) = 1) (h2 : Nat.gcd (powMod n 400 a m + n - 1) n = 1) (hn : 2 ≤ n) : ∀ p, Prime p → p ∣ n → q ∣ p - 1 := by
  intro p hp hd
  rw [powMod_eq] at h1 h2
  have hp2 := hp.1
  refine dvd_pred hp hq (m := m) (a := a) ?_ ?_ hm
  · have := congrArg (· % p) h1
    simp only [Nat.mod_mod_of_dvd _ hd] at this
    rw [this]
    exact Nat.mod_eq_of_lt (by omega)
  · intro e
    have h3 : a ^ m % n % p = 1 := by rw [Nat.mod_mod_of_dvd _ hd]; exact e
    have h4 : p ∣ a ^ m % n + n - 1 := by
      obtain ⟨k, hk⟩ := hd
      have h5 := Nat.div_add_mod (a ^ m % n) p
      rw [h3] at h5
      refine ⟨a ^ m % n / p + k, ?_⟩
      rw [Nat.mul_add, ← hk]
      omega
    have h6 : p ∣ Nat.gcd (a ^ m % n + n - 1) n := Nat.dvd_gcd h4 hd
    rw [h2] at h6
    have := Nat.le_of_dvd (by omega) h6
    omega

/-- POCKLINGTON, with one prime factor of n - 1. -/
theorem pock1 (n q m a : Nat) (hq : Prime q) (hn : n = q * m + 1) (hm : 0 < m) (h1 : powMod n 400 a (q * m) = 1) (h2 : Nat.gcd (powMod n 400 a m + n - 1) n = 1) (hb : n < (q + 1) * (q + 1)) : Prime n := by
  have hq2 := hq.1
  have hqm := Nat.mul_pos (show 0 < q by omega) hm
  refine prime_of_big (by omega) fun p hp hd => ?_
  have h := factor_pred hq hm h1 h2 (by omega) p hp hd
  have hp2 := hp.1
  have := Nat.le_of_dvd (by omega) h
  have : (q + 1) * (q + 1) ≤ p * p := Nat.mul_le_mul (by omega) (by omega)
  omega

/-- POCKLINGTON, with two. -/
theorem pock2 (n q m a r l b : Nat) (hq : Prime q) (hr : Prime r) (hne : q ≠ r) (hn : n = q * m + 1) (hn2 : n = r * l + 1) (hm : 0 < m) (hl : 0 < l) (h1 : powMod n 400 a (q * m) = 1) (h2 : Nat.gcd (powMod n 400 a m + n - 1) n = 1)
    (h3 : powMod n 400 b (r * l) = 1) (h4 : Nat.gcd (powMod n 400 b l + n - 1) n = 1) (hb : n < (q * r + 1) * (q * r + 1)) : Prime n := by
  have hq2 := hq.1
  have hqm := Nat.mul_pos (show 0 < q by omega) hm
  refine prime_of_big (by omega) fun p hp hd => ?_
  have e1 := factor_pred hq hm h1 h2 (by omega) p hp hd
  have e2 := factor_pred hr hl h3 h4 (by omega) p hp hd
  have hc : Nat.Coprime q r := hq.coprime fun h => by
    rcases hr.2 q h with e | e
    · omega
    · exact hne e
  have h := hc.mul_dvd_of_dvd_of_dvd e1 e2
  have hp2 := hp.1
  have := Nat.le_of_dvd (by omega) h
  have : (q * r + 1) * (q * r + 1) ≤ p * p := Nat.mul_le_mul (by omega) (by omega)
  omega

theorem p1 : Prime 8574133 := prime_small _ 2928 (by decide) (by decide) (by decide +kernel)
theorem p2 : Prime 430751 := prime_small _ 656 (by decide) (by decide) (by decide +kernel)
theorem p3 : Prime 4153 := prime_small _ 64 (by decide) (by decide) (by decide +kernel)
theorem p4 : Prime 127 := prime_small _ 11 (by decide) (by decide) (by decide +kernel)
theorem p5 : Prime 2773320623 := prime_small _ 52662 (by decide) (by decide) (by decide +kernel)
theorem p6 : Prime 72106336199 := pock1 _ 2773320623 26 2 p5 (by decide) (by decide) (by decide +kernel) (by decide +kernel) (by decide)
theorem p7 : Prime 1919519569386763 := pock2 _ 8574133 223873314 2 127 15114327318006 2 p1 p4 (by decide) (by decide) (by decide) (by decide) (by decide) (by decide +kernel) (by decide +kernel) (by decide +kernel) (by decide +kernel) (by decide)
theorem p8 : Prime 31757755568855353 := pock2 _ 430751 73726481352 2 4153 7646943310584 2 p2 p3 (by decide) (by decide) (by decide) (by decide) (by decide) (by decide +kernel) (by decide +kernel) (by decide +kernel) (by decide +kernel) (by decide)
theorem p9 : Prime 75445702479781427272750846543864801 := pock2 _ 1919519569386763 39304471641247389600 2 72106336199 1046311689884858398375200 2 p7 p6 (by decide) (by decide) (by decide) (by decide) (by decide) (by decide +kernel) (by decide +kernel) (by decide +kernel) (by decide +kernel) (by decide)
theorem p10 : Prime 74058212732561358302231226437062788676166966415465897661863160754340907 := pock2 _ 75445702479781427272750846543864801 981609426360740691344999861639072106 2 31757755568855353 2331972502653487852620185443007392165117953542933313402 2 p9 p8 (by decide) (by decide) (by decide) (by decide) (by decide) (by decide +kernel) (by decide +kernel) (by decide +kernel) (by decide +kernel) (by decide)
/-- 2^255 - 19 is prime. -/
theorem prime25519 : Prime 57896044618658097711785492504343953926634992332820282019728792003956564819949 := pock1 _ 74058212732561358302231226437062788676166966415465897661863160754340907 781764 2 p10 (by decide) (by decide) (by decide +kernel) (by decide +kernel) (by decide)

end Go.Proofs.YtmomfbkpniblgaaGreatDoor.Pr

namespace Go.Proofs.YtmomfbkpniblgaaGreatDoor
set_option linter.unusedVariables false

/-- The pieces between blanks. -/
def splitL : List UInt8 → List (List UInt8)
  | [] => [[]]
  | c :: r => if c = 32 then [] :: splitL r else ((c :: (splitL r).headD []) :: (splitL r).tail)
theorem splitL_ne (l : List UInt8) : splitL l ≠ [] := by
  cases l with
  | nil => simp [splitL]
  | cons c r => unfold splitL; split <;> simp
theorem splitL_none : ∀ l : List UInt8, Lib.indexByte l 32 = -1 → splitL l = [l]
  | [], _ => rfl
  | c :: r, h => by
    unfold Lib.indexByte at h
    by_cases hc : c = 32
    · subst hc; simp at h
    · have hb : (c == 32) = false := by rw [beq_eq_false_iff_ne]; exact hc
      rw [hb] at h
      simp only [Bool.false_eq_true, if_false] at h
      have g := Lib.indexByte_ge r 32
      have h2 : Lib.indexByte r 32 = -1 := by
        split at h
        · rename_i e; simpa using e
        · omega
      unfold splitL
      rw [if_neg hc, splitL_none r h2]
      rfl
theorem splitL_some : ∀ (l : List UInt8) (k : Nat), Lib.indexByte l 32 = (k : Int) → k < l.length ∧ splitL l = l.take k :: splitL (l.drop (k + 1))
  | [], k, h => by unfold Lib.indexByte at h; omega
  | c :: r, k, h => by
    unfold Lib.indexByte at h
    by_cases hc : c = 32
    · subst hc
      simp at h
      obtain rfl : k = 0 := by omega
      exact ⟨by simp, by simp [splitL]⟩
    · have hb : (c == 32) = false := by rw [beq_eq_false_iff_ne]; exact hc
      rw [hb] at h
      simp only [Bool.false_eq_true, if_false] at h
      split at h
      · omega
      · rename_i e
        have e2 : Lib.indexByte r 32 ≠ -1 := by simpa using e
        have g := Lib.indexByte_ge r 32
        obtain ⟨j, rfl⟩ : ∃ j, k = j + 1 := ⟨k - 1, by omega⟩
        obtain ⟨h1, h2⟩ := splitL_some r j (by omega)
        refine ⟨by simp; omega, ?_⟩
        conv => lhs; unfold splitL
        rw [if_neg hc, h2]
        simp
/-- The words: the pieces that are not empty. -/
def wordsL (l : List UInt8) : List (List UInt8) := (splitL l).filter fun p => p != []
theorem splitL_le : ∀ l : List UInt8, (splitL l).length ≤ l.length + 1 ∧ ∀ p ∈ splitL l, p.length ≤ l.length
  | [] => by simp [splitL]
  | c :: r => by
    obtain ⟨h1, h2⟩ := splitL_le r
    have hne := splitL_ne r
    unfold splitL
    split
    · refine ⟨by simp; omega, fun p hp => ?_⟩
      rcases List.mem_cons.1 hp with rfl | hp
      · simp
      · have := h2 p hp; simp; omega
    · cases hs : splitL r with
      | nil => exact absurd hs hne
      | cons q qs =>
        rw [hs] at h1 h2
        refine ⟨by simp at h1 ⊢; omega, fun p hp => ?_⟩
        simp only [List.headD_cons, List.tail_cons] at hp
        rcases List.mem_cons.1 hp with rfl | hp
        · have := h2 q (by simp); simp; omega
        · have := h2 p (by simp [hp]); simp; omega

end Go.Proofs.YtmomfbkpniblgaaGreatDoor

namespace Go.Proofs.YtmomfbkpniblgaaGreatDoor
open Go.RowKit
set_option linter.unusedVariables false

/-- Blocks of a kind lie as they lay. -/
def KeepPtB (Pt : Nat → Obj → Prop) (W W' : World) : Prop := ∀ (r : Nat) (o : Obj), W.heap[r]? = some o → Pt r o → W'.heap[r]? = some o
theorem KeepPtB.refl (Pt : Nat → Obj → Prop) (W : World) : KeepPtB Pt W W := fun _ _ h _ => h
theorem KeepPtB.trans {Pt : Nat → Obj → Prop} {A B C : World} (h : KeepPtB Pt A B) (k : KeepPtB Pt B C) : KeepPtB Pt A C := fun r o hr hp => k r o (h r o hr hp) hp
theorem KeepPtB.grown {Pt : Nat → Obj → Prop} {A B : World} {row : Option Nat} (h : A.grownBy B row) (hn : ∀ r o, row = some r → A.heap[r]? = some o → ¬ Pt r o) : KeepPtB Pt A B := fun r o hr hp =>
  (h.block r (Array.getElem?_eq_some_iff.1 hr).1 (fun e => hn r o e.symm hr hp)).trans hr
/-- What abides a change of one block of a kind, and new blocks. -/
def OwnTB {β : Type} (Pt : Nat → Obj → Prop) (I : β → World → Prop) : Prop :=
  ∀ s W W' row, I s W → W.grownBy W' row → (∀ r, row = some r → ∃ o : Obj, W.heap[r]? = some o ∧ Pt r o) → I s W'
theorem OwnTB.new {β : Type} {Pt : Nat → Obj → Prop} {I : β → World → Prop} (h : OwnTB Pt I) {s : β} {W W' : World} (hs : I s W) (hg : W.grownBy W' none) : I s W' := h s W W' none hs hg (fun r e => by cases e)
theorem OwnTB.putObj {β : Type} {Pt : Nat → Obj → Prop} {I : β → World → Prop} (h : OwnTB Pt I) {s : β} {W : World} {l : Nat} {o : Obj} (o' : Obj) (hs : I s W) (hl : W.heap[l]? = some o) (ho : Pt l o) : I s (W.putObj l o') :=
  h s W _ (some l) hs (grownBy_putObj' W l o') (fun r e => by cases e; exact ⟨o, hl, ho⟩)

/-- What an iterator does that yields the list L, one by one, whatever the rounds do that keep R and its own blocks (Pt). -/
def SeqAllB {α : Type} (P : Program) (g : Nat) (la lb : Array Value) (encs : α → Array Value) (L : List α) (Pt : Nat → Obj → Prop) (R : List α → World → Prop) (w : World) : Prop :=
  ∀ (l : Nat) (J : List α → World → Prop) (W : World), Below w.heap.size w W → OwnTB Pt J → (∀ pre W1, J pre W1 → R pre W1) →
    (∀ pre x rest W1, L = pre ++ x :: rest → J pre W1 → YieldAt Fence.wide 0 P l (encs x) W1 fun e W' => e = .returned (.bool true) ∧ J (pre ++ [x]) W' ∧ KeepPtB Pt W1 W') →
    J [] W → Calls P g (la ++ #[.func (.yield l) #[] #[]] ++ lb) W fun e W' => (∃ v, e = .returned v) ∧ J L W'

/-- How a round is left: by its end alone. -/
def allPostB {α : Type} (Pt : Nat → Obj → Prop) (B : Nat) (I : List α → World → Prop) (xs : List α) (W : World) : Exit → Act → World → Prop
  | .normal, _, W' => KeepsFrom B W W' ∧ KeepPtB Pt W W' ∧ I xs W'
  | .ret, _, _ => False
  | .exit _, _, _ => False
  | .goto _, _, _ => False
  | .panic _, _, _ => False
  | .outgrown, _, _ => False

theorem wp_rangeFunc_allB {α : Type} {P : Program} {g : Operand} {ps : Array Tmp} {assign body : Code} {Q : Exit → Act → World → Prop} {a : Act} {w : World}
    {gf : Nat} {la lb : Array Value} (hg : a.eval g = .func (.func gf) la lb) (eg : ∀ args w, (callFunc gf args).run P w = .ok (.enter gf args) w)
    {encs : α → Array Value} {L : List α} {Pt : Nat → Obj → Prop} (hPt : ∀ r o, Pt r o → o.isCells = true) {R : List α → World → Prop} (hseq : SeqAllB P gf la lb encs L Pt R w) (hps : ∀ x, (encs x).size = ps.size)
    (I : List α → World → Prop) (hI : OwnTB (fun r o => (w.heap.size ≤ r ∧ o.isCells = false) ∨ Pt r o) I) (hIR : ∀ pre W, I pre W → R pre W) (h0 : I [] w)
    (Ax : α → Act → World → Prop) (hAx : ∀ x a W l o o', Ax x a W → W.heap[l]? = some o → o.isCells = false → Ax x a (W.putObj l o'))
    (hassign : ∀ (l : Nat) (pre : List α) (x : α) (W : World) (K : Act → World → Prop), I pre W → (∀ a₁ W1, W.grownBy W1 none → Ax x a₁ W1 → K a₁ W1) →
      assign.wpIn (Fence.wide.inRound l) 0 P (Exit.then K (fun _ _ _ => False)) { tmps := (ps.zip (encs x)).foldl (fun t (p, v) => t.setIfInBounds p v) a.tmps, defers := [] } W)
    (hbody : ∀ (l : Nat) (pre : List α) (x : α) (rest : List α) (a₁ : Act) (W : World), L = pre ++ x :: rest → Ax x a₁ W → I pre W → body.wpIn (Fence.wide.inRound l) 0 P (allPostB Pt w.heap.size I (pre ++ [x]) W) a₁ W)
    (hdone : ∀ (D : Nat) (W : World), w.heap.size ≤ D → I L W → W.heap[D]? = some (.deferred (some [])) → Q .normal { a with defers := { target := .collected D, args := #[] } :: a.defers } W) :
    (Code.rangeFunc g ps assign body).wp P Q a w := by
  refine (wpIn_wide (n := 1)).1 (wpIn_rangeFunc ?_)
  intro fn hfn
  obtain ⟨rec, hrec⟩ : ∃ rec : LoopState → Loop, rec = fun st => { state := st, pending := none, fn, tmps := a.tmps, params := ps, assign, body, defers := w.heap.size } := ⟨_, rfl⟩
  obtain ⟨W1, hW1⟩ : ∃ W1, (w.alloc (.deferred (some []))).alloc (.loop (rec .ready)) = W1 := ⟨_, rfl⟩
  have hL1 : W1.heap[w.heap.size + 1]? = some (.loop (rec .ready)) := by
    rw [← hW1]
    have := World.alloc_heap_new (w.alloc (.deferred (some []))) (.loop (rec .ready))
    rwa [World.size_alloc] at this
  have hD1 : W1.heap[w.heap.size]? = some (.deferred (some [])) := by
    rw [← hW1]
    exact (Below.heap_alloc _ _ _ (by simp)).trans (World.alloc_heap_new w _)
  have hI1 : I [] W1 := by
    rw [← hW1]
    exact hI.new (hI.new h0 (World.grownBy_alloc w _ none)) (World.grownBy_alloc _ _ none)
  have hb1 : Below w.heap.size w W1 := by
    rw [← hW1]
    exact ((Below.refl _ w).alloc (Nat.le_refl _) _).alloc (by simp) _
  refine ⟨w.heap.size + 1, [{ target := .collected w.heap.size, args := #[] }], W1, { target := .fn (.func gf) lb, args := la ++ #[.func (.yield (w.heap.size + 1)) #[] #[]] }, W1, gf,
    la ++ #[.func (.yield (w.heap.size + 1)) #[] #[]] ++ lb, W1, ?_, ?_, fun _ _ => trivial, ?_, fun _ => Nat.le_refl 1, ?_⟩
  · rw [← hW1, hrec]
    exact run_enterLoop_outer _ _ _ _ _
  · simp only [resolve, hg]
    simp [go_sem]
  · simp [invoke, go_sem, eg]
  refine callsIn_wide.2 ((hseq (w.heap.size + 1) (fun pre W => I pre W ∧ W.heap[w.heap.size + 1]? = some (.loop (rec .ready)) ∧ W.heap[w.heap.size]? = some (.deferred (some []))) W1 hb1 ?_ (fun pre W h => hIR pre W h.1) ?_ ⟨hI1, hL1, hD1⟩).mono ?_)
  · intro s A B row ⟨hs, hl, hk⟩ hg hr
    have keep : ∀ (k : Nat) (o : Obj), o.isCells = false → A.heap[k]? = some o → B.heap[k]? = some o := fun k o ho hk => (hg.block k (Array.getElem?_eq_some_iff.1 hk).1 (fun e => by
      obtain ⟨o', h1, h2⟩ := hr k e.symm
      rw [hk] at h1
      cases h1
      rw [hPt _ _ h2] at ho
      cases ho)).trans hk
    exact ⟨hI s A B row hs hg (fun r e => (hr r e).imp fun o h => ⟨h.1, .inr h.2⟩), keep _ _ rfl hl, keep _ _ rfl hk⟩
  · rintro pre x rest W hx ⟨hi, hl, hk⟩
    have hlt : w.heap.size + 1 < W.heap.size := (Array.getElem?_eq_some_iff.1 hl).1
    have hy := run_yield (P := P) (args := encs x) hl (by rw [hrec]; exact hps x)
    rw [hrec] at hy
    refine ⟨fn, _, assign, body, hy, roundIn_of_wpIn hfn (hassign _ pre x W _ hi fun a1 Wa hga hax => ?_)⟩
    have hia := hI.new hi hga
    have hla : Wa.heap[w.heap.size + 1]? = some (.loop (rec .ready)) := (hga.block _ hlt (by simp)).trans hl
    have hka : Wa.heap[w.heap.size]? = some (.deferred (some [])) := (hga.block _ (by omega) (by simp)).trans hk
    have hpa : KeepPtB Pt W Wa := KeepPtB.grown hga (fun r o e => by cases e)
    have hlta : w.heap.size + 1 < Wa.heap.size := Nat.lt_of_lt_of_le hlt hga.size
    refine ⟨_, run_beginRound hla (by rw [hrec]), ?_⟩
    have hl2 : (Wa.putObj (w.heap.size + 1) (.loop { rec .ready with state := .busy })).heap[w.heap.size + 1]? = some (.loop { rec .ready with state := .busy }) := World.putObj_heap_same hlta
    have hk2 : (Wa.putObj (w.heap.size + 1) (.loop { rec .ready with state := .busy })).heap[w.heap.size]? = some (.deferred (some [])) := (World.putObj_heap_other (by omega)).trans hka
    refine wpIn_mono (hbody _ pre x rest a1 _ hx (hAx _ _ _ _ _ _ hax hla rfl) (hI.putObj _ hia hla (.inl ⟨by omega, rfl⟩))) ?_
    rintro e a3 W3 hp
    cases e with
    | normal =>
      obtain ⟨hk3, hp3, hi3⟩ := hp
      have hl3 := hk3.same _ _ (by omega) hl2 rfl
      have hk4 := hk3.same _ _ (Nat.le_refl _) hk2 rfl
      have hr := run_endRound (P := P) none hl3
      rw [hrec] at hr hl3 ⊢
      refine ⟨_, _, hr, rfl, ⟨hI.putObj _ hi3 hl3 (.inl ⟨by omega, rfl⟩), World.putObj_heap_same (Array.getElem?_eq_some_iff.1 hl3).1, (World.putObj_heap_other (by omega)).trans hk4⟩, ?_⟩
      have put : ∀ (A : World) (o o' : Obj), A.heap[w.heap.size + 1]? = some o → o.isCells = false → KeepPtB Pt A (A.putObj (w.heap.size + 1) o') := fun A o o' h1 h2 => KeepPtB.grown (grownBy_putObj' A _ o') (fun r o2 e h3 h4 => by
        cases e
        rw [h1] at h3
        cases h3
        rw [hPt _ _ h4] at h2
        cases h2)
      exact ((hpa.trans (put _ _ _ hla rfl)).trans hp3).trans (put _ _ _ hl3 rfl)
    | ret => exact hp.elim
    | exit id => exact hp.elim
    | goto t => exact hp.elim
    | panic ch => exact hp.elim
    | outgrown => exact hp.elim
  · rintro e W2 ⟨⟨v, rfl⟩, hi, hl, hk⟩
    refine ⟨none, _, by have := run_endLoop (P := P) hl (by rw [hrec]; simp); rw [hrec] at this; exact this, ?_⟩
    exact hdone _ _ (Nat.le_refl _) (hI.putObj _ hi hl (.inl ⟨by omega, rfl⟩)) ((World.putObj_heap_other (by omega)).trans hk)

end Go.Proofs.YtmomfbkpniblgaaGreatDoor
