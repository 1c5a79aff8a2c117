/- The ladder on points modulo 2^255 - 19. Plain. -/
import Derived.Test.YtmceahknglkhoaaDoorEdwMul
import Derived.Test.YtmceahknglkhoaaDoorLadPlain
namespace Go.Proofs.YtmceahknglkhoaaDoor
set_option linter.unusedVariables false

abbrev FP := Fin PP
structure Kit {D : FP} (g : Ed.Good D) (σ u : FP) (B : Ed.Pt D) : Prop where
  sq : σ * σ = 1
  two : ∀ (P : Ed.Pt D) (X Z : FP), Ed.Rep P.y (σ * X) Z → Ed.Rep (Ed.add g P P).y (σ * rX X Z) (rZ (fi 121665) X Z)
  sum : ∀ (P Q : Ed.Pt D) (X Z X' Z' : FP), (Ed.add g Q B = P ∨ Ed.add g P B = Q) → Ed.Rep P.y (σ * X) Z → Ed.Rep Q.y (σ * X') Z' → Ed.Rep (Ed.add g P Q).y (σ * rX3 X Z X' Z') (rZ3 u X Z X' Z')
def Pst {D : FP} (σ : FP) (P Q : Ed.Pt D) (s : Lad) : Prop := Ed.Rep P.y (σ * fi s.x2) (fi s.z2) ∧ Ed.Rep Q.y (σ * fi s.x3) (fi s.z3)
def LInv {D : FP} (g : Ed.Good D) (σ : FP) (B : Ed.Pt D) (s : Lad) (N : Nat) : Prop :=
  (s.sw = 0 ∧ Pst σ (Ed.nm g N B) (Ed.nm g (N + 1) B) s) ∨ (s.sw = 1 ∧ Pst σ (Ed.nm g (N + 1) B) (Ed.nm g N B) s)
theorem step_pst {D : FP} {g : Ed.Good D} {σ u : FP} {B : Ed.Pt D} (K : Kit g σ u B) {x : Nat} (hx : fi x = u) {P Q : Ed.Pt D} (hB : Ed.add g Q B = P ∨ Ed.add g P B = Q) {s : Lad} (h : Pst σ P Q s) : Pst σ (Ed.add g P P) (Ed.add g P Q) (s.step x) := by
  refine ⟨?_, ?_⟩
  · show Ed.Rep _ (σ * fi (ladX2 s.x2 s.z2)) (fi (ladZ2 s.x2 s.z2))
    rw [fi_X2, fi_Z2]
    exact K.two P _ _ h.1
  · show Ed.Rep _ (σ * fi (ladX3 s.x2 s.z2 s.x3 s.z3)) (fi (ladZ3 x s.x2 s.z2 s.x3 s.z3))
    rw [fi_X3, fi_Z3, hx]
    exact K.sum P Q _ _ _ _ hB h.1 h.2
theorem turn_inv {D : FP} {g : Ed.Good D} {σ : FP} {B : Ed.Pt D} {s : Lad} {N b : Nat} (hb : b < 2) (h : LInv g σ B s N) : LInv g σ B (s.turn b) N ∧ (s.turn b).sw = b := by
  refine ⟨?_, turn_sw s b⟩
  unfold Lad.turn
  split
  · exact h
  · rename_i hne
    rcases h with ⟨e, h1, h2⟩ | ⟨e, h1, h2⟩
    · exact Or.inr ⟨by show b = 1; omega, h2, h1⟩
    · exact Or.inl ⟨by show b = 0; omega, h2, h1⟩
theorem round_inv {D : FP} {g : Ed.Good D} {σ u : FP} {B : Ed.Pt D} (K : Kit g σ u B) {x : Nat} (hx : fi x = u) {s : Lad} {N b : Nat} (hb : b < 2) (h : LInv g σ B s N) : LInv g σ B ((s.turn b).step x) (2 * N + b) := by
  obtain ⟨hi, hs⟩ := turn_inv hb h
  generalize s.turn b = t at *
  have a1 : Ed.add g (Ed.nm g N B) B = Ed.nm g (N + 1) B := rfl
  have a2 : Ed.nm g (2 * N + 1) B = Ed.add g (Ed.nm g N B) (Ed.nm g (N + 1) B) := by rw [← Ed.nm_add]; congr 1; omega
  have a3 : Ed.nm g (2 * N + 2) B = Ed.add g (Ed.nm g (N + 1) B) (Ed.nm g (N + 1) B) := by rw [← Ed.nm_add]; congr 1; omega
  rcases hi with ⟨e, hp⟩ | ⟨e, hp⟩
  · have hb0 : b = 0 := by omega
    subst hb0
    refine Or.inl ⟨e, ?_⟩
    have q := step_pst K hx (Or.inr a1) hp
    rw [← Ed.nm_dbl, ← a2] at q
    exact q
  · have hb1 : b = 1 := by omega
    subst hb1
    refine Or.inr ⟨e, ?_⟩
    have q := step_pst K hx (Or.inl a1) hp
    rw [Ed.add_comm g (Ed.nm g (N + 1) B) (Ed.nm g N B), ← a2, ← a3] at q
    exact q
theorem ladS_inv {D : FP} {g : Ed.Good D} {σ u : FP} {B : Ed.Pt D} (K : Kit g σ u B) {x : Nat} (hx : fi x = u) (hB : Ed.Rep B.y (σ * u) 1) (h0 : Ed.Rep (1 : FP) σ 0) (k : Nat) (hk : k < 2 ^ 255) : ∀ i, i ≤ 255 → LInv g σ B (ladS k x i) (k / 2 ^ (255 - i))
  | 0, _ => by
    rw [Nat.sub_zero, Nat.div_eq_of_lt hk]
    refine Or.inl ⟨rfl, ?_, ?_⟩
    · show Ed.Rep (1 : FP) (σ * fi 1) (fi 0)
      have e1 : fi 1 = 1 := rfl
      have e0 : fi 0 = 0 := rfl
      have e : σ * (1 : FP) = σ := by grind
      rw [e1, e0, e]
      exact h0
    · show Ed.Rep (Ed.nm g 1 B).y (σ * fi x) (fi 1)
      rw [Ed.nm_one, hx]
      exact hB
  | i + 1, hi => by
    have ih := ladS_inv K hx hB h0 k hk i (by omega)
    have e : k / 2 ^ (255 - (i + 1)) = 2 * (k / 2 ^ (255 - i)) + k / 2 ^ (254 - i) % 2 := by
      have e1 : 255 - i = (254 - i) + 1 := by omega
      have e2 : 255 - (i + 1) = 254 - i := by omega
      rw [e1, e2, Nat.pow_succ, ← Nat.div_div_eq_div_mul]
      omega
    rw [e]
    exact round_inv K hx (Nat.mod_lt _ (by omega)) ih

def hgt (y : FP) : FP := (1 + y) * invP (1 - y)
theorem fi_pow (z : Nat) : ∀ n, fi (z ^ n) = fi z ^ n
  | 0 => by rw [Lean.Grind.Semiring.pow_zero]; rfl
  | n + 1 => by rw [Nat.pow_succ, fi_nmul2, fi_pow z n, Lean.Grind.Semiring.pow_succ]
theorem invP_mul {a b : FP} (ha : a ≠ 0) : invP (a * b) * a = invP b := by
  by_cases hb : b = 0
  · have e : a * b = 0 := by rw [hb]; grind
    rw [e, hb, invP_zero]; grind
  · have h1 := mul_invP _ (Ed.mul_ne ha hb)
    have h2 := mul_invP _ hb
    generalize invP (a * b) = I at *
    generalize invP b = J at *
    have e : I * a = (a * b * I) * J + I * a * (1 - b * J) := by clear h1 h2; grind
    rw [e, h1, h2]; clear h1 h2 e; grind
theorem rep_out {σ y : FP} (hq : σ * σ = 1) {X Z : Nat} (h : Ed.Rep y (σ * fi X) (fi Z)) : fi (mulP X (Z ^ (PP - 2))) = σ * hgt y := by
  obtain ⟨s, hs, h1, h2⟩ := h
  rw [fi_mul, fi_pow]
  show fi X * invP (fi Z) = σ * hgt y
  unfold hgt
  rw [h2]
  have e := invP_mul (b := 1 - y) hs
  generalize fi X = x at *
  generalize invP (s * (1 - y)) = I at *
  rw [← e]
  have e1 : x = σ * (σ * x) := by
    have e2 : σ * (σ * x) = σ * σ * x := by clear e h1 h2 hq; grind
    rw [e2, hq]; clear e e2 h1 h2 hq; grind
  rw [e1, h1]; clear e e1 h1 h2 hq; grind
theorem ladN_pt {D : FP} {g : Ed.Good D} {σ u : FP} {B : Ed.Pt D} (K : Kit g σ u B) {x : Nat} (hx : fi x = u) (hB : Ed.Rep B.y (σ * u) 1) (h0 : Ed.Rep (1 : FP) σ 0) (k : Nat) (hk : k < 2 ^ 255) : fi (ladN k x) = σ * hgt (Ed.nm g k B).y := by
  have h := ladS_inv K hx hB h0 k hk 255 (Nat.le_refl _)
  rw [Nat.sub_self, Nat.pow_zero, Nat.div_one] at h
  unfold ladN ladOut
  rcases h with ⟨e, h1, h2⟩ | ⟨e, h1, h2⟩
  · rw [if_neg (by omega)]
    exact rep_out K.sq h1
  · rw [if_pos e]
    exact rep_out K.sq h2
end Go.Proofs.YtmceahknglkhoaaDoor
