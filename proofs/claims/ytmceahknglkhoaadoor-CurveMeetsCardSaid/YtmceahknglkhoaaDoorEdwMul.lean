/- Multiples of a point; a step of the ladder on points. Plain. -/
import Derived.Test.YtmceahknglkhoaaDoorLadEd
namespace Go.Proofs.YtmceahknglkhoaaDoor
set_option linter.unusedVariables false
namespace Ed
variable {F : Type} [Lean.Grind.Field F]

def nm {D : F} (g : Good D) : Nat → Pt D → Pt D
  | 0, _ => zero D
  | n + 1, P => add g (nm g n P) P
theorem nm_one {D : F} (g : Good D) (P : Pt D) : nm g 1 P = P := zero_add g P
theorem add_zero {D : F} (g : Good D) (P : Pt D) : add g P (zero D) = P := by rw [add_comm, zero_add]
theorem nm_add {D : F} (g : Good D) (a b : Nat) (P : Pt D) : nm g (a + b) P = add g (nm g a P) (nm g b P) := by
  induction b with
  | zero => exact (add_zero g _).symm
  | succ b ih =>
    show add g (nm g (a + b) P) P = add g (nm g a P) (add g (nm g b P) P)
    rw [ih, add_assoc]
theorem nm_mul {D : F} (g : Good D) (a b : Nat) (P : Pt D) : nm g (a * b) P = nm g a (nm g b P) := by
  induction a with
  | zero => rw [Nat.zero_mul]; rfl
  | succ a ih =>
    rw [Nat.succ_mul, nm_add, ih]
    rfl
theorem nm_comm {D : F} (g : Good D) (a b : Nat) (P : Pt D) : nm g a (nm g b P) = nm g b (nm g a P) := by
  rw [← nm_mul, ← nm_mul, Nat.mul_comm]
theorem nm_dbl {D : F} (g : Good D) (n : Nat) (P : Pt D) : nm g (2 * n) P = add g (nm g n P) (nm g n P) := by
  rw [Nat.two_mul, nm_add]
theorem add_cancel {D : F} (g : Good D) {P Q R : Pt D} (h : add g P Q = R) : add g (neg P) R = Q := by
  rw [← h, ← add_assoc, neg_add, zero_add]

/-- Doubling: heights. -/
theorem rep_two {D c X Z : F} (g : Good D) (hc : D * (c + 1) = c) (hc1 : c + 1 ≠ 0) (P : Pt D) (hr : Rep P.y X Z) : Rep (add g P P).y (rX X Z) (rZ c X Z) :=
  rep_dbl g hc hc1 P.on (by
    have h := (add_sum g P P).ey
    exact h) hr
/-- Adding what lies P apart: heights. -/
theorem rep_sum {D u X Z X' Z' : F} (g : Good D) {P Q B : Pt D} (hB : add g Q B = P ∨ add g P B = Q) (hu : u * (1 - B.y) = 1 + B.y) (hb1 : 1 + B.y ≠ 0) (hD1 : 1 - D ≠ 0) (hr : Rep P.y X Z) (hr' : Rep Q.y X' Z') :
    Rep (add g P Q).y (rX3 X Z X' Z') (rZ3 u X Z X' Z') := by
  refine rep_add g P.on Q.on (add_sum g P Q).ey ?_ hu hb1 hD1 hr hr'
  rcases hB with hB | hB
  · have h := (add_sum g (neg Q) P).ey
    rw [add_cancel g hB] at h
    have e1 : (neg Q).x = - Q.x := rfl
    have e2 : (neg Q).y = Q.y := rfl
    rw [e1, e2] at h
    have e3 : 1 - D * -Q.x * P.x * Q.y * P.y = 1 + D*P.x*Q.x*P.y*Q.y := by clear h hu hb1 hD1 hr hr'; grind
    have e4 : Q.y * P.y - -Q.x * P.x = P.y * Q.y + P.x * Q.x := by clear h hu hb1 hD1 hr hr' e3; grind
    rw [e3, e4] at h
    exact h
  · have h := (add_sum g (neg P) Q).ey
    rw [add_cancel g hB] at h
    have e1 : (neg P).x = - P.x := rfl
    have e2 : (neg P).y = P.y := rfl
    rw [e1, e2] at h
    have e3 : 1 - D * -P.x * Q.x * P.y * Q.y = 1 + D*P.x*Q.x*P.y*Q.y := by clear h hu hb1 hD1 hr hr'; grind
    have e4 : P.y * Q.y - -P.x * Q.x = P.y * Q.y + P.x * Q.x := by clear h hu hb1 hD1 hr hr' e3; grind
    rw [e3, e4] at h
    exact h
end Ed
end Go.Proofs.YtmceahknglkhoaaDoor
