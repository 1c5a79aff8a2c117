/- Edwards curves over a field: complete, a group. Plain. -/
import Derived.Test.YtmceahknglkhoaaDoorFinP
namespace Go.Proofs.YtmceahknglkhoaaDoor
set_option linter.unusedVariables false
namespace Ed
open Lean.Grind

theorem algA {F : Type} [CommRing F] {D x1 y1 x2 y2 ε : F} (h1 : x1*x1 + y1*y1 = 1 + D*x1*x1*y1*y1) (h : x2*x2 + y2*y2 = 1 + D*x2*x2*y2*y2) (hε : ε*ε = 1) (he : D*x1*x2*y1*y2 = ε) :
   (x1 + ε*y1)*(x1 + ε*y1) = D * ((x1*y1*(x2+y2)) * (x1*y1*(x2+y2))) := by
  have e1 : (D*x1*x2*y1*y2) * (D*x1*x2*y1*y2) = 1 := by rw [he, hε]
  have e2 : D*x1*x1*y1*y1*(x2*x2+y2*y2) = D*x1*x1*y1*y1 + (D*x1*x2*y1*y2) * (D*x1*x2*y1*y2) := by rw [h]; grind
  rw [e1] at e2
  have e3 : D * ((x1*y1*(x2+y2)) * (x1*y1*(x2+y2))) = D*x1*x1*y1*y1*(x2*x2+y2*y2) + (D*x1*x2*y1*y2)*x1*y1 + (D*x1*x2*y1*y2)*x1*y1 := by grind
  rw [e3, e2, he]
  grind
theorem algB {F : Type} [CommRing F] {D x1 y1 x2 y2 ε : F} (h1 : x1*x1 + y1*y1 = 1 + D*x1*x1*y1*y1) (h : x2*x2 + y2*y2 = 1 + D*x2*x2*y2*y2) (hε : ε*ε = 1) (he : D*x1*x2*y1*y2 = ε) :
   (x1 - ε*y1)*(x1 - ε*y1) = D * ((x1*y1*(x2-y2)) * (x1*y1*(x2-y2))) := by
  have e1 : (D*x1*x2*y1*y2) * (D*x1*x2*y1*y2) = 1 := by rw [he, hε]
  have e2 : D*x1*x1*y1*y1*(x2*x2+y2*y2) = D*x1*x1*y1*y1 + (D*x1*x2*y1*y2) * (D*x1*x2*y1*y2) := by rw [h]; grind
  rw [e1] at e2
  have e3 : D * ((x1*y1*(x2-y2)) * (x1*y1*(x2-y2))) = D*x1*x1*y1*y1*(x2*x2+y2*y2) - (D*x1*x2*y1*y2)*x1*y1 - (D*x1*x2*y1*y2)*x1*y1 := by grind
  rw [e3, e2, he]
  grind

theorem assoc_x {F : Type} [CommRing F] (D x1 y1 x2 y2 x3 y3 : F)
  (e1 : x1*x1 + y1*y1 = 1 + D*x1*x1*y1*y1) (e2 : x2*x2 + y2*y2 = 1 + D*x2*x2*y2*y2) (e3 : x3*x3 + y3*y3 = 1 + D*x3*x3*y3*y3) :
  ((x1*y2+y1*x2)*(1 - D*x1*x2*y1*y2)*y3 + (y1*y2-x1*x2)*(1 + D*x1*x2*y1*y2)*x3) * ((1 + D*x2*x3*y2*y3)*(1 - D*x2*x3*y2*y3) + D*(x2*y3+y2*x3)*(y2*y3-x2*x3)*x1*y1)
  = ((x2*y3+y2*x3)*(1 - D*x2*x3*y2*y3)*y1 + (y2*y3-x2*x3)*(1 + D*x2*x3*y2*y3)*x1) * ((1 + D*x1*x2*y1*y2)*(1 - D*x1*x2*y1*y2) + D*(x1*y2+y1*x2)*(y1*y2-x1*x2)*x3*y3) := by
  grind
theorem assoc_y {F : Type} [CommRing F] (D x1 y1 x2 y2 x3 y3 : F)
  (e1 : x1*x1 + y1*y1 = 1 + D*x1*x1*y1*y1) (e2 : x2*x2 + y2*y2 = 1 + D*x2*x2*y2*y2) (e3 : x3*x3 + y3*y3 = 1 + D*x3*x3*y3*y3) :
  ((y1*y2-x1*x2)*(1 + D*x1*x2*y1*y2)*y3 - (x1*y2+y1*x2)*(1 - D*x1*x2*y1*y2)*x3) * ((1 + D*x2*x3*y2*y3)*(1 - D*x2*x3*y2*y3) - D*(x2*y3+y2*x3)*(y2*y3-x2*x3)*x1*y1)
  = ((y2*y3-x2*x3)*(1 + D*x2*x3*y2*y3)*y1 - (x2*y3+y2*x3)*(1 - D*x2*x3*y2*y3)*x1) * ((1 + D*x1*x2*y1*y2)*(1 - D*x1*x2*y1*y2) - D*(x1*y2+y1*x2)*(y1*y2-x1*x2)*x3*y3) := by
  grind
theorem closed {F : Type} [CommRing F] (D x1 y1 x2 y2 : F)
  (e1 : x1*x1 + y1*y1 = 1 + D*x1*x1*y1*y1) (e2 : x2*x2 + y2*y2 = 1 + D*x2*x2*y2*y2) :
  ((x1*y2+y1*x2)*(1 - D*x1*x2*y1*y2))*((x1*y2+y1*x2)*(1 - D*x1*x2*y1*y2)) + ((y1*y2-x1*x2)*(1 + D*x1*x2*y1*y2))*((y1*y2-x1*x2)*(1 + D*x1*x2*y1*y2))
  = ((1 - D*x1*x2*y1*y2)*(1 + D*x1*x2*y1*y2))*((1 - D*x1*x2*y1*y2)*(1 + D*x1*x2*y1*y2)) + D*(x1*y2+y1*x2)*(x1*y2+y1*x2)*(y1*y2-x1*x2)*(y1*y2-x1*x2) := by
  grind

variable {F : Type} [Lean.Grind.Field F]
theorem mul_ne {a b : F} (ha : a ≠ 0) (hb : b ≠ 0) : a * b ≠ 0 := by grind
def On (D x y : F) : Prop := x*x + y*y = 1 + D*x*x*y*y

theorem complete {D x1 y1 x2 y2 : F} (hD : ∀ t : F, t*t ≠ D) (h2 : (2 : F) ≠ 0) (h1 : On D x1 y1) (h : On D x2 y2) (ε : F) (hε : ε * ε = 1) : D*x1*x2*y1*y2 ≠ ε := by
  intro he
  have a := algA h1 h hε he
  have b := algB h1 h hε he
  have hne : D*x1*x2*y1*y2 ≠ 0 := by
    rw [he]; intro e; rw [e] at hε
    have : (1 : F) ≠ 0 := by grind
    apply this; rw [← hε]; grind
  clear h1 h he hε
  have hx1 : x1 ≠ 0 := by intro e; apply hne; rw [e]; grind
  have hy1 : y1 ≠ 0 := by intro e; apply hne; rw [e]; grind
  have hx2 : x2 ≠ 0 := by intro e; apply hne; rw [e]; grind
  clear hne
  have key : ∀ u v : F, u * u = D * (v * v) → v ≠ 0 → False := by
    intro u v h hv
    apply hD (u * v⁻¹)
    have hvv : v * v⁻¹ = 1 := Lean.Grind.Field.mul_inv_cancel hv
    have e1 : (u * v⁻¹) * (u * v⁻¹) = (u * u) * (v⁻¹ * v⁻¹) := by clear hvv h; grind
    have e2 : D * (v * v) * (v⁻¹ * v⁻¹) = D * ((v * v⁻¹) * (v * v⁻¹)) := by clear e1 hvv h; grind
    rw [e1, h, e2, hvv]; clear e1 e2 hvv h; grind
  by_cases q : x2 + y2 = 0
  · by_cases r : x2 - y2 = 0
    · apply mul_ne h2 hx2; clear a b key hD hx1 hy1; grind
    · exact key _ _ b (mul_ne (mul_ne hx1 hy1) r)
  · exact key _ _ a (mul_ne (mul_ne hx1 hy1) q)
/-- The sum of two points, in both coordinates, told by products. -/
structure Sum (D x1 y1 x2 y2 x y : F) : Prop where
  ex : x * (1 + D*x1*x2*y1*y2) = x1*y2 + y1*x2
  ey : y * (1 - D*x1*x2*y1*y2) = y1*y2 - x1*x2

/-- What the curve's number must be. -/
structure Good (D : F) : Prop where
  nonsq : ∀ t : F, t*t ≠ D
  two : (2 : F) ≠ 0

theorem den_p {D x1 y1 x2 y2 : F} (g : Good D) (h1 : On D x1 y1) (h2 : On D x2 y2) : 1 + D*x1*x2*y1*y2 ≠ 0 := by
  intro e
  apply complete g.nonsq g.two h1 h2 (-1) (by grind)
  clear h1 h2; grind
theorem den_m {D x1 y1 x2 y2 : F} (g : Good D) (h1 : On D x1 y1) (h2 : On D x2 y2) : 1 - D*x1*x2*y1*y2 ≠ 0 := by
  intro e
  apply complete g.nonsq g.two h1 h2 1 (by grind)
  clear h1 h2; grind

theorem cancel {a b c : F} (hc : c ≠ 0) (h : a * c = b * c) : a = b := by
  have e : c * c⁻¹ = 1 := Lean.Grind.Field.mul_inv_cancel hc
  have h1 : a * c * c⁻¹ = b * c * c⁻¹ := by rw [h]
  have h2 : ∀ t : F, t * c * c⁻¹ = t * (c * c⁻¹) := fun t => by clear h1 e h; grind
  rw [h2, h2, e] at h1
  clear h2 e h
  grind

theorem on_sum {D x1 y1 x2 y2 x y : F} (g : Good D) (h1 : On D x1 y1) (h2 : On D x2 y2) (s : Sum D x1 y1 x2 y2 x y) : On D x y := by
  have dp := den_p g h1 h2
  have dm := den_m g h1 h2
  have c := closed D x1 y1 x2 y2 h1 h2
  obtain ⟨ex, ey⟩ := s
  unfold On
  rw [← ex, ← ey] at c
  clear h1 h2 ex ey
  generalize 1 + D*x1*x2*y1*y2 = p at *
  generalize 1 - D*x1*x2*y1*y2 = m at *
  have hpm := mul_ne (mul_ne dp dm) (mul_ne dp dm)
  refine cancel hpm ?_
  clear dp dm hpm g
  grind

theorem assoc_xx {D x1 y1 x2 y2 x3 y3 xa ya xb yb xl xr : F} (g : Good D) (h1 : On D x1 y1) (h2 : On D x2 y2) (h3 : On D x3 y3)
    (sa : Sum D x1 y1 x2 y2 xa ya) (sb : Sum D x2 y2 x3 y3 xb yb) (hl : xl * (1 + D*xa*x3*ya*y3) = xa*y3 + ya*x3) (hr : xr * (1 + D*x1*xb*y1*yb) = x1*yb + y1*xb) : xl = xr := by
  have na := den_p g (on_sum g h1 h2 sa) h3
  have nb := den_p g h1 (on_sum g h2 h3 sb)
  have p1 := den_p g h1 h2
  have m1 := den_m g h1 h2
  have p2 := den_p g h2 h3
  have m2 := den_m g h2 h3
  have A := assoc_x D x1 y1 x2 y2 x3 y3 h1 h2 h3
  obtain ⟨a1, a2⟩ := sa
  obtain ⟨b1, b2⟩ := sb
  rw [← a1, ← a2, ← b1, ← b2] at A
  clear h1 h2 h3 a1 a2 b1 b2
  generalize 1 + D*x1*x2*y1*y2 = P1 at *
  generalize 1 - D*x1*x2*y1*y2 = M1 at *
  generalize 1 + D*x2*x3*y2*y3 = P2 at *
  generalize 1 - D*x2*x3*y2*y3 = M2 at *
  have A2 : (P1*M1) * (P2*M2) * ((xa*y3 + ya*x3) * (1 + D*x1*xb*y1*yb)) = (P1*M1) * (P2*M2) * ((x1*yb + y1*xb) * (1 + D*xa*x3*ya*y3)) := by clear na nb p1 m1 p2 m2 hl hr g; grind
  rw [← hl, ← hr] at A2
  have hn := mul_ne (mul_ne (mul_ne p1 m1) (mul_ne p2 m2)) (mul_ne na nb)
  refine cancel hn ?_
  clear hl hr A na nb p1 m1 p2 m2 hn g
  grind

theorem assoc_yy {D x1 y1 x2 y2 x3 y3 xa ya xb yb yl yr : F} (g : Good D) (h1 : On D x1 y1) (h2 : On D x2 y2) (h3 : On D x3 y3)
    (sa : Sum D x1 y1 x2 y2 xa ya) (sb : Sum D x2 y2 x3 y3 xb yb) (hl : yl * (1 - D*xa*x3*ya*y3) = ya*y3 - xa*x3) (hr : yr * (1 - D*x1*xb*y1*yb) = y1*yb - x1*xb) : yl = yr := by
  have na := den_m g (on_sum g h1 h2 sa) h3
  have nb := den_m g h1 (on_sum g h2 h3 sb)
  have p1 := den_p g h1 h2
  have m1 := den_m g h1 h2
  have p2 := den_p g h2 h3
  have m2 := den_m g h2 h3
  have A := assoc_y D x1 y1 x2 y2 x3 y3 h1 h2 h3
  obtain ⟨a1, a2⟩ := sa
  obtain ⟨b1, b2⟩ := sb
  rw [← a1, ← a2, ← b1, ← b2] at A
  clear h1 h2 h3 a1 a2 b1 b2
  generalize 1 + D*x1*x2*y1*y2 = P1 at *
  generalize 1 - D*x1*x2*y1*y2 = M1 at *
  generalize 1 + D*x2*x3*y2*y3 = P2 at *
  generalize 1 - D*x2*x3*y2*y3 = M2 at *
  have A2 : (P1*M1) * (P2*M2) * ((ya*y3 - xa*x3) * (1 - D*x1*xb*y1*yb)) = (P1*M1) * (P2*M2) * ((y1*yb - x1*xb) * (1 - D*xa*x3*ya*y3)) := by clear na nb p1 m1 p2 m2 hl hr g; grind
  rw [← hl, ← hr] at A2
  have hn := mul_ne (mul_ne (mul_ne p1 m1) (mul_ne p2 m2)) (mul_ne na nb)
  refine cancel hn ?_
  clear hl hr A na nb p1 m1 p2 m2 hn g
  grind

/-- A point. -/
structure Pt (D : F) where
  x : F
  y : F
  on : On D x y

theorem Pt.ext {D : F} {P Q : Pt D} (hx : P.x = Q.x) (hy : P.y = Q.y) : P = Q := by
  cases P; cases Q; simp at hx hy; subst hx hy; rfl

def sx (D x1 y1 x2 y2 : F) : F := (x1*y2 + y1*x2) * (1 + D*x1*x2*y1*y2)⁻¹
def sy (D x1 y1 x2 y2 : F) : F := (y1*y2 - x1*x2) * (1 - D*x1*x2*y1*y2)⁻¹

theorem inv_cut (n d : F) (h : d ≠ 0) : n * d⁻¹ * d = n := by
  have e : d * d⁻¹ = 1 := Lean.Grind.Field.mul_inv_cancel h
  have e2 : n * d⁻¹ * d = n * (d * d⁻¹) := by clear e h; grind
  rw [e2, e]; clear e e2 h; grind
theorem sum_is {D x1 y1 x2 y2 : F} (g : Good D) (h1 : On D x1 y1) (h2 : On D x2 y2) : Sum D x1 y1 x2 y2 (sx D x1 y1 x2 y2) (sy D x1 y1 x2 y2) :=
  ⟨inv_cut _ _ (den_p g h1 h2), inv_cut _ _ (den_m g h1 h2)⟩

def add {D : F} (g : Good D) (P Q : Pt D) : Pt D := ⟨sx D P.x P.y Q.x Q.y, sy D P.x P.y Q.x Q.y, on_sum g P.on Q.on (sum_is g P.on Q.on)⟩
def zero (D : F) : Pt D := ⟨0, 1, by unfold On; grind⟩
def neg {D : F} (P : Pt D) : Pt D := ⟨-P.x, P.y, by have := P.on; unfold On at *; grind⟩

theorem add_sum {D : F} (g : Good D) (P Q : Pt D) : Sum D P.x P.y Q.x Q.y (add g P Q).x (add g P Q).y := sum_is g P.on Q.on

theorem add_assoc {D : F} (g : Good D) (P Q R : Pt D) : add g (add g P Q) R = add g P (add g Q R) := by
  have s1 := add_sum g P Q
  have s2 := add_sum g Q R
  have s3 := add_sum g (add g P Q) R
  have s4 := add_sum g P (add g Q R)
  exact Pt.ext (assoc_xx g P.on Q.on R.on s1 s2 s3.ex s4.ex) (assoc_yy g P.on Q.on R.on s1 s2 s3.ey s4.ey)

theorem add_comm {D : F} (g : Good D) (P Q : Pt D) : add g P Q = add g Q P := by
  apply Pt.ext
  · show sx D P.x P.y Q.x Q.y = sx D Q.x Q.y P.x P.y
    unfold sx
    have e1 : P.x * Q.y + P.y * Q.x = Q.x * P.y + Q.y * P.x := by grind
    have e2 : 1 + D*P.x*Q.x*P.y*Q.y = 1 + D*Q.x*P.x*Q.y*P.y := by grind
    rw [e1, e2]
  · show sy D P.x P.y Q.x Q.y = sy D Q.x Q.y P.x P.y
    unfold sy
    have e1 : P.y * Q.y - P.x * Q.x = Q.y * P.y - Q.x * P.x := by grind
    have e2 : 1 - D*P.x*Q.x*P.y*Q.y = 1 - D*Q.x*P.x*Q.y*P.y := by grind
    rw [e1, e2]

theorem eq_of_sum {D x1 y1 x2 y2 x y x' y' : F} (g : Good D) (h1 : On D x1 y1) (h2 : On D x2 y2) (s : Sum D x1 y1 x2 y2 x y) (s' : Sum D x1 y1 x2 y2 x' y') : x = x' ∧ y = y' :=
  ⟨cancel (den_p g h1 h2) (s.ex.trans s'.ex.symm), cancel (den_m g h1 h2) (s.ey.trans s'.ey.symm)⟩

theorem zero_add {D : F} (g : Good D) (P : Pt D) : add g (zero D) P = P := by
  obtain ⟨a, b⟩ := eq_of_sum g (zero D).on P.on (add_sum g (zero D) P) (x' := P.x) (y' := P.y) ⟨by show P.x * (1 + D*0*P.x*1*P.y) = 0*P.y + 1*P.x; grind, by show P.y * (1 - D*0*P.x*1*P.y) = 1*P.y - 0*P.x; grind⟩
  exact Pt.ext a b

theorem neg_add {D : F} (g : Good D) (P : Pt D) : add g (neg P) P = zero D := by
  have hP := P.on
  obtain ⟨a, b⟩ := eq_of_sum g (neg P).on P.on (add_sum g (neg P) P) (x' := 0) (y' := 1) ⟨by show 0 * (1 + D*(-P.x)*P.x*P.y*P.y) = (-P.x)*P.y + P.y*P.x; grind, by show 1 * (1 - D*(-P.x)*P.x*P.y*P.y) = P.y*P.y - (-P.x)*P.x; unfold On at hP; grind⟩
  exact Pt.ext a b
end Ed
end Go.Proofs.YtmceahknglkhoaaDoor
