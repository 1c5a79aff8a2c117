/- The ladder's formulas on an Edwards curve. Plain. -/
import Derived.Test.YtmceahknglkhoaaDoorEdwP
namespace Go.Proofs.YtmceahknglkhoaaDoor
set_option linter.unusedVariables false
namespace Ed
variable {F : Type} [Lean.Grind.Field F]

/-- A pair that stands for a point of height y. -/
def Rep (y X Z : F) : Prop := ∃ s : F, s ≠ 0 ∧ X = s * (1 + y) ∧ Z = s * (1 - y)

theorem w_ne {D y : F} (g : Good D) : 1 - D*y*y ≠ 0 := by
  intro e
  by_cases hy : y = 0
  · rw [hy] at e
    have h1 : (0 : F) ≠ 1 := Lean.Grind.Field.zero_ne_one
    apply h1; clear g; grind
  · apply g.nonsq y⁻¹
    have hi : y * y⁻¹ = 1 := Lean.Grind.Field.mul_inv_cancel hy
    generalize y⁻¹ = j at *
    have e1 : D * (y * j) * (y * j) = j * j := by clear g hi hy; grind
    rw [hi] at e1
    rw [← e1]; clear e1 e g hi hy; grind
theorem dbl_y {D x y y' : F} (h : On D x y) (hy : y' * (1 - D*x*x*y*y) = y*y - x*x) :
    (1 + y') * ((1 - D*x*x*y*y) * (1 - D*y*y)) = 2*(1 - D)*(y*y) ∧ (1 - y') * ((1 - D*x*x*y*y) * (1 - D*y*y)) = 2*(1 - y*y)*(1 - D*y*y) := by
  unfold On at h
  have hx : x*x*(1 - D*y*y) = 1 - y*y := by clear hy; grind
  constructor
  · have e : (1 + y') * ((1 - D*x*x*y*y) * (1 - D*y*y)) = (1 - D*x*x*y*y + y' * (1 - D*x*x*y*y)) * (1 - D*y*y) := by clear h hy hx; grind
    rw [e, hy]; clear e hy; grind
  · have e : (1 - y') * ((1 - D*x*x*y*y) * (1 - D*y*y)) = (1 - D*x*x*y*y - y' * (1 - D*x*x*y*y)) * (1 - D*y*y) := by clear h hy hx; grind
    rw [e, hy]; clear e hy; grind
def rX (x z : F) : F := (x + z) * (x + z) * ((x - z) * (x - z))
def rE (x z : F) : F := (x + z) * (x + z) - (x - z) * (x - z)
def rZ (c x z : F) : F := rE x z * ((x + z) * (x + z) + c * rE x z)
theorem rep_dbl {D c x y y' X Z : F} (g : Good D) (hc : D * (c + 1) = c) (hc1 : c + 1 ≠ 0) (h : On D x y) (hy : y' * (1 - D*x*x*y*y) = y*y - x*x) (hr : Rep y X Z) : Rep y' (rX X Z) (rZ c X Z) := by
  obtain ⟨s, hs, rfl, rfl⟩ := hr
  have hM := den_m g h h
  have hW := w_ne (y := y) g
  obtain ⟨a, b⟩ := dbl_y h hy
  have h2 := g.two
  clear g hy h
  generalize 1 - D*x*x*y*y = M at *
  have hn : 2*2*2*(s*s*(s*s))*((c+1)*(M*(1 - D*y*y))) ≠ 0 := mul_ne (mul_ne (mul_ne (mul_ne h2 h2) h2) (mul_ne (mul_ne hs hs) (mul_ne hs hs))) (mul_ne hc1 (mul_ne hM hW))
  refine ⟨_, hn, ?_, ?_⟩
  · have e : 2*2*2*(s*s*(s*s))*((c+1)*(M*(1 - D*y*y))) * (1 + y') = 2*2*2*(s*s*(s*s))*((c+1)*((1 + y')*(M*(1 - D*y*y)))) := by clear a b hc hc1 hM hW h2 hn hs; grind
    rw [e, a]; unfold rX; clear a b e hn hM hW hs h2; grind
  · have e : 2*2*2*(s*s*(s*s))*((c+1)*(M*(1 - D*y*y))) * (1 - y') = 2*2*2*(s*s*(s*s))*((c+1)*((1 - y')*(M*(1 - D*y*y)))) := by clear a b hc hc1 hM hW h2 hn hs; grind
    rw [e, b]; unfold rZ rE; clear a b e hn hM hW hs h2; grind
theorem add_core {D y1 y2 k W : F} (hk : k*k*((1 - D*y1*y1)*(1 - D*y2*y2)) = (1 - y1*y1)*(1 - y2*y2)) :
    ((1 + y1*y2)*(1 + y1*y2) - k*k*((1 + D*(y1*y2))*(1 + D*(y1*y2)))) * ((1 - D*y1*y1)*(1 - D*y2*y2)) = (y1+y2)*(y1+y2)*((1 - D)*(1 - D*(y1*y2*(y1*y2)))) ∧
    ((1 - y1*y2)*(1 - y1*y2) - k*k*((1 - D*(y1*y2))*(1 - D*(y1*y2)))) * ((1 - D*y1*y1)*(1 - D*y2*y2)) = (y1-y2)*(y1-y2)*((1 - D)*(1 - D*(y1*y2*(y1*y2)))) := by
  constructor
  · have e : ((1 + y1*y2)*(1 + y1*y2) - k*k*((1 + D*(y1*y2))*(1 + D*(y1*y2)))) * ((1 - D*y1*y1)*(1 - D*y2*y2)) = (1 + y1*y2)*(1 + y1*y2)*((1 - D*y1*y1)*(1 - D*y2*y2)) - (k*k*((1 - D*y1*y1)*(1 - D*y2*y2)))*((1 + D*(y1*y2))*(1 + D*(y1*y2))) := by clear hk; grind
    rw [e, hk]; clear e hk; grind
  · have e : ((1 - y1*y2)*(1 - y1*y2) - k*k*((1 - D*(y1*y2))*(1 - D*(y1*y2)))) * ((1 - D*y1*y1)*(1 - D*y2*y2)) = (1 - y1*y2)*(1 - y1*y2)*((1 - D*y1*y1)*(1 - D*y2*y2)) - (k*k*((1 - D*y1*y1)*(1 - D*y2*y2)))*((1 - D*(y1*y2))*(1 - D*(y1*y2))) := by clear hk; grind
    rw [e, hk]; clear e hk; grind
theorem add_y {D x1 y1 x2 y2 y3 yb : F} (h1 : On D x1 y1) (h2 : On D x2 y2) (h3 : y3 * (1 - D*x1*x2*y1*y2) = y1*y2 - x1*x2) (hb : yb * (1 + D*x1*x2*y1*y2) = y1*y2 + x1*x2) :
    (1 + y3)*(1 + yb)*((1 - D*x1*x2*y1*y2)*(1 + D*x1*x2*y1*y2)*((1 - D*y1*y1)*(1 - D*y2*y2))) = (y1+y2)*(y1+y2)*((1 - D)*(1 - D*(y1*y2*(y1*y2)))) ∧
    (1 - y3)*(1 - yb)*((1 - D*x1*x2*y1*y2)*(1 + D*x1*x2*y1*y2)*((1 - D*y1*y1)*(1 - D*y2*y2))) = (y1-y2)*(y1-y2)*((1 - D)*(1 - D*(y1*y2*(y1*y2)))) := by
  unfold On at h1 h2
  have hx1 : x1*x1*(1 - D*y1*y1) = 1 - y1*y1 := by clear h2 h3 hb; grind
  have hx2 : x2*x2*(1 - D*y2*y2) = 1 - y2*y2 := by clear h1 h3 hb hx1; grind
  have hk : (x1*x2)*(x1*x2)*((1 - D*y1*y1)*(1 - D*y2*y2)) = (1 - y1*y1)*(1 - y2*y2) := by
    have e : (x1*x2)*(x1*x2)*((1 - D*y1*y1)*(1 - D*y2*y2)) = (x1*x1*(1 - D*y1*y1)) * (x2*x2*(1 - D*y2*y2)) := by clear h1 h2 h3 hb hx1 hx2; grind
    rw [e, hx1, hx2]
  obtain ⟨a, b⟩ := add_core (W := (0 : F)) hk
  clear h1 h2 hx1 hx2 hk
  have q3 : D*x1*x2*y1*y2 = D*(y1*y2)*(x1*x2) := by clear h3 hb a b; grind
  rw [q3] at h3 hb ⊢
  clear q3
  generalize (1 - D*y1*y1)*(1 - D*y2*y2) = W at *
  generalize (1 - D)*(1 - D*(y1*y2*(y1*y2))) = G at *
  generalize x1*x2 = k at *
  constructor
  · rw [← a]
    have e : (1 + y3)*(1 + yb)*((1 - D*(y1*y2)*k)*(1 + D*(y1*y2)*k)*W) = ((1 - D*(y1*y2)*k) + y3*(1 - D*(y1*y2)*k)) * ((1 + D*(y1*y2)*k) + yb*(1 + D*(y1*y2)*k)) * W := by clear a b h3 hb; grind
    rw [e, h3, hb]; clear a b e h3 hb; grind
  · rw [← b]
    have e : (1 - y3)*(1 - yb)*((1 - D*(y1*y2)*k)*(1 + D*(y1*y2)*k)*W) = ((1 - D*(y1*y2)*k) - y3*(1 - D*(y1*y2)*k)) * ((1 + D*(y1*y2)*k) - yb*(1 + D*(y1*y2)*k)) * W := by clear a b h3 hb; grind
    rw [e, h3, hb]; clear a b e h3 hb; grind
def rDA (x2 z2 x3 z3 : F) : F := (x3 - z3) * (x2 + z2)
def rCB (x2 z2 x3 z3 : F) : F := (x3 + z3) * (x2 - z2)
def rX3 (x2 z2 x3 z3 : F) : F := (rDA x2 z2 x3 z3 + rCB x2 z2 x3 z3) * (rDA x2 z2 x3 z3 + rCB x2 z2 x3 z3)
def rZ3 (u x2 z2 x3 z3 : F) : F := u * ((rDA x2 z2 x3 z3 - rCB x2 z2 x3 z3) * (rDA x2 z2 x3 z3 - rCB x2 z2 x3 z3))
theorem rep_add {D x1 y1 x2 y2 y3 yb u X Z X' Z' : F} (g : Good D) (h1 : On D x1 y1) (h2 : On D x2 y2) (h3 : y3 * (1 - D*x1*x2*y1*y2) = y1*y2 - x1*x2) (hb : yb * (1 + D*x1*x2*y1*y2) = y1*y2 + x1*x2)
    (hu : u * (1 - yb) = 1 + yb) (hb1 : 1 + yb ≠ 0) (hD1 : 1 - D ≠ 0) (hr : Rep y1 X Z) (hr' : Rep y2 X' Z') : Rep y3 (rX3 X Z X' Z') (rZ3 u X Z X' Z') := by
  obtain ⟨s, hs, rfl, rfl⟩ := hr
  obtain ⟨t, ht, rfl, rfl⟩ := hr'
  obtain ⟨a, b⟩ := add_y h1 h2 h3 hb
  have hG : (1 - D)*(1 - D*(y1*y2*(y1*y2))) ≠ 0 := by
    refine mul_ne hD1 ?_
    have := w_ne (y := y1*y2) g
    have e : 1 - D*(y1*y2)*(y1*y2) = 1 - D*(y1*y2*(y1*y2)) := by clear this a b h1 h2 h3 hb hu g; grind
    rwa [e] at this
  have hK : (1 - D*x1*x2*y1*y2)*(1 + D*x1*x2*y1*y2)*((1 - D*y1*y1)*(1 - D*y2*y2)) ≠ 0 := mul_ne (mul_ne (den_m g h1 h2) (den_p g h1 h2)) (mul_ne (w_ne g) (w_ne g))
  have h4 := g.two
  clear h1 h2 h3 hb g hD1
  generalize (1 - D*x1*x2*y1*y2)*(1 + D*x1*x2*y1*y2)*((1 - D*y1*y1)*(1 - D*y2*y2)) = K at *
  generalize (1 - D)*(1 - D*(y1*y2*(y1*y2))) = G at *
  have hi : G * G⁻¹ = 1 := Lean.Grind.Field.mul_inv_cancel hG
  have hGi : G⁻¹ ≠ 0 := by
    intro e
    rw [e] at hi
    have h1 : (0 : F) ≠ 1 := Lean.Grind.Field.zero_ne_one
    apply h1; clear a b hu h4 hK hG; grind
  generalize G⁻¹ = J at *
  have hn : 2*2*(2*2)*(s*s*(t*t))*((1+yb)*(K*J)) ≠ 0 := mul_ne (mul_ne (mul_ne (mul_ne h4 h4) (mul_ne h4 h4)) (mul_ne (mul_ne hs hs) (mul_ne ht ht))) (mul_ne hb1 (mul_ne hK hGi))
  refine ⟨_, hn, ?_, ?_⟩
  · have e : 2*2*(2*2)*(s*s*(t*t))*((1+yb)*(K*J)) * (1 + y3) = 2*2*(2*2)*(s*s*(t*t))*(((1 + y3)*(1+yb)*K)*J) := by clear a b hi hn hG hK hGi hu h4 hs ht hb1; grind
    rw [e, a]
    have e2 : (y1+y2)*(y1+y2)*G*J = (y1+y2)*(y1+y2)*(G*J) := by clear a b hi hn hG hK hGi hu h4 hs ht hb1 e; grind
    rw [e2, hi]; unfold rX3 rDA rCB; clear a b e e2 hi hn hG hK hGi hu h4 hs ht hb1; grind
  · have e : 2*2*(2*2)*(s*s*(t*t))*((1+yb)*(K*J)) * (1 - y3) = 2*2*(2*2)*(s*s*(t*t))*(u*((1 - y3)*(1-yb)*K)*J) := by rw [← hu]; clear a b hi hn hG hK hGi hu h4 hs ht hb1; grind
    rw [e, b]
    have e2 : u*((y1-y2)*(y1-y2)*G)*J = u*((y1-y2)*(y1-y2))*(G*J) := by clear a b hi hn hG hK hGi hu h4 hs ht hb1 e; grind
    rw [e2, hi]; unfold rZ3 rDA rCB; clear a b e e2 hi hn hG hK hGi hu h4 hs ht hb1; grind
end Ed
end Go.Proofs.YtmceahknglkhoaaDoor
