/- Every number but 0 and -1 has a point on one of the two curves. Plain. -/
import Derived.Test.YtmceahknglkhoaaLadPoint
namespace Go.Proofs.Ytmceahknglkhoaa
set_option linter.unusedVariables false

theorem z1 {F : Type} [Lean.Grind.CommRing F] (u : F) : u * 0 + 0 = 0 := by grind
theorem z2 {F : Type} [Lean.Grind.CommRing F] : (1 : F) * 1 = 1 - 0 * 0 := by grind
theorem z3 {F : Type} [Lean.Grind.CommRing F] (y : F) : -1 * y * 0 + (1 - 1) = 0 := by grind
theorem z4 {F : Type} [Lean.Grind.CommRing F] (y : F) : y * 0 + (1 - 1) = 0 := by grind
theorem dd_ne : ddP ≠ 0 := Ed.mul_ne n65 (invP_ne n66)
theorem dw_dd : dwP * ddP = 1 := by
  have a := mul_invP _ n65
  have b := mul_invP _ n66
  unfold dwP ddP
  generalize fi 121665 = c at *
  generalize fi 121666 = d at *
  generalize invP c = i at *
  generalize invP d = j at *
  have e : d * i * (c * j) = (c * i) * (d * j) := by clear a b; grind
  rw [e, a, b]; clear e a b; grind
theorem has_pt {u : FP} (h0 : u ≠ 0) (h1 : u + 1 ≠ 0) : ∃ (D : FP) (g : Ed.Good D) (σ : FP) (B : Ed.Pt D), At g σ u B := by
  obtain ⟨y, hy⟩ : ∃ y, y * (u + 1) = u - 1 := ⟨_, frac_eq h1⟩
  have hu : u * (1 - y) = 1 + y := by clear h0 h1; grind
  have ny : 1 - y ≠ 0 := by
    intro e
    apply two_ne
    have e2 : (2 : FP) = (1 + y) + (1 - y) := by clear h0 h1 hy hu e; grind
    rw [e2, ← hu, e]; exact z1 u
  have py : 1 + y ≠ 0 := by
    intro e
    rw [e] at hu
    exact Ed.mul_ne h0 ny hu
  have hW := Ed.w_ne (y := y) goodD
  have hdd := dd_ne
  have hdw := dw_dd
  obtain ⟨q, hq⟩ : ∃ q, q * (1 - ddP*y*y) = 1 - y*y := ⟨_, frac_eq hW⟩
  have hq0 : q ≠ 0 := by
    intro e
    rw [e] at hq
    apply Ed.mul_ne ny py
    clear hu hy h0 h1 ny py hW hdd hdw e; grind
  by_cases hs : ∃ r, r * r = q
  · obtain ⟨x, hx⟩ := hs
    have on : Ed.On ddP x y := by
      unfold Ed.On
      rw [← hx] at hq
      clear hu hy h0 h1 ny py hW hdd hdw hx hq0; grind
    exact ⟨ddP, goodD, 1, ⟨x, y, on⟩, kit1 hu py, by
      show 1 * u * (1 - y) = 1 + y
      rw [← hu]; clear hu hy h0 h1 ny py hW hdd hdw hx hq hq0; grind, ny, py, fun v Q h h' => kit1 (by rw [← h]; clear h h' hu hy h0 h1 ny py hW hdd hdw hx hq hq0; grind) h', one_sub n66 ne65⟩
  · obtain ⟨x, hx⟩ := sq_or hdd goodD.nonsq hq0 (fun r hr => hs ⟨r, hr⟩)
    have y0 : y ≠ 0 := by
      intro e
      rw [e] at hq
      apply hs
      refine ⟨1, ?_⟩
      have e1 : (1 : FP) * 1 = 1 - 0 * 0 := z2
      rw [e1, ← hq]
      generalize ddP = D at *
      clear hu hy h0 h1 ny py hW hdd hdw hx hq0 hs e e1 hq; grind
    have hw := mul_invP y y0
    generalize invP y = w at *
    have on : Ed.On dwP x w := by
      unfold Ed.On
      generalize dwP = E at *
      generalize ddP = D at *
      have e1 : E*x*x*w*w = E*(x*x)*(w*w) := by clear hu hy h0 h1 ny py hW hdd hdw hx hq hq0 hs y0 hw; grind
      have e2 : E*(D*q) = E*D*q := by clear hu hy h0 h1 ny py hW hdd hdw hx hq hq0 hs y0 hw e1; grind
      rw [e1, hx, e2, hdw]
      have e3 : D*q = D*q*((y*w)*(y*w)) := by rw [hw]; clear hu hy h0 h1 ny py hW hdd hdw hx hq hq0 hs y0 hw e1 e2; grind
      have e4 : D*q*((y*w)*(y*w)) = (q - q*(1 - D*y*y))*(w*w) := by clear hu hy h0 h1 ny py hW hdd hdw hx hq hq0 hs y0 hw e1 e2 e3; grind
      have e5 : (q - (1 - y*y))*(w*w) = q*(w*w) - w*w + (y*w)*(y*w) := by clear hu hy h0 h1 ny py hW hdd hdw hx hq hq0 hs y0 hw e1 e2 e3 e4; grind
      rw [e3, e4, hq, e5, hw]
      clear hu hy h0 h1 ny py hW hdd hdw hx hq hq0 hs y0 hw e1 e2 e3 e4 e5; grind
    have m1 : 1 - w ≠ 0 := by
      intro e
      apply ny
      have e1 : 1 - y = -1 * y * (1 - w) + (1 - y*w) := by clear hu hy h0 h1 ny py hW hdd hdw hx hq hq0 hs y0 hw e on; grind
      rw [e1, e, hw]; exact z3 y
    have m2 : 1 + w ≠ 0 := by
      intro e
      apply py
      have e1 : 1 + y = y * (1 + w) + (1 - y*w) := by clear hu hy h0 h1 ny py hW hdd hdw hx hq hq0 hs y0 hw e on m1; grind
      rw [e1, e, hw]; exact z4 y
    have hu2 : (-1 * u) * (1 - w) = 1 + w := by
      have e1 : (-1 * u) * (1 - w) = u * (1 - y) * w + u * (y*w - 1) := by clear hu hy h0 h1 ny py hW hdd hdw hx hq hq0 hs y0 hw on m1 m2; grind
      have e2 : (1 + y) * w = w + y*w := by clear hu hy h0 h1 ny py hW hdd hdw hx hq hq0 hs y0 hw on m1 m2 e1; grind
      rw [e1, hu, e2, hw]; clear hu hy h0 h1 ny py hW hdd hdw hx hq hq0 hs y0 hw on m1 m2 e1 e2; grind
    exact ⟨dwP, goodW, -1, ⟨x, w, on⟩, kit2 hu2 m2, hu2, m1, m2, fun v Q h h' => kit2 h h', one_sub n65 (Ne.symm ne65)⟩
end Go.Proofs.Ytmceahknglkhoaa
