/-
  Several texts of this claim in one: LadKit, LadPoint, LadHas, LadTwice, CurvePublic, PrimeL, BaseOrder, TwicePlain, BasePlain, CurveMeetsLaw.
-/
import Derived.Test.YtmceahknglkhoaaDoorLadPts
import Derived.Test.YtmceahknglkhoaaDoorCurveLow
import Derived.Test.YtmceahknglkhoaaDoorCurvePlain
import Derived.Test.YtmceahknglkhoaaDoorZeros
import Derived.Test.YtmceahknglkhoaaDoorSized
import Derived.Test.YtmceahknglkhoaaDoorLift
import Derived.Test.YtmceahknglkhoaaDoorPrime
import Derived.Test.YtmceahknglkhoaaDoorCurveShareN
import Derived.Test.YtmceahknglkhoaaDoorCurveFact
namespace Go.Proofs.YtmceahknglkhoaaDoor
set_option linter.unusedVariables false

theorem rX_ed (x z : FP) : Ed.rX x z = rX x z := rfl
theorem rZ_ed (c x z : FP) : Ed.rZ c x z = rZ c x z := rfl
theorem rX3_ed (a b c d : FP) : Ed.rX3 a b c d = rX3 a b c d := rfl
theorem rZ3_ed (u a b c d : FP) : Ed.rZ3 u a b c d = rZ3 u a b c d := rfl
theorem fi_succ (n : Nat) : fi (n + 1) = fi n + 1 := by
  apply Fin.ext
  rw [Fin.val_add, fi_val, fi_val]
  show (n + 1) % PP = (n % PP + 1 % PP) % PP
  rw [← Nat.add_mod]
theorem frac_eq {a b : FP} (hb : b ≠ 0) : a * invP b * b = a := by
  have h := mul_invP b hb
  generalize invP b = J at *
  have e : a * J * b = a * (b * J) := by clear h; grind
  rw [e, h]; clear e h; grind
theorem n65 : fi 121665 ≠ 0 := fi_ne (low_mod (by omega) (by omega))
theorem n66 : fi 121666 ≠ 0 := fi_ne (low_mod (by omega) (by omega))
theorem one_sub {a b : FP} (hb : b ≠ 0) (hne : a ≠ b) : 1 - a * invP b ≠ 0 := by
  intro e
  apply hne
  have h := frac_eq (a := a) hb
  generalize a * invP b = q at *
  rw [← h]
  clear h
  grind
theorem ne65 : fi 121665 ≠ fi 121666 := by
  intro e
  have := fi_eq.1 e
  rw [Nat.mod_eq_of_lt (by rw [PP_eq]; omega), Nat.mod_eq_of_lt (by rw [PP_eq]; omega)] at this
  omega
theorem hcD : ddP * (fi 121665 + 1) = fi 121665 := by
  rw [← fi_succ]
  exact frac_eq n66
theorem hcW : dwP * (-(fi 121665) - 1 + 1) = -(fi 121665) - 1 := by
  have e : dwP * fi 121665 = fi 121666 := frac_eq n65
  have e2 : fi 121666 = fi 121665 + 1 := fi_succ 121665
  rw [e2] at e
  generalize fi 121665 = c at *
  generalize dwP = D at *
  clear e2
  grind
theorem kit1 {u : FP} {B : Ed.Pt ddP} (hu : u * (1 - B.y) = 1 + B.y) (hb1 : 1 + B.y ≠ 0) : Kit goodD 1 u B := by
  have o : ∀ a : FP, 1 * a = a := fun a => by grind
  refine ⟨by grind, fun P X Z h => ?_, fun P Q X Z X' Z' hB h h' => ?_⟩
  · rw [o] at h ⊢
    exact Ed.rep_two goodD hcD (by rw [← fi_succ]; exact n66) P h
  · rw [o] at h h' ⊢
    exact Ed.rep_sum goodD hB hu hb1 (one_sub n66 ne65) h h'
theorem rep_neg {y X Z : FP} (h : Ed.Rep y X (-1 * Z)) : Ed.Rep y (-1 * X) Z := by
  obtain ⟨s, hs, h1, h2⟩ := h
  refine ⟨-1 * s, ?_, ?_, ?_⟩
  · intro e
    apply hs
    have : s = -1 * (-1 * s) := by clear h1 h2 e hs; grind
    rw [this, e]; clear this e h1 h2 hs; grind
  · rw [h1]; clear h1 h2 hs; grind
  · have : Z = -1 * (-1 * Z) := by clear h1 h2 hs; grind
    rw [this, h2]; clear this h1 h2 hs; grind
theorem kit2 {u : FP} {B : Ed.Pt dwP} (hu : (-1 * u) * (1 - B.y) = 1 + B.y) (hb1 : 1 + B.y ≠ 0) : Kit goodW (-1) u B := by
  refine ⟨by grind, fun P X Z h => ?_, fun P Q X Z X' Z' hB h h' => ?_⟩
  · have h2 := Ed.rep_two goodW hcW (by
      have e : -(fi 121665) - 1 + 1 = -1 * fi 121665 := by grind
      rw [e]
      intro e2
      apply n65
      have : fi 121665 = -1 * (-1 * fi 121665) := by clear e e2; grind
      rw [this, e2]; clear this e e2; grind) P h
    have e1 : Ed.rX (-1 * X) Z = rX X Z := by unfold Ed.rX rX; clear h h2; grind
    have e2 : Ed.rZ (-(fi 121665) - 1) (-1 * X) Z = -1 * rZ (fi 121665) X Z := by unfold Ed.rZ Ed.rE rZ rE; clear h h2 e1; grind
    rw [e1, e2] at h2
    exact rep_neg h2
  · have h2 := Ed.rep_sum goodW hB hu hb1 (one_sub n65 (Ne.symm ne65)) h h'
    have e1 : Ed.rX3 (-1 * X) Z (-1 * X') Z' = rX3 X Z X' Z' := by unfold Ed.rX3 Ed.rDA Ed.rCB rX3 rDA rCB; clear h h' h2 hu hb1 hB; grind
    have e2 : Ed.rZ3 (-1 * u) (-1 * X) Z (-1 * X') Z' = -1 * rZ3 u X Z X' Z' := by unfold Ed.rZ3 Ed.rDA Ed.rCB rZ3 rDA rCB; clear h h' h2 hu hb1 hB e1; grind
    rw [e1, e2] at h2
    exact rep_neg h2
end Go.Proofs.YtmceahknglkhoaaDoor

namespace Go.Proofs.YtmceahknglkhoaaDoor
set_option linter.unusedVariables false

def rootI : Nat := 19681161376707505956807079304988542015446066515923890162744021073123829784752
theorem rootI_sq : fi rootI * fi rootI = -1 := by
  have e : fi (rootI * rootI + 1) = 0 := by
    apply Fin.ext
    rw [fi_val]
    show (rootI * rootI + 1) % PP = 0
    rw [PP_eq]
    decide +kernel
  rw [fi_succ, fi_nmul2] at e
  generalize fi rootI = i at *
  grind
theorem pow_sum (a : FP) (m n : Nat) : a ^ (m + n) = a ^ m * a ^ n := Lean.Grind.Semiring.pow_add a m n
theorem two_roots {c : FP} (h : c * c = 1) : c = 1 ∨ c = -1 := by
  by_cases e : c - 1 = 0
  · left; clear h; grind
  · right
    by_cases e2 : c + 1 = 0
    · clear h e; grind
    · exact absurd (show (c - 1) * (c + 1) = 0 by clear e e2; grind) (Ed.mul_ne e e2)
theorem sqrt_gen (a : FP) (m e : Nat) (he : e + e = m + 1) (h : a ^ (m + m) = 1) : ∃ r : FP, r * r = a := by
  rw [pow_sum] at h
  have hr : a ^ e * a ^ e = a ^ m * a := by rw [← pow_sum, he, Lean.Grind.Semiring.pow_succ]
  rcases two_roots h with h1 | h1
  · refine ⟨a ^ e, ?_⟩
    rw [hr, h1]; clear h h1 hr; grind
  · refine ⟨fi rootI * a ^ e, ?_⟩
    have hi := rootI_sq
    generalize a ^ e = r at *
    generalize fi rootI = i at *
    have e1 : i * r * (i * r) = i * i * (r * r) := by clear h h1 hr hi; grind
    rw [e1, hi, hr, h1]; clear h h1 hr hi e1; grind
theorem fermatP {a : FP} (h : a ≠ 0) : a ^ (PP - 1) = 1 := by
  apply Fin.ext
  rw [fin_pow_val, Pr.fermat prP a.val (fun hd => h (Fin.ext (Nat.eq_zero_of_dvd_of_lt hd a.isLt)))]
  have e1 : (1 : FP).val = 1 % PP := rfl
  rw [e1, Nat.mod_eq_of_lt (by rw [PP_eq]; omega)]
theorem pow_prod (a b : FP) : ∀ n : Nat, (a * b) ^ n = a ^ n * b ^ n
  | 0 => by rw [Lean.Grind.Semiring.pow_zero, Lean.Grind.Semiring.pow_zero, Lean.Grind.Semiring.pow_zero]; grind
  | n + 1 => by
    rw [Lean.Grind.Semiring.pow_succ, Lean.Grind.Semiring.pow_succ, Lean.Grind.Semiring.pow_succ, pow_prod a b n]
    generalize a ^ n = x
    generalize b ^ n = y
    grind
theorem nonsq_char {a : FP} (ha : a ≠ 0) (h : ∀ r : FP, r * r ≠ a) : ∀ m e : Nat, e + e = m + 1 → m + m + (m + m) = PP - 1 → a ^ (m + m) = -1 := by
  intro m e he hm
  have h1 : a ^ (m + m) * a ^ (m + m) = 1 := by rw [← pow_sum, hm]; exact fermatP ha
  rcases two_roots h1 with h2 | h2
  · obtain ⟨r, hr⟩ := sqrt_gen a m e he h2
    exact absurd hr (h r)
  · exact h2
theorem sq_or {D q : FP} (hD0 : D ≠ 0) (hD : ∀ r : FP, r * r ≠ D) (hq : q ≠ 0) (hn : ∀ r : FP, r * r ≠ q) : ∃ r : FP, r * r = D * q := by
  obtain ⟨m, hm⟩ : ∃ m, m = (PP - 1) / 4 := ⟨_, rfl⟩
  obtain ⟨e, he⟩ : ∃ e, e = (PP + 3) / 8 := ⟨_, rfl⟩
  have h1 : e + e = m + 1 := by rw [hm, he, PP_eq]
  have h2 : m + m + (m + m) = PP - 1 := by rw [hm, PP_eq]
  clear hm he
  refine sqrt_gen (D * q) m e h1 ?_
  rw [pow_prod, nonsq_char hD0 hD m e h1 h2, nonsq_char hq hn m e h1 h2]
  grind

/-- A number that a point stands behind. -/
structure At {D : FP} (g : Ed.Good D) (σ u : FP) (B : Ed.Pt D) : Prop where
  kit : Kit g σ u B
  h : σ * u * (1 - B.y) = 1 + B.y
  ne : 1 - B.y ≠ 0
  ne1 : 1 + B.y ≠ 0
  kits : ∀ (v : FP) (Q : Ed.Pt D), σ * v * (1 - Q.y) = 1 + Q.y → 1 + Q.y ≠ 0 → Kit g σ v Q
  d1 : 1 - D ≠ 0
theorem invP_ne {a : FP} (h : a ≠ 0) : invP a ≠ 0 := by
  intro e
  have h1 := mul_invP a h
  rw [e] at h1
  have e2 : a * 0 = (0 : FP) := by clear h1 h e; grind
  exact zero_ne_oneP (e2.symm.trans h1)
theorem start_B {σ u y : FP} (h : σ * u * (1 - y) = 1 + y) (hne : 1 - y ≠ 0) : Ed.Rep y (σ * u) 1 := by
  refine ⟨invP (1 - y), invP_ne hne, ?_, ?_⟩
  · have h1 := mul_invP _ hne
    generalize invP (1 - y) = J at *
    rw [← h]
    have e : J * (σ * u * (1 - y)) = (1 - y) * J * (σ * u) := by clear h h1; grind
    rw [e, h1]; clear e h h1; grind
  · have h1 := mul_invP _ hne
    generalize invP (1 - y) = J at *
    have e : J * (1 - y) = (1 - y) * J := by clear h h1; grind
    rw [e, h1]
theorem start_0 {σ : FP} (hq : σ * σ = 1) : Ed.Rep (1 : FP) σ 0 := by
  have hs : σ ≠ 0 := by
    intro e
    rw [e] at hq
    exact zero_ne_oneP (by rw [← hq]; clear hq e; grind)
  have h2 := mul_invP 2 two_ne
  refine ⟨σ * invP 2, Ed.mul_ne hs (invP_ne two_ne), ?_, ?_⟩
  · generalize invP 2 = J at *
    have e : σ * J * (1 + 1) = σ * (2 * J) := by clear h2 hs hq; grind
    rw [e, h2]; clear e h2 hs hq; grind
  · generalize invP 2 = J at *
    clear h2 hs hq; grind
theorem At.num {D : FP} {g : Ed.Good D} {σ u : FP} {B : Ed.Pt D} (a : At g σ u B) {x : Nat} (hx : fi x = u) (k : Nat) (hk : k < 2 ^ 255) : fi (ladN k x) = σ * hgt (Ed.nm g k B).y :=
  ladN_pt a.kit hx (start_B a.h a.ne) (start_0 a.kit.sq) k hk
end Go.Proofs.YtmceahknglkhoaaDoor

namespace Go.Proofs.YtmceahknglkhoaaDoor
set_option linter.unusedVariables false

theorem z1 {F : Type} [Lean.Grind.CommRing F] (u : F) : u * 0 + 0 = 0 := by grind
theorem z2 {F : Type} [Lean.Grind.CommRing F] : (1 : F) * 1 = 1 - 0 * 0 := by grind
theorem z3 {F : Type} [Lean.Grind.CommRing F] (y : F) : -1 * y * 0 + (1 - 1) = 0 := by grind
theorem z4 {F : Type} [Lean.Grind.CommRing F] (y : F) : y * 0 + (1 - 1) = 0 := by grind
theorem dd_ne : ddP ≠ 0 := Ed.mul_ne n65 (invP_ne n66)
theorem dw_dd : dwP * ddP = 1 := by
  have a := mul_invP _ n65
  have b := mul_invP _ n66
  unfold dwP ddP
  generalize fi 121665 = c at *
  generalize fi 121666 = d at *
  generalize invP c = i at *
  generalize invP d = j at *
  have e : d * i * (c * j) = (c * i) * (d * j) := by clear a b; grind
  rw [e, a, b]; clear e a b; grind
theorem has_pt {u : FP} (h0 : u ≠ 0) (h1 : u + 1 ≠ 0) : ∃ (D : FP) (g : Ed.Good D) (σ : FP) (B : Ed.Pt D), At g σ u B := by
  obtain ⟨y, hy⟩ : ∃ y, y * (u + 1) = u - 1 := ⟨_, frac_eq h1⟩
  have hu : u * (1 - y) = 1 + y := by clear h0 h1; grind
  have ny : 1 - y ≠ 0 := by
    intro e
    apply two_ne
    have e2 : (2 : FP) = (1 + y) + (1 - y) := by clear h0 h1 hy hu e; grind
    rw [e2, ← hu, e]; exact z1 u
  have py : 1 + y ≠ 0 := by
    intro e
    rw [e] at hu
    exact Ed.mul_ne h0 ny hu
  have hW := Ed.w_ne (y := y) goodD
  have hdd := dd_ne
  have hdw := dw_dd
  obtain ⟨q, hq⟩ : ∃ q, q * (1 - ddP*y*y) = 1 - y*y := ⟨_, frac_eq hW⟩
  have hq0 : q ≠ 0 := by
    intro e
    rw [e] at hq
    apply Ed.mul_ne ny py
    clear hu hy h0 h1 ny py hW hdd hdw e; grind
  by_cases hs : ∃ r, r * r = q
  · obtain ⟨x, hx⟩ := hs
    have on : Ed.On ddP x y := by
      unfold Ed.On
      rw [← hx] at hq
      clear hu hy h0 h1 ny py hW hdd hdw hx hq0; grind
    exact ⟨ddP, goodD, 1, ⟨x, y, on⟩, kit1 hu py, by
      show 1 * u * (1 - y) = 1 + y
      rw [← hu]; clear hu hy h0 h1 ny py hW hdd hdw hx hq hq0; grind, ny, py, fun v Q h h' => kit1 (by rw [← h]; clear h h' hu hy h0 h1 ny py hW hdd hdw hx hq hq0; grind) h', one_sub n66 ne65⟩
  · obtain ⟨x, hx⟩ := sq_or hdd goodD.nonsq hq0 (fun r hr => hs ⟨r, hr⟩)
    have y0 : y ≠ 0 := by
      intro e
      rw [e] at hq
      apply hs
      refine ⟨1, ?_⟩
      have e1 : (1 : FP) * 1 = 1 - 0 * 0 := z2
      rw [e1, ← hq]
      generalize ddP = D at *
      clear hu hy h0 h1 ny py hW hdd hdw hx hq0 hs e e1 hq; grind
    have hw := mul_invP y y0
    generalize invP y = w at *
    have on : Ed.On dwP x w := by
      unfold Ed.On
      generalize dwP = E at *
      generalize ddP = D at *
      have e1 : E*x*x*w*w = E*(x*x)*(w*w) := by clear hu hy h0 h1 ny py hW hdd hdw hx hq hq0 hs y0 hw; grind
      have e2 : E*(D*q) = E*D*q := by clear hu hy h0 h1 ny py hW hdd hdw hx hq hq0 hs y0 hw e1; grind
      rw [e1, hx, e2, hdw]
      have e3 : D*q = D*q*((y*w)*(y*w)) := by rw [hw]; clear hu hy h0 h1 ny py hW hdd hdw hx hq hq0 hs y0 hw e1 e2; grind
      have e4 : D*q*((y*w)*(y*w)) = (q - q*(1 - D*y*y))*(w*w) := by clear hu hy h0 h1 ny py hW hdd hdw hx hq hq0 hs y0 hw e1 e2 e3; grind
      have e5 : (q - (1 - y*y))*(w*w) = q*(w*w) - w*w + (y*w)*(y*w) := by clear hu hy h0 h1 ny py hW hdd hdw hx hq hq0 hs y0 hw e1 e2 e3 e4; grind
      rw [e3, e4, hq, e5, hw]
      clear hu hy h0 h1 ny py hW hdd hdw hx hq hq0 hs y0 hw e1 e2 e3 e4 e5; grind
    have m1 : 1 - w ≠ 0 := by
      intro e
      apply ny
      have e1 : 1 - y = -1 * y * (1 - w) + (1 - y*w) := by clear hu hy h0 h1 ny py hW hdd hdw hx hq hq0 hs y0 hw e on; grind
      rw [e1, e, hw]; exact z3 y
    have m2 : 1 + w ≠ 0 := by
      intro e
      apply py
      have e1 : 1 + y = y * (1 + w) + (1 - y*w) := by clear hu hy h0 h1 ny py hW hdd hdw hx hq hq0 hs y0 hw e on m1; grind
      rw [e1, e, hw]; exact z4 y
    have hu2 : (-1 * u) * (1 - w) = 1 + w := by
      have e1 : (-1 * u) * (1 - w) = u * (1 - y) * w + u * (y*w - 1) := by clear hu hy h0 h1 ny py hW hdd hdw hx hq hq0 hs y0 hw on m1 m2; grind
      have e2 : (1 + y) * w = w + y*w := by clear hu hy h0 h1 ny py hW hdd hdw hx hq hq0 hs y0 hw on m1 m2 e1; grind
      rw [e1, hu, e2, hw]; clear hu hy h0 h1 ny py hW hdd hdw hx hq hq0 hs y0 hw on m1 m2 e1 e2; grind
    exact ⟨dwP, goodW, -1, ⟨x, w, on⟩, kit2 hu2 m2, hu2, m1, m2, fun v Q h h' => kit2 h h', one_sub n65 (Ne.symm ne65)⟩
end Go.Proofs.YtmceahknglkhoaaDoor

namespace Go.Proofs.YtmceahknglkhoaaDoor
set_option linter.unusedVariables false

theorem lad_zero (k x : Nat) (hk : k % 8 = 0) (h : x % PP = 0) : ladN k x % PP = 0 := by
  rw [ladN_lik k (x' := 0) (by rw [h, Nat.zero_mod])]
  rw [ends_nought lowT0_ok.1 lowT0_ok.2 (c0 := ⟨0, 1, 0, 0, 1, 1, 1, 0, 2, 1, 0⟩) rfl ⟨rfl, rfl, rfl, rfl, rfl⟩ k hk, Nat.zero_mod]
theorem fi_zero {n : Nat} : fi n = 0 ↔ n % PP = 0 := by
  constructor
  · intro h
    have := congrArg Fin.val h
    rw [fi_val] at this
    exact this
  · intro h
    apply Fin.ext
    rw [fi_val, h]
    rfl
theorem nm_zero {D : FP} (g : Ed.Good D) : ∀ n, Ed.nm g n (Ed.zero D) = Ed.zero D
  | 0 => rfl
  | n + 1 => by
    show Ed.add g (Ed.nm g n (Ed.zero D)) (Ed.zero D) = _
    rw [nm_zero g n, Ed.zero_add]
theorem y1_zero {D : FP} (hd : 1 - D ≠ 0) (P : Ed.Pt D) (h : 1 - P.y = 0) : P = Ed.zero D := by
  have on := P.on
  unfold Ed.On at on
  have hy : P.y = 1 := by clear on hd; grind
  have hx : P.x = 0 := by
    by_cases e : P.x = 0
    · exact e
    · exfalso
      apply Ed.mul_ne hd (Ed.mul_ne e e)
      rw [hy] at on
      generalize P.x = x at *
      clear hd h hy e
      grind
  exact Ed.Pt.ext hx hy
theorem hgt_one {y : FP} (h : 1 - y = 0) : hgt y = 0 := by
  unfold hgt
  rw [h, invP_zero]
  generalize 1 + y = a
  clear h
  grind
theorem dbl_zero {D : FP} {g : Ed.Good D} (hd : 1 - D ≠ 0) (Q : Ed.Pt D) (h : 1 - Q.y = 0 ∨ 1 + Q.y = 0) : Ed.add g Q Q = Ed.zero D := by
  apply y1_zero hd
  obtain ⟨_, b⟩ := Ed.dbl_y Q.on (Ed.add_sum g Q Q).ey
  have hM := Ed.den_m g Q.on Q.on
  have hW := Ed.w_ne (y := Q.y) g
  by_cases e : 1 - (Ed.add g Q Q).y = 0
  · exact e
  · exfalso
    apply Ed.mul_ne e (Ed.mul_ne hM hW)
    have b' := b
    generalize (1 - (Ed.add g Q Q).y) * ((1 - D * Q.x * Q.x * Q.y * Q.y) * (1 - D * Q.y * Q.y)) = L at *
    rw [b]
    have e2 : 2 * (1 - Q.y * Q.y) * (1 - D * Q.y * Q.y) = 2 * ((1 - Q.y) * (1 + Q.y)) * (1 - D * Q.y * Q.y) := by clear b b' hM hW e h; grind
    rw [e2]
    generalize 1 - D * Q.y * Q.y = w
    rcases h with h | h
    · rw [h]; generalize 1 + Q.y = a; clear b b' hM hW e e2 h; grind
    · rw [h]; generalize 1 - Q.y = a; clear b b' hM hW e e2 h; grind
theorem At.again {D : FP} {g : Ed.Good D} {σ u : FP} {B : Ed.Pt D} (a : At g σ u B) {x : Nat} (hx : fi x = u) {ka kb : Nat} (ha : ka < 2 ^ 255) (hb : kb < 2 ^ 255) (h8 : ka % 8 = 0) :
    fi (ladN ka (ladN kb x)) = σ * hgt (Ed.nm g ka (Ed.nm g kb B)).y := by
  have hv := a.num hx kb hb
  generalize Ed.nm g kb B = Q at *
  by_cases e : 1 - Q.y = 0 ∨ 1 + Q.y = 0
  · have hz : hgt Q.y = 0 := by
      rcases e with e | e
      · exact hgt_one e
      · unfold hgt; rw [e]; generalize invP (1 - Q.y) = j; clear hv e; grind
    rw [hz] at hv
    have hv0 : fi (ladN kb x) = 0 := by rw [hv]; clear hv hz e; grind
    rw [fi_zero.2 (lad_zero ka _ h8 (fi_zero.1 hv0))]
    have hk : ka = ka / 2 * 2 := by omega
    have h2 : Ed.nm g 2 Q = Ed.add g Q Q := by rw [show 2 = 2 * 1 from rfl, Ed.nm_dbl, Ed.nm_one]
    rw [hk, Ed.nm_mul, h2, dbl_zero a.d1 Q e, nm_zero]
    have h1 : hgt (Ed.zero D).y = 0 := hgt_one (by show (1 : FP) - 1 = 0; rfl)
    rw [h1]; clear hv hv0 hz e hx h1; grind
  · have hn : 1 - Q.y ≠ 0 := fun q => e (Or.inl q)
    have hp : 1 + Q.y ≠ 0 := fun q => e (Or.inr q)
    have hh : σ * (σ * hgt Q.y) * (1 - Q.y) = 1 + Q.y := by
      have e1 : σ * (σ * hgt Q.y) * (1 - Q.y) = σ * σ * (hgt Q.y * (1 - Q.y)) := by
        generalize hgt Q.y = H
        clear hv e hn hp hx; grind
      rw [e1, a.kit.sq]
      unfold hgt
      rw [frac_eq hn]
      clear hv e hn hp hx e1; grind
    have a2 : At g σ (σ * hgt Q.y) Q := ⟨a.kits _ _ hh hp, hh, hn, hp, a.kits, a.d1⟩
    exact a2.num hv ka ha
/-- Two numbers in a row: their order is all one. -/
theorem lad_twice (ka kb x : Nat) (ha : ka < 2 ^ 255) (hb : kb < 2 ^ 255) (ha8 : ka % 8 = 0) (hb8 : kb % 8 = 0) (h1 : (x + 1) % PP ≠ 0) : ladN ka (ladN kb x) % PP = ladN kb (ladN ka x) % PP := by
  by_cases h0 : x % PP = 0
  · rw [lad_zero ka _ ha8 (lad_zero kb _ hb8 h0), lad_zero kb _ hb8 (lad_zero ka _ ha8 h0)]
  · obtain ⟨D, g, σ, B, a⟩ := has_pt (u := fi x) (fun e => h0 (fi_zero.1 e)) (fun e => h1 (by rw [← fi_succ] at e; exact fi_zero.1 e))
    apply fi_eq.1
    rw [a.again rfl ha hb ha8, a.again rfl hb ha hb8, Ed.nm_comm]
end Go.Proofs.YtmceahknglkhoaaDoor

namespace Go.Proofs.YtmceahknglkhoaaDoor
open Go.RowKit
set_option linter.unusedVariables false

def nineL : List UInt8 := 9 :: List.replicate 31 0
theorem nine_app : [9] ++ zerosL 31 = nineL := rfl

set_option maxHeartbeats 1000000 in
theorem code_cpublic (w : World) (k : List UInt8) (hk : k.length = 32) : Calls Tryd.prog 11 #[S k] w (Grown (.tuple #[S (multL k nineL), .int .i64 0]) w) := by
  have AR : ∀ W : World, Calls Tryd.prog 12 #[.string ⟨#[0]⟩, .int .i64 31] W (Grown (S (zerosL 31)) W) := fun W => repeat_zero W 31 (by omega)
  have AM : ∀ W : World, Calls Tryd.prog 14 #[S k, S (9 :: zerosL 31)] W (Grown (.tuple #[S (multL k nineL), .int .i64 0]) W) := fun W => code_cmult W k nineL hk (by decide)
  have r1 := rule_app
  have r3 : ∀ (a : List UInt8), ByteArray.mk #[9] ++ ByteArray.mk a.toArray = ⟨([9] ++ a).toArray⟩ := fun a => rule_app [9] a
  have lz : (zerosL 31).length = 31 := by decide
  generalize multL k nineL = V at *
  generalize zerosL 31 = Z at *
  have k1 : 1 + Z.length ≤ 9223372036854775807 := by omega
  have k2 : ¬ (9223372036854775807 < 1 + Z.length) := by omega
  unfold S at *
  go_enter Tryd.func11, Tryd.ntmps11
  go_wp2_with fail
  (with_reducible refine (AR _).mono ?_)
  rintro e x1 ⟨rfl, hg1⟩
  go_wp2_with fail
  (with_reducible refine (AM _).mono ?_)
  rintro e x2 ⟨rfl, hg2⟩
  go_wp2_with fail
  go_ret2
  exact ⟨rfl, grow_trans hg1 hg2⟩

end Go.Proofs.YtmceahknglkhoaaDoor

namespace Go.Proofs.YtmceahknglkhoaaDoor.Pr
theorem l1 : Prime 1224481 := prime_small _ 1106 (by decide) (by decide) (by decide +kernel)
theorem l2 : Prime 531581 := prime_small _ 729 (by decide) (by decide) (by decide +kernel)
theorem l3 : Prime 1257559732178653 := pock2 _ 1224481 1027014492 2 531581 2365697292 2 l1 l2 (by decide) (by decide) (by decide) (by decide) (by decide) (by decide +kernel) (by decide +kernel) (by decide +kernel) (by decide +kernel) (by decide)
theorem l4 : Prime 4434155615661930479 := pock1 _ 1257559732178653 3526 2 l3 (by decide) (by decide) (by decide +kernel) (by decide +kernel) (by decide)
theorem l5 : Prime 172054593956031949258510691 := pock1 _ 4434155615661930479 38802110 2 l4 (by decide) (by decide) (by decide +kernel) (by decide +kernel) (by decide)
theorem l6 : Prime 19757330305831588566944191468367130476339 := pock1 _ 172054593956031949258510691 114831751082918 2 l5 (by decide) (by decide) (by decide +kernel) (by decide +kernel) (by decide)
theorem l7 : Prime 276602624281642239937218680557139826668747 := pock1 _ 19757330305831588566944191468367130476339 14 2 l6 (by decide) (by decide) (by decide +kernel) (by decide +kernel) (by decide)
theorem l8 : Prime 7237005577332262213973186563042994240857116359379907606001950938285454250989 := pock1 _ 276602624281642239937218680557139826668747 26163907866482859529727157400808004 2 l7 (by decide) (by decide) (by decide +kernel) (by decide +kernel) (by decide)
def LL : Nat := 7237005577332262213973186563042994240857116359379907606001950938285454250989
theorem primeLL : Prime LL := l8
end Go.Proofs.YtmceahknglkhoaaDoor.Pr

namespace Go.Proofs.YtmceahknglkhoaaDoor
set_option linter.unusedVariables false
open Pr (LL)

theorem nm_gcd {D : FP} (g : Ed.Good D) (B : Ed.Pt D) : ∀ m n : Nat, Ed.nm g m B = Ed.zero D → Ed.nm g n B = Ed.zero D → Ed.nm g (Nat.gcd m n) B = Ed.zero D := by
  intro m n
  induction m, n using Nat.gcd.induction with
  | H0 n => intro _ h; rw [Nat.gcd_zero_left]; exact h
  | H1 m n hm ih =>
    intro h1 h2
    rw [Nat.gcd_rec]
    refine ih ?_ h1
    rw [← Nat.div_add_mod n m, Ed.nm_add, Nat.mul_comm, Ed.nm_mul, h1, nm_zero, Ed.zero_add] at h2
    exact h2
theorem hgt_nought {y : FP} (h : hgt y = 0) : 1 - y = 0 ∨ 1 + y = 0 := by
  by_cases e : 1 - y = 0
  · exact Or.inl e
  · right
    by_cases e2 : 1 + y = 0
    · exact e2
    · exact absurd h (Ed.mul_ne e2 (invP_ne e))
theorem sq_ne {σ : FP} (h : σ * σ = 1) : σ ≠ 0 := by
  intro e
  rw [e] at h
  exact zero_ne_oneP (by rw [← h]; clear h e; grind)
theorem sig_hgt {σ y : FP} (h : σ * σ = 1) (h0 : σ * hgt y = 0) : hgt y = 0 := by
  by_cases e : hgt y = 0
  · exact e
  · exact absurd h0 (Ed.mul_ne (sq_ne h) e)
theorem hgt_zero_pt {D : FP} : hgt (Ed.zero D).y = 0 := hgt_one (by show (1 : FP) - 1 = 0; rfl)
theorem dbl_of_hgt {D : FP} {g : Ed.Good D} (hd : 1 - D ≠ 0) {n : Nat} {B : Ed.Pt D} (h : hgt (Ed.nm g n B).y = 0) : Ed.nm g (2 * n) B = Ed.zero D := by
  rw [Ed.nm_dbl]
  exact dbl_zero hd _ (hgt_nought h)

/-- The ladder's number, reckoned. -/
def quickN (k x : Nat) : Nat :=
  let s := ladS k x 255
  if s.sw = 1 then mulP s.x3 (sqP 255 s.z3 (PP - 2)) else mulP s.x2 (sqP 255 s.z2 (PP - 2))
theorem ladN_quick (k x : Nat) : ladN k x = quickN k x := by
  unfold ladN quickN
  rw [ladOut_eq]
set_option maxRecDepth 100000 in
theorem base_l : ladN LL 9 % PP = 0 := by
  rw [ladN_quick]
  decide +kernel
set_option maxRecDepth 100000 in
theorem base_2 : ladN 2 9 % PP ≠ 0 := by
  rw [ladN_quick]
  decide +kernel
theorem nine_ok : 9 % PP ≠ 0 ∧ (9 + 1) % PP ≠ 0 := by
  rw [PP_eq]
  omega
theorem base_at : ∃ (D : FP) (g : Ed.Good D) (σ : FP) (B : Ed.Pt D), At g σ (fi 9) B :=
  has_pt (u := fi 9) (fun e => nine_ok.1 (fi_zero.1 e)) (fun e => nine_ok.2 (by rw [← fi_succ] at e; exact fi_zero.1 e))
theorem LL_lt : LL < 2 ^ 255 := by unfold LL; decide +kernel
theorem LL_odd : Nat.gcd 2 LL = 1 := by unfold LL; decide +kernel
theorem gcd_two (n : Nat) (h : ¬ LL ∣ n) : Nat.gcd (2 * n) (2 * LL) = 2 := by
  rw [Nat.gcd_mul_left]
  have : Nat.gcd n LL = 1 := by
    rw [Nat.gcd_comm]
    exact Pr.primeLL.coprime h
  rw [this]
theorem base_ord {D : FP} {g : Ed.Good D} {σ : FP} {B : Ed.Pt D} (a : At g σ (fi 9) B) (n : Nat) (h : ¬ LL ∣ n) : hgt (Ed.nm g n B).y ≠ 0 := by
  intro e
  have h1 := dbl_of_hgt a.d1 e
  have hl := a.num (x := 9) rfl LL LL_lt
  rw [fi_zero.2 base_l] at hl
  have h2 := dbl_of_hgt a.d1 (sig_hgt a.kit.sq hl.symm)
  have h3 := nm_gcd g B _ _ h1 h2
  rw [gcd_two n h] at h3
  have h4 := a.num (x := 9) rfl 2 (by decide)
  rw [h3, hgt_zero_pt] at h4
  apply base_2
  apply fi_zero.1
  rw [h4]
  clear hl h1 h2 h3 h4 e h
  grind
theorem fine_k {k : Nat} (h8 : k % 8 = 0) (h0 : 0 < k) (hk : k < 2 ^ 255) : ¬ LL ∣ k := by
  intro hd
  have h2 : k = 8 * (k / 8) := by omega
  rw [h2] at hd
  rcases Pr.primeLL.dvd_mul hd with h | h
  · have := Nat.le_of_dvd (by omega) h
    unfold LL at this
    omega
  · have := Nat.le_of_dvd (by omega) h
    unfold LL at this
    omega
theorem base_once {k : Nat} (h8 : k % 8 = 0) (h0 : 0 < k) (hk : k < 2 ^ 255) : ladN k 9 % PP ≠ 0 := by
  obtain ⟨D, g, σ, B, a⟩ := base_at
  intro e
  have h := a.num (x := 9) rfl k hk
  rw [fi_zero.2 e] at h
  exact base_ord a k (fine_k h8 h0 hk) (sig_hgt a.kit.sq h.symm)
theorem base_again {j k : Nat} (j8 : j % 8 = 0) (j0 : 0 < j) (hj : j < 2 ^ 255) (h8 : k % 8 = 0) (h0 : 0 < k) (hk : k < 2 ^ 255) : ladN j (ladN k 9) % PP ≠ 0 := by
  obtain ⟨D, g, σ, B, a⟩ := base_at
  intro e
  have h := a.again (x := 9) rfl hj hk j8
  rw [fi_zero.2 e, ← Ed.nm_mul] at h
  refine base_ord a (j * k) (fun hd => ?_) (sig_hgt a.kit.sq h.symm)
  rcases Pr.primeLL.dvd_mul hd with q | q
  · exact fine_k j8 j0 hj q
  · exact fine_k h8 h0 hk q
end Go.Proofs.YtmceahknglkhoaaDoor

namespace Go.Proofs.YtmceahknglkhoaaDoor
set_option linter.unusedVariables false

theorem lad_mone (k x : Nat) (hk : k % 8 = 0) (h : (x + 1) % PP = 0) : ladN k x % PP = 0 := by
  have hx : x % PP = 57896044618658097711785492504343953926634992332820282019728792003956564819948 % PP := by
    rw [PP_eq] at h ⊢
    omega
  rw [ladN_lik k hx, ends_nought lowT2_ok.1 lowT2_ok.2 rfl ⟨rfl, rfl, rfl, rfl, rfl⟩ k hk, Nat.zero_mod]
theorem lad_twice' (ka kb x : Nat) (ha : ka < 2 ^ 255) (hb : kb < 2 ^ 255) (ha8 : ka % 8 = 0) (hb8 : kb % 8 = 0) : ladN ka (ladN kb x) % PP = ladN kb (ladN ka x) % PP := by
  by_cases h1 : (x + 1) % PP = 0
  · rw [lad_zero ka _ ha8 (lad_mone kb x hb8 h1), lad_zero kb _ hb8 (lad_mone ka x ha8 h1)]
  · exact lad_twice ka kb x ha hb ha8 hb8 h1
theorem mult_in (k : List UInt8) (n : Nat) : multL k (leB (n % PP) 32) = leB (ladN (leN (clampL k)) n % PP) 32 := by
  have key := ladN_lik (leN (clampL k)) (red_least n)
  unfold multL
  rw [key]
theorem mult_twice (a b u : List UInt8) (ha : a.length = 32) (hb : b.length = 32) (hca : leN (clampL a) < 2 ^ 255) (hcb : leN (clampL b) < 2 ^ 255) : multL b (multL a u) = multL a (multL b u) := by
  have e1 : multL a u = leB (ladN (leN (clampL a)) (leN (maskL u)) % PP) 32 := rfl
  have e2 : multL b u = leB (ladN (leN (clampL b)) (leN (maskL u)) % PP) 32 := rfl
  rw [e1, e2, mult_in, mult_in, lad_twice' _ _ _ hcb hca (clamp_eight b hb) (clamp_eight a ha)]
end Go.Proofs.YtmceahknglkhoaaDoor

namespace Go.Proofs.YtmceahknglkhoaaDoor
set_option linter.unusedVariables false

theorem top_lt (c : UInt8) : (c &&& 127 ||| 64).toNat < 128 := by
  have : ∀ n : Fin 256, (UInt8.ofNat n.val &&& 127 ||| 64).toNat < 128 := by decide +kernel
  have h := this ⟨c.toNat, c.toNat_lt⟩
  simpa using h
theorem top_ge (c : UInt8) : 0 < (c &&& 127 ||| 64).toNat := by
  have : ∀ n : Fin 256, 0 < (UInt8.ofNat n.val &&& 127 ||| 64).toNat := by decide +kernel
  have h := this ⟨c.toNat, c.toNat_lt⟩
  rwa [UInt8.ofNat_toNat] at h
theorem clamp_in (k : List UInt8) (hk : k.length = 32) : leN (clampL k) < 2 ^ 255 ∧ 0 < leN (clampL k) := by
  have hl : (clampL k).length = 32 := by rw [clampL_length, hk]
  have h31 : (clampL k)[31]'(by omega) = (k.getD 31 0 &&& 127 ||| 64) := by
    unfold clampL
    rw [List.getElem_set_self]
  have e : clampL k = (clampL k).take 31 ++ [k.getD 31 0 &&& 127 ||| 64] := by
    rw [← h31, ← List.take_succ_eq_append_getElem (by omega), List.take_of_length_le (by omega)]
  have l31 : ((clampL k).take 31).length = 31 := by rw [List.length_take]; omega
  have h1 := leN_lt ((clampL k).take 31)
  have h2 := top_lt (k.getD 31 0)
  have h3 := top_ge (k.getD 31 0)
  rw [e, leN_snoc]
  rw [l31] at h1 ⊢
  have p : (2 : Nat) ^ 255 = 128 * 256 ^ 31 := by decide +kernel
  rw [p]
  have q0 : 0 < (256 : Nat) ^ 31 := Nat.pow_pos (by omega)
  generalize (256 : Nat) ^ 31 = q at *
  generalize (k.getD 31 0 &&& 127 ||| 64).toNat = c at *
  have := Nat.mul_le_mul_right q (show c ≤ 127 by omega)
  have := Nat.mul_le_mul_right q (show 1 ≤ c by omega)
  omega
theorem nine_num : leN (maskL nineL) = 9 := by decide +kernel
theorem leB_ne {n : Nat} (h : n % PP ≠ 0) : leB (n % PP) 32 ≠ leB 0 32 := by
  intro e
  have h2 := congrArg leN e
  rw [leN_leB, leN_leB] at h2
  have hlt := Nat.mod_lt n PP_pos
  have hp : PP < 256 ^ 32 := by rw [PP_eq]; decide +kernel
  rw [Nat.mod_eq_of_lt (by omega), Nat.zero_mod] at h2
  exact h h2
theorem nine_once (k : List UInt8) (hk : k.length = 32) : multL k nineL ≠ leB 0 32 := by
  unfold multL
  rw [nine_num]
  exact leB_ne (base_once (clamp_eight k hk) (clamp_in k hk).2 (clamp_in k hk).1)
theorem nine_again (a b : List UInt8) (ha : a.length = 32) (hb : b.length = 32) : multL a (multL b nineL) ≠ leB 0 32 := by
  have e2 : multL b nineL = leB (ladN (leN (clampL b)) (leN (maskL nineL)) % PP) 32 := rfl
  rw [e2, mult_in, nine_num]
  exact leB_ne (base_again (clamp_eight a ha) (clamp_in a ha).2 (clamp_in a ha).1 (clamp_eight b hb) (clamp_in b hb).2 (clamp_in b hb).1)
end Go.Proofs.YtmceahknglkhoaaDoor

namespace Go.Proofs.YtmceahknglkhoaaDoor
open Go.RowKit
set_option linter.unusedVariables false

set_option maxRecDepth 100000 in
set_option maxHeartbeats 4000000 in
theorem walk_CurveMeets (s0 s1 : ByteArray) (w0 : s0.size ≤ maxLen) (w1 : s1.size ≤ maxLen) (w : World) :
    Calls Tryd.prog 4 #[.string s0, .string s1] w fun e w' => e = .returned (.bool true) ∧ Below w.heap.size w w' := by
  obtain ⟨a0, rfl, ha0⟩ := listB s0
  obtain ⟨b0, rfl, hb0⟩ := listB s1
  unfold maxLen at w0 w1
  rw [← ha0] at w0
  rw [← hb0] at w1
  have AA : ∀ W : World, Calls Tryd.prog 5 #[S a0, .int .i64 32] W (Grown (S (sizedL a0 32)) W) := fun W => code_sized W a0 32 (by omega) (by omega)
  have AB : ∀ W : World, Calls Tryd.prog 5 #[S b0, .int .i64 32] W (Grown (S (sizedL b0 32)) W) := fun W => code_sized W b0 32 (by omega) (by omega)
  have la := sizedL_length a0 32
  have lb := sizedL_length b0 32
  generalize sizedL a0 32 = a at *
  generalize sizedL b0 32 = b at *
  have P1 := fun W : World => code_cpublic W a la
  have P2 := fun W : World => code_cpublic W b lb
  have S1 := fun W : World => code_cshareN W a (multL b nineL) la (multL_length _ _) (nine_again a b la lb)
  have S2 : ∀ W : World, Calls Tryd.prog 8 #[S b, S (multL a nineL)] W (Grown (.tuple #[S (multL a (multL b nineL)), .int .i64 0]) W) := fun W => by
    have := code_cshareN W b (multL a nineL) lb (multL_length _ _) (nine_again b a lb la)
    rwa [mult_twice a b nineL la lb (clamp_in a la).1 (clamp_in b lb).1] at this
  have hl : (multL a (multL b nineL)).length = 32 := multL_length _ _
  have q1 : (((multL a (multL b nineL)).length : Int) == 32) = true := by rw [hl]; rfl
  clear w0 w1 ha0 hb0 la lb
  generalize multL a (multL b nineL) = V at *
  generalize multL a nineL = X at *
  generalize multL b nineL = Y at *
  unfold S at *
  go_enter Tryd.func4, Tryd.ntmps4
  go_wp2_with fail
  (with_reducible refine (AA _).mono ?_)
  rintro e y1 ⟨rfl, g1⟩
  go_wp2_with fail
  (with_reducible refine (AB _).mono ?_)
  rintro e y2 ⟨rfl, g2⟩
  replace g2 := grow_trans g1 g2
  go_wp2_with fail
  (with_reducible refine (P1 _).mono ?_)
  rintro e y3 ⟨rfl, g3⟩
  replace g3 := grow_trans g2 g3
  go_wp2_with fail
  (with_reducible refine (P2 _).mono ?_)
  rintro e y4 ⟨rfl, g4⟩
  replace g4 := grow_trans g3 g4
  go_wp2_with fail
  (with_reducible refine (S1 _).mono ?_)
  rintro e y5 ⟨rfl, g5⟩
  replace g5 := grow_trans g4 g5
  go_wp2_with fail
  (with_reducible refine (S2 _).mono ?_)
  rintro e y6 ⟨rfl, g6⟩
  have HG := Lib.hid (grow_trans g5 g6)
  clear g1 g2 g3 g4 g5 g6 AA AB P1 P2 S1 S2
  go_wp2_with fail
  go_ret
  exact ⟨rfl, grow_below HG.out _ (Nat.le_refl _) (by simp)⟩

end Go.Proofs.YtmceahknglkhoaaDoor
