/- Every number but two has a point. Plain. -/
import Derived.Test.YtmceahknglkhoaaLadKit
namespace Go.Proofs.Ytmceahknglkhoaa
set_option linter.unusedVariables false

def rootI : Nat := 19681161376707505956807079304988542015446066515923890162744021073123829784752
theorem rootI_sq : fi rootI * fi rootI = -1 := by
  have e : fi (rootI * rootI + 1) = 0 := by
    apply Fin.ext
    rw [fi_val]
    show (rootI * rootI + 1) % PP = 0
    rw [PP_eq]
    decide +kernel
  rw [fi_succ, fi_nmul2] at e
  generalize fi rootI = i at *
  grind
theorem pow_sum (a : FP) (m n : Nat) : a ^ (m + n) = a ^ m * a ^ n := Lean.Grind.Semiring.pow_add a m n
theorem two_roots {c : FP} (h : c * c = 1) : c = 1 ∨ c = -1 := by
  by_cases e : c - 1 = 0
  · left; clear h; grind
  · right
    by_cases e2 : c + 1 = 0
    · clear h e; grind
    · exact absurd (show (c - 1) * (c + 1) = 0 by clear e e2; grind) (Ed.mul_ne e e2)
theorem sqrt_gen (a : FP) (m e : Nat) (he : e + e = m + 1) (h : a ^ (m + m) = 1) : ∃ r : FP, r * r = a := by
  rw [pow_sum] at h
  have hr : a ^ e * a ^ e = a ^ m * a := by rw [← pow_sum, he, Lean.Grind.Semiring.pow_succ]
  rcases two_roots h with h1 | h1
  · refine ⟨a ^ e, ?_⟩
    rw [hr, h1]; clear h h1 hr; grind
  · refine ⟨fi rootI * a ^ e, ?_⟩
    have hi := rootI_sq
    generalize a ^ e = r at *
    generalize fi rootI = i at *
    have e1 : i * r * (i * r) = i * i * (r * r) := by clear h h1 hr hi; grind
    rw [e1, hi, hr, h1]; clear h h1 hr hi e1; grind
theorem fermatP {a : FP} (h : a ≠ 0) : a ^ (PP - 1) = 1 := by
  apply Fin.ext
  rw [fin_pow_val, Pr.fermat prP a.val (fun hd => h (Fin.ext (Nat.eq_zero_of_dvd_of_lt hd a.isLt)))]
  have e1 : (1 : FP).val = 1 % PP := rfl
  rw [e1, Nat.mod_eq_of_lt (by rw [PP_eq]; omega)]
theorem pow_prod (a b : FP) : ∀ n : Nat, (a * b) ^ n = a ^ n * b ^ n
  | 0 => by rw [Lean.Grind.Semiring.pow_zero, Lean.Grind.Semiring.pow_zero, Lean.Grind.Semiring.pow_zero]; grind
  | n + 1 => by
    rw [Lean.Grind.Semiring.pow_succ, Lean.Grind.Semiring.pow_succ, Lean.Grind.Semiring.pow_succ, pow_prod a b n]
    generalize a ^ n = x
    generalize b ^ n = y
    grind
theorem nonsq_char {a : FP} (ha : a ≠ 0) (h : ∀ r : FP, r * r ≠ a) : ∀ m e : Nat, e + e = m + 1 → m + m + (m + m) = PP - 1 → a ^ (m + m) = -1 := by
  intro m e he hm
  have h1 : a ^ (m + m) * a ^ (m + m) = 1 := by rw [← pow_sum, hm]; exact fermatP ha
  rcases two_roots h1 with h2 | h2
  · obtain ⟨r, hr⟩ := sqrt_gen a m e he h2
    exact absurd hr (h r)
  · exact h2
theorem sq_or {D q : FP} (hD0 : D ≠ 0) (hD : ∀ r : FP, r * r ≠ D) (hq : q ≠ 0) (hn : ∀ r : FP, r * r ≠ q) : ∃ r : FP, r * r = D * q := by
  obtain ⟨m, hm⟩ : ∃ m, m = (PP - 1) / 4 := ⟨_, rfl⟩
  obtain ⟨e, he⟩ : ∃ e, e = (PP + 3) / 8 := ⟨_, rfl⟩
  have h1 : e + e = m + 1 := by rw [hm, he, PP_eq]
  have h2 : m + m + (m + m) = PP - 1 := by rw [hm, PP_eq]
  clear hm he
  refine sqrt_gen (D * q) m e h1 ?_
  rw [pow_prod, nonsq_char hD0 hD m e h1 h2, nonsq_char hq hn m e h1 h2]
  grind

/-- A number that a point stands behind. -/
structure At {D : FP} (g : Ed.Good D) (σ u : FP) (B : Ed.Pt D) : Prop where
  kit : Kit g σ u B
  h : σ * u * (1 - B.y) = 1 + B.y
  ne : 1 - B.y ≠ 0
  ne1 : 1 + B.y ≠ 0
  kits : ∀ (v : FP) (Q : Ed.Pt D), σ * v * (1 - Q.y) = 1 + Q.y → 1 + Q.y ≠ 0 → Kit g σ v Q
  d1 : 1 - D ≠ 0
theorem invP_ne {a : FP} (h : a ≠ 0) : invP a ≠ 0 := by
  intro e
  have h1 := mul_invP a h
  rw [e] at h1
  have e2 : a * 0 = (0 : FP) := by clear h1 h e; grind
  exact zero_ne_oneP (e2.symm.trans h1)
theorem start_B {σ u y : FP} (h : σ * u * (1 - y) = 1 + y) (hne : 1 - y ≠ 0) : Ed.Rep y (σ * u) 1 := by
  refine ⟨invP (1 - y), invP_ne hne, ?_, ?_⟩
  · have h1 := mul_invP _ hne
    generalize invP (1 - y) = J at *
    rw [← h]
    have e : J * (σ * u * (1 - y)) = (1 - y) * J * (σ * u) := by clear h h1; grind
    rw [e, h1]; clear e h h1; grind
  · have h1 := mul_invP _ hne
    generalize invP (1 - y) = J at *
    have e : J * (1 - y) = (1 - y) * J := by clear h h1; grind
    rw [e, h1]
theorem start_0 {σ : FP} (hq : σ * σ = 1) : Ed.Rep (1 : FP) σ 0 := by
  have hs : σ ≠ 0 := by
    intro e
    rw [e] at hq
    exact zero_ne_oneP (by rw [← hq]; clear hq e; grind)
  have h2 := mul_invP 2 two_ne
  refine ⟨σ * invP 2, Ed.mul_ne hs (invP_ne two_ne), ?_, ?_⟩
  · generalize invP 2 = J at *
    have e : σ * J * (1 + 1) = σ * (2 * J) := by clear h2 hs hq; grind
    rw [e, h2]; clear e h2 hs hq; grind
  · generalize invP 2 = J at *
    clear h2 hs hq; grind
theorem At.num {D : FP} {g : Ed.Good D} {σ u : FP} {B : Ed.Pt D} (a : At g σ u B) {x : Nat} (hx : fi x = u) (k : Nat) (hk : k < 2 ^ 255) : fi (ladN k x) = σ * hgt (Ed.nm g k B).y :=
  ladN_pt a.kit hx (start_B a.h a.ne) (start_0 a.kit.sq) k hk
end Go.Proofs.Ytmceahknglkhoaa
