/- Two multiples in a row. Plain. -/
import Derived.Test.YtmceahknglkhoaaLadHas
import Derived.Test.YtmceahknglkhoaaCurveLow
namespace Go.Proofs.Ytmceahknglkhoaa
set_option linter.unusedVariables false

theorem lad_zero (k x : Nat) (hk : k % 8 = 0) (h : x % PP = 0) : ladN k x % PP = 0 := by
  rw [ladN_lik k (x' := 0) (by rw [h, Nat.zero_mod])]
  rw [ends_nought lowT0_ok.1 lowT0_ok.2 (c0 := ⟨0, 1, 0, 0, 1, 1, 1, 0, 2, 1, 0⟩) rfl ⟨rfl, rfl, rfl, rfl, rfl⟩ k hk, Nat.zero_mod]
theorem fi_zero {n : Nat} : fi n = 0 ↔ n % PP = 0 := by
  constructor
  · intro h
    have := congrArg Fin.val h
    rw [fi_val] at this
    exact this
  · intro h
    apply Fin.ext
    rw [fi_val, h]
    rfl
theorem nm_zero {D : FP} (g : Ed.Good D) : ∀ n, Ed.nm g n (Ed.zero D) = Ed.zero D
  | 0 => rfl
  | n + 1 => by
    show Ed.add g (Ed.nm g n (Ed.zero D)) (Ed.zero D) = _
    rw [nm_zero g n, Ed.zero_add]
theorem y1_zero {D : FP} (hd : 1 - D ≠ 0) (P : Ed.Pt D) (h : 1 - P.y = 0) : P = Ed.zero D := by
  have on := P.on
  unfold Ed.On at on
  have hy : P.y = 1 := by clear on hd; grind
  have hx : P.x = 0 := by
    by_cases e : P.x = 0
    · exact e
    · exfalso
      apply Ed.mul_ne hd (Ed.mul_ne e e)
      rw [hy] at on
      generalize P.x = x at *
      clear hd h hy e
      grind
  exact Ed.Pt.ext hx hy
theorem hgt_one {y : FP} (h : 1 - y = 0) : hgt y = 0 := by
  unfold hgt
  rw [h, invP_zero]
  generalize 1 + y = a
  clear h
  grind
theorem dbl_zero {D : FP} {g : Ed.Good D} (hd : 1 - D ≠ 0) (Q : Ed.Pt D) (h : 1 - Q.y = 0 ∨ 1 + Q.y = 0) : Ed.add g Q Q = Ed.zero D := by
  apply y1_zero hd
  obtain ⟨_, b⟩ := Ed.dbl_y Q.on (Ed.add_sum g Q Q).ey
  have hM := Ed.den_m g Q.on Q.on
  have hW := Ed.w_ne (y := Q.y) g
  by_cases e : 1 - (Ed.add g Q Q).y = 0
  · exact e
  · exfalso
    apply Ed.mul_ne e (Ed.mul_ne hM hW)
    have b' := b
    generalize (1 - (Ed.add g Q Q).y) * ((1 - D * Q.x * Q.x * Q.y * Q.y) * (1 - D * Q.y * Q.y)) = L at *
    rw [b]
    have e2 : 2 * (1 - Q.y * Q.y) * (1 - D * Q.y * Q.y) = 2 * ((1 - Q.y) * (1 + Q.y)) * (1 - D * Q.y * Q.y) := by clear b b' hM hW e h; grind
    rw [e2]
    generalize 1 - D * Q.y * Q.y = w
    rcases h with h | h
    · rw [h]; generalize 1 + Q.y = a; clear b b' hM hW e e2 h; grind
    · rw [h]; generalize 1 - Q.y = a; clear b b' hM hW e e2 h; grind
theorem At.again {D : FP} {g : Ed.Good D} {σ u : FP} {B : Ed.Pt D} (a : At g σ u B) {x : Nat} (hx : fi x = u) {ka kb : Nat} (ha : ka < 2 ^ 255) (hb : kb < 2 ^ 255) (h8 : ka % 8 = 0) :
    fi (ladN ka (ladN kb x)) = σ * hgt (Ed.nm g ka (Ed.nm g kb B)).y := by
  have hv := a.num hx kb hb
  generalize Ed.nm g kb B = Q at *
  by_cases e : 1 - Q.y = 0 ∨ 1 + Q.y = 0
  · have hz : hgt Q.y = 0 := by
      rcases e with e | e
      · exact hgt_one e
      · unfold hgt; rw [e]; generalize invP (1 - Q.y) = j; clear hv e; grind
    rw [hz] at hv
    have hv0 : fi (ladN kb x) = 0 := by rw [hv]; clear hv hz e; grind
    rw [fi_zero.2 (lad_zero ka _ h8 (fi_zero.1 hv0))]
    have hk : ka = ka / 2 * 2 := by omega
    have h2 : Ed.nm g 2 Q = Ed.add g Q Q := by rw [show 2 = 2 * 1 from rfl, Ed.nm_dbl, Ed.nm_one]
    rw [hk, Ed.nm_mul, h2, dbl_zero a.d1 Q e, nm_zero]
    have h1 : hgt (Ed.zero D).y = 0 := hgt_one (by show (1 : FP) - 1 = 0; rfl)
    rw [h1]; clear hv hv0 hz e hx h1; grind
  · have hn : 1 - Q.y ≠ 0 := fun q => e (Or.inl q)
    have hp : 1 + Q.y ≠ 0 := fun q => e (Or.inr q)
    have hh : σ * (σ * hgt Q.y) * (1 - Q.y) = 1 + Q.y := by
      have e1 : σ * (σ * hgt Q.y) * (1 - Q.y) = σ * σ * (hgt Q.y * (1 - Q.y)) := by
        generalize hgt Q.y = H
        clear hv e hn hp hx; grind
      rw [e1, a.kit.sq]
      unfold hgt
      rw [frac_eq hn]
      clear hv e hn hp hx e1; grind
    have a2 : At g σ (σ * hgt Q.y) Q := ⟨a.kits _ _ hh hp, hh, hn, hp, a.kits, a.d1⟩
    exact a2.num hv ka ha
/-- Two numbers in a row: their order is all one. -/
theorem lad_twice (ka kb x : Nat) (ha : ka < 2 ^ 255) (hb : kb < 2 ^ 255) (ha8 : ka % 8 = 0) (hb8 : kb % 8 = 0) (h1 : (x + 1) % PP ≠ 0) : ladN ka (ladN kb x) % PP = ladN kb (ladN ka x) % PP := by
  by_cases h0 : x % PP = 0
  · rw [lad_zero ka _ ha8 (lad_zero kb _ hb8 h0), lad_zero kb _ hb8 (lad_zero ka _ ha8 h0)]
  · obtain ⟨D, g, σ, B, a⟩ := has_pt (u := fi x) (fun e => h0 (fi_zero.1 e)) (fun e => h1 (by rw [← fi_succ] at e; exact fi_zero.1 e))
    apply fi_eq.1
    rw [a.again rfl ha hb ha8, a.again rfl hb ha hb8, Ed.nm_comm]
end Go.Proofs.Ytmceahknglkhoaa
