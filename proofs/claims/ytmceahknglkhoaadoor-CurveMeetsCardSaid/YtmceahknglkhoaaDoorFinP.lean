/- Numbers modulo P as a ring; the ladder's formulas in it. -/
import Derived.Test.YtmceahknglkhoaaDoorLadPlain
namespace Go.Proofs.YtmceahknglkhoaaDoor
set_option linter.unusedVariables false

section
variable {n : Nat} [NeZero n]
def rX (x z : Fin n) : Fin n := (x + z) * (x + z) * ((x - z) * (x - z))
def rE (x z : Fin n) : Fin n := (x + z) * (x + z) - (x - z) * (x - z)
def rZ (c x z : Fin n) : Fin n := rE x z * ((x + z) * (x + z) + c * rE x z)
def rDA (x2 z2 x3 z3 : Fin n) : Fin n := (x3 - z3) * (x2 + z2)
def rCB (x2 z2 x3 z3 : Fin n) : Fin n := (x3 + z3) * (x2 - z2)
def rX3 (x2 z2 x3 z3 : Fin n) : Fin n := (rDA x2 z2 x3 z3 + rCB x2 z2 x3 z3) * (rDA x2 z2 x3 z3 + rCB x2 z2 x3 z3)
def rZ3 (u x2 z2 x3 z3 : Fin n) : Fin n := u * ((rDA x2 z2 x3 z3 - rCB x2 z2 x3 z3) * (rDA x2 z2 x3 z3 - rCB x2 z2 x3 z3))
theorem rX_sc (s x z : Fin n) : rX (s * x) (s * z) = s * s * (s * s) * rX x z := by unfold rX; grind
theorem rZ_sc (c s x z : Fin n) : rZ c (s * x) (s * z) = s * s * (s * s) * rZ c x z := by unfold rZ rE; grind
theorem rX3_sc (s t x2 z2 x3 z3 : Fin n) : rX3 (s * x2) (s * z2) (t * x3) (t * z3) = s * t * (s * t) * rX3 x2 z2 x3 z3 := by unfold rX3 rDA rCB; grind
theorem rZ3_sc (u s t x2 z2 x3 z3 : Fin n) : rZ3 u (s * x2) (s * z2) (t * x3) (t * z3) = s * t * (s * t) * rZ3 u x2 z2 x3 z3 := by unfold rZ3 rDA rCB; grind
end

instance : NeZero PP := ⟨Nat.pos_iff_ne_zero.1 PP_pos⟩
/-- A number as an element of the ring. -/
def fi (x : Nat) : Fin PP := Fin.ofNat PP x
theorem fi_val (x : Nat) : (fi x).val = x % PP := rfl
theorem fi_eq {x y : Nat} : fi x = fi y ↔ x % PP = y % PP := ⟨fun h => by have := congrArg Fin.val h; exact this, fun h => Fin.ext h⟩
theorem fi_mod (x : Nat) : fi (x % PP) = fi x := fi_eq.2 (Nat.mod_mod _ _)
theorem fi_add (x y : Nat) : fi (addP x y) = fi x + fi y := by
  apply Fin.ext
  rw [Fin.val_add, fi_val, fi_val, fi_val]
  unfold addP
  rw [Nat.mod_mod, ← Nat.add_mod]
theorem fi_mul (x y : Nat) : fi (mulP x y) = fi x * fi y := by
  apply Fin.ext
  rw [Fin.val_mul, fi_val, fi_val, fi_val]
  unfold mulP
  rw [Nat.mod_mod, ← Nat.mul_mod]
theorem fi_sub (x y : Nat) : fi (subP x y) = fi x - fi y := by
  apply Fin.ext
  rw [Fin.sub_def]
  show (subP x y) % PP = ((PP - y % PP) + x % PP) % PP
  unfold subP
  rw [Nat.mod_mod, Nat.add_comm (PP - y % PP) (x % PP), Nat.mod_add_mod]
theorem fi_X2 (x z : Nat) : fi (ladX2 x z) = rX (fi x) (fi z) := by unfold ladX2 rX; simp only [fi_mul, fi_add, fi_sub]
theorem fi_Z2 (x z : Nat) : fi (ladZ2 x z) = rZ (fi 121665) (fi x) (fi z) := by unfold ladZ2 ladE rZ rE; simp only [fi_mul, fi_add, fi_sub]
theorem fi_X3 (a b c d : Nat) : fi (ladX3 a b c d) = rX3 (fi a) (fi b) (fi c) (fi d) := by unfold ladX3 ladDA ladCB rX3 rDA rCB; simp only [fi_mul, fi_add, fi_sub]
theorem fi_Z3 (u a b c d : Nat) : fi (ladZ3 u a b c d) = rZ3 (fi u) (fi a) (fi b) (fi c) (fi d) := by unfold ladZ3 ladDA ladCB rZ3 rDA rCB; simp only [fi_mul, fi_add, fi_sub]

end Go.Proofs.YtmceahknglkhoaaDoor
