/- The ladder: plain. -/
import Derived.Test.YtmceahknglkhoaaDoorElemPowPlain
namespace Go.Proofs.YtmceahknglkhoaaDoor
set_option linter.unusedVariables false

def addP (x y : Nat) : Nat := (x + y) % PP
def subP (x y : Nat) : Nat := (x + (PP - y % PP)) % PP
def mulP (x y : Nat) : Nat := (x * y) % PP

/-- One round for the four numbers. -/
def ladX2 (x2 z2 : Nat) : Nat := mulP (mulP (addP x2 z2) (addP x2 z2)) (mulP (subP x2 z2) (subP x2 z2))
def ladE (x2 z2 : Nat) : Nat := subP (mulP (addP x2 z2) (addP x2 z2)) (mulP (subP x2 z2) (subP x2 z2))
def ladZ2 (x2 z2 : Nat) : Nat := mulP (ladE x2 z2) (addP (mulP (addP x2 z2) (addP x2 z2)) (mulP 121665 (ladE x2 z2)))
def ladDA (x2 z2 x3 z3 : Nat) : Nat := mulP (subP x3 z3) (addP x2 z2)
def ladCB (x2 z2 x3 z3 : Nat) : Nat := mulP (addP x3 z3) (subP x2 z2)
def ladX3 (x2 z2 x3 z3 : Nat) : Nat := mulP (addP (ladDA x2 z2 x3 z3) (ladCB x2 z2 x3 z3)) (addP (ladDA x2 z2 x3 z3) (ladCB x2 z2 x3 z3))
def ladZ3 (x x2 z2 x3 z3 : Nat) : Nat := mulP x (mulP (subP (ladDA x2 z2 x3 z3) (ladCB x2 z2 x3 z3)) (subP (ladDA x2 z2 x3 z3) (ladCB x2 z2 x3 z3)))

structure Lad where
  sw : Nat
  x2 : Nat
  z2 : Nat
  x3 : Nat
  z3 : Nat

def Lad.turn (s : Lad) (bit : Nat) : Lad := if bit = s.sw then s else ⟨bit, s.x3, s.z3, s.x2, s.z2⟩
def Lad.step (s : Lad) (x : Nat) : Lad := ⟨s.sw, ladX2 s.x2 s.z2, ladZ2 s.x2 s.z2, ladX3 s.x2 s.z2 s.x3 s.z3, ladZ3 x s.x2 s.z2 s.x3 s.z3⟩
/-- Behind so many rounds, from bit 254 down. -/
def ladS (k x : Nat) : Nat → Lad
  | 0 => ⟨0, 1, 0, x, 1⟩
  | i + 1 => ((ladS k x i).turn (k / 2 ^ (254 - i) % 2)).step x
def ladOut (s : Lad) : Nat := if s.sw = 1 then mulP s.x3 (s.z3 ^ (PP - 2)) else mulP s.x2 (s.z2 ^ (PP - 2))
/-- The ladder's number. -/
def ladN (k x : Nat) : Nat := ladOut (ladS k x 255)

theorem turn_sw (s : Lad) (bit : Nat) : (s.turn bit).sw = bit := by
  unfold Lad.turn
  split <;> simp_all
theorem ladS_sw (k x : Nat) : ∀ i, (ladS k x i).sw ≤ 1
  | 0 => by simp [ladS]
  | i + 1 => by
    simp only [ladS, Lad.step, turn_sw]
    omega

end Go.Proofs.YtmceahknglkhoaaDoor
