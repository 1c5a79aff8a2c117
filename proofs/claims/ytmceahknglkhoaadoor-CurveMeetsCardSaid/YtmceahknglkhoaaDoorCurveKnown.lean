/- Curve: a known multiple. -/
import Derived.Test.YtmceahknglkhoaaDoorCurvePlain
namespace Go.Proofs.YtmceahknglkhoaaDoor
set_option linter.unusedVariables false

/-- The ladder's number, reckoned. -/
def quickO (s : Lad) : Nat := if s.sw = 1 then mulP s.x3 (sqP 255 s.z3 (PP - 2)) else mulP s.x2 (sqP 255 s.z2 (PP - 2))
def quickL (k u : List UInt8) : List UInt8 := leB (quickO (ladS (leN (clampL k)) (leN (maskL u)) 255) % PP) 32
theorem multL_quick (k u : List UInt8) : multL k u = quickL k u := by
  unfold multL quickL quickO ladN
  rw [ladOut_eq]

set_option maxRecDepth 100000 in
theorem known_mult : multL cvK cvU = cvR := by
  rw [multL_quick]
  decide +kernel

end Go.Proofs.YtmceahknglkhoaaDoor
