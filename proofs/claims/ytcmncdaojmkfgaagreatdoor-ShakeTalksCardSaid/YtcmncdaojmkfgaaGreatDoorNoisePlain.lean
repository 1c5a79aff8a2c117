/- Noise: what is sealed by a suite, and opened. -/
import Derived.Test.YtcmncdaojmkfgaaGreatDoorR09
import Derived.Test.YtcmncdaojmkfgaaGreatDoorSealOpen
import Derived.Test.YtcmncdaojmkfgaaGreatDoorR34
namespace Go.Proofs.YtcmncdaojmkfgaaGreatDoor
open Go.RowKit
set_option linter.unusedVariables false

/-- A text sealed as the n-th. -/
def sealN (suite : Nat) (key : List UInt8) (n : Nat) (more text : List UInt8) : List UInt8 := if suite = 1 then sealL key (nonL 1 n) more text else gsealL key (nonL 2 n) more text
theorem sealN_length (suite : Nat) (key : List UInt8) (n : Nat) (more text : List UInt8) (hk : key.length = 32) : (sealN suite key n more text).length = text.length + 16 := by
  unfold sealN
  split
  · exact sealL_length _ _ _ _
  · exact gsealL_length _ _ _ _ hk (nonL_length 2 n)

end Go.Proofs.YtcmncdaojmkfgaaGreatDoor
