/- Sealed by streams: plain. -/
import Derived.Test.YtdakmkbcepccbaaTagPlain
import Derived.Test.YtdakmkbcepccbaaStreamPlain
import Derived.Test.YtdakmkbcepccbaaSubKey
namespace Go.Proofs.Ytdakmkbcepccbaa
set_option linter.unusedVariables false

def filledL (s : List UInt8) : List UInt8 := s ++ zerosL ((16 - s.length % 16) % 16)
def sealTagL (key nonce more s : List UInt8) : List UInt8 := tagL ((blockL key nonce 0).take 32) (filledL more ++ filledL s ++ (leB more.length 8 ++ leB s.length 8))
def sealL (key nonce more text : List UInt8) : List UInt8 := chxL key nonce 1 text ++ sealTagL key nonce more (chxL key nonce 1 text)

theorem filledL_length (s : List UInt8) : (filledL s).length ≤ s.length + 15 := by
  unfold filledL
  rw [List.length_append, zerosL_length]
  omega

theorem tagL_length (k t : List UInt8) : (tagL k t).length = 16 := by unfold tagL; rw [List.length_append, leB_length, leB_length]

theorem sealTagL_length (key nonce more s : List UInt8) : (sealTagL key nonce more s).length = 16 := tagL_length _ _

theorem sealL_length (key nonce more text : List UInt8) : (sealL key nonce more text).length = text.length + 16 := by
  unfold sealL
  rw [List.length_append, sealTagL_length, chxL_length]

theorem sealL_take (key nonce more text : List UInt8) : (sealL key nonce more text).take text.length = chxL key nonce 1 text := by
  unfold sealL
  rw [List.take_append_of_le_length (by rw [chxL_length]; omega), List.take_of_length_le (by rw [chxL_length]; omega)]

end Go.Proofs.Ytdakmkbcepccbaa
