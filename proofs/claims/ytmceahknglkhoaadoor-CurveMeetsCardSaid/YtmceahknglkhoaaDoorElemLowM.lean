/- Numbers modulo 2^255 - 19: what the texts' sums and products are. -/
import Derived.Test.YtmceahknglkhoaaDoorElemText
namespace Go.Proofs.YtmceahknglkhoaaDoor
open Go.RowKit
set_option linter.unusedVariables false

def lowM (s : List UInt8) : List UInt8 := leB (leN s % PP) 32
def addM (s t : List UInt8) : List UInt8 := leB ((leN s + leN t) % PP) 32
def subM (s t : List UInt8) : List UInt8 := leB ((leN s + (PP - leN t % PP)) % PP) 32
def mulM (s t : List UInt8) : List UInt8 := leB ((leN s * leN t) % PP) 32
theorem lowM_length (s : List UInt8) : (lowM s).length = 32 := leB_length _ _
theorem addM_length (s t : List UInt8) : (addM s t).length = 32 := leB_length _ _
theorem subM_length (s t : List UInt8) : (subM s t).length = 32 := leB_length _ _
theorem mulM_length (s t : List UInt8) : (mulM s t).length = 32 := leB_length _ _

end Go.Proofs.YtmceahknglkhoaaDoor
