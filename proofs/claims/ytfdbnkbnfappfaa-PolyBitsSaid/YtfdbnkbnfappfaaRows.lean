/-
  No cell of these rows narrows 'for every input' (looked for: loops, veiled, ifaces, maps, wideKeys, modest, calm, conditions, laid).
  DERIVED. THE GIVEN ROWS OF THIS SEAT. 11 by the template 'for every input the law returns true; each argument reads behind the call as it read before'; 0 by the template 'total and deterministic' (their statements: YtfdbnkbnfappfaaTotals.lean).
  GIVEN WITH THE SEED: the statements are not yours to turn. If you find one false, say at which input.
  Laid BY PROGRAM, IN A SANDBOX (cutbox-rows.mjs): the forced cells as the released guide's own fill.sh prints them over the translation d9d36132688580dd… (all of the seat's roots in one cut). By AI agents, Wed Nov 11 2026. No macro, syntax, notation, axiom, sorry.
-/
import Derived.Test.YtfdbnkbnfappfaaChecked
import GoSem.Claim
import GoSem.ClaimJoined
import GoSem.ClaimMapViews
import Derived.JoinedTies
import Derived.KernelRfl
namespace Go.Proofs.Ytfdbnkbnfappfaa
/- THE CELL 'sum', in the pinned program and in every row, IS THE sha256 OF THE DUMP (.gsa) THAT YtfdbnkbnfappfaaProg.lean LOADS. Nothing in Lean hashes anything: it is a label: what it is worth is what the hold of that sum in a sandbox is worth. -/
noncomputable def Try.pinned : Pinned := { name := "ytfdbnkbnfappfaa", sum := "d9d36132688580dd848072e0f252e7f087add9ad986366e96df818f104ddb164", checked := Try.checked }
namespace Rows
def none {H : Type} : Left H := { results := [], args := [] }

/-- 'souterrainkeep.ChachaQuarter': WHATEVER THE INPUT: true; the input reads as it did. -/
def chachaQuarterSpec : ChangeSpec := { name := "chachaQuarter", fn := fun _ => fun
  | [d1, d2, d3, d4] => { results := [.lit (.bool true)], args := [d1, d2, d3, d4] }
  | _ => none }
def chachaQuarterRow : OpenClaim := { program := "ytfdbnkbnfappfaa", sum := "d9d36132688580dd848072e0f252e7f087add9ad986366e96df818f104ddb164", func := "souterrain/souterrainkeep.ChachaQuarter", spec := "chachaQuarter", apart := false }
def ChachaQuarterSaid : Prop := chachaQuarterRow.holds Try.pinned (OpenSpec.ofChange chachaQuarterSpec)

/-- ITS FALSE NEIGHBOUR: 'it returns false'. Refute it at one input. -/
def chachaQuarterWrong : ChangeSpec := { name := "chachaQuarter", fn := fun _ => fun
  | [d1, d2, d3, d4] => { results := [.lit (.bool false)], args := [d1, d2, d3, d4] }
  | _ => none }
def ChachaQuarterWrongFalsely : Prop := chachaQuarterRow.holds Try.pinned (OpenSpec.ofChange chachaQuarterWrong)

/-- 'souterrainkeep.ChachaKnown': WHATEVER THE INPUT: true; the input reads as it did. -/
def chachaKnownSpec : ChangeSpec := { name := "chachaKnown", fn := fun _ => fun
  | [] => { results := [.lit (.bool true)], args := [] }
  | _ => none }
def chachaKnownRow : OpenClaim := { program := "ytfdbnkbnfappfaa", sum := "d9d36132688580dd848072e0f252e7f087add9ad986366e96df818f104ddb164", func := "souterrain/souterrainkeep.ChachaKnown", spec := "chachaKnown", unfollowed := true, recurses := true, apart := false }
def ChachaKnownSaid : Prop := chachaKnownRow.holds Try.pinned (OpenSpec.ofChange chachaKnownSpec)

/-- ITS FALSE NEIGHBOUR: 'it returns false'. Refute it at one input. -/
def chachaKnownWrong : ChangeSpec := { name := "chachaKnown", fn := fun _ => fun
  | [] => { results := [.lit (.bool false)], args := [] }
  | _ => none }
def ChachaKnownWrongFalsely : Prop := chachaKnownRow.holds Try.pinned (OpenSpec.ofChange chachaKnownWrong)

/-- 'souterrainkeep.ChachaTwice': WHATEVER THE INPUT: true; the input reads as it did. -/
def chachaTwiceSpec : ChangeSpec := { name := "chachaTwice", fn := fun _ => fun
  | [d1, d2, d3, d4, d5] => { results := [.lit (.bool true)], args := [d1, d2, d3, d4, d5] }
  | _ => none }
def chachaTwiceRow : OpenClaim := { program := "ytfdbnkbnfappfaa", sum := "d9d36132688580dd848072e0f252e7f087add9ad986366e96df818f104ddb164", func := "souterrain/souterrainkeep.ChachaTwice", spec := "chachaTwice", inPlace := ["internal/abi.NoEscape", "internal/bytealg.MakeNoZero"], unfollowed := true, recurses := true, apart := false }
def ChachaTwiceSaid : Prop := chachaTwiceRow.holds Try.pinned (OpenSpec.ofChange chachaTwiceSpec)

/-- ITS FALSE NEIGHBOUR: 'it returns false'. Refute it at one input. -/
def chachaTwiceWrong : ChangeSpec := { name := "chachaTwice", fn := fun _ => fun
  | [d1, d2, d3, d4, d5] => { results := [.lit (.bool false)], args := [d1, d2, d3, d4, d5] }
  | _ => none }
def ChachaTwiceWrongFalsely : Prop := chachaTwiceRow.holds Try.pinned (OpenSpec.ofChange chachaTwiceWrong)

/-- 'souterrainkeep.ChachaSplits': WHATEVER THE INPUT: true; the input reads as it did. -/
def chachaSplitsSpec : ChangeSpec := { name := "chachaSplits", fn := fun _ => fun
  | [d1, d2, d3, d4, d5] => { results := [.lit (.bool true)], args := [d1, d2, d3, d4, d5] }
  | _ => none }
def chachaSplitsRow : OpenClaim := { program := "ytfdbnkbnfappfaa", sum := "d9d36132688580dd848072e0f252e7f087add9ad986366e96df818f104ddb164", func := "souterrain/souterrainkeep.ChachaSplits", spec := "chachaSplits", inPlace := ["internal/abi.NoEscape", "internal/bytealg.MakeNoZero"], unfollowed := true, recurses := true, apart := false }
def ChachaSplitsSaid : Prop := chachaSplitsRow.holds Try.pinned (OpenSpec.ofChange chachaSplitsSpec)

/-- ITS FALSE NEIGHBOUR: 'it returns false'. Refute it at one input. -/
def chachaSplitsWrong : ChangeSpec := { name := "chachaSplits", fn := fun _ => fun
  | [d1, d2, d3, d4, d5] => { results := [.lit (.bool false)], args := [d1, d2, d3, d4, d5] }
  | _ => none }
def ChachaSplitsWrongFalsely : Prop := chachaSplitsRow.holds Try.pinned (OpenSpec.ofChange chachaSplitsWrong)

/-- 'souterrainkeep.PolyAdds': WHATEVER THE INPUT: true; the input reads as it did. -/
def polyAddsSpec : ChangeSpec := { name := "polyAdds", fn := fun _ => fun
  | [d1, d2, d3] => { results := [.lit (.bool true)], args := [d1, d2, d3] }
  | _ => none }
def polyAddsRow : OpenClaim := { program := "ytfdbnkbnfappfaa", sum := "d9d36132688580dd848072e0f252e7f087add9ad986366e96df818f104ddb164", func := "souterrain/souterrainkeep.PolyAdds", spec := "polyAdds", inPlace := ["internal/abi.NoEscape", "internal/bytealg.MakeNoZero", "math/bits.Add64"], apart := false }
def PolyAddsSaid : Prop := polyAddsRow.holds Try.pinned (OpenSpec.ofChange polyAddsSpec)

/-- ITS FALSE NEIGHBOUR: 'it returns false'. Refute it at one input. -/
def polyAddsWrong : ChangeSpec := { name := "polyAdds", fn := fun _ => fun
  | [d1, d2, d3] => { results := [.lit (.bool false)], args := [d1, d2, d3] }
  | _ => none }
def PolyAddsWrongFalsely : Prop := polyAddsRow.holds Try.pinned (OpenSpec.ofChange polyAddsWrong)

/-- 'souterrainkeep.PolyKnown': WHATEVER THE INPUT: true; the input reads as it did. -/
def polyKnownSpec : ChangeSpec := { name := "polyKnown", fn := fun _ => fun
  | [d1, d2] => { results := [.lit (.bool true)], args := [d1, d2] }
  | _ => none }
def polyKnownRow : OpenClaim := { program := "ytfdbnkbnfappfaa", sum := "d9d36132688580dd848072e0f252e7f087add9ad986366e96df818f104ddb164", func := "souterrain/souterrainkeep.PolyKnown", spec := "polyKnown", inPlace := ["internal/abi.NoEscape", "internal/bytealg.MakeNoZero", "math/bits.Add64"], apart := false }
def PolyKnownSaid : Prop := polyKnownRow.holds Try.pinned (OpenSpec.ofChange polyKnownSpec)

/-- ITS FALSE NEIGHBOUR: 'it returns false'. Refute it at one input. -/
def polyKnownWrong : ChangeSpec := { name := "polyKnown", fn := fun _ => fun
  | [d1, d2] => { results := [.lit (.bool false)], args := [d1, d2] }
  | _ => none }
def PolyKnownWrongFalsely : Prop := polyKnownRow.holds Try.pinned (OpenSpec.ofChange polyKnownWrong)

/-- 'souterrainkeep.PolyBits': WHATEVER THE INPUT: true; the input reads as it did. -/
def polyBitsSpec : ChangeSpec := { name := "polyBits", fn := fun _ => fun
  | [d1, d2, d3] => { results := [.lit (.bool true)], args := [d1, d2, d3] }
  | _ => none }
def polyBitsRow : OpenClaim := { program := "ytfdbnkbnfappfaa", sum := "d9d36132688580dd848072e0f252e7f087add9ad986366e96df818f104ddb164", func := "souterrain/souterrainkeep.PolyBits", spec := "polyBits", inPlace := ["internal/abi.NoEscape", "internal/bytealg.MakeNoZero", "math/bits.Add64"], apart := false }
def PolyBitsSaid : Prop := polyBitsRow.holds Try.pinned (OpenSpec.ofChange polyBitsSpec)

/-- ITS FALSE NEIGHBOUR: 'it returns false'. Refute it at one input. -/
def polyBitsWrong : ChangeSpec := { name := "polyBits", fn := fun _ => fun
  | [d1, d2, d3] => { results := [.lit (.bool false)], args := [d1, d2, d3] }
  | _ => none }
def PolyBitsWrongFalsely : Prop := polyBitsRow.holds Try.pinned (OpenSpec.ofChange polyBitsWrong)

/-- 'souterrainkeep.SealKnown': WHATEVER THE INPUT: true; the input reads as it did. -/
def sealKnownSpec : ChangeSpec := { name := "sealKnown", fn := fun _ => fun
  | [] => { results := [.lit (.bool true)], args := [] }
  | _ => none }
def sealKnownRow : OpenClaim := { program := "ytfdbnkbnfappfaa", sum := "d9d36132688580dd848072e0f252e7f087add9ad986366e96df818f104ddb164", func := "souterrain/souterrainkeep.SealKnown", spec := "sealKnown", inPlace := ["internal/abi.NoEscape", "internal/bytealg.MakeNoZero", "math/bits.Add64"], unfollowed := true, recurses := true, apart := false }
def SealKnownSaid : Prop := sealKnownRow.holds Try.pinned (OpenSpec.ofChange sealKnownSpec)

/-- ITS FALSE NEIGHBOUR: 'it returns false'. Refute it at one input. -/
def sealKnownWrong : ChangeSpec := { name := "sealKnown", fn := fun _ => fun
  | [] => { results := [.lit (.bool false)], args := [] }
  | _ => none }
def SealKnownWrongFalsely : Prop := sealKnownRow.holds Try.pinned (OpenSpec.ofChange sealKnownWrong)

/-- 'souterrainkeep.SealShort': WHATEVER THE INPUT: true; the input reads as it did. -/
def sealShortSpec : ChangeSpec := { name := "sealShort", fn := fun _ => fun
  | [d1, d2, d3, d4] => { results := [.lit (.bool true)], args := [d1, d2, d3, d4] }
  | _ => none }
def sealShortRow : OpenClaim := { program := "ytfdbnkbnfappfaa", sum := "d9d36132688580dd848072e0f252e7f087add9ad986366e96df818f104ddb164", func := "souterrain/souterrainkeep.SealShort", spec := "sealShort", inPlace := ["internal/abi.NoEscape", "internal/bytealg.MakeNoZero", "math/bits.Add64"], unfollowed := true, recurses := true, apart := false }
def SealShortSaid : Prop := sealShortRow.holds Try.pinned (OpenSpec.ofChange sealShortSpec)

/-- ITS FALSE NEIGHBOUR: 'it returns false'. Refute it at one input. -/
def sealShortWrong : ChangeSpec := { name := "sealShort", fn := fun _ => fun
  | [d1, d2, d3, d4] => { results := [.lit (.bool false)], args := [d1, d2, d3, d4] }
  | _ => none }
def SealShortWrongFalsely : Prop := sealShortRow.holds Try.pinned (OpenSpec.ofChange sealShortWrong)

/-- 'souterrainkeep.SealBack': WHATEVER THE INPUT: true; the input reads as it did. -/
def sealBackSpec : ChangeSpec := { name := "sealBack", fn := fun _ => fun
  | [d1, d2, d3, d4, d5] => { results := [.lit (.bool true)], args := [d1, d2, d3, d4, d5] }
  | _ => none }
def sealBackRow : OpenClaim := { program := "ytfdbnkbnfappfaa", sum := "d9d36132688580dd848072e0f252e7f087add9ad986366e96df818f104ddb164", func := "souterrain/souterrainkeep.SealBack", spec := "sealBack", inPlace := ["internal/abi.NoEscape", "internal/bytealg.MakeNoZero", "math/bits.Add64"], unfollowed := true, recurses := true, apart := false }
def SealBackSaid : Prop := sealBackRow.holds Try.pinned (OpenSpec.ofChange sealBackSpec)

/-- ITS FALSE NEIGHBOUR: 'it returns false'. Refute it at one input. -/
def sealBackWrong : ChangeSpec := { name := "sealBack", fn := fun _ => fun
  | [d1, d2, d3, d4, d5] => { results := [.lit (.bool false)], args := [d1, d2, d3, d4, d5] }
  | _ => none }
def SealBackWrongFalsely : Prop := sealBackRow.holds Try.pinned (OpenSpec.ofChange sealBackWrong)

/-- 'souterrainkeep.SealLong': WHATEVER THE INPUT: true; the input reads as it did. -/
def sealLongSpec : ChangeSpec := { name := "sealLong", fn := fun _ => fun
  | [d1, d2, d3, d4, d5] => { results := [.lit (.bool true)], args := [d1, d2, d3, d4, d5] }
  | _ => none }
def sealLongRow : OpenClaim := { program := "ytfdbnkbnfappfaa", sum := "d9d36132688580dd848072e0f252e7f087add9ad986366e96df818f104ddb164", func := "souterrain/souterrainkeep.SealLong", spec := "sealLong", inPlace := ["internal/abi.NoEscape", "internal/bytealg.MakeNoZero", "math/bits.Add64"], unfollowed := true, recurses := true, apart := false }
def SealLongSaid : Prop := sealLongRow.holds Try.pinned (OpenSpec.ofChange sealLongSpec)

/-- ITS FALSE NEIGHBOUR: 'it returns false'. Refute it at one input. -/
def sealLongWrong : ChangeSpec := { name := "sealLong", fn := fun _ => fun
  | [d1, d2, d3, d4, d5] => { results := [.lit (.bool false)], args := [d1, d2, d3, d4, d5] }
  | _ => none }
def SealLongWrongFalsely : Prop := sealLongRow.holds Try.pinned (OpenSpec.ofChange sealLongWrong)

/- THE SECOND FORM. 'bulk': how many values and letters a reading holds, each counted each time it is reached (what is shared counts as often as it is met; a slice's spare places count too). A statement '..UptoSaid' is the law's where the arguments, and the package variables that the reading takes, are together of bulk at most 1048576: NARROWER than '..Said'. Prove '..Said' where nothing that the law and all that it calls make is longer than what came in: it says more and counts as full. Else prove '..UptoSaid'. A law counts once. -/
mutual
def uptoBulk {H : Type} : DataW H → Nat
  | .lit (.string bytes) => bytes.length + 1
  | .lit _ => 1
  | .nil => 1
  | .ptr d => uptoBulk d + 1
  | .slice elems spare => uptoBulkAll elems + uptoBulkAll spare + 1
  | .agg parts => uptoBulkAll parts + 1
  | .iface _ d => uptoBulk d + 1
  | .map entries => uptoBulkEntries entries + 1
  | .held _ => 1
def uptoBulkAll {H : Type} : List (DataW H) → Nat
  | [] => 0
  | d :: r => uptoBulk d + uptoBulkAll r
def uptoBulkEntries {H : Type} : List (Lit × DataW H) → Nat
  | [] => 0
  | x :: r => uptoBulkEntry x + uptoBulkEntries r
def uptoBulkEntry {H : Type} : Lit × DataW H → Nat
  | (.string bytes, d) => bytes.length + uptoBulk d + 1
  | (_, d) => uptoBulk d + 1
 end
def uptoSmall : (H : Type) → List (DataW H) → Bool := fun _ ds => decide (uptoBulkAll ds ≤ 1048576)
def OpenSpec.upto (s : _root_.Go.ChangeSpec) : _root_.Go.OpenSpec := { _root_.Go.OpenSpec.ofChange s with cond := some uptoSmall }

/-- 'souterrainkeep.ChachaQuarter', WHERE WHAT IT READS IS OF BULK AT MOST 1048576: true; the input reads as it did. -/
def chachaQuarterUptoRow : OpenClaim := { program := "ytfdbnkbnfappfaa", sum := "d9d36132688580dd848072e0f252e7f087add9ad986366e96df818f104ddb164", func := "souterrain/souterrainkeep.ChachaQuarter", spec := "chachaQuarter", apart := false, narrowed := true }
def ChachaQuarterUptoSaid : Prop := chachaQuarterUptoRow.holds Try.pinned (OpenSpec.upto chachaQuarterSpec)

/-- 'souterrainkeep.ChachaKnown', WHERE WHAT IT READS IS OF BULK AT MOST 1048576: true; the input reads as it did. -/
def chachaKnownUptoRow : OpenClaim := { program := "ytfdbnkbnfappfaa", sum := "d9d36132688580dd848072e0f252e7f087add9ad986366e96df818f104ddb164", func := "souterrain/souterrainkeep.ChachaKnown", spec := "chachaKnown", unfollowed := true, recurses := true, apart := false, narrowed := true }
def ChachaKnownUptoSaid : Prop := chachaKnownUptoRow.holds Try.pinned (OpenSpec.upto chachaKnownSpec)

/-- 'souterrainkeep.ChachaTwice', WHERE WHAT IT READS IS OF BULK AT MOST 1048576: true; the input reads as it did. -/
def chachaTwiceUptoRow : OpenClaim := { program := "ytfdbnkbnfappfaa", sum := "d9d36132688580dd848072e0f252e7f087add9ad986366e96df818f104ddb164", func := "souterrain/souterrainkeep.ChachaTwice", spec := "chachaTwice", inPlace := ["internal/abi.NoEscape", "internal/bytealg.MakeNoZero"], unfollowed := true, recurses := true, apart := false, narrowed := true }
def ChachaTwiceUptoSaid : Prop := chachaTwiceUptoRow.holds Try.pinned (OpenSpec.upto chachaTwiceSpec)

/-- 'souterrainkeep.ChachaSplits', WHERE WHAT IT READS IS OF BULK AT MOST 1048576: true; the input reads as it did. -/
def chachaSplitsUptoRow : OpenClaim := { program := "ytfdbnkbnfappfaa", sum := "d9d36132688580dd848072e0f252e7f087add9ad986366e96df818f104ddb164", func := "souterrain/souterrainkeep.ChachaSplits", spec := "chachaSplits", inPlace := ["internal/abi.NoEscape", "internal/bytealg.MakeNoZero"], unfollowed := true, recurses := true, apart := false, narrowed := true }
def ChachaSplitsUptoSaid : Prop := chachaSplitsUptoRow.holds Try.pinned (OpenSpec.upto chachaSplitsSpec)

/-- 'souterrainkeep.PolyAdds', WHERE WHAT IT READS IS OF BULK AT MOST 1048576: true; the input reads as it did. -/
def polyAddsUptoRow : OpenClaim := { program := "ytfdbnkbnfappfaa", sum := "d9d36132688580dd848072e0f252e7f087add9ad986366e96df818f104ddb164", func := "souterrain/souterrainkeep.PolyAdds", spec := "polyAdds", inPlace := ["internal/abi.NoEscape", "internal/bytealg.MakeNoZero", "math/bits.Add64"], apart := false, narrowed := true }
def PolyAddsUptoSaid : Prop := polyAddsUptoRow.holds Try.pinned (OpenSpec.upto polyAddsSpec)

/-- 'souterrainkeep.PolyKnown', WHERE WHAT IT READS IS OF BULK AT MOST 1048576: true; the input reads as it did. -/
def polyKnownUptoRow : OpenClaim := { program := "ytfdbnkbnfappfaa", sum := "d9d36132688580dd848072e0f252e7f087add9ad986366e96df818f104ddb164", func := "souterrain/souterrainkeep.PolyKnown", spec := "polyKnown", inPlace := ["internal/abi.NoEscape", "internal/bytealg.MakeNoZero", "math/bits.Add64"], apart := false, narrowed := true }
def PolyKnownUptoSaid : Prop := polyKnownUptoRow.holds Try.pinned (OpenSpec.upto polyKnownSpec)

/-- 'souterrainkeep.PolyBits', WHERE WHAT IT READS IS OF BULK AT MOST 1048576: true; the input reads as it did. -/
def polyBitsUptoRow : OpenClaim := { program := "ytfdbnkbnfappfaa", sum := "d9d36132688580dd848072e0f252e7f087add9ad986366e96df818f104ddb164", func := "souterrain/souterrainkeep.PolyBits", spec := "polyBits", inPlace := ["internal/abi.NoEscape", "internal/bytealg.MakeNoZero", "math/bits.Add64"], apart := false, narrowed := true }
def PolyBitsUptoSaid : Prop := polyBitsUptoRow.holds Try.pinned (OpenSpec.upto polyBitsSpec)

/-- 'souterrainkeep.SealKnown', WHERE WHAT IT READS IS OF BULK AT MOST 1048576: true; the input reads as it did. -/
def sealKnownUptoRow : OpenClaim := { program := "ytfdbnkbnfappfaa", sum := "d9d36132688580dd848072e0f252e7f087add9ad986366e96df818f104ddb164", func := "souterrain/souterrainkeep.SealKnown", spec := "sealKnown", inPlace := ["internal/abi.NoEscape", "internal/bytealg.MakeNoZero", "math/bits.Add64"], unfollowed := true, recurses := true, apart := false, narrowed := true }
def SealKnownUptoSaid : Prop := sealKnownUptoRow.holds Try.pinned (OpenSpec.upto sealKnownSpec)

/-- 'souterrainkeep.SealShort', WHERE WHAT IT READS IS OF BULK AT MOST 1048576: true; the input reads as it did. -/
def sealShortUptoRow : OpenClaim := { program := "ytfdbnkbnfappfaa", sum := "d9d36132688580dd848072e0f252e7f087add9ad986366e96df818f104ddb164", func := "souterrain/souterrainkeep.SealShort", spec := "sealShort", inPlace := ["internal/abi.NoEscape", "internal/bytealg.MakeNoZero", "math/bits.Add64"], unfollowed := true, recurses := true, apart := false, narrowed := true }
def SealShortUptoSaid : Prop := sealShortUptoRow.holds Try.pinned (OpenSpec.upto sealShortSpec)

/-- 'souterrainkeep.SealBack', WHERE WHAT IT READS IS OF BULK AT MOST 1048576: true; the input reads as it did. -/
def sealBackUptoRow : OpenClaim := { program := "ytfdbnkbnfappfaa", sum := "d9d36132688580dd848072e0f252e7f087add9ad986366e96df818f104ddb164", func := "souterrain/souterrainkeep.SealBack", spec := "sealBack", inPlace := ["internal/abi.NoEscape", "internal/bytealg.MakeNoZero", "math/bits.Add64"], unfollowed := true, recurses := true, apart := false, narrowed := true }
def SealBackUptoSaid : Prop := sealBackUptoRow.holds Try.pinned (OpenSpec.upto sealBackSpec)

/-- 'souterrainkeep.SealLong', WHERE WHAT IT READS IS OF BULK AT MOST 1048576: true; the input reads as it did. -/
def sealLongUptoRow : OpenClaim := { program := "ytfdbnkbnfappfaa", sum := "d9d36132688580dd848072e0f252e7f087add9ad986366e96df818f104ddb164", func := "souterrain/souterrainkeep.SealLong", spec := "sealLong", inPlace := ["internal/abi.NoEscape", "internal/bytealg.MakeNoZero", "math/bits.Add64"], unfollowed := true, recurses := true, apart := false, narrowed := true }
def SealLongUptoSaid : Prop := sealLongUptoRow.holds Try.pinned (OpenSpec.upto sealLongSpec)

end Rows
end Go.Proofs.Ytfdbnkbnfappfaa
