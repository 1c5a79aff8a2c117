/-
  No cell of these rows narrows 'for every input' (looked for: loops, veiled, ifaces, maps, wideKeys, modest, calm, conditions, laid).
  DERIVED. THE GIVEN ROWS OF THIS SEAT. 3 by the template 'for every input the law returns true; each argument reads behind the call as it read before'; 0 by the template 'total and deterministic' (their statements: YtmceahknglkhoaaTotals.lean).
  GIVEN WITH THE SEED: the statements are not yours to turn. If you find one false, say at which input.
  Laid BY PROGRAM, IN A SANDBOX (cutbox-rows.mjs): the forced cells as the released guide's own fill.sh prints them over the translation 708acd69bded2dee… (all of the seat's roots in one cut). By AI agents, Wed Nov 11 2026. No macro, syntax, notation, axiom, sorry.
-/
import Derived.Test.YtmceahknglkhoaaChecked
import GoSem.Claim
import GoSem.ClaimJoined
import GoSem.ClaimMapViews
import Derived.JoinedTies
import Derived.KernelRfl
namespace Go.Proofs.Ytmceahknglkhoaa
/- THE CELL 'sum', in the pinned program and in every row, IS THE sha256 OF THE DUMP (.gsa) THAT YtmceahknglkhoaaProg.lean LOADS. Nothing in Lean hashes anything: it is a label: what it is worth is what the hold of that sum in a sandbox is worth. -/
noncomputable def Try.pinned : Pinned := { name := "ytmceahknglkhoaa", sum := "708acd69bded2deeac454d903613da83ed1b006530de937f0a8f0959fc52189a", checked := Try.checked }
namespace Rows
def none {H : Type} : Left H := { results := [], args := [] }

/-- 'souterrainkeep.CurveTwice': WHATEVER THE INPUT: true; the input reads as it did. -/
def curveTwiceSpec : ChangeSpec := { name := "curveTwice", fn := fun _ => fun
  | [d1, d2, d3] => { results := [.lit (.bool true)], args := [d1, d2, d3] }
  | _ => none }
def curveTwiceRow : OpenClaim := { program := "ytmceahknglkhoaa", sum := "708acd69bded2deeac454d903613da83ed1b006530de937f0a8f0959fc52189a", func := "souterrain/souterrainkeep.CurveTwice", spec := "curveTwice", inPlace := ["internal/abi.NoEscape", "internal/bytealg.MakeNoZero", "math/bits.Add64"], apart := false }
def CurveTwiceSaid : Prop := curveTwiceRow.holds Try.pinned (OpenSpec.ofChange curveTwiceSpec)

/-- ITS FALSE NEIGHBOUR: 'it returns false'. Refute it at one input. -/
def curveTwiceWrong : ChangeSpec := { name := "curveTwice", fn := fun _ => fun
  | [d1, d2, d3] => { results := [.lit (.bool false)], args := [d1, d2, d3] }
  | _ => none }
def CurveTwiceWrongFalsely : Prop := curveTwiceRow.holds Try.pinned (OpenSpec.ofChange curveTwiceWrong)

/-- 'souterrainkeep.CurveBase': WHATEVER THE INPUT: true; the input reads as it did. -/
def curveBaseSpec : ChangeSpec := { name := "curveBase", fn := fun _ => fun
  | [d] => { results := [.lit (.bool true)], args := [d] }
  | _ => none }
def curveBaseRow : OpenClaim := { program := "ytmceahknglkhoaa", sum := "708acd69bded2deeac454d903613da83ed1b006530de937f0a8f0959fc52189a", func := "souterrain/souterrainkeep.CurveBase", spec := "curveBase", inPlace := ["internal/abi.NoEscape", "internal/bytealg.MakeNoZero", "math/bits.Add64"], apart := false }
def CurveBaseSaid : Prop := curveBaseRow.holds Try.pinned (OpenSpec.ofChange curveBaseSpec)

/-- ITS FALSE NEIGHBOUR: 'it returns false'. Refute it at one input. -/
def curveBaseWrong : ChangeSpec := { name := "curveBase", fn := fun _ => fun
  | [d] => { results := [.lit (.bool false)], args := [d] }
  | _ => none }
def CurveBaseWrongFalsely : Prop := curveBaseRow.holds Try.pinned (OpenSpec.ofChange curveBaseWrong)

/-- 'souterrainkeep.CurveClamped': WHATEVER THE INPUT: true; the input reads as it did. -/
def curveClampedSpec : ChangeSpec := { name := "curveClamped", fn := fun _ => fun
  | [d1, d2] => { results := [.lit (.bool true)], args := [d1, d2] }
  | _ => none }
def curveClampedRow : OpenClaim := { program := "ytmceahknglkhoaa", sum := "708acd69bded2deeac454d903613da83ed1b006530de937f0a8f0959fc52189a", func := "souterrain/souterrainkeep.CurveClamped", spec := "curveClamped", inPlace := ["internal/abi.NoEscape", "internal/bytealg.MakeNoZero", "math/bits.Add64"], unfollowed := true, recurses := true, apart := false }
def CurveClampedSaid : Prop := curveClampedRow.holds Try.pinned (OpenSpec.ofChange curveClampedSpec)

/-- ITS FALSE NEIGHBOUR: 'it returns false'. Refute it at one input. -/
def curveClampedWrong : ChangeSpec := { name := "curveClamped", fn := fun _ => fun
  | [d1, d2] => { results := [.lit (.bool false)], args := [d1, d2] }
  | _ => none }
def CurveClampedWrongFalsely : Prop := curveClampedRow.holds Try.pinned (OpenSpec.ofChange curveClampedWrong)

/- THE SECOND FORM. 'bulk': how many values and letters a reading holds, each counted each time it is reached (what is shared counts as often as it is met; a slice's spare places count too). A statement '..UptoSaid' is the law's where the arguments, and the package variables that the reading takes, are together of bulk at most 1048576: NARROWER than '..Said'. Prove '..Said' where nothing that the law and all that it calls make is longer than what came in: it says more and counts as full. Else prove '..UptoSaid'. A law counts once. -/
mutual
def uptoBulk {H : Type} : DataW H → Nat
  | .lit (.string bytes) => bytes.length + 1
  | .lit _ => 1
  | .nil => 1
  | .ptr d => uptoBulk d + 1
  | .slice elems spare => uptoBulkAll elems + uptoBulkAll spare + 1
  | .agg parts => uptoBulkAll parts + 1
  | .iface _ d => uptoBulk d + 1
  | .map entries => uptoBulkEntries entries + 1
  | .held _ => 1
def uptoBulkAll {H : Type} : List (DataW H) → Nat
  | [] => 0
  | d :: r => uptoBulk d + uptoBulkAll r
def uptoBulkEntries {H : Type} : List (Lit × DataW H) → Nat
  | [] => 0
  | x :: r => uptoBulkEntry x + uptoBulkEntries r
def uptoBulkEntry {H : Type} : Lit × DataW H → Nat
  | (.string bytes, d) => bytes.length + uptoBulk d + 1
  | (_, d) => uptoBulk d + 1
 end
def uptoSmall : (H : Type) → List (DataW H) → Bool := fun _ ds => decide (uptoBulkAll ds ≤ 1048576)
def OpenSpec.upto (s : _root_.Go.ChangeSpec) : _root_.Go.OpenSpec := { _root_.Go.OpenSpec.ofChange s with cond := some uptoSmall }

/-- 'souterrainkeep.CurveTwice', WHERE WHAT IT READS IS OF BULK AT MOST 1048576: true; the input reads as it did. -/
def curveTwiceUptoRow : OpenClaim := { program := "ytmceahknglkhoaa", sum := "708acd69bded2deeac454d903613da83ed1b006530de937f0a8f0959fc52189a", func := "souterrain/souterrainkeep.CurveTwice", spec := "curveTwice", inPlace := ["internal/abi.NoEscape", "internal/bytealg.MakeNoZero", "math/bits.Add64"], apart := false, narrowed := true }
def CurveTwiceUptoSaid : Prop := curveTwiceUptoRow.holds Try.pinned (OpenSpec.upto curveTwiceSpec)

/-- 'souterrainkeep.CurveBase', WHERE WHAT IT READS IS OF BULK AT MOST 1048576: true; the input reads as it did. -/
def curveBaseUptoRow : OpenClaim := { program := "ytmceahknglkhoaa", sum := "708acd69bded2deeac454d903613da83ed1b006530de937f0a8f0959fc52189a", func := "souterrain/souterrainkeep.CurveBase", spec := "curveBase", inPlace := ["internal/abi.NoEscape", "internal/bytealg.MakeNoZero", "math/bits.Add64"], apart := false, narrowed := true }
def CurveBaseUptoSaid : Prop := curveBaseUptoRow.holds Try.pinned (OpenSpec.upto curveBaseSpec)

/-- 'souterrainkeep.CurveClamped', WHERE WHAT IT READS IS OF BULK AT MOST 1048576: true; the input reads as it did. -/
def curveClampedUptoRow : OpenClaim := { program := "ytmceahknglkhoaa", sum := "708acd69bded2deeac454d903613da83ed1b006530de937f0a8f0959fc52189a", func := "souterrain/souterrainkeep.CurveClamped", spec := "curveClamped", inPlace := ["internal/abi.NoEscape", "internal/bytealg.MakeNoZero", "math/bits.Add64"], unfollowed := true, recurses := true, apart := false, narrowed := true }
def CurveClampedUptoSaid : Prop := curveClampedUptoRow.holds Try.pinned (OpenSpec.upto curveClampedSpec)

end Rows
end Go.Proofs.Ytmceahknglkhoaa
