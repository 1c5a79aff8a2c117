/-
  No cell of these rows narrows 'for every input' (looked for: loops, veiled, ifaces, maps, wideKeys, modest, calm, conditions, laid).
  DERIVED. THE GIVEN ROWS OF THIS SEAT. 9 by the template 'for every input the law returns true; each argument reads behind the call as it read before'; 0 by the template 'total and deterministic' (their statements: YtkikabihfldfkaaTotals.lean).
  GIVEN WITH THE SEED: the statements are not yours to turn. If you find one false, say at which input.
  Laid BY PROGRAM, IN A SANDBOX (cutbox-rows.mjs): the forced cells as the released guide's own fill.sh prints them over the translation 037f4db842eda107… (all of the seat's roots in one cut). By AI agents, Wed Nov 11 2026. No macro, syntax, notation, axiom, sorry.
-/
import Derived.Test.YtkikabihfldfkaaChecked
import GoSem.Claim
import GoSem.ClaimJoined
import GoSem.ClaimMapViews
import Derived.JoinedTies
import Derived.KernelRfl
namespace Go.Proofs.Ytkikabihfldfkaa
/- THE CELL 'sum', in the pinned program and in every row, IS THE sha256 OF THE DUMP (.gsa) THAT YtkikabihfldfkaaProg.lean LOADS. Nothing in Lean hashes anything: it is a label: what it is worth is what the hold of that sum in a sandbox is worth. -/
noncomputable def Try.pinned : Pinned := { name := "ytkikabihfldfkaa", sum := "037f4db842eda1079623464707a9b3924fd14f1389f590c845e8065b43467276", checked := Try.checked }
namespace Rows
def none {H : Type} : Left H := { results := [], args := [] }

/-- 'souterrainkeep.ElemTimes': WHATEVER THE INPUT: true; the input reads as it did. -/
def elemTimesSpec : ChangeSpec := { name := "elemTimes", fn := fun _ => fun
  | [d1, d2, d3] => { results := [.lit (.bool true)], args := [d1, d2, d3] }
  | _ => none }
def elemTimesRow : OpenClaim := { program := "ytkikabihfldfkaa", sum := "037f4db842eda1079623464707a9b3924fd14f1389f590c845e8065b43467276", func := "souterrain/souterrainkeep.ElemTimes", spec := "elemTimes", inPlace := ["internal/abi.NoEscape", "internal/bytealg.MakeNoZero", "math/bits.Add64"], unfollowed := true, recurses := true, apart := false }
def ElemTimesSaid : Prop := elemTimesRow.holds Try.pinned (OpenSpec.ofChange elemTimesSpec)

/-- ITS FALSE NEIGHBOUR: 'it returns false'. Refute it at one input. -/
def elemTimesWrong : ChangeSpec := { name := "elemTimes", fn := fun _ => fun
  | [d1, d2, d3] => { results := [.lit (.bool false)], args := [d1, d2, d3] }
  | _ => none }
def ElemTimesWrongFalsely : Prop := elemTimesRow.holds Try.pinned (OpenSpec.ofChange elemTimesWrong)

/-- 'souterrainkeep.ElemLeast': WHATEVER THE INPUT: true; the input reads as it did. -/
def elemLeastSpec : ChangeSpec := { name := "elemLeast", fn := fun _ => fun
  | [d] => { results := [.lit (.bool true)], args := [d] }
  | _ => none }
def elemLeastRow : OpenClaim := { program := "ytkikabihfldfkaa", sum := "037f4db842eda1079623464707a9b3924fd14f1389f590c845e8065b43467276", func := "souterrain/souterrainkeep.ElemLeast", spec := "elemLeast", inPlace := ["internal/abi.NoEscape", "internal/bytealg.MakeNoZero", "math/bits.Add64"], unfollowed := true, recurses := true, apart := false }
def ElemLeastSaid : Prop := elemLeastRow.holds Try.pinned (OpenSpec.ofChange elemLeastSpec)

/-- ITS FALSE NEIGHBOUR: 'it returns false'. Refute it at one input. -/
def elemLeastWrong : ChangeSpec := { name := "elemLeast", fn := fun _ => fun
  | [d] => { results := [.lit (.bool false)], args := [d] }
  | _ => none }
def ElemLeastWrongFalsely : Prop := elemLeastRow.holds Try.pinned (OpenSpec.ofChange elemLeastWrong)

/-- 'souterrainkeep.ElemPowers': WHATEVER THE INPUT: true; the input reads as it did. -/
def elemPowersSpec : ChangeSpec := { name := "elemPowers", fn := fun _ => fun
  | [d1, d2, d3, d4] => { results := [.lit (.bool true)], args := [d1, d2, d3, d4] }
  | _ => none }
def elemPowersRow : OpenClaim := { program := "ytkikabihfldfkaa", sum := "037f4db842eda1079623464707a9b3924fd14f1389f590c845e8065b43467276", func := "souterrain/souterrainkeep.ElemPowers", spec := "elemPowers", inPlace := ["internal/abi.NoEscape", "internal/bytealg.MakeNoZero", "math/bits.Add64"], unfollowed := true, recurses := true, apart := false }
def ElemPowersSaid : Prop := elemPowersRow.holds Try.pinned (OpenSpec.ofChange elemPowersSpec)

/-- ITS FALSE NEIGHBOUR: 'it returns false'. Refute it at one input. -/
def elemPowersWrong : ChangeSpec := { name := "elemPowers", fn := fun _ => fun
  | [d1, d2, d3, d4] => { results := [.lit (.bool false)], args := [d1, d2, d3, d4] }
  | _ => none }
def ElemPowersWrongFalsely : Prop := elemPowersRow.holds Try.pinned (OpenSpec.ofChange elemPowersWrong)

/-- 'souterrainkeep.ElemFermat': WHATEVER THE INPUT: true; the input reads as it did. -/
def elemFermatSpec : ChangeSpec := { name := "elemFermat", fn := fun _ => fun
  | [d] => { results := [.lit (.bool true)], args := [d] }
  | _ => none }
def elemFermatRow : OpenClaim := { program := "ytkikabihfldfkaa", sum := "037f4db842eda1079623464707a9b3924fd14f1389f590c845e8065b43467276", func := "souterrain/souterrainkeep.ElemFermat", spec := "elemFermat", inPlace := ["internal/abi.NoEscape", "internal/bytealg.MakeNoZero", "math/bits.Add64"], unfollowed := true, recurses := true, apart := false }
def ElemFermatSaid : Prop := elemFermatRow.holds Try.pinned (OpenSpec.ofChange elemFermatSpec)

/-- ITS FALSE NEIGHBOUR: 'it returns false'. Refute it at one input. -/
def elemFermatWrong : ChangeSpec := { name := "elemFermat", fn := fun _ => fun
  | [d] => { results := [.lit (.bool false)], args := [d] }
  | _ => none }
def ElemFermatWrongFalsely : Prop := elemFermatRow.holds Try.pinned (OpenSpec.ofChange elemFermatWrong)

/-- 'souterrainkeep.ElemAdds': WHATEVER THE INPUT: true; the input reads as it did. -/
def elemAddsSpec : ChangeSpec := { name := "elemAdds", fn := fun _ => fun
  | [d1, d2, d3] => { results := [.lit (.bool true)], args := [d1, d2, d3] }
  | _ => none }
def elemAddsRow : OpenClaim := { program := "ytkikabihfldfkaa", sum := "037f4db842eda1079623464707a9b3924fd14f1389f590c845e8065b43467276", func := "souterrain/souterrainkeep.ElemAdds", spec := "elemAdds", inPlace := ["internal/abi.NoEscape", "internal/bytealg.MakeNoZero", "math/bits.Add64"], unfollowed := true, recurses := true, apart := false }
def ElemAddsSaid : Prop := elemAddsRow.holds Try.pinned (OpenSpec.ofChange elemAddsSpec)

/-- ITS FALSE NEIGHBOUR: 'it returns false'. Refute it at one input. -/
def elemAddsWrong : ChangeSpec := { name := "elemAdds", fn := fun _ => fun
  | [d1, d2, d3] => { results := [.lit (.bool false)], args := [d1, d2, d3] }
  | _ => none }
def ElemAddsWrongFalsely : Prop := elemAddsRow.holds Try.pinned (OpenSpec.ofChange elemAddsWrong)

/-- 'souterrainkeep.ElemInverse': WHATEVER THE INPUT: true; the input reads as it did. -/
def elemInverseSpec : ChangeSpec := { name := "elemInverse", fn := fun _ => fun
  | [d1, d2] => { results := [.lit (.bool true)], args := [d1, d2] }
  | _ => none }
def elemInverseRow : OpenClaim := { program := "ytkikabihfldfkaa", sum := "037f4db842eda1079623464707a9b3924fd14f1389f590c845e8065b43467276", func := "souterrain/souterrainkeep.ElemInverse", spec := "elemInverse", inPlace := ["internal/abi.NoEscape", "internal/bytealg.MakeNoZero", "math/bits.Add64"], unfollowed := true, recurses := true, apart := false }
def ElemInverseSaid : Prop := elemInverseRow.holds Try.pinned (OpenSpec.ofChange elemInverseSpec)

/-- ITS FALSE NEIGHBOUR: 'it returns false'. Refute it at one input. -/
def elemInverseWrong : ChangeSpec := { name := "elemInverse", fn := fun _ => fun
  | [d1, d2] => { results := [.lit (.bool false)], args := [d1, d2] }
  | _ => none }
def ElemInverseWrongFalsely : Prop := elemInverseRow.holds Try.pinned (OpenSpec.ofChange elemInverseWrong)

/-- 'souterrainkeep.CurveTwice': WHATEVER THE INPUT: true; the input reads as it did. -/
def curveTwiceSpec : ChangeSpec := { name := "curveTwice", fn := fun _ => fun
  | [d1, d2, d3] => { results := [.lit (.bool true)], args := [d1, d2, d3] }
  | _ => none }
def curveTwiceRow : OpenClaim := { program := "ytkikabihfldfkaa", sum := "037f4db842eda1079623464707a9b3924fd14f1389f590c845e8065b43467276", func := "souterrain/souterrainkeep.CurveTwice", spec := "curveTwice", inPlace := ["internal/abi.NoEscape", "internal/bytealg.MakeNoZero", "math/bits.Add64"], apart := false }
def CurveTwiceSaid : Prop := curveTwiceRow.holds Try.pinned (OpenSpec.ofChange curveTwiceSpec)

/-- ITS FALSE NEIGHBOUR: 'it returns false'. Refute it at one input. -/
def curveTwiceWrong : ChangeSpec := { name := "curveTwice", fn := fun _ => fun
  | [d1, d2, d3] => { results := [.lit (.bool false)], args := [d1, d2, d3] }
  | _ => none }
def CurveTwiceWrongFalsely : Prop := curveTwiceRow.holds Try.pinned (OpenSpec.ofChange curveTwiceWrong)

/-- 'souterrainkeep.CurveBase': WHATEVER THE INPUT: true; the input reads as it did. -/
def curveBaseSpec : ChangeSpec := { name := "curveBase", fn := fun _ => fun
  | [d] => { results := [.lit (.bool true)], args := [d] }
  | _ => none }
def curveBaseRow : OpenClaim := { program := "ytkikabihfldfkaa", sum := "037f4db842eda1079623464707a9b3924fd14f1389f590c845e8065b43467276", func := "souterrain/souterrainkeep.CurveBase", spec := "curveBase", inPlace := ["internal/abi.NoEscape", "internal/bytealg.MakeNoZero", "math/bits.Add64"], apart := false }
def CurveBaseSaid : Prop := curveBaseRow.holds Try.pinned (OpenSpec.ofChange curveBaseSpec)

/-- ITS FALSE NEIGHBOUR: 'it returns false'. Refute it at one input. -/
def curveBaseWrong : ChangeSpec := { name := "curveBase", fn := fun _ => fun
  | [d] => { results := [.lit (.bool false)], args := [d] }
  | _ => none }
def CurveBaseWrongFalsely : Prop := curveBaseRow.holds Try.pinned (OpenSpec.ofChange curveBaseWrong)

/-- 'souterrainkeep.CurveClamped': WHATEVER THE INPUT: true; the input reads as it did. -/
def curveClampedSpec : ChangeSpec := { name := "curveClamped", fn := fun _ => fun
  | [d1, d2] => { results := [.lit (.bool true)], args := [d1, d2] }
  | _ => none }
def curveClampedRow : OpenClaim := { program := "ytkikabihfldfkaa", sum := "037f4db842eda1079623464707a9b3924fd14f1389f590c845e8065b43467276", func := "souterrain/souterrainkeep.CurveClamped", spec := "curveClamped", inPlace := ["internal/abi.NoEscape", "internal/bytealg.MakeNoZero", "math/bits.Add64"], unfollowed := true, recurses := true, apart := false }
def CurveClampedSaid : Prop := curveClampedRow.holds Try.pinned (OpenSpec.ofChange curveClampedSpec)

/-- ITS FALSE NEIGHBOUR: 'it returns false'. Refute it at one input. -/
def curveClampedWrong : ChangeSpec := { name := "curveClamped", fn := fun _ => fun
  | [d1, d2] => { results := [.lit (.bool false)], args := [d1, d2] }
  | _ => none }
def CurveClampedWrongFalsely : Prop := curveClampedRow.holds Try.pinned (OpenSpec.ofChange curveClampedWrong)

/- THE SECOND FORM. 'bulk': how many values and letters a reading holds, each counted each time it is reached (what is shared counts as often as it is met; a slice's spare places count too). A statement '..UptoSaid' is the law's where the arguments, and the package variables that the reading takes, are together of bulk at most 1048576: NARROWER than '..Said'. Prove '..Said' where nothing that the law and all that it calls make is longer than what came in: it says more and counts as full. Else prove '..UptoSaid'. A law counts once. -/
mutual
def uptoBulk {H : Type} : DataW H → Nat
  | .lit (.string bytes) => bytes.length + 1
  | .lit _ => 1
  | .nil => 1
  | .ptr d => uptoBulk d + 1
  | .slice elems spare => uptoBulkAll elems + uptoBulkAll spare + 1
  | .agg parts => uptoBulkAll parts + 1
  | .iface _ d => uptoBulk d + 1
  | .map entries => uptoBulkEntries entries + 1
  | .held _ => 1
def uptoBulkAll {H : Type} : List (DataW H) → Nat
  | [] => 0
  | d :: r => uptoBulk d + uptoBulkAll r
def uptoBulkEntries {H : Type} : List (Lit × DataW H) → Nat
  | [] => 0
  | x :: r => uptoBulkEntry x + uptoBulkEntries r
def uptoBulkEntry {H : Type} : Lit × DataW H → Nat
  | (.string bytes, d) => bytes.length + uptoBulk d + 1
  | (_, d) => uptoBulk d + 1
 end
def uptoSmall : (H : Type) → List (DataW H) → Bool := fun _ ds => decide (uptoBulkAll ds ≤ 1048576)
def OpenSpec.upto (s : _root_.Go.ChangeSpec) : _root_.Go.OpenSpec := { _root_.Go.OpenSpec.ofChange s with cond := some uptoSmall }

/-- 'souterrainkeep.ElemTimes', WHERE WHAT IT READS IS OF BULK AT MOST 1048576: true; the input reads as it did. -/
def elemTimesUptoRow : OpenClaim := { program := "ytkikabihfldfkaa", sum := "037f4db842eda1079623464707a9b3924fd14f1389f590c845e8065b43467276", func := "souterrain/souterrainkeep.ElemTimes", spec := "elemTimes", inPlace := ["internal/abi.NoEscape", "internal/bytealg.MakeNoZero", "math/bits.Add64"], unfollowed := true, recurses := true, apart := false, narrowed := true }
def ElemTimesUptoSaid : Prop := elemTimesUptoRow.holds Try.pinned (OpenSpec.upto elemTimesSpec)

/-- 'souterrainkeep.ElemLeast', WHERE WHAT IT READS IS OF BULK AT MOST 1048576: true; the input reads as it did. -/
def elemLeastUptoRow : OpenClaim := { program := "ytkikabihfldfkaa", sum := "037f4db842eda1079623464707a9b3924fd14f1389f590c845e8065b43467276", func := "souterrain/souterrainkeep.ElemLeast", spec := "elemLeast", inPlace := ["internal/abi.NoEscape", "internal/bytealg.MakeNoZero", "math/bits.Add64"], unfollowed := true, recurses := true, apart := false, narrowed := true }
def ElemLeastUptoSaid : Prop := elemLeastUptoRow.holds Try.pinned (OpenSpec.upto elemLeastSpec)

/-- 'souterrainkeep.ElemPowers', WHERE WHAT IT READS IS OF BULK AT MOST 1048576: true; the input reads as it did. -/
def elemPowersUptoRow : OpenClaim := { program := "ytkikabihfldfkaa", sum := "037f4db842eda1079623464707a9b3924fd14f1389f590c845e8065b43467276", func := "souterrain/souterrainkeep.ElemPowers", spec := "elemPowers", inPlace := ["internal/abi.NoEscape", "internal/bytealg.MakeNoZero", "math/bits.Add64"], unfollowed := true, recurses := true, apart := false, narrowed := true }
def ElemPowersUptoSaid : Prop := elemPowersUptoRow.holds Try.pinned (OpenSpec.upto elemPowersSpec)

/-- 'souterrainkeep.ElemFermat', WHERE WHAT IT READS IS OF BULK AT MOST 1048576: true; the input reads as it did. -/
def elemFermatUptoRow : OpenClaim := { program := "ytkikabihfldfkaa", sum := "037f4db842eda1079623464707a9b3924fd14f1389f590c845e8065b43467276", func := "souterrain/souterrainkeep.ElemFermat", spec := "elemFermat", inPlace := ["internal/abi.NoEscape", "internal/bytealg.MakeNoZero", "math/bits.Add64"], unfollowed := true, recurses := true, apart := false, narrowed := true }
def ElemFermatUptoSaid : Prop := elemFermatUptoRow.holds Try.pinned (OpenSpec.upto elemFermatSpec)

/-- 'souterrainkeep.ElemAdds', WHERE WHAT IT READS IS OF BULK AT MOST 1048576: true; the input reads as it did. -/
def elemAddsUptoRow : OpenClaim := { program := "ytkikabihfldfkaa", sum := "037f4db842eda1079623464707a9b3924fd14f1389f590c845e8065b43467276", func := "souterrain/souterrainkeep.ElemAdds", spec := "elemAdds", inPlace := ["internal/abi.NoEscape", "internal/bytealg.MakeNoZero", "math/bits.Add64"], unfollowed := true, recurses := true, apart := false, narrowed := true }
def ElemAddsUptoSaid : Prop := elemAddsUptoRow.holds Try.pinned (OpenSpec.upto elemAddsSpec)

/-- 'souterrainkeep.ElemInverse', WHERE WHAT IT READS IS OF BULK AT MOST 1048576: true; the input reads as it did. -/
def elemInverseUptoRow : OpenClaim := { program := "ytkikabihfldfkaa", sum := "037f4db842eda1079623464707a9b3924fd14f1389f590c845e8065b43467276", func := "souterrain/souterrainkeep.ElemInverse", spec := "elemInverse", inPlace := ["internal/abi.NoEscape", "internal/bytealg.MakeNoZero", "math/bits.Add64"], unfollowed := true, recurses := true, apart := false, narrowed := true }
def ElemInverseUptoSaid : Prop := elemInverseUptoRow.holds Try.pinned (OpenSpec.upto elemInverseSpec)

/-- 'souterrainkeep.CurveTwice', WHERE WHAT IT READS IS OF BULK AT MOST 1048576: true; the input reads as it did. -/
def curveTwiceUptoRow : OpenClaim := { program := "ytkikabihfldfkaa", sum := "037f4db842eda1079623464707a9b3924fd14f1389f590c845e8065b43467276", func := "souterrain/souterrainkeep.CurveTwice", spec := "curveTwice", inPlace := ["internal/abi.NoEscape", "internal/bytealg.MakeNoZero", "math/bits.Add64"], apart := false, narrowed := true }
def CurveTwiceUptoSaid : Prop := curveTwiceUptoRow.holds Try.pinned (OpenSpec.upto curveTwiceSpec)

/-- 'souterrainkeep.CurveBase', WHERE WHAT IT READS IS OF BULK AT MOST 1048576: true; the input reads as it did. -/
def curveBaseUptoRow : OpenClaim := { program := "ytkikabihfldfkaa", sum := "037f4db842eda1079623464707a9b3924fd14f1389f590c845e8065b43467276", func := "souterrain/souterrainkeep.CurveBase", spec := "curveBase", inPlace := ["internal/abi.NoEscape", "internal/bytealg.MakeNoZero", "math/bits.Add64"], apart := false, narrowed := true }
def CurveBaseUptoSaid : Prop := curveBaseUptoRow.holds Try.pinned (OpenSpec.upto curveBaseSpec)

/-- 'souterrainkeep.CurveClamped', WHERE WHAT IT READS IS OF BULK AT MOST 1048576: true; the input reads as it did. -/
def curveClampedUptoRow : OpenClaim := { program := "ytkikabihfldfkaa", sum := "037f4db842eda1079623464707a9b3924fd14f1389f590c845e8065b43467276", func := "souterrain/souterrainkeep.CurveClamped", spec := "curveClamped", inPlace := ["internal/abi.NoEscape", "internal/bytealg.MakeNoZero", "math/bits.Add64"], unfollowed := true, recurses := true, apart := false, narrowed := true }
def CurveClampedUptoSaid : Prop := curveClampedUptoRow.holds Try.pinned (OpenSpec.upto curveClampedSpec)

end Rows
end Go.Proofs.Ytkikabihfldfkaa
