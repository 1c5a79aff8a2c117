/-
  No cell of these rows narrows 'for every input' (looked for: loops, veiled, ifaces, maps, wideKeys, modest, calm, conditions, laid).
  DERIVED. THE GIVEN ROWS OF THIS SEAT. 4 by the template 'for every input the law returns true; each argument reads behind the call as it read before'; 0 by the template 'total and deterministic' (their statements: YtbkgfpebffmffaaTotals.lean).
  GIVEN WITH THE SEED: the statements are not yours to turn. If you find one false, say at which input.
  Laid BY PROGRAM, IN A SANDBOX (cutbox-rows.mjs): the forced cells as the released guide's own fill.sh prints them over the translation 8fbb0c26d3c4512d… (all of the seat's roots in one cut). By AI agents, Wed Nov 11 2026. No macro, syntax, notation, axiom, sorry.
-/
import Derived.Test.YtbkgfpebffmffaaChecked
import GoSem.Claim
import GoSem.ClaimJoined
import GoSem.ClaimMapViews
import Derived.JoinedTies
import Derived.KernelRfl
namespace Go.Proofs.Ytbkgfpebffmffaa
/- THE CELL 'sum', in the pinned program and in every row, IS THE sha256 OF THE DUMP (.gsa) THAT YtbkgfpebffmffaaProg.lean LOADS. Nothing in Lean hashes anything: it is a label: what it is worth is what the hold of that sum in a sandbox is worth. -/
noncomputable def Try.pinned : Pinned := { name := "ytbkgfpebffmffaa", sum := "8fbb0c26d3c4512df4d4fcff7b7862cdfb848f90166c34a470cf4f5ec0302e8e", checked := Try.checked }
namespace Rows
def none {H : Type} : Left H := { results := [], args := [] }

/-- 'souterrainkeep.PathsOver': WHATEVER THE INPUT: true; the input reads as it did. -/
def pathsOverSpec : ChangeSpec := { name := "pathsOver", fn := fun _ => fun
  | [d1, d2, d3, d4] => { results := [.lit (.bool true)], args := [d1, d2, d3, d4] }
  | _ => none }
def pathsOverRow : OpenClaim := { program := "ytbkgfpebffmffaa", sum := "8fbb0c26d3c4512df4d4fcff7b7862cdfb848f90166c34a470cf4f5ec0302e8e", func := "souterrain/souterrainkeep.PathsOver", spec := "pathsOver", unfollowed := true, recurses := true, apart := false }
def PathsOverSaid : Prop := pathsOverRow.holds Try.pinned (OpenSpec.ofChange pathsOverSpec)

/-- ITS FALSE NEIGHBOUR: 'it returns false'. Refute it at one input. -/
def pathsOverWrong : ChangeSpec := { name := "pathsOver", fn := fun _ => fun
  | [d1, d2, d3, d4] => { results := [.lit (.bool false)], args := [d1, d2, d3, d4] }
  | _ => none }
def PathsOverWrongFalsely : Prop := pathsOverRow.holds Try.pinned (OpenSpec.ofChange pathsOverWrong)

/-- 'souterrainkeep.PathsLongest': WHATEVER THE INPUT: true; the input reads as it did. -/
def pathsLongestSpec : ChangeSpec := { name := "pathsLongest", fn := fun _ => fun
  | [d1, d2] => { results := [.lit (.bool true)], args := [d1, d2] }
  | _ => none }
def pathsLongestRow : OpenClaim := { program := "ytbkgfpebffmffaa", sum := "8fbb0c26d3c4512df4d4fcff7b7862cdfb848f90166c34a470cf4f5ec0302e8e", func := "souterrain/souterrainkeep.PathsLongest", spec := "pathsLongest", unfollowed := true, recurses := true, apart := false }
def PathsLongestSaid : Prop := pathsLongestRow.holds Try.pinned (OpenSpec.ofChange pathsLongestSpec)

/-- ITS FALSE NEIGHBOUR: 'it returns false'. Refute it at one input. -/
def pathsLongestWrong : ChangeSpec := { name := "pathsLongest", fn := fun _ => fun
  | [d1, d2] => { results := [.lit (.bool false)], args := [d1, d2] }
  | _ => none }
def PathsLongestWrongFalsely : Prop := pathsLongestRow.holds Try.pinned (OpenSpec.ofChange pathsLongestWrong)

/-- 'souterrainkeep.PathsDrops': WHATEVER THE INPUT: true; the input reads as it did. -/
def pathsDropsSpec : ChangeSpec := { name := "pathsDrops", fn := fun _ => fun
  | [d1, d2, d3] => { results := [.lit (.bool true)], args := [d1, d2, d3] }
  | _ => none }
def pathsDropsRow : OpenClaim := { program := "ytbkgfpebffmffaa", sum := "8fbb0c26d3c4512df4d4fcff7b7862cdfb848f90166c34a470cf4f5ec0302e8e", func := "souterrain/souterrainkeep.PathsDrops", spec := "pathsDrops", unfollowed := true, recurses := true, apart := false }
def PathsDropsSaid : Prop := pathsDropsRow.holds Try.pinned (OpenSpec.ofChange pathsDropsSpec)

/-- ITS FALSE NEIGHBOUR: 'it returns false'. Refute it at one input. -/
def pathsDropsWrong : ChangeSpec := { name := "pathsDrops", fn := fun _ => fun
  | [d1, d2, d3] => { results := [.lit (.bool false)], args := [d1, d2, d3] }
  | _ => none }
def PathsDropsWrongFalsely : Prop := pathsDropsRow.holds Try.pinned (OpenSpec.ofChange pathsDropsWrong)

/-- 'souterrainkeep.OwnTables': WHATEVER THE INPUT: true; the input reads as it did. -/
def ownTablesSpec : ChangeSpec := { name := "ownTables", fn := fun _ => fun
  | [d1, d2, d3] => { results := [.lit (.bool true)], args := [d1, d2, d3] }
  | _ => none }
def ownTablesRow : OpenClaim := { program := "ytbkgfpebffmffaa", sum := "8fbb0c26d3c4512df4d4fcff7b7862cdfb848f90166c34a470cf4f5ec0302e8e", func := "souterrain/souterrainkeep.OwnTables", spec := "ownTables", inPlace := ["internal/abi.NoEscape", "internal/bytealg.MakeNoZero"], unfollowed := true, recurses := true, apart := false }
def OwnTablesSaid : Prop := ownTablesRow.holds Try.pinned (OpenSpec.ofChange ownTablesSpec)

/-- ITS FALSE NEIGHBOUR: 'it returns false'. Refute it at one input. -/
def ownTablesWrong : ChangeSpec := { name := "ownTables", fn := fun _ => fun
  | [d1, d2, d3] => { results := [.lit (.bool false)], args := [d1, d2, d3] }
  | _ => none }
def OwnTablesWrongFalsely : Prop := ownTablesRow.holds Try.pinned (OpenSpec.ofChange ownTablesWrong)

/- THE SECOND FORM. 'bulk': how many values and letters a reading holds, each counted each time it is reached (what is shared counts as often as it is met; a slice's spare places count too). A statement '..UptoSaid' is the law's where the arguments, and the package variables that the reading takes, are together of bulk at most 1048576: NARROWER than '..Said'. Prove '..Said' where nothing that the law and all that it calls make is longer than what came in: it says more and counts as full. Else prove '..UptoSaid'. A law counts once. -/
mutual
def uptoBulk {H : Type} : DataW H → Nat
  | .lit (.string bytes) => bytes.length + 1
  | .lit _ => 1
  | .nil => 1
  | .ptr d => uptoBulk d + 1
  | .slice elems spare => uptoBulkAll elems + uptoBulkAll spare + 1
  | .agg parts => uptoBulkAll parts + 1
  | .iface _ d => uptoBulk d + 1
  | .map entries => uptoBulkEntries entries + 1
  | .held _ => 1
def uptoBulkAll {H : Type} : List (DataW H) → Nat
  | [] => 0
  | d :: r => uptoBulk d + uptoBulkAll r
def uptoBulkEntries {H : Type} : List (Lit × DataW H) → Nat
  | [] => 0
  | x :: r => uptoBulkEntry x + uptoBulkEntries r
def uptoBulkEntry {H : Type} : Lit × DataW H → Nat
  | (.string bytes, d) => bytes.length + uptoBulk d + 1
  | (_, d) => uptoBulk d + 1
 end
def uptoSmall : (H : Type) → List (DataW H) → Bool := fun _ ds => decide (uptoBulkAll ds ≤ 1048576)
def OpenSpec.upto (s : _root_.Go.ChangeSpec) : _root_.Go.OpenSpec := { _root_.Go.OpenSpec.ofChange s with cond := some uptoSmall }

/-- 'souterrainkeep.PathsOver', WHERE WHAT IT READS IS OF BULK AT MOST 1048576: true; the input reads as it did. -/
def pathsOverUptoRow : OpenClaim := { program := "ytbkgfpebffmffaa", sum := "8fbb0c26d3c4512df4d4fcff7b7862cdfb848f90166c34a470cf4f5ec0302e8e", func := "souterrain/souterrainkeep.PathsOver", spec := "pathsOver", unfollowed := true, recurses := true, apart := false, narrowed := true }
def PathsOverUptoSaid : Prop := pathsOverUptoRow.holds Try.pinned (OpenSpec.upto pathsOverSpec)

/-- 'souterrainkeep.PathsLongest', WHERE WHAT IT READS IS OF BULK AT MOST 1048576: true; the input reads as it did. -/
def pathsLongestUptoRow : OpenClaim := { program := "ytbkgfpebffmffaa", sum := "8fbb0c26d3c4512df4d4fcff7b7862cdfb848f90166c34a470cf4f5ec0302e8e", func := "souterrain/souterrainkeep.PathsLongest", spec := "pathsLongest", unfollowed := true, recurses := true, apart := false, narrowed := true }
def PathsLongestUptoSaid : Prop := pathsLongestUptoRow.holds Try.pinned (OpenSpec.upto pathsLongestSpec)

/-- 'souterrainkeep.PathsDrops', WHERE WHAT IT READS IS OF BULK AT MOST 1048576: true; the input reads as it did. -/
def pathsDropsUptoRow : OpenClaim := { program := "ytbkgfpebffmffaa", sum := "8fbb0c26d3c4512df4d4fcff7b7862cdfb848f90166c34a470cf4f5ec0302e8e", func := "souterrain/souterrainkeep.PathsDrops", spec := "pathsDrops", unfollowed := true, recurses := true, apart := false, narrowed := true }
def PathsDropsUptoSaid : Prop := pathsDropsUptoRow.holds Try.pinned (OpenSpec.upto pathsDropsSpec)

/-- 'souterrainkeep.OwnTables', WHERE WHAT IT READS IS OF BULK AT MOST 1048576: true; the input reads as it did. -/
def ownTablesUptoRow : OpenClaim := { program := "ytbkgfpebffmffaa", sum := "8fbb0c26d3c4512df4d4fcff7b7862cdfb848f90166c34a470cf4f5ec0302e8e", func := "souterrain/souterrainkeep.OwnTables", spec := "ownTables", inPlace := ["internal/abi.NoEscape", "internal/bytealg.MakeNoZero"], unfollowed := true, recurses := true, apart := false, narrowed := true }
def OwnTablesUptoSaid : Prop := ownTablesUptoRow.holds Try.pinned (OpenSpec.upto ownTablesSpec)

end Rows
end Go.Proofs.Ytbkgfpebffmffaa
