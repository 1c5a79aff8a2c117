/-
  No cell of these rows narrows 'for every input' (looked for: loops, veiled, ifaces, maps, wideKeys, modest, calm, conditions, laid).
  DERIVED. THE GIVEN ROWS OF THIS SEAT. 6 by the template 'for every input the law returns true; each argument reads behind the call as it read before'; 0 by the template 'total and deterministic' (their statements: YtgmpmbagkbgdgaaTotals.lean).
  GIVEN WITH THE SEED: the statements are not yours to turn. If you find one false, say at which input.
  Laid BY PROGRAM, IN A SANDBOX (cutbox-rows.mjs): the forced cells as the released guide's own fill.sh prints them over the translation ec0e3e6d1c91611e… (all of the seat's roots in one cut). By AI agents, Wed Nov 11 2026. No macro, syntax, notation, axiom, sorry.
-/
import Derived.Test.YtgmpmbagkbgdgaaChecked
import GoSem.Claim
import GoSem.ClaimJoined
import GoSem.ClaimMapViews
import Derived.JoinedTies
import Derived.KernelRfl
namespace Go.Proofs.Ytgmpmbagkbgdgaa
/- THE CELL 'sum', in the pinned program and in every row, IS THE sha256 OF THE DUMP (.gsa) THAT YtgmpmbagkbgdgaaProg.lean LOADS. Nothing in Lean hashes anything: it is a label: what it is worth is what the hold of that sum in a sandbox is worth. -/
noncomputable def Try.pinned : Pinned := { name := "ytgmpmbagkbgdgaa", sum := "ec0e3e6d1c91611e373fc5b2bc15f8a98bd14c0e869a2268c635a034db9d42a3", checked := Try.checked }
namespace Rows
def none {H : Type} : Left H := { results := [], args := [] }

/-- 'souterrainkeep.ShaKnown': WHATEVER THE INPUT: true; the input reads as it did. -/
def shaKnownSpec : ChangeSpec := { name := "shaKnown", fn := fun _ => fun
  | [] => { results := [.lit (.bool true)], args := [] }
  | _ => none }
def shaKnownRow : OpenClaim := { program := "ytgmpmbagkbgdgaa", sum := "ec0e3e6d1c91611e373fc5b2bc15f8a98bd14c0e869a2268c635a034db9d42a3", func := "souterrain/souterrainkeep.ShaKnown", spec := "shaKnown", apart := false }
def ShaKnownSaid : Prop := shaKnownRow.holds Try.pinned (OpenSpec.ofChange shaKnownSpec)

/-- ITS FALSE NEIGHBOUR: 'it returns false'. Refute it at one input. -/
def shaKnownWrong : ChangeSpec := { name := "shaKnown", fn := fun _ => fun
  | [] => { results := [.lit (.bool false)], args := [] }
  | _ => none }
def ShaKnownWrongFalsely : Prop := shaKnownRow.holds Try.pinned (OpenSpec.ofChange shaKnownWrong)

/-- 'souterrainkeep.ShaPieces': WHATEVER THE INPUT: true; the input reads as it did. -/
def shaPiecesSpec : ChangeSpec := { name := "shaPieces", fn := fun _ => fun
  | [d] => { results := [.lit (.bool true)], args := [d] }
  | _ => none }
def shaPiecesRow : OpenClaim := { program := "ytgmpmbagkbgdgaa", sum := "ec0e3e6d1c91611e373fc5b2bc15f8a98bd14c0e869a2268c635a034db9d42a3", func := "souterrain/souterrainkeep.ShaPieces", spec := "shaPieces", inPlace := ["internal/abi.NoEscape", "internal/bytealg.MakeNoZero"], apart := false }
def ShaPiecesSaid : Prop := shaPiecesRow.holds Try.pinned (OpenSpec.ofChange shaPiecesSpec)

/-- ITS FALSE NEIGHBOUR: 'it returns false'. Refute it at one input. -/
def shaPiecesWrong : ChangeSpec := { name := "shaPieces", fn := fun _ => fun
  | [d] => { results := [.lit (.bool false)], args := [d] }
  | _ => none }
def ShaPiecesWrongFalsely : Prop := shaPiecesRow.holds Try.pinned (OpenSpec.ofChange shaPiecesWrong)

/-- 'souterrainkeep.BlakeKnown': WHATEVER THE INPUT: true; the input reads as it did. -/
def blakeKnownSpec : ChangeSpec := { name := "blakeKnown", fn := fun _ => fun
  | [d1, d2, d3] => { results := [.lit (.bool true)], args := [d1, d2, d3] }
  | _ => none }
def blakeKnownRow : OpenClaim := { program := "ytgmpmbagkbgdgaa", sum := "ec0e3e6d1c91611e373fc5b2bc15f8a98bd14c0e869a2268c635a034db9d42a3", func := "souterrain/souterrainkeep.BlakeKnown", spec := "blakeKnown", inPlace := ["internal/abi.NoEscape", "internal/bytealg.MakeNoZero"], apart := false }
def BlakeKnownSaid : Prop := blakeKnownRow.holds Try.pinned (OpenSpec.ofChange blakeKnownSpec)

/-- ITS FALSE NEIGHBOUR: 'it returns false'. Refute it at one input. -/
def blakeKnownWrong : ChangeSpec := { name := "blakeKnown", fn := fun _ => fun
  | [d1, d2, d3] => { results := [.lit (.bool false)], args := [d1, d2, d3] }
  | _ => none }
def BlakeKnownWrongFalsely : Prop := blakeKnownRow.holds Try.pinned (OpenSpec.ofChange blakeKnownWrong)

/-- 'souterrainkeep.KdfKnown': WHATEVER THE INPUT: true; the input reads as it did. -/
def kdfKnownSpec : ChangeSpec := { name := "kdfKnown", fn := fun _ => fun
  | [] => { results := [.lit (.bool true)], args := [] }
  | _ => none }
def kdfKnownRow : OpenClaim := { program := "ytgmpmbagkbgdgaa", sum := "ec0e3e6d1c91611e373fc5b2bc15f8a98bd14c0e869a2268c635a034db9d42a3", func := "souterrain/souterrainkeep.KdfKnown", spec := "kdfKnown", inPlace := ["internal/abi.NoEscape", "internal/bytealg.MakeNoZero"], unfollowed := true, recurses := true, apart := false }
def KdfKnownSaid : Prop := kdfKnownRow.holds Try.pinned (OpenSpec.ofChange kdfKnownSpec)

/-- ITS FALSE NEIGHBOUR: 'it returns false'. Refute it at one input. -/
def kdfKnownWrong : ChangeSpec := { name := "kdfKnown", fn := fun _ => fun
  | [] => { results := [.lit (.bool false)], args := [] }
  | _ => none }
def KdfKnownWrongFalsely : Prop := kdfKnownRow.holds Try.pinned (OpenSpec.ofChange kdfKnownWrong)

/-- 'souterrainkeep.KdfKeys': WHATEVER THE INPUT: true; the input reads as it did. -/
def kdfKeysSpec : ChangeSpec := { name := "kdfKeys", fn := fun _ => fun
  | [d1, d2, d3, d4] => { results := [.lit (.bool true)], args := [d1, d2, d3, d4] }
  | _ => none }
def kdfKeysRow : OpenClaim := { program := "ytgmpmbagkbgdgaa", sum := "ec0e3e6d1c91611e373fc5b2bc15f8a98bd14c0e869a2268c635a034db9d42a3", func := "souterrain/souterrainkeep.KdfKeys", spec := "kdfKeys", inPlace := ["internal/abi.NoEscape", "internal/bytealg.MakeNoZero"], unfollowed := true, recurses := true, apart := false }
def KdfKeysSaid : Prop := kdfKeysRow.holds Try.pinned (OpenSpec.ofChange kdfKeysSpec)

/-- ITS FALSE NEIGHBOUR: 'it returns false'. Refute it at one input. -/
def kdfKeysWrong : ChangeSpec := { name := "kdfKeys", fn := fun _ => fun
  | [d1, d2, d3, d4] => { results := [.lit (.bool false)], args := [d1, d2, d3, d4] }
  | _ => none }
def KdfKeysWrongFalsely : Prop := kdfKeysRow.holds Try.pinned (OpenSpec.ofChange kdfKeysWrong)

/-- 'souterrainkeep.KdfFirst': WHATEVER THE INPUT: true; the input reads as it did. -/
def kdfFirstSpec : ChangeSpec := { name := "kdfFirst", fn := fun _ => fun
  | [d1, d2, d3] => { results := [.lit (.bool true)], args := [d1, d2, d3] }
  | _ => none }
def kdfFirstRow : OpenClaim := { program := "ytgmpmbagkbgdgaa", sum := "ec0e3e6d1c91611e373fc5b2bc15f8a98bd14c0e869a2268c635a034db9d42a3", func := "souterrain/souterrainkeep.KdfFirst", spec := "kdfFirst", inPlace := ["internal/abi.NoEscape", "internal/bytealg.MakeNoZero"], unfollowed := true, recurses := true, apart := false }
def KdfFirstSaid : Prop := kdfFirstRow.holds Try.pinned (OpenSpec.ofChange kdfFirstSpec)

/-- ITS FALSE NEIGHBOUR: 'it returns false'. Refute it at one input. -/
def kdfFirstWrong : ChangeSpec := { name := "kdfFirst", fn := fun _ => fun
  | [d1, d2, d3] => { results := [.lit (.bool false)], args := [d1, d2, d3] }
  | _ => none }
def KdfFirstWrongFalsely : Prop := kdfFirstRow.holds Try.pinned (OpenSpec.ofChange kdfFirstWrong)

/- THE SECOND FORM. 'bulk': how many values and letters a reading holds, each counted each time it is reached (what is shared counts as often as it is met; a slice's spare places count too). A statement '..UptoSaid' is the law's where the arguments, and the package variables that the reading takes, are together of bulk at most 1048576: NARROWER than '..Said'. Prove '..Said' where nothing that the law and all that it calls make is longer than what came in: it says more and counts as full. Else prove '..UptoSaid'. A law counts once. -/
mutual
def uptoBulk {H : Type} : DataW H → Nat
  | .lit (.string bytes) => bytes.length + 1
  | .lit _ => 1
  | .nil => 1
  | .ptr d => uptoBulk d + 1
  | .slice elems spare => uptoBulkAll elems + uptoBulkAll spare + 1
  | .agg parts => uptoBulkAll parts + 1
  | .iface _ d => uptoBulk d + 1
  | .map entries => uptoBulkEntries entries + 1
  | .held _ => 1
def uptoBulkAll {H : Type} : List (DataW H) → Nat
  | [] => 0
  | d :: r => uptoBulk d + uptoBulkAll r
def uptoBulkEntries {H : Type} : List (Lit × DataW H) → Nat
  | [] => 0
  | x :: r => uptoBulkEntry x + uptoBulkEntries r
def uptoBulkEntry {H : Type} : Lit × DataW H → Nat
  | (.string bytes, d) => bytes.length + uptoBulk d + 1
  | (_, d) => uptoBulk d + 1
 end
def uptoSmall : (H : Type) → List (DataW H) → Bool := fun _ ds => decide (uptoBulkAll ds ≤ 1048576)
def OpenSpec.upto (s : _root_.Go.ChangeSpec) : _root_.Go.OpenSpec := { _root_.Go.OpenSpec.ofChange s with cond := some uptoSmall }

/-- 'souterrainkeep.ShaKnown', WHERE WHAT IT READS IS OF BULK AT MOST 1048576: true; the input reads as it did. -/
def shaKnownUptoRow : OpenClaim := { program := "ytgmpmbagkbgdgaa", sum := "ec0e3e6d1c91611e373fc5b2bc15f8a98bd14c0e869a2268c635a034db9d42a3", func := "souterrain/souterrainkeep.ShaKnown", spec := "shaKnown", apart := false, narrowed := true }
def ShaKnownUptoSaid : Prop := shaKnownUptoRow.holds Try.pinned (OpenSpec.upto shaKnownSpec)

/-- 'souterrainkeep.ShaPieces', WHERE WHAT IT READS IS OF BULK AT MOST 1048576: true; the input reads as it did. -/
def shaPiecesUptoRow : OpenClaim := { program := "ytgmpmbagkbgdgaa", sum := "ec0e3e6d1c91611e373fc5b2bc15f8a98bd14c0e869a2268c635a034db9d42a3", func := "souterrain/souterrainkeep.ShaPieces", spec := "shaPieces", inPlace := ["internal/abi.NoEscape", "internal/bytealg.MakeNoZero"], apart := false, narrowed := true }
def ShaPiecesUptoSaid : Prop := shaPiecesUptoRow.holds Try.pinned (OpenSpec.upto shaPiecesSpec)

/-- 'souterrainkeep.BlakeKnown', WHERE WHAT IT READS IS OF BULK AT MOST 1048576: true; the input reads as it did. -/
def blakeKnownUptoRow : OpenClaim := { program := "ytgmpmbagkbgdgaa", sum := "ec0e3e6d1c91611e373fc5b2bc15f8a98bd14c0e869a2268c635a034db9d42a3", func := "souterrain/souterrainkeep.BlakeKnown", spec := "blakeKnown", inPlace := ["internal/abi.NoEscape", "internal/bytealg.MakeNoZero"], apart := false, narrowed := true }
def BlakeKnownUptoSaid : Prop := blakeKnownUptoRow.holds Try.pinned (OpenSpec.upto blakeKnownSpec)

/-- 'souterrainkeep.KdfKnown', WHERE WHAT IT READS IS OF BULK AT MOST 1048576: true; the input reads as it did. -/
def kdfKnownUptoRow : OpenClaim := { program := "ytgmpmbagkbgdgaa", sum := "ec0e3e6d1c91611e373fc5b2bc15f8a98bd14c0e869a2268c635a034db9d42a3", func := "souterrain/souterrainkeep.KdfKnown", spec := "kdfKnown", inPlace := ["internal/abi.NoEscape", "internal/bytealg.MakeNoZero"], unfollowed := true, recurses := true, apart := false, narrowed := true }
def KdfKnownUptoSaid : Prop := kdfKnownUptoRow.holds Try.pinned (OpenSpec.upto kdfKnownSpec)

/-- 'souterrainkeep.KdfKeys', WHERE WHAT IT READS IS OF BULK AT MOST 1048576: true; the input reads as it did. -/
def kdfKeysUptoRow : OpenClaim := { program := "ytgmpmbagkbgdgaa", sum := "ec0e3e6d1c91611e373fc5b2bc15f8a98bd14c0e869a2268c635a034db9d42a3", func := "souterrain/souterrainkeep.KdfKeys", spec := "kdfKeys", inPlace := ["internal/abi.NoEscape", "internal/bytealg.MakeNoZero"], unfollowed := true, recurses := true, apart := false, narrowed := true }
def KdfKeysUptoSaid : Prop := kdfKeysUptoRow.holds Try.pinned (OpenSpec.upto kdfKeysSpec)

/-- 'souterrainkeep.KdfFirst', WHERE WHAT IT READS IS OF BULK AT MOST 1048576: true; the input reads as it did. -/
def kdfFirstUptoRow : OpenClaim := { program := "ytgmpmbagkbgdgaa", sum := "ec0e3e6d1c91611e373fc5b2bc15f8a98bd14c0e869a2268c635a034db9d42a3", func := "souterrain/souterrainkeep.KdfFirst", spec := "kdfFirst", inPlace := ["internal/abi.NoEscape", "internal/bytealg.MakeNoZero"], unfollowed := true, recurses := true, apart := false, narrowed := true }
def KdfFirstUptoSaid : Prop := kdfFirstUptoRow.holds Try.pinned (OpenSpec.upto kdfFirstSpec)

end Rows
end Go.Proofs.Ytgmpmbagkbgdgaa
