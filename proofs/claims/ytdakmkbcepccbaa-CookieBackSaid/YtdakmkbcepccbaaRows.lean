/-
  No cell of these rows narrows 'for every input' (looked for: loops, veiled, ifaces, maps, wideKeys, modest, calm, conditions, laid).
  DERIVED. THE GIVEN ROWS OF THIS SEAT. 5 by the template 'for every input the law returns true; each argument reads behind the call as it read before'; 0 by the template 'total and deterministic' (their statements: YtdakmkbcepccbaaTotals.lean).
  GIVEN WITH THE SEED: the statements are not yours to turn. If you find one false, say at which input.
  Laid BY PROGRAM, IN A SANDBOX (cutbox-rows.mjs): the forced cells as the released guide's own fill.sh prints them over the translation 2ebebb23016f603a… (all of the seat's roots in one cut). By AI agents, Wed Nov 11 2026. No macro, syntax, notation, axiom, sorry.
-/
import Derived.Test.YtdakmkbcepccbaaChecked
import GoSem.Claim
import GoSem.ClaimJoined
import GoSem.ClaimMapViews
import Derived.JoinedTies
import Derived.KernelRfl
namespace Go.Proofs.Ytdakmkbcepccbaa
/- THE CELL 'sum', in the pinned program and in every row, IS THE sha256 OF THE DUMP (.gsa) THAT YtdakmkbcepccbaaProg.lean LOADS. Nothing in Lean hashes anything: it is a label: what it is worth is what the hold of that sum in a sandbox is worth. -/
noncomputable def Try.pinned : Pinned := { name := "ytdakmkbcepccbaa", sum := "2ebebb23016f603a7635e9254a102fd3ccda1c8a9217c7e8cc639e147f9b7f14", checked := Try.checked }
namespace Rows
def none {H : Type} : Left H := { results := [], args := [] }

/-- 'souterrainkeep.ShaPieces': WHATEVER THE INPUT: true; the input reads as it did. -/
def shaPiecesSpec : ChangeSpec := { name := "shaPieces", fn := fun _ => fun
  | [d] => { results := [.lit (.bool true)], args := [d] }
  | _ => none }
def shaPiecesRow : OpenClaim := { program := "ytdakmkbcepccbaa", sum := "2ebebb23016f603a7635e9254a102fd3ccda1c8a9217c7e8cc639e147f9b7f14", func := "souterrain/souterrainkeep.ShaPieces", spec := "shaPieces", inPlace := ["internal/abi.NoEscape", "internal/bytealg.MakeNoZero"], apart := false }
def ShaPiecesSaid : Prop := shaPiecesRow.holds Try.pinned (OpenSpec.ofChange shaPiecesSpec)

/-- ITS FALSE NEIGHBOUR: 'it returns false'. Refute it at one input. -/
def shaPiecesWrong : ChangeSpec := { name := "shaPieces", fn := fun _ => fun
  | [d] => { results := [.lit (.bool false)], args := [d] }
  | _ => none }
def ShaPiecesWrongFalsely : Prop := shaPiecesRow.holds Try.pinned (OpenSpec.ofChange shaPiecesWrong)

/-- 'souterrainkeep.KdfFirst': WHATEVER THE INPUT: true; the input reads as it did. -/
def kdfFirstSpec : ChangeSpec := { name := "kdfFirst", fn := fun _ => fun
  | [d1, d2, d3] => { results := [.lit (.bool true)], args := [d1, d2, d3] }
  | _ => none }
def kdfFirstRow : OpenClaim := { program := "ytdakmkbcepccbaa", sum := "2ebebb23016f603a7635e9254a102fd3ccda1c8a9217c7e8cc639e147f9b7f14", func := "souterrain/souterrainkeep.KdfFirst", spec := "kdfFirst", inPlace := ["internal/abi.NoEscape", "internal/bytealg.MakeNoZero"], unfollowed := true, recurses := true, apart := false }
def KdfFirstSaid : Prop := kdfFirstRow.holds Try.pinned (OpenSpec.ofChange kdfFirstSpec)

/-- ITS FALSE NEIGHBOUR: 'it returns false'. Refute it at one input. -/
def kdfFirstWrong : ChangeSpec := { name := "kdfFirst", fn := fun _ => fun
  | [d1, d2, d3] => { results := [.lit (.bool false)], args := [d1, d2, d3] }
  | _ => none }
def KdfFirstWrongFalsely : Prop := kdfFirstRow.holds Try.pinned (OpenSpec.ofChange kdfFirstWrong)

/-- 'souterrainkeep.CookieHolds': WHATEVER THE INPUT: true; the input reads as it did. -/
def cookieHoldsSpec : ChangeSpec := { name := "cookieHolds", fn := fun _ => fun
  | [d1, d2, d3, d4, d5] => { results := [.lit (.bool true)], args := [d1, d2, d3, d4, d5] }
  | _ => none }
def cookieHoldsRow : OpenClaim := { program := "ytdakmkbcepccbaa", sum := "2ebebb23016f603a7635e9254a102fd3ccda1c8a9217c7e8cc639e147f9b7f14", func := "souterrain/souterrainkeep.CookieHolds", spec := "cookieHolds", inPlace := ["internal/abi.NoEscape", "internal/bytealg.MakeNoZero"], apart := false }
def CookieHoldsSaid : Prop := cookieHoldsRow.holds Try.pinned (OpenSpec.ofChange cookieHoldsSpec)

/-- ITS FALSE NEIGHBOUR: 'it returns false'. Refute it at one input. -/
def cookieHoldsWrong : ChangeSpec := { name := "cookieHolds", fn := fun _ => fun
  | [d1, d2, d3, d4, d5] => { results := [.lit (.bool false)], args := [d1, d2, d3, d4, d5] }
  | _ => none }
def CookieHoldsWrongFalsely : Prop := cookieHoldsRow.holds Try.pinned (OpenSpec.ofChange cookieHoldsWrong)

/-- 'souterrainkeep.CookieProves': WHATEVER THE INPUT: true; the input reads as it did. -/
def cookieProvesSpec : ChangeSpec := { name := "cookieProves", fn := fun _ => fun
  | [d1, d2, d3] => { results := [.lit (.bool true)], args := [d1, d2, d3] }
  | _ => none }
def cookieProvesRow : OpenClaim := { program := "ytdakmkbcepccbaa", sum := "2ebebb23016f603a7635e9254a102fd3ccda1c8a9217c7e8cc639e147f9b7f14", func := "souterrain/souterrainkeep.CookieProves", spec := "cookieProves", inPlace := ["internal/abi.NoEscape", "internal/bytealg.MakeNoZero"], apart := false }
def CookieProvesSaid : Prop := cookieProvesRow.holds Try.pinned (OpenSpec.ofChange cookieProvesSpec)

/-- ITS FALSE NEIGHBOUR: 'it returns false'. Refute it at one input. -/
def cookieProvesWrong : ChangeSpec := { name := "cookieProves", fn := fun _ => fun
  | [d1, d2, d3] => { results := [.lit (.bool false)], args := [d1, d2, d3] }
  | _ => none }
def CookieProvesWrongFalsely : Prop := cookieProvesRow.holds Try.pinned (OpenSpec.ofChange cookieProvesWrong)

/-- 'souterrainkeep.CookieBack': WHATEVER THE INPUT: true; the input reads as it did. -/
def cookieBackSpec : ChangeSpec := { name := "cookieBack", fn := fun _ => fun
  | [d1, d2, d3, d4] => { results := [.lit (.bool true)], args := [d1, d2, d3, d4] }
  | _ => none }
def cookieBackRow : OpenClaim := { program := "ytdakmkbcepccbaa", sum := "2ebebb23016f603a7635e9254a102fd3ccda1c8a9217c7e8cc639e147f9b7f14", func := "souterrain/souterrainkeep.CookieBack", spec := "cookieBack", inPlace := ["internal/abi.NoEscape", "internal/bytealg.MakeNoZero", "math/bits.Add64"], unfollowed := true, recurses := true, apart := false }
def CookieBackSaid : Prop := cookieBackRow.holds Try.pinned (OpenSpec.ofChange cookieBackSpec)

/-- ITS FALSE NEIGHBOUR: 'it returns false'. Refute it at one input. -/
def cookieBackWrong : ChangeSpec := { name := "cookieBack", fn := fun _ => fun
  | [d1, d2, d3, d4] => { results := [.lit (.bool false)], args := [d1, d2, d3, d4] }
  | _ => none }
def CookieBackWrongFalsely : Prop := cookieBackRow.holds Try.pinned (OpenSpec.ofChange cookieBackWrong)

/- THE SECOND FORM. 'bulk': how many values and letters a reading holds, each counted each time it is reached (what is shared counts as often as it is met; a slice's spare places count too). A statement '..UptoSaid' is the law's where the arguments, and the package variables that the reading takes, are together of bulk at most 1048576: NARROWER than '..Said'. Prove '..Said' where nothing that the law and all that it calls make is longer than what came in: it says more and counts as full. Else prove '..UptoSaid'. A law counts once. -/
mutual
def uptoBulk {H : Type} : DataW H → Nat
  | .lit (.string bytes) => bytes.length + 1
  | .lit _ => 1
  | .nil => 1
  | .ptr d => uptoBulk d + 1
  | .slice elems spare => uptoBulkAll elems + uptoBulkAll spare + 1
  | .agg parts => uptoBulkAll parts + 1
  | .iface _ d => uptoBulk d + 1
  | .map entries => uptoBulkEntries entries + 1
  | .held _ => 1
def uptoBulkAll {H : Type} : List (DataW H) → Nat
  | [] => 0
  | d :: r => uptoBulk d + uptoBulkAll r
def uptoBulkEntries {H : Type} : List (Lit × DataW H) → Nat
  | [] => 0
  | x :: r => uptoBulkEntry x + uptoBulkEntries r
def uptoBulkEntry {H : Type} : Lit × DataW H → Nat
  | (.string bytes, d) => bytes.length + uptoBulk d + 1
  | (_, d) => uptoBulk d + 1
 end
def uptoSmall : (H : Type) → List (DataW H) → Bool := fun _ ds => decide (uptoBulkAll ds ≤ 1048576)
def OpenSpec.upto (s : _root_.Go.ChangeSpec) : _root_.Go.OpenSpec := { _root_.Go.OpenSpec.ofChange s with cond := some uptoSmall }

/-- 'souterrainkeep.ShaPieces', WHERE WHAT IT READS IS OF BULK AT MOST 1048576: true; the input reads as it did. -/
def shaPiecesUptoRow : OpenClaim := { program := "ytdakmkbcepccbaa", sum := "2ebebb23016f603a7635e9254a102fd3ccda1c8a9217c7e8cc639e147f9b7f14", func := "souterrain/souterrainkeep.ShaPieces", spec := "shaPieces", inPlace := ["internal/abi.NoEscape", "internal/bytealg.MakeNoZero"], apart := false, narrowed := true }
def ShaPiecesUptoSaid : Prop := shaPiecesUptoRow.holds Try.pinned (OpenSpec.upto shaPiecesSpec)

/-- 'souterrainkeep.KdfFirst', WHERE WHAT IT READS IS OF BULK AT MOST 1048576: true; the input reads as it did. -/
def kdfFirstUptoRow : OpenClaim := { program := "ytdakmkbcepccbaa", sum := "2ebebb23016f603a7635e9254a102fd3ccda1c8a9217c7e8cc639e147f9b7f14", func := "souterrain/souterrainkeep.KdfFirst", spec := "kdfFirst", inPlace := ["internal/abi.NoEscape", "internal/bytealg.MakeNoZero"], unfollowed := true, recurses := true, apart := false, narrowed := true }
def KdfFirstUptoSaid : Prop := kdfFirstUptoRow.holds Try.pinned (OpenSpec.upto kdfFirstSpec)

/-- 'souterrainkeep.CookieHolds', WHERE WHAT IT READS IS OF BULK AT MOST 1048576: true; the input reads as it did. -/
def cookieHoldsUptoRow : OpenClaim := { program := "ytdakmkbcepccbaa", sum := "2ebebb23016f603a7635e9254a102fd3ccda1c8a9217c7e8cc639e147f9b7f14", func := "souterrain/souterrainkeep.CookieHolds", spec := "cookieHolds", inPlace := ["internal/abi.NoEscape", "internal/bytealg.MakeNoZero"], apart := false, narrowed := true }
def CookieHoldsUptoSaid : Prop := cookieHoldsUptoRow.holds Try.pinned (OpenSpec.upto cookieHoldsSpec)

/-- 'souterrainkeep.CookieProves', WHERE WHAT IT READS IS OF BULK AT MOST 1048576: true; the input reads as it did. -/
def cookieProvesUptoRow : OpenClaim := { program := "ytdakmkbcepccbaa", sum := "2ebebb23016f603a7635e9254a102fd3ccda1c8a9217c7e8cc639e147f9b7f14", func := "souterrain/souterrainkeep.CookieProves", spec := "cookieProves", inPlace := ["internal/abi.NoEscape", "internal/bytealg.MakeNoZero"], apart := false, narrowed := true }
def CookieProvesUptoSaid : Prop := cookieProvesUptoRow.holds Try.pinned (OpenSpec.upto cookieProvesSpec)

/-- 'souterrainkeep.CookieBack', WHERE WHAT IT READS IS OF BULK AT MOST 1048576: true; the input reads as it did. -/
def cookieBackUptoRow : OpenClaim := { program := "ytdakmkbcepccbaa", sum := "2ebebb23016f603a7635e9254a102fd3ccda1c8a9217c7e8cc639e147f9b7f14", func := "souterrain/souterrainkeep.CookieBack", spec := "cookieBack", inPlace := ["internal/abi.NoEscape", "internal/bytealg.MakeNoZero", "math/bits.Add64"], unfollowed := true, recurses := true, apart := false, narrowed := true }
def CookieBackUptoSaid : Prop := cookieBackUptoRow.holds Try.pinned (OpenSpec.upto cookieBackSpec)

end Rows
end Go.Proofs.Ytdakmkbcepccbaa
