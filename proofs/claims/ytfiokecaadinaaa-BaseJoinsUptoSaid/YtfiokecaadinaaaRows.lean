/-
  No cell of these rows narrows 'for every input' (looked for: loops, veiled, ifaces, maps, wideKeys, modest, calm, conditions, laid).
  DERIVED. THE GIVEN ROWS OF THIS SEAT. 8 by the template 'for every input the law returns true; each argument reads behind the call as it read before'; 0 by the template 'total and deterministic' (their statements: YtfiokecaadinaaaTotals.lean).
  GIVEN WITH THE SEED: the statements are not yours to turn. If you find one false, say at which input.
  Laid BY PROGRAM, IN A SANDBOX (cutbox-rows.mjs): the forced cells as the released guide's own fill.sh prints them over the translation 0a0f994d129dd1fc… (all of the seat's roots in one cut). By AI agents, Wed Nov 11 2026. No macro, syntax, notation, axiom, sorry.
-/
import Derived.Test.YtfiokecaadinaaaChecked
import GoSem.Claim
import GoSem.ClaimJoined
import GoSem.ClaimMapViews
import Derived.JoinedTies
import Derived.KernelRfl
namespace Go.Proofs.Ytfiokecaadinaaa
/- THE CELL 'sum', in the pinned program and in every row, IS THE sha256 OF THE DUMP (.gsa) THAT YtfiokecaadinaaaProg.lean LOADS. Nothing in Lean hashes anything: it is a label: what it is worth is what the hold of that sum in a sandbox is worth. -/
noncomputable def Try.pinned : Pinned := { name := "ytfiokecaadinaaa", sum := "0a0f994d129dd1fce7813f0ce0f534df23e798a5dde9dedcfb5e63cfedcba307", checked := Try.checked }
namespace Rows
def none {H : Type} : Left H := { results := [], args := [] }

/-- 'souterrainkeep.HexJoins': WHATEVER THE INPUT: true; the input reads as it did. -/
def hexJoinsSpec : ChangeSpec := { name := "hexJoins", fn := fun _ => fun
  | [d1, d2] => { results := [.lit (.bool true)], args := [d1, d2] }
  | _ => none }
def hexJoinsRow : OpenClaim := { program := "ytfiokecaadinaaa", sum := "0a0f994d129dd1fce7813f0ce0f534df23e798a5dde9dedcfb5e63cfedcba307", func := "souterrain/souterrainkeep.HexJoins", spec := "hexJoins", apart := false }
def HexJoinsSaid : Prop := hexJoinsRow.holds Try.pinned (OpenSpec.ofChange hexJoinsSpec)

/-- ITS FALSE NEIGHBOUR: 'it returns false'. Refute it at one input. -/
def hexJoinsWrong : ChangeSpec := { name := "hexJoins", fn := fun _ => fun
  | [d1, d2] => { results := [.lit (.bool false)], args := [d1, d2] }
  | _ => none }
def HexJoinsWrongFalsely : Prop := hexJoinsRow.holds Try.pinned (OpenSpec.ofChange hexJoinsWrong)

/-- 'souterrainkeep.BaseJoins': WHATEVER THE INPUT: true; the input reads as it did. -/
def baseJoinsSpec : ChangeSpec := { name := "baseJoins", fn := fun _ => fun
  | [d1, d2] => { results := [.lit (.bool true)], args := [d1, d2] }
  | _ => none }
def baseJoinsRow : OpenClaim := { program := "ytfiokecaadinaaa", sum := "0a0f994d129dd1fce7813f0ce0f534df23e798a5dde9dedcfb5e63cfedcba307", func := "souterrain/souterrainkeep.BaseJoins", spec := "baseJoins", apart := false }
def BaseJoinsSaid : Prop := baseJoinsRow.holds Try.pinned (OpenSpec.ofChange baseJoinsSpec)

/-- ITS FALSE NEIGHBOUR: 'it returns false'. Refute it at one input. -/
def baseJoinsWrong : ChangeSpec := { name := "baseJoins", fn := fun _ => fun
  | [d1, d2] => { results := [.lit (.bool false)], args := [d1, d2] }
  | _ => none }
def BaseJoinsWrongFalsely : Prop := baseJoinsRow.holds Try.pinned (OpenSpec.ofChange baseJoinsWrong)

/-- 'souterrainkeep.HexBack': WHATEVER THE INPUT: true; the input reads as it did. -/
def hexBackSpec : ChangeSpec := { name := "hexBack", fn := fun _ => fun
  | [d1, d2] => { results := [.lit (.bool true)], args := [d1, d2] }
  | _ => none }
def hexBackRow : OpenClaim := { program := "ytfiokecaadinaaa", sum := "0a0f994d129dd1fce7813f0ce0f534df23e798a5dde9dedcfb5e63cfedcba307", func := "souterrain/souterrainkeep.HexBack", spec := "hexBack", inPlace := ["internal/bytealg.IndexByteString"], apart := false }
def HexBackSaid : Prop := hexBackRow.holds Try.pinned (OpenSpec.ofChange hexBackSpec)

/-- ITS FALSE NEIGHBOUR: 'it returns false'. Refute it at one input. -/
def hexBackWrong : ChangeSpec := { name := "hexBack", fn := fun _ => fun
  | [d1, d2] => { results := [.lit (.bool false)], args := [d1, d2] }
  | _ => none }
def HexBackWrongFalsely : Prop := hexBackRow.holds Try.pinned (OpenSpec.ofChange hexBackWrong)

/-- 'souterrainkeep.GaloisField': WHATEVER THE INPUT: true; the input reads as it did. -/
def galoisFieldSpec : ChangeSpec := { name := "galoisField", fn := fun _ => fun
  | [d1, d2, d3] => { results := [.lit (.bool true)], args := [d1, d2, d3] }
  | _ => none }
def galoisFieldRow : OpenClaim := { program := "ytfiokecaadinaaa", sum := "0a0f994d129dd1fce7813f0ce0f534df23e798a5dde9dedcfb5e63cfedcba307", func := "souterrain/souterrainkeep.GaloisField", spec := "galoisField", unfollowed := true, recurses := true, apart := false }
def GaloisFieldSaid : Prop := galoisFieldRow.holds Try.pinned (OpenSpec.ofChange galoisFieldSpec)

/-- ITS FALSE NEIGHBOUR: 'it returns false'. Refute it at one input. -/
def galoisFieldWrong : ChangeSpec := { name := "galoisField", fn := fun _ => fun
  | [d1, d2, d3] => { results := [.lit (.bool false)], args := [d1, d2, d3] }
  | _ => none }
def GaloisFieldWrongFalsely : Prop := galoisFieldRow.holds Try.pinned (OpenSpec.ofChange galoisFieldWrong)

/-- 'souterrainkeep.GaloisBack': WHATEVER THE INPUT: true; the input reads as it did. -/
def galoisBackSpec : ChangeSpec := { name := "galoisBack", fn := fun _ => fun
  | [d1, d2] => { results := [.lit (.bool true)], args := [d1, d2] }
  | _ => none }
def galoisBackRow : OpenClaim := { program := "ytfiokecaadinaaa", sum := "0a0f994d129dd1fce7813f0ce0f534df23e798a5dde9dedcfb5e63cfedcba307", func := "souterrain/souterrainkeep.GaloisBack", spec := "galoisBack", apart := false }
def GaloisBackSaid : Prop := galoisBackRow.holds Try.pinned (OpenSpec.ofChange galoisBackSpec)

/-- ITS FALSE NEIGHBOUR: 'it returns false'. Refute it at one input. -/
def galoisBackWrong : ChangeSpec := { name := "galoisBack", fn := fun _ => fun
  | [d1, d2] => { results := [.lit (.bool false)], args := [d1, d2] }
  | _ => none }
def GaloisBackWrongFalsely : Prop := galoisBackRow.holds Try.pinned (OpenSpec.ofChange galoisBackWrong)

/-- 'souterrainkeep.AesKeys': WHATEVER THE INPUT: true; the input reads as it did. -/
def aesKeysSpec : ChangeSpec := { name := "aesKeys", fn := fun _ => fun
  | [d] => { results := [.lit (.bool true)], args := [d] }
  | _ => none }
def aesKeysRow : OpenClaim := { program := "ytfiokecaadinaaa", sum := "0a0f994d129dd1fce7813f0ce0f534df23e798a5dde9dedcfb5e63cfedcba307", func := "souterrain/souterrainkeep.AesKeys", spec := "aesKeys", apart := false }
def AesKeysSaid : Prop := aesKeysRow.holds Try.pinned (OpenSpec.ofChange aesKeysSpec)

/-- ITS FALSE NEIGHBOUR: 'it returns false'. Refute it at one input. -/
def aesKeysWrong : ChangeSpec := { name := "aesKeys", fn := fun _ => fun
  | [d] => { results := [.lit (.bool false)], args := [d] }
  | _ => none }
def AesKeysWrongFalsely : Prop := aesKeysRow.holds Try.pinned (OpenSpec.ofChange aesKeysWrong)

/-- 'souterrainkeep.AesKnown': WHATEVER THE INPUT: true; the input reads as it did. -/
def aesKnownSpec : ChangeSpec := { name := "aesKnown", fn := fun _ => fun
  | [] => { results := [.lit (.bool true)], args := [] }
  | _ => none }
def aesKnownRow : OpenClaim := { program := "ytfiokecaadinaaa", sum := "0a0f994d129dd1fce7813f0ce0f534df23e798a5dde9dedcfb5e63cfedcba307", func := "souterrain/souterrainkeep.AesKnown", spec := "aesKnown", unfollowed := true, recurses := true, apart := false }
def AesKnownSaid : Prop := aesKnownRow.holds Try.pinned (OpenSpec.ofChange aesKnownSpec)

/-- ITS FALSE NEIGHBOUR: 'it returns false'. Refute it at one input. -/
def aesKnownWrong : ChangeSpec := { name := "aesKnown", fn := fun _ => fun
  | [] => { results := [.lit (.bool false)], args := [] }
  | _ => none }
def AesKnownWrongFalsely : Prop := aesKnownRow.holds Try.pinned (OpenSpec.ofChange aesKnownWrong)

/-- 'souterrainkeep.AesBack': WHATEVER THE INPUT: true; the input reads as it did. -/
def aesBackSpec : ChangeSpec := { name := "aesBack", fn := fun _ => fun
  | [d1, d2, d3] => { results := [.lit (.bool true)], args := [d1, d2, d3] }
  | _ => none }
def aesBackRow : OpenClaim := { program := "ytfiokecaadinaaa", sum := "0a0f994d129dd1fce7813f0ce0f534df23e798a5dde9dedcfb5e63cfedcba307", func := "souterrain/souterrainkeep.AesBack", spec := "aesBack", inPlace := ["internal/abi.NoEscape", "internal/bytealg.MakeNoZero"], unfollowed := true, recurses := true, apart := false }
def AesBackSaid : Prop := aesBackRow.holds Try.pinned (OpenSpec.ofChange aesBackSpec)

/-- ITS FALSE NEIGHBOUR: 'it returns false'. Refute it at one input. -/
def aesBackWrong : ChangeSpec := { name := "aesBack", fn := fun _ => fun
  | [d1, d2, d3] => { results := [.lit (.bool false)], args := [d1, d2, d3] }
  | _ => none }
def AesBackWrongFalsely : Prop := aesBackRow.holds Try.pinned (OpenSpec.ofChange aesBackWrong)

/- THE SECOND FORM. 'bulk': how many values and letters a reading holds, each counted each time it is reached (what is shared counts as often as it is met; a slice's spare places count too). A statement '..UptoSaid' is the law's where the arguments, and the package variables that the reading takes, are together of bulk at most 1048576: NARROWER than '..Said'. Prove '..Said' where nothing that the law and all that it calls make is longer than what came in: it says more and counts as full. Else prove '..UptoSaid'. A law counts once. -/
mutual
def uptoBulk {H : Type} : DataW H → Nat
  | .lit (.string bytes) => bytes.length + 1
  | .lit _ => 1
  | .nil => 1
  | .ptr d => uptoBulk d + 1
  | .slice elems spare => uptoBulkAll elems + uptoBulkAll spare + 1
  | .agg parts => uptoBulkAll parts + 1
  | .iface _ d => uptoBulk d + 1
  | .map entries => uptoBulkEntries entries + 1
  | .held _ => 1
def uptoBulkAll {H : Type} : List (DataW H) → Nat
  | [] => 0
  | d :: r => uptoBulk d + uptoBulkAll r
def uptoBulkEntries {H : Type} : List (Lit × DataW H) → Nat
  | [] => 0
  | x :: r => uptoBulkEntry x + uptoBulkEntries r
def uptoBulkEntry {H : Type} : Lit × DataW H → Nat
  | (.string bytes, d) => bytes.length + uptoBulk d + 1
  | (_, d) => uptoBulk d + 1
 end
def uptoSmall : (H : Type) → List (DataW H) → Bool := fun _ ds => decide (uptoBulkAll ds ≤ 1048576)
def OpenSpec.upto (s : _root_.Go.ChangeSpec) : _root_.Go.OpenSpec := { _root_.Go.OpenSpec.ofChange s with cond := some uptoSmall }

/-- 'souterrainkeep.HexJoins', WHERE WHAT IT READS IS OF BULK AT MOST 1048576: true; the input reads as it did. -/
def hexJoinsUptoRow : OpenClaim := { program := "ytfiokecaadinaaa", sum := "0a0f994d129dd1fce7813f0ce0f534df23e798a5dde9dedcfb5e63cfedcba307", func := "souterrain/souterrainkeep.HexJoins", spec := "hexJoins", apart := false, narrowed := true }
def HexJoinsUptoSaid : Prop := hexJoinsUptoRow.holds Try.pinned (OpenSpec.upto hexJoinsSpec)

/-- 'souterrainkeep.BaseJoins', WHERE WHAT IT READS IS OF BULK AT MOST 1048576: true; the input reads as it did. -/
def baseJoinsUptoRow : OpenClaim := { program := "ytfiokecaadinaaa", sum := "0a0f994d129dd1fce7813f0ce0f534df23e798a5dde9dedcfb5e63cfedcba307", func := "souterrain/souterrainkeep.BaseJoins", spec := "baseJoins", apart := false, narrowed := true }
def BaseJoinsUptoSaid : Prop := baseJoinsUptoRow.holds Try.pinned (OpenSpec.upto baseJoinsSpec)

/-- 'souterrainkeep.HexBack', WHERE WHAT IT READS IS OF BULK AT MOST 1048576: true; the input reads as it did. -/
def hexBackUptoRow : OpenClaim := { program := "ytfiokecaadinaaa", sum := "0a0f994d129dd1fce7813f0ce0f534df23e798a5dde9dedcfb5e63cfedcba307", func := "souterrain/souterrainkeep.HexBack", spec := "hexBack", inPlace := ["internal/bytealg.IndexByteString"], apart := false, narrowed := true }
def HexBackUptoSaid : Prop := hexBackUptoRow.holds Try.pinned (OpenSpec.upto hexBackSpec)

/-- 'souterrainkeep.GaloisField', WHERE WHAT IT READS IS OF BULK AT MOST 1048576: true; the input reads as it did. -/
def galoisFieldUptoRow : OpenClaim := { program := "ytfiokecaadinaaa", sum := "0a0f994d129dd1fce7813f0ce0f534df23e798a5dde9dedcfb5e63cfedcba307", func := "souterrain/souterrainkeep.GaloisField", spec := "galoisField", unfollowed := true, recurses := true, apart := false, narrowed := true }
def GaloisFieldUptoSaid : Prop := galoisFieldUptoRow.holds Try.pinned (OpenSpec.upto galoisFieldSpec)

/-- 'souterrainkeep.GaloisBack', WHERE WHAT IT READS IS OF BULK AT MOST 1048576: true; the input reads as it did. -/
def galoisBackUptoRow : OpenClaim := { program := "ytfiokecaadinaaa", sum := "0a0f994d129dd1fce7813f0ce0f534df23e798a5dde9dedcfb5e63cfedcba307", func := "souterrain/souterrainkeep.GaloisBack", spec := "galoisBack", apart := false, narrowed := true }
def GaloisBackUptoSaid : Prop := galoisBackUptoRow.holds Try.pinned (OpenSpec.upto galoisBackSpec)

/-- 'souterrainkeep.AesKeys', WHERE WHAT IT READS IS OF BULK AT MOST 1048576: true; the input reads as it did. -/
def aesKeysUptoRow : OpenClaim := { program := "ytfiokecaadinaaa", sum := "0a0f994d129dd1fce7813f0ce0f534df23e798a5dde9dedcfb5e63cfedcba307", func := "souterrain/souterrainkeep.AesKeys", spec := "aesKeys", apart := false, narrowed := true }
def AesKeysUptoSaid : Prop := aesKeysUptoRow.holds Try.pinned (OpenSpec.upto aesKeysSpec)

/-- 'souterrainkeep.AesKnown', WHERE WHAT IT READS IS OF BULK AT MOST 1048576: true; the input reads as it did. -/
def aesKnownUptoRow : OpenClaim := { program := "ytfiokecaadinaaa", sum := "0a0f994d129dd1fce7813f0ce0f534df23e798a5dde9dedcfb5e63cfedcba307", func := "souterrain/souterrainkeep.AesKnown", spec := "aesKnown", unfollowed := true, recurses := true, apart := false, narrowed := true }
def AesKnownUptoSaid : Prop := aesKnownUptoRow.holds Try.pinned (OpenSpec.upto aesKnownSpec)

/-- 'souterrainkeep.AesBack', WHERE WHAT IT READS IS OF BULK AT MOST 1048576: true; the input reads as it did. -/
def aesBackUptoRow : OpenClaim := { program := "ytfiokecaadinaaa", sum := "0a0f994d129dd1fce7813f0ce0f534df23e798a5dde9dedcfb5e63cfedcba307", func := "souterrain/souterrainkeep.AesBack", spec := "aesBack", inPlace := ["internal/abi.NoEscape", "internal/bytealg.MakeNoZero"], unfollowed := true, recurses := true, apart := false, narrowed := true }
def AesBackUptoSaid : Prop := aesBackUptoRow.holds Try.pinned (OpenSpec.upto aesBackSpec)

end Rows
end Go.Proofs.Ytfiokecaadinaaa
