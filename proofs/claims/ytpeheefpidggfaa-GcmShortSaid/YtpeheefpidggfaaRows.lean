/-
  No cell of these rows narrows 'for every input' (looked for: loops, veiled, ifaces, maps, wideKeys, modest, calm, conditions, laid).
  DERIVED. THE GIVEN ROWS OF THIS SEAT. 9 by the template 'for every input the law returns true; each argument reads behind the call as it read before'; 0 by the template 'total and deterministic' (their statements: YtpeheefpidggfaaTotals.lean).
  GIVEN WITH THE SEED: the statements are not yours to turn. If you find one false, say at which input.
  Laid BY PROGRAM, IN A SANDBOX (cutbox-rows.mjs): the forced cells as the released guide's own fill.sh prints them over the translation 622d3bc2355f953a… (all of the seat's roots in one cut). By AI agents, Wed Nov 11 2026. No macro, syntax, notation, axiom, sorry.
-/
import Derived.Test.YtpeheefpidggfaaChecked
import GoSem.Claim
import GoSem.ClaimJoined
import GoSem.ClaimMapViews
import Derived.JoinedTies
import Derived.KernelRfl
namespace Go.Proofs.Ytpeheefpidggfaa
/- THE CELL 'sum', in the pinned program and in every row, IS THE sha256 OF THE DUMP (.gsa) THAT YtpeheefpidggfaaProg.lean LOADS. Nothing in Lean hashes anything: it is a label: what it is worth is what the hold of that sum in a sandbox is worth. -/
noncomputable def Try.pinned : Pinned := { name := "ytpeheefpidggfaa", sum := "622d3bc2355f953a03949ae6962a6e51f6375f1284db3a66908e956c0c2bcfea", checked := Try.checked }
namespace Rows
def none {H : Type} : Left H := { results := [], args := [] }

/-- 'souterrainkeep.AesKeys': WHATEVER THE INPUT: true; the input reads as it did. -/
def aesKeysSpec : ChangeSpec := { name := "aesKeys", fn := fun _ => fun
  | [d] => { results := [.lit (.bool true)], args := [d] }
  | _ => none }
def aesKeysRow : OpenClaim := { program := "ytpeheefpidggfaa", sum := "622d3bc2355f953a03949ae6962a6e51f6375f1284db3a66908e956c0c2bcfea", func := "souterrain/souterrainkeep.AesKeys", spec := "aesKeys", apart := false }
def AesKeysSaid : Prop := aesKeysRow.holds Try.pinned (OpenSpec.ofChange aesKeysSpec)

/-- ITS FALSE NEIGHBOUR: 'it returns false'. Refute it at one input. -/
def aesKeysWrong : ChangeSpec := { name := "aesKeys", fn := fun _ => fun
  | [d] => { results := [.lit (.bool false)], args := [d] }
  | _ => none }
def AesKeysWrongFalsely : Prop := aesKeysRow.holds Try.pinned (OpenSpec.ofChange aesKeysWrong)

/-- 'souterrainkeep.AesKnown': WHATEVER THE INPUT: true; the input reads as it did. -/
def aesKnownSpec : ChangeSpec := { name := "aesKnown", fn := fun _ => fun
  | [] => { results := [.lit (.bool true)], args := [] }
  | _ => none }
def aesKnownRow : OpenClaim := { program := "ytpeheefpidggfaa", sum := "622d3bc2355f953a03949ae6962a6e51f6375f1284db3a66908e956c0c2bcfea", func := "souterrain/souterrainkeep.AesKnown", spec := "aesKnown", unfollowed := true, recurses := true, apart := false }
def AesKnownSaid : Prop := aesKnownRow.holds Try.pinned (OpenSpec.ofChange aesKnownSpec)

/-- ITS FALSE NEIGHBOUR: 'it returns false'. Refute it at one input. -/
def aesKnownWrong : ChangeSpec := { name := "aesKnown", fn := fun _ => fun
  | [] => { results := [.lit (.bool false)], args := [] }
  | _ => none }
def AesKnownWrongFalsely : Prop := aesKnownRow.holds Try.pinned (OpenSpec.ofChange aesKnownWrong)

/-- 'souterrainkeep.AesBack': WHATEVER THE INPUT: true; the input reads as it did. -/
def aesBackSpec : ChangeSpec := { name := "aesBack", fn := fun _ => fun
  | [d1, d2, d3] => { results := [.lit (.bool true)], args := [d1, d2, d3] }
  | _ => none }
def aesBackRow : OpenClaim := { program := "ytpeheefpidggfaa", sum := "622d3bc2355f953a03949ae6962a6e51f6375f1284db3a66908e956c0c2bcfea", func := "souterrain/souterrainkeep.AesBack", spec := "aesBack", inPlace := ["internal/abi.NoEscape", "internal/bytealg.MakeNoZero"], unfollowed := true, recurses := true, apart := false }
def AesBackSaid : Prop := aesBackRow.holds Try.pinned (OpenSpec.ofChange aesBackSpec)

/-- ITS FALSE NEIGHBOUR: 'it returns false'. Refute it at one input. -/
def aesBackWrong : ChangeSpec := { name := "aesBack", fn := fun _ => fun
  | [d1, d2, d3] => { results := [.lit (.bool false)], args := [d1, d2, d3] }
  | _ => none }
def AesBackWrongFalsely : Prop := aesBackRow.holds Try.pinned (OpenSpec.ofChange aesBackWrong)

/-- 'souterrainkeep.GhashField': WHATEVER THE INPUT: true; the input reads as it did. -/
def ghashFieldSpec : ChangeSpec := { name := "ghashField", fn := fun _ => fun
  | [d1, d2, d3] => { results := [.lit (.bool true)], args := [d1, d2, d3] }
  | _ => none }
def ghashFieldRow : OpenClaim := { program := "ytpeheefpidggfaa", sum := "622d3bc2355f953a03949ae6962a6e51f6375f1284db3a66908e956c0c2bcfea", func := "souterrain/souterrainkeep.GhashField", spec := "ghashField", inPlace := ["internal/abi.NoEscape", "internal/bytealg.MakeNoZero"], apart := false }
def GhashFieldSaid : Prop := ghashFieldRow.holds Try.pinned (OpenSpec.ofChange ghashFieldSpec)

/-- ITS FALSE NEIGHBOUR: 'it returns false'. Refute it at one input. -/
def ghashFieldWrong : ChangeSpec := { name := "ghashField", fn := fun _ => fun
  | [d1, d2, d3] => { results := [.lit (.bool false)], args := [d1, d2, d3] }
  | _ => none }
def GhashFieldWrongFalsely : Prop := ghashFieldRow.holds Try.pinned (OpenSpec.ofChange ghashFieldWrong)

/-- 'souterrainkeep.GhashNought': WHATEVER THE INPUT: true; the input reads as it did. -/
def ghashNoughtSpec : ChangeSpec := { name := "ghashNought", fn := fun _ => fun
  | [d1, d2] => { results := [.lit (.bool true)], args := [d1, d2] }
  | _ => none }
def ghashNoughtRow : OpenClaim := { program := "ytpeheefpidggfaa", sum := "622d3bc2355f953a03949ae6962a6e51f6375f1284db3a66908e956c0c2bcfea", func := "souterrain/souterrainkeep.GhashNought", spec := "ghashNought", inPlace := ["internal/abi.NoEscape", "internal/bytealg.MakeNoZero"], apart := false }
def GhashNoughtSaid : Prop := ghashNoughtRow.holds Try.pinned (OpenSpec.ofChange ghashNoughtSpec)

/-- ITS FALSE NEIGHBOUR: 'it returns false'. Refute it at one input. -/
def ghashNoughtWrong : ChangeSpec := { name := "ghashNought", fn := fun _ => fun
  | [d1, d2] => { results := [.lit (.bool false)], args := [d1, d2] }
  | _ => none }
def GhashNoughtWrongFalsely : Prop := ghashNoughtRow.holds Try.pinned (OpenSpec.ofChange ghashNoughtWrong)

/-- 'souterrainkeep.GhashLinear': WHATEVER THE INPUT: true; the input reads as it did. -/
def ghashLinearSpec : ChangeSpec := { name := "ghashLinear", fn := fun _ => fun
  | [d1, d2, d3, d4, d5] => { results := [.lit (.bool true)], args := [d1, d2, d3, d4, d5] }
  | _ => none }
def ghashLinearRow : OpenClaim := { program := "ytpeheefpidggfaa", sum := "622d3bc2355f953a03949ae6962a6e51f6375f1284db3a66908e956c0c2bcfea", func := "souterrain/souterrainkeep.GhashLinear", spec := "ghashLinear", inPlace := ["internal/abi.NoEscape", "internal/bytealg.MakeNoZero"], unfollowed := true, recurses := true, apart := false }
def GhashLinearSaid : Prop := ghashLinearRow.holds Try.pinned (OpenSpec.ofChange ghashLinearSpec)

/-- ITS FALSE NEIGHBOUR: 'it returns false'. Refute it at one input. -/
def ghashLinearWrong : ChangeSpec := { name := "ghashLinear", fn := fun _ => fun
  | [d1, d2, d3, d4, d5] => { results := [.lit (.bool false)], args := [d1, d2, d3, d4, d5] }
  | _ => none }
def GhashLinearWrongFalsely : Prop := ghashLinearRow.holds Try.pinned (OpenSpec.ofChange ghashLinearWrong)

/-- 'souterrainkeep.GcmKnown': WHATEVER THE INPUT: true; the input reads as it did. -/
def gcmKnownSpec : ChangeSpec := { name := "gcmKnown", fn := fun _ => fun
  | [] => { results := [.lit (.bool true)], args := [] }
  | _ => none }
def gcmKnownRow : OpenClaim := { program := "ytpeheefpidggfaa", sum := "622d3bc2355f953a03949ae6962a6e51f6375f1284db3a66908e956c0c2bcfea", func := "souterrain/souterrainkeep.GcmKnown", spec := "gcmKnown", inPlace := ["internal/abi.NoEscape", "internal/bytealg.MakeNoZero"], unfollowed := true, recurses := true, apart := false }
def GcmKnownSaid : Prop := gcmKnownRow.holds Try.pinned (OpenSpec.ofChange gcmKnownSpec)

/-- ITS FALSE NEIGHBOUR: 'it returns false'. Refute it at one input. -/
def gcmKnownWrong : ChangeSpec := { name := "gcmKnown", fn := fun _ => fun
  | [] => { results := [.lit (.bool false)], args := [] }
  | _ => none }
def GcmKnownWrongFalsely : Prop := gcmKnownRow.holds Try.pinned (OpenSpec.ofChange gcmKnownWrong)

/-- 'souterrainkeep.GcmShort': WHATEVER THE INPUT: true; the input reads as it did. -/
def gcmShortSpec : ChangeSpec := { name := "gcmShort", fn := fun _ => fun
  | [d1, d2, d3, d4] => { results := [.lit (.bool true)], args := [d1, d2, d3, d4] }
  | _ => none }
def gcmShortRow : OpenClaim := { program := "ytpeheefpidggfaa", sum := "622d3bc2355f953a03949ae6962a6e51f6375f1284db3a66908e956c0c2bcfea", func := "souterrain/souterrainkeep.GcmShort", spec := "gcmShort", inPlace := ["internal/abi.NoEscape", "internal/bytealg.MakeNoZero"], unfollowed := true, recurses := true, apart := false }
def GcmShortSaid : Prop := gcmShortRow.holds Try.pinned (OpenSpec.ofChange gcmShortSpec)

/-- ITS FALSE NEIGHBOUR: 'it returns false'. Refute it at one input. -/
def gcmShortWrong : ChangeSpec := { name := "gcmShort", fn := fun _ => fun
  | [d1, d2, d3, d4] => { results := [.lit (.bool false)], args := [d1, d2, d3, d4] }
  | _ => none }
def GcmShortWrongFalsely : Prop := gcmShortRow.holds Try.pinned (OpenSpec.ofChange gcmShortWrong)

/-- 'souterrainkeep.GcmBack': WHATEVER THE INPUT: true; the input reads as it did. -/
def gcmBackSpec : ChangeSpec := { name := "gcmBack", fn := fun _ => fun
  | [d1, d2, d3, d4, d5] => { results := [.lit (.bool true)], args := [d1, d2, d3, d4, d5] }
  | _ => none }
def gcmBackRow : OpenClaim := { program := "ytpeheefpidggfaa", sum := "622d3bc2355f953a03949ae6962a6e51f6375f1284db3a66908e956c0c2bcfea", func := "souterrain/souterrainkeep.GcmBack", spec := "gcmBack", inPlace := ["internal/abi.NoEscape", "internal/bytealg.MakeNoZero"], unfollowed := true, recurses := true, apart := false }
def GcmBackSaid : Prop := gcmBackRow.holds Try.pinned (OpenSpec.ofChange gcmBackSpec)

/-- ITS FALSE NEIGHBOUR: 'it returns false'. Refute it at one input. -/
def gcmBackWrong : ChangeSpec := { name := "gcmBack", fn := fun _ => fun
  | [d1, d2, d3, d4, d5] => { results := [.lit (.bool false)], args := [d1, d2, d3, d4, d5] }
  | _ => none }
def GcmBackWrongFalsely : Prop := gcmBackRow.holds Try.pinned (OpenSpec.ofChange gcmBackWrong)

/- THE SECOND FORM. 'bulk': how many values and letters a reading holds, each counted each time it is reached (what is shared counts as often as it is met; a slice's spare places count too). A statement '..UptoSaid' is the law's where the arguments, and the package variables that the reading takes, are together of bulk at most 1048576: NARROWER than '..Said'. Prove '..Said' where nothing that the law and all that it calls make is longer than what came in: it says more and counts as full. Else prove '..UptoSaid'. A law counts once. -/
mutual
def uptoBulk {H : Type} : DataW H → Nat
  | .lit (.string bytes) => bytes.length + 1
  | .lit _ => 1
  | .nil => 1
  | .ptr d => uptoBulk d + 1
  | .slice elems spare => uptoBulkAll elems + uptoBulkAll spare + 1
  | .agg parts => uptoBulkAll parts + 1
  | .iface _ d => uptoBulk d + 1
  | .map entries => uptoBulkEntries entries + 1
  | .held _ => 1
def uptoBulkAll {H : Type} : List (DataW H) → Nat
  | [] => 0
  | d :: r => uptoBulk d + uptoBulkAll r
def uptoBulkEntries {H : Type} : List (Lit × DataW H) → Nat
  | [] => 0
  | x :: r => uptoBulkEntry x + uptoBulkEntries r
def uptoBulkEntry {H : Type} : Lit × DataW H → Nat
  | (.string bytes, d) => bytes.length + uptoBulk d + 1
  | (_, d) => uptoBulk d + 1
 end
def uptoSmall : (H : Type) → List (DataW H) → Bool := fun _ ds => decide (uptoBulkAll ds ≤ 1048576)
def OpenSpec.upto (s : _root_.Go.ChangeSpec) : _root_.Go.OpenSpec := { _root_.Go.OpenSpec.ofChange s with cond := some uptoSmall }

/-- 'souterrainkeep.AesKeys', WHERE WHAT IT READS IS OF BULK AT MOST 1048576: true; the input reads as it did. -/
def aesKeysUptoRow : OpenClaim := { program := "ytpeheefpidggfaa", sum := "622d3bc2355f953a03949ae6962a6e51f6375f1284db3a66908e956c0c2bcfea", func := "souterrain/souterrainkeep.AesKeys", spec := "aesKeys", apart := false, narrowed := true }
def AesKeysUptoSaid : Prop := aesKeysUptoRow.holds Try.pinned (OpenSpec.upto aesKeysSpec)

/-- 'souterrainkeep.AesKnown', WHERE WHAT IT READS IS OF BULK AT MOST 1048576: true; the input reads as it did. -/
def aesKnownUptoRow : OpenClaim := { program := "ytpeheefpidggfaa", sum := "622d3bc2355f953a03949ae6962a6e51f6375f1284db3a66908e956c0c2bcfea", func := "souterrain/souterrainkeep.AesKnown", spec := "aesKnown", unfollowed := true, recurses := true, apart := false, narrowed := true }
def AesKnownUptoSaid : Prop := aesKnownUptoRow.holds Try.pinned (OpenSpec.upto aesKnownSpec)

/-- 'souterrainkeep.AesBack', WHERE WHAT IT READS IS OF BULK AT MOST 1048576: true; the input reads as it did. -/
def aesBackUptoRow : OpenClaim := { program := "ytpeheefpidggfaa", sum := "622d3bc2355f953a03949ae6962a6e51f6375f1284db3a66908e956c0c2bcfea", func := "souterrain/souterrainkeep.AesBack", spec := "aesBack", inPlace := ["internal/abi.NoEscape", "internal/bytealg.MakeNoZero"], unfollowed := true, recurses := true, apart := false, narrowed := true }
def AesBackUptoSaid : Prop := aesBackUptoRow.holds Try.pinned (OpenSpec.upto aesBackSpec)

/-- 'souterrainkeep.GhashField', WHERE WHAT IT READS IS OF BULK AT MOST 1048576: true; the input reads as it did. -/
def ghashFieldUptoRow : OpenClaim := { program := "ytpeheefpidggfaa", sum := "622d3bc2355f953a03949ae6962a6e51f6375f1284db3a66908e956c0c2bcfea", func := "souterrain/souterrainkeep.GhashField", spec := "ghashField", inPlace := ["internal/abi.NoEscape", "internal/bytealg.MakeNoZero"], apart := false, narrowed := true }
def GhashFieldUptoSaid : Prop := ghashFieldUptoRow.holds Try.pinned (OpenSpec.upto ghashFieldSpec)

/-- 'souterrainkeep.GhashNought', WHERE WHAT IT READS IS OF BULK AT MOST 1048576: true; the input reads as it did. -/
def ghashNoughtUptoRow : OpenClaim := { program := "ytpeheefpidggfaa", sum := "622d3bc2355f953a03949ae6962a6e51f6375f1284db3a66908e956c0c2bcfea", func := "souterrain/souterrainkeep.GhashNought", spec := "ghashNought", inPlace := ["internal/abi.NoEscape", "internal/bytealg.MakeNoZero"], apart := false, narrowed := true }
def GhashNoughtUptoSaid : Prop := ghashNoughtUptoRow.holds Try.pinned (OpenSpec.upto ghashNoughtSpec)

/-- 'souterrainkeep.GhashLinear', WHERE WHAT IT READS IS OF BULK AT MOST 1048576: true; the input reads as it did. -/
def ghashLinearUptoRow : OpenClaim := { program := "ytpeheefpidggfaa", sum := "622d3bc2355f953a03949ae6962a6e51f6375f1284db3a66908e956c0c2bcfea", func := "souterrain/souterrainkeep.GhashLinear", spec := "ghashLinear", inPlace := ["internal/abi.NoEscape", "internal/bytealg.MakeNoZero"], unfollowed := true, recurses := true, apart := false, narrowed := true }
def GhashLinearUptoSaid : Prop := ghashLinearUptoRow.holds Try.pinned (OpenSpec.upto ghashLinearSpec)

/-- 'souterrainkeep.GcmKnown', WHERE WHAT IT READS IS OF BULK AT MOST 1048576: true; the input reads as it did. -/
def gcmKnownUptoRow : OpenClaim := { program := "ytpeheefpidggfaa", sum := "622d3bc2355f953a03949ae6962a6e51f6375f1284db3a66908e956c0c2bcfea", func := "souterrain/souterrainkeep.GcmKnown", spec := "gcmKnown", inPlace := ["internal/abi.NoEscape", "internal/bytealg.MakeNoZero"], unfollowed := true, recurses := true, apart := false, narrowed := true }
def GcmKnownUptoSaid : Prop := gcmKnownUptoRow.holds Try.pinned (OpenSpec.upto gcmKnownSpec)

/-- 'souterrainkeep.GcmShort', WHERE WHAT IT READS IS OF BULK AT MOST 1048576: true; the input reads as it did. -/
def gcmShortUptoRow : OpenClaim := { program := "ytpeheefpidggfaa", sum := "622d3bc2355f953a03949ae6962a6e51f6375f1284db3a66908e956c0c2bcfea", func := "souterrain/souterrainkeep.GcmShort", spec := "gcmShort", inPlace := ["internal/abi.NoEscape", "internal/bytealg.MakeNoZero"], unfollowed := true, recurses := true, apart := false, narrowed := true }
def GcmShortUptoSaid : Prop := gcmShortUptoRow.holds Try.pinned (OpenSpec.upto gcmShortSpec)

/-- 'souterrainkeep.GcmBack', WHERE WHAT IT READS IS OF BULK AT MOST 1048576: true; the input reads as it did. -/
def gcmBackUptoRow : OpenClaim := { program := "ytpeheefpidggfaa", sum := "622d3bc2355f953a03949ae6962a6e51f6375f1284db3a66908e956c0c2bcfea", func := "souterrain/souterrainkeep.GcmBack", spec := "gcmBack", inPlace := ["internal/abi.NoEscape", "internal/bytealg.MakeNoZero"], unfollowed := true, recurses := true, apart := false, narrowed := true }
def GcmBackUptoSaid : Prop := gcmBackUptoRow.holds Try.pinned (OpenSpec.upto gcmBackSpec)

end Rows
end Go.Proofs.Ytpeheefpidggfaa
