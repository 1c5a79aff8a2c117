/-
  No cell of these rows narrows 'for every input' (looked for: loops, veiled, ifaces, maps, wideKeys, modest, calm, conditions, laid).
  DERIVED. THE GIVEN ROWS OF THIS SEAT. 11 by the template 'for every input the law returns true; each argument reads behind the call as it read before'; 0 by the template 'total and deterministic' (their statements: YtcimcagplodpeaaTotals.lean).
  GIVEN WITH THE SEED: the statements are not yours to turn. If you find one false, say at which input.
  Laid BY PROGRAM, IN A SANDBOX (cutbox-rows.mjs): the forced cells as the released guide's own fill.sh prints them over the translation dc70808710ccc268… (all of the seat's roots in one cut). By AI agents, Wed Nov 11 2026. No macro, syntax, notation, axiom, sorry.
-/
import Derived.Test.YtcimcagplodpeaaChecked
import GoSem.Claim
import GoSem.ClaimJoined
import GoSem.ClaimMapViews
import Derived.JoinedTies
import Derived.KernelRfl
namespace Go.Proofs.Ytcimcagplodpeaa
/- THE CELL 'sum', in the pinned program and in every row, IS THE sha256 OF THE DUMP (.gsa) THAT YtcimcagplodpeaaProg.lean LOADS. Nothing in Lean hashes anything: it is a label: what it is worth is what the hold of that sum in a sandbox is worth. -/
noncomputable def Try.pinned : Pinned := { name := "ytcimcagplodpeaa", sum := "dc70808710ccc26826ce5accd3b8d0f5562500274c8f5d83e253c17289570eec", checked := Try.checked }
namespace Rows
def none {H : Type} : Left H := { results := [], args := [] }

/-- 'souterrainkeep.WindowAll': WHATEVER THE INPUT: true; the input reads as it did. -/
def windowAllSpec : ChangeSpec := { name := "windowAll", fn := fun _ => fun
  | [d1, d2, d3] => { results := [.lit (.bool true)], args := [d1, d2, d3] }
  | _ => none }
def windowAllRow : OpenClaim := { program := "ytcimcagplodpeaa", sum := "dc70808710ccc26826ce5accd3b8d0f5562500274c8f5d83e253c17289570eec", func := "souterrain/souterrainkeep.WindowAll", spec := "windowAll", apart := false }
def WindowAllSaid : Prop := windowAllRow.holds Try.pinned (OpenSpec.ofChange windowAllSpec)

/-- ITS FALSE NEIGHBOUR: 'it returns false'. Refute it at one input. -/
def windowAllWrong : ChangeSpec := { name := "windowAll", fn := fun _ => fun
  | [d1, d2, d3] => { results := [.lit (.bool false)], args := [d1, d2, d3] }
  | _ => none }
def WindowAllWrongFalsely : Prop := windowAllRow.holds Try.pinned (OpenSpec.ofChange windowAllWrong)

/-- 'souterrainkeep.WindowOnce': WHATEVER THE INPUT: true; the input reads as it did. -/
def windowOnceSpec : ChangeSpec := { name := "windowOnce", fn := fun _ => fun
  | [d] => { results := [.lit (.bool true)], args := [d] }
  | _ => none }
def windowOnceRow : OpenClaim := { program := "ytcimcagplodpeaa", sum := "dc70808710ccc26826ce5accd3b8d0f5562500274c8f5d83e253c17289570eec", func := "souterrain/souterrainkeep.WindowOnce", spec := "windowOnce", apart := false }
def WindowOnceSaid : Prop := windowOnceRow.holds Try.pinned (OpenSpec.ofChange windowOnceSpec)

/-- ITS FALSE NEIGHBOUR: 'it returns false'. Refute it at one input. -/
def windowOnceWrong : ChangeSpec := { name := "windowOnce", fn := fun _ => fun
  | [d] => { results := [.lit (.bool false)], args := [d] }
  | _ => none }
def WindowOnceWrongFalsely : Prop := windowOnceRow.holds Try.pinned (OpenSpec.ofChange windowOnceWrong)

/-- 'souterrainkeep.WindowOld': WHATEVER THE INPUT: true; the input reads as it did. -/
def windowOldSpec : ChangeSpec := { name := "windowOld", fn := fun _ => fun
  | [d1, d2] => { results := [.lit (.bool true)], args := [d1, d2] }
  | _ => none }
def windowOldRow : OpenClaim := { program := "ytcimcagplodpeaa", sum := "dc70808710ccc26826ce5accd3b8d0f5562500274c8f5d83e253c17289570eec", func := "souterrain/souterrainkeep.WindowOld", spec := "windowOld", apart := false }
def WindowOldSaid : Prop := windowOldRow.holds Try.pinned (OpenSpec.ofChange windowOldSpec)

/-- ITS FALSE NEIGHBOUR: 'it returns false'. Refute it at one input. -/
def windowOldWrong : ChangeSpec := { name := "windowOld", fn := fun _ => fun
  | [d1, d2] => { results := [.lit (.bool false)], args := [d1, d2] }
  | _ => none }
def WindowOldWrongFalsely : Prop := windowOldRow.holds Try.pinned (OpenSpec.ofChange windowOldWrong)

/-- 'souterrainkeep.StampBack': WHATEVER THE INPUT: true; the input reads as it did. -/
def stampBackSpec : ChangeSpec := { name := "stampBack", fn := fun _ => fun
  | [d1, d2] => { results := [.lit (.bool true)], args := [d1, d2] }
  | _ => none }
def stampBackRow : OpenClaim := { program := "ytcimcagplodpeaa", sum := "dc70808710ccc26826ce5accd3b8d0f5562500274c8f5d83e253c17289570eec", func := "souterrain/souterrainkeep.StampBack", spec := "stampBack", apart := false }
def StampBackSaid : Prop := stampBackRow.holds Try.pinned (OpenSpec.ofChange stampBackSpec)

/-- ITS FALSE NEIGHBOUR: 'it returns false'. Refute it at one input. -/
def stampBackWrong : ChangeSpec := { name := "stampBack", fn := fun _ => fun
  | [d1, d2] => { results := [.lit (.bool false)], args := [d1, d2] }
  | _ => none }
def StampBackWrongFalsely : Prop := stampBackRow.holds Try.pinned (OpenSpec.ofChange stampBackWrong)

/-- 'souterrainkeep.StampOrder': WHATEVER THE INPUT: true; the input reads as it did. -/
def stampOrderSpec : ChangeSpec := { name := "stampOrder", fn := fun _ => fun
  | [d1, d2, d3] => { results := [.lit (.bool true)], args := [d1, d2, d3] }
  | _ => none }
def stampOrderRow : OpenClaim := { program := "ytcimcagplodpeaa", sum := "dc70808710ccc26826ce5accd3b8d0f5562500274c8f5d83e253c17289570eec", func := "souterrain/souterrainkeep.StampOrder", spec := "stampOrder", apart := false }
def StampOrderSaid : Prop := stampOrderRow.holds Try.pinned (OpenSpec.ofChange stampOrderSpec)

/-- ITS FALSE NEIGHBOUR: 'it returns false'. Refute it at one input. -/
def stampOrderWrong : ChangeSpec := { name := "stampOrder", fn := fun _ => fun
  | [d1, d2, d3] => { results := [.lit (.bool false)], args := [d1, d2, d3] }
  | _ => none }
def StampOrderWrongFalsely : Prop := stampOrderRow.holds Try.pinned (OpenSpec.ofChange stampOrderWrong)

/-- 'souterrainkeep.TimerAlive': WHATEVER THE INPUT: true; the input reads as it did. -/
def timerAliveSpec : ChangeSpec := { name := "timerAlive", fn := fun _ => fun
  | [d1, d2, d3] => { results := [.lit (.bool true)], args := [d1, d2, d3] }
  | _ => none }
def timerAliveRow : OpenClaim := { program := "ytcimcagplodpeaa", sum := "dc70808710ccc26826ce5accd3b8d0f5562500274c8f5d83e253c17289570eec", func := "souterrain/souterrainkeep.TimerAlive", spec := "timerAlive", apart := false }
def TimerAliveSaid : Prop := timerAliveRow.holds Try.pinned (OpenSpec.ofChange timerAliveSpec)

/-- ITS FALSE NEIGHBOUR: 'it returns false'. Refute it at one input. -/
def timerAliveWrong : ChangeSpec := { name := "timerAlive", fn := fun _ => fun
  | [d1, d2, d3] => { results := [.lit (.bool false)], args := [d1, d2, d3] }
  | _ => none }
def TimerAliveWrongFalsely : Prop := timerAliveRow.holds Try.pinned (OpenSpec.ofChange timerAliveWrong)

/-- 'souterrainkeep.TimerTries': WHATEVER THE INPUT: true; the input reads as it did. -/
def timerTriesSpec : ChangeSpec := { name := "timerTries", fn := fun _ => fun
  | [d] => { results := [.lit (.bool true)], args := [d] }
  | _ => none }
def timerTriesRow : OpenClaim := { program := "ytcimcagplodpeaa", sum := "dc70808710ccc26826ce5accd3b8d0f5562500274c8f5d83e253c17289570eec", func := "souterrain/souterrainkeep.TimerTries", spec := "timerTries", apart := false }
def TimerTriesSaid : Prop := timerTriesRow.holds Try.pinned (OpenSpec.ofChange timerTriesSpec)

/-- ITS FALSE NEIGHBOUR: 'it returns false'. Refute it at one input. -/
def timerTriesWrong : ChangeSpec := { name := "timerTries", fn := fun _ => fun
  | [d] => { results := [.lit (.bool false)], args := [d] }
  | _ => none }
def TimerTriesWrongFalsely : Prop := timerTriesRow.holds Try.pinned (OpenSpec.ofChange timerTriesWrong)

/-- 'souterrainkeep.TimerQuiet': WHATEVER THE INPUT: true; the input reads as it did. -/
def timerQuietSpec : ChangeSpec := { name := "timerQuiet", fn := fun _ => fun
  | [d1, d2, d3] => { results := [.lit (.bool true)], args := [d1, d2, d3] }
  | _ => none }
def timerQuietRow : OpenClaim := { program := "ytcimcagplodpeaa", sum := "dc70808710ccc26826ce5accd3b8d0f5562500274c8f5d83e253c17289570eec", func := "souterrain/souterrainkeep.TimerQuiet", spec := "timerQuiet", apart := false }
def TimerQuietSaid : Prop := timerQuietRow.holds Try.pinned (OpenSpec.ofChange timerQuietSpec)

/-- ITS FALSE NEIGHBOUR: 'it returns false'. Refute it at one input. -/
def timerQuietWrong : ChangeSpec := { name := "timerQuiet", fn := fun _ => fun
  | [d1, d2, d3] => { results := [.lit (.bool false)], args := [d1, d2, d3] }
  | _ => none }
def TimerQuietWrongFalsely : Prop := timerQuietRow.holds Try.pinned (OpenSpec.ofChange timerQuietWrong)

/-- 'souterrainkeep.BucketFair': WHATEVER THE INPUT: true; the input reads as it did. -/
def bucketFairSpec : ChangeSpec := { name := "bucketFair", fn := fun _ => fun
  | [d1, d2] => { results := [.lit (.bool true)], args := [d1, d2] }
  | _ => none }
def bucketFairRow : OpenClaim := { program := "ytcimcagplodpeaa", sum := "dc70808710ccc26826ce5accd3b8d0f5562500274c8f5d83e253c17289570eec", func := "souterrain/souterrainkeep.BucketFair", spec := "bucketFair", unfollowed := true, recurses := true, apart := false }
def BucketFairSaid : Prop := bucketFairRow.holds Try.pinned (OpenSpec.ofChange bucketFairSpec)

/-- ITS FALSE NEIGHBOUR: 'it returns false'. Refute it at one input. -/
def bucketFairWrong : ChangeSpec := { name := "bucketFair", fn := fun _ => fun
  | [d1, d2] => { results := [.lit (.bool false)], args := [d1, d2] }
  | _ => none }
def BucketFairWrongFalsely : Prop := bucketFairRow.holds Try.pinned (OpenSpec.ofChange bucketFairWrong)

/-- 'souterrainkeep.BucketBurst': WHATEVER THE INPUT: true; the input reads as it did. -/
def bucketBurstSpec : ChangeSpec := { name := "bucketBurst", fn := fun _ => fun
  | [d1, d2] => { results := [.lit (.bool true)], args := [d1, d2] }
  | _ => none }
def bucketBurstRow : OpenClaim := { program := "ytcimcagplodpeaa", sum := "dc70808710ccc26826ce5accd3b8d0f5562500274c8f5d83e253c17289570eec", func := "souterrain/souterrainkeep.BucketBurst", spec := "bucketBurst", unfollowed := true, recurses := true, apart := false }
def BucketBurstSaid : Prop := bucketBurstRow.holds Try.pinned (OpenSpec.ofChange bucketBurstSpec)

/-- ITS FALSE NEIGHBOUR: 'it returns false'. Refute it at one input. -/
def bucketBurstWrong : ChangeSpec := { name := "bucketBurst", fn := fun _ => fun
  | [d1, d2] => { results := [.lit (.bool false)], args := [d1, d2] }
  | _ => none }
def BucketBurstWrongFalsely : Prop := bucketBurstRow.holds Try.pinned (OpenSpec.ofChange bucketBurstWrong)

/-- 'souterrainkeep.BucketFull': WHATEVER THE INPUT: true; the input reads as it did. -/
def bucketFullSpec : ChangeSpec := { name := "bucketFull", fn := fun _ => fun
  | [d] => { results := [.lit (.bool true)], args := [d] }
  | _ => none }
def bucketFullRow : OpenClaim := { program := "ytcimcagplodpeaa", sum := "dc70808710ccc26826ce5accd3b8d0f5562500274c8f5d83e253c17289570eec", func := "souterrain/souterrainkeep.BucketFull", spec := "bucketFull", unfollowed := true, recurses := true, apart := false }
def BucketFullSaid : Prop := bucketFullRow.holds Try.pinned (OpenSpec.ofChange bucketFullSpec)

/-- ITS FALSE NEIGHBOUR: 'it returns false'. Refute it at one input. -/
def bucketFullWrong : ChangeSpec := { name := "bucketFull", fn := fun _ => fun
  | [d] => { results := [.lit (.bool false)], args := [d] }
  | _ => none }
def BucketFullWrongFalsely : Prop := bucketFullRow.holds Try.pinned (OpenSpec.ofChange bucketFullWrong)

/- THE SECOND FORM. 'bulk': how many values and letters a reading holds, each counted each time it is reached (what is shared counts as often as it is met; a slice's spare places count too). A statement '..UptoSaid' is the law's where the arguments, and the package variables that the reading takes, are together of bulk at most 1048576: NARROWER than '..Said'. Prove '..Said' where nothing that the law and all that it calls make is longer than what came in: it says more and counts as full. Else prove '..UptoSaid'. A law counts once. -/
mutual
def uptoBulk {H : Type} : DataW H → Nat
  | .lit (.string bytes) => bytes.length + 1
  | .lit _ => 1
  | .nil => 1
  | .ptr d => uptoBulk d + 1
  | .slice elems spare => uptoBulkAll elems + uptoBulkAll spare + 1
  | .agg parts => uptoBulkAll parts + 1
  | .iface _ d => uptoBulk d + 1
  | .map entries => uptoBulkEntries entries + 1
  | .held _ => 1
def uptoBulkAll {H : Type} : List (DataW H) → Nat
  | [] => 0
  | d :: r => uptoBulk d + uptoBulkAll r
def uptoBulkEntries {H : Type} : List (Lit × DataW H) → Nat
  | [] => 0
  | x :: r => uptoBulkEntry x + uptoBulkEntries r
def uptoBulkEntry {H : Type} : Lit × DataW H → Nat
  | (.string bytes, d) => bytes.length + uptoBulk d + 1
  | (_, d) => uptoBulk d + 1
 end
def uptoSmall : (H : Type) → List (DataW H) → Bool := fun _ ds => decide (uptoBulkAll ds ≤ 1048576)
def OpenSpec.upto (s : _root_.Go.ChangeSpec) : _root_.Go.OpenSpec := { _root_.Go.OpenSpec.ofChange s with cond := some uptoSmall }

/-- 'souterrainkeep.WindowAll', WHERE WHAT IT READS IS OF BULK AT MOST 1048576: true; the input reads as it did. -/
def windowAllUptoRow : OpenClaim := { program := "ytcimcagplodpeaa", sum := "dc70808710ccc26826ce5accd3b8d0f5562500274c8f5d83e253c17289570eec", func := "souterrain/souterrainkeep.WindowAll", spec := "windowAll", apart := false, narrowed := true }
def WindowAllUptoSaid : Prop := windowAllUptoRow.holds Try.pinned (OpenSpec.upto windowAllSpec)

/-- 'souterrainkeep.WindowOnce', WHERE WHAT IT READS IS OF BULK AT MOST 1048576: true; the input reads as it did. -/
def windowOnceUptoRow : OpenClaim := { program := "ytcimcagplodpeaa", sum := "dc70808710ccc26826ce5accd3b8d0f5562500274c8f5d83e253c17289570eec", func := "souterrain/souterrainkeep.WindowOnce", spec := "windowOnce", apart := false, narrowed := true }
def WindowOnceUptoSaid : Prop := windowOnceUptoRow.holds Try.pinned (OpenSpec.upto windowOnceSpec)

/-- 'souterrainkeep.WindowOld', WHERE WHAT IT READS IS OF BULK AT MOST 1048576: true; the input reads as it did. -/
def windowOldUptoRow : OpenClaim := { program := "ytcimcagplodpeaa", sum := "dc70808710ccc26826ce5accd3b8d0f5562500274c8f5d83e253c17289570eec", func := "souterrain/souterrainkeep.WindowOld", spec := "windowOld", apart := false, narrowed := true }
def WindowOldUptoSaid : Prop := windowOldUptoRow.holds Try.pinned (OpenSpec.upto windowOldSpec)

/-- 'souterrainkeep.StampBack', WHERE WHAT IT READS IS OF BULK AT MOST 1048576: true; the input reads as it did. -/
def stampBackUptoRow : OpenClaim := { program := "ytcimcagplodpeaa", sum := "dc70808710ccc26826ce5accd3b8d0f5562500274c8f5d83e253c17289570eec", func := "souterrain/souterrainkeep.StampBack", spec := "stampBack", apart := false, narrowed := true }
def StampBackUptoSaid : Prop := stampBackUptoRow.holds Try.pinned (OpenSpec.upto stampBackSpec)

/-- 'souterrainkeep.StampOrder', WHERE WHAT IT READS IS OF BULK AT MOST 1048576: true; the input reads as it did. -/
def stampOrderUptoRow : OpenClaim := { program := "ytcimcagplodpeaa", sum := "dc70808710ccc26826ce5accd3b8d0f5562500274c8f5d83e253c17289570eec", func := "souterrain/souterrainkeep.StampOrder", spec := "stampOrder", apart := false, narrowed := true }
def StampOrderUptoSaid : Prop := stampOrderUptoRow.holds Try.pinned (OpenSpec.upto stampOrderSpec)

/-- 'souterrainkeep.TimerAlive', WHERE WHAT IT READS IS OF BULK AT MOST 1048576: true; the input reads as it did. -/
def timerAliveUptoRow : OpenClaim := { program := "ytcimcagplodpeaa", sum := "dc70808710ccc26826ce5accd3b8d0f5562500274c8f5d83e253c17289570eec", func := "souterrain/souterrainkeep.TimerAlive", spec := "timerAlive", apart := false, narrowed := true }
def TimerAliveUptoSaid : Prop := timerAliveUptoRow.holds Try.pinned (OpenSpec.upto timerAliveSpec)

/-- 'souterrainkeep.TimerTries', WHERE WHAT IT READS IS OF BULK AT MOST 1048576: true; the input reads as it did. -/
def timerTriesUptoRow : OpenClaim := { program := "ytcimcagplodpeaa", sum := "dc70808710ccc26826ce5accd3b8d0f5562500274c8f5d83e253c17289570eec", func := "souterrain/souterrainkeep.TimerTries", spec := "timerTries", apart := false, narrowed := true }
def TimerTriesUptoSaid : Prop := timerTriesUptoRow.holds Try.pinned (OpenSpec.upto timerTriesSpec)

/-- 'souterrainkeep.TimerQuiet', WHERE WHAT IT READS IS OF BULK AT MOST 1048576: true; the input reads as it did. -/
def timerQuietUptoRow : OpenClaim := { program := "ytcimcagplodpeaa", sum := "dc70808710ccc26826ce5accd3b8d0f5562500274c8f5d83e253c17289570eec", func := "souterrain/souterrainkeep.TimerQuiet", spec := "timerQuiet", apart := false, narrowed := true }
def TimerQuietUptoSaid : Prop := timerQuietUptoRow.holds Try.pinned (OpenSpec.upto timerQuietSpec)

/-- 'souterrainkeep.BucketFair', WHERE WHAT IT READS IS OF BULK AT MOST 1048576: true; the input reads as it did. -/
def bucketFairUptoRow : OpenClaim := { program := "ytcimcagplodpeaa", sum := "dc70808710ccc26826ce5accd3b8d0f5562500274c8f5d83e253c17289570eec", func := "souterrain/souterrainkeep.BucketFair", spec := "bucketFair", unfollowed := true, recurses := true, apart := false, narrowed := true }
def BucketFairUptoSaid : Prop := bucketFairUptoRow.holds Try.pinned (OpenSpec.upto bucketFairSpec)

/-- 'souterrainkeep.BucketBurst', WHERE WHAT IT READS IS OF BULK AT MOST 1048576: true; the input reads as it did. -/
def bucketBurstUptoRow : OpenClaim := { program := "ytcimcagplodpeaa", sum := "dc70808710ccc26826ce5accd3b8d0f5562500274c8f5d83e253c17289570eec", func := "souterrain/souterrainkeep.BucketBurst", spec := "bucketBurst", unfollowed := true, recurses := true, apart := false, narrowed := true }
def BucketBurstUptoSaid : Prop := bucketBurstUptoRow.holds Try.pinned (OpenSpec.upto bucketBurstSpec)

/-- 'souterrainkeep.BucketFull', WHERE WHAT IT READS IS OF BULK AT MOST 1048576: true; the input reads as it did. -/
def bucketFullUptoRow : OpenClaim := { program := "ytcimcagplodpeaa", sum := "dc70808710ccc26826ce5accd3b8d0f5562500274c8f5d83e253c17289570eec", func := "souterrain/souterrainkeep.BucketFull", spec := "bucketFull", unfollowed := true, recurses := true, apart := false, narrowed := true }
def BucketFullUptoSaid : Prop := bucketFullUptoRow.holds Try.pinned (OpenSpec.upto bucketFullSpec)

end Rows
end Go.Proofs.Ytcimcagplodpeaa
