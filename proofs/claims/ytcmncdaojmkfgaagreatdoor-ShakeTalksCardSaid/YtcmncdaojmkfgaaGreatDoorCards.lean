/-
  DERIVED. GIVEN WITH THE SEED: THE CARDS: each row of YtcmncdaojmkfgaaGreatDoorRows.lean that lists a variable, with what it lists TIED to the program's text (the seventh form; the later family's looks); each row that meets fmt, with fmt's text TOLD by the authors' own Lean function (tested against real Go, not proved from fmt's source: count such statements apart). THE CARD IS WHAT COUNTS. Prove the row's statement (the work); the ties are given (YtcmncdaojmkfgaaGreatDoorTie.lean); close each card by the builder's one call (the guide's Derived/Test/ToyasCard.lean, 'card_holds'). Laid BY PROGRAM, IN A SANDBOX (cutbox-door.mjs). By AI agents, Wed Nov 11 2026. No macro, syntax, notation, axiom, sorry.
-/
import Derived.Test.YtcmncdaojmkfgaaGreatDoorRows
import GoSem.ClaimSeven
namespace Go.Proofs.YtcmncdaojmkfgaaGreatDoor
namespace Rows

/-- THE TIED CARD OF 'souterrainkeep.ShakeMeets'. -/
def shakeMeetsCard : Claim7 := { stood := { row := shakeMeetsRow, standIns := [], harness := (true, "35d6b60a82c6ae487ced9bc510de84a42fe4135fabf04c9f5f887da2c3335f2d"), looks := false }, kinds := [], alts := [], laidByText := true, laidKinds := [.data, .pinned], laidTests := true, laidLooks := .later }
def ShakeMeetsCardSaid : Prop := Claim7.holds Tryz.pinned (.plain (OpenSpec.ofChange shakeMeetsSpec)) shakeMeetsCard

/-- THE TIED CARD OF 'souterrainkeep.ShakeSizes'. -/
def shakeSizesCard : Claim7 := { stood := { row := shakeSizesRow, standIns := [], harness := (true, "35d6b60a82c6ae487ced9bc510de84a42fe4135fabf04c9f5f887da2c3335f2d"), looks := false }, kinds := [], alts := [], laidByText := true, laidKinds := [.data, .pinned], laidTests := true, laidLooks := .later }
def ShakeSizesCardSaid : Prop := Claim7.holds Tryz.pinned (.plain (OpenSpec.ofChange shakeSizesSpec)) shakeSizesCard

/-- THE TIED CARD OF 'souterrainkeep.ShakeTalks'. -/
def shakeTalksCard : Claim7 := { stood := { row := shakeTalksRow, standIns := [], harness := (true, "35d6b60a82c6ae487ced9bc510de84a42fe4135fabf04c9f5f887da2c3335f2d"), looks := false }, kinds := [], alts := [], laidByText := true, laidKinds := [.data, .pinned], laidTests := true, laidLooks := .later }
def ShakeTalksCardSaid : Prop := Claim7.holds Tryz.pinned (.plain (OpenSpec.ofChange shakeTalksSpec)) shakeTalksCard

/-- THE SECOND FORM's CARD OF 'souterrainkeep.ShakeMeets'. -/
def shakeMeetsUptoCard : Claim7 := { stood := { row := shakeMeetsUptoRow, standIns := [], harness := (true, "35d6b60a82c6ae487ced9bc510de84a42fe4135fabf04c9f5f887da2c3335f2d"), looks := false }, kinds := [], alts := [], laidByText := true, laidKinds := [.data, .pinned], laidTests := true, laidLooks := .later }
def ShakeMeetsUptoCardSaid : Prop := Claim7.holds Tryz.pinned (.plain (OpenSpec.upto shakeMeetsSpec)) shakeMeetsUptoCard

/-- THE SECOND FORM's CARD OF 'souterrainkeep.ShakeSizes'. -/
def shakeSizesUptoCard : Claim7 := { stood := { row := shakeSizesUptoRow, standIns := [], harness := (true, "35d6b60a82c6ae487ced9bc510de84a42fe4135fabf04c9f5f887da2c3335f2d"), looks := false }, kinds := [], alts := [], laidByText := true, laidKinds := [.data, .pinned], laidTests := true, laidLooks := .later }
def ShakeSizesUptoCardSaid : Prop := Claim7.holds Tryz.pinned (.plain (OpenSpec.upto shakeSizesSpec)) shakeSizesUptoCard

/-- THE SECOND FORM's CARD OF 'souterrainkeep.ShakeTalks'. -/
def shakeTalksUptoCard : Claim7 := { stood := { row := shakeTalksUptoRow, standIns := [], harness := (true, "35d6b60a82c6ae487ced9bc510de84a42fe4135fabf04c9f5f887da2c3335f2d"), looks := false }, kinds := [], alts := [], laidByText := true, laidKinds := [.data, .pinned], laidTests := true, laidLooks := .later }
def ShakeTalksUptoCardSaid : Prop := Claim7.holds Tryz.pinned (.plain (OpenSpec.upto shakeTalksSpec)) shakeTalksUptoCard
end Rows
end Go.Proofs.YtcmncdaojmkfgaaGreatDoor
