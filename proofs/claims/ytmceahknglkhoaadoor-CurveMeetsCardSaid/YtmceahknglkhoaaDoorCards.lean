/-
  DERIVED. GIVEN WITH THE SEED: THE CARDS: each row of YtmceahknglkhoaaDoorRows.lean that lists a variable, with what it lists TIED to the program's text (the seventh form; the later family's looks); each row that meets fmt, with fmt's text TOLD by the authors' own Lean function (tested against real Go, not proved from fmt's source: count such statements apart). THE CARD IS WHAT COUNTS. Prove the row's statement (the work); the ties are given (YtmceahknglkhoaaDoorTie.lean); close each card by the builder's one call (the guide's Derived/Test/ToyasCard.lean, 'card_holds'). Laid BY PROGRAM, IN A SANDBOX (cutbox-door.mjs). By AI agents, Wed Nov 11 2026. No macro, syntax, notation, axiom, sorry.
-/
import Derived.Test.YtmceahknglkhoaaDoorRows
import GoSem.ClaimSeven
namespace Go.Proofs.YtmceahknglkhoaaDoor
namespace Rows

/-- THE TIED CARD OF 'souterrainkeep.CurveNothing'. -/
def curveNothingCard : Claim7 := { stood := { row := curveNothingRow, standIns := [], harness := (true, "edcf1fab19a8932613a5e0a047e96b1f236b8b1aa0b821fcbd232682d114ebd1"), looks := false }, kinds := [], alts := [], laidByText := true, laidKinds := [.data, .pinned], laidTests := true, laidLooks := .later }
def CurveNothingCardSaid : Prop := Claim7.holds Tryd.pinned (.plain (OpenSpec.ofChange curveNothingSpec)) curveNothingCard

/-- THE TIED CARD OF 'souterrainkeep.CurveMeets'. -/
def curveMeetsCard : Claim7 := { stood := { row := curveMeetsRow, standIns := [], harness := (true, "edcf1fab19a8932613a5e0a047e96b1f236b8b1aa0b821fcbd232682d114ebd1"), looks := false }, kinds := [], alts := [], laidByText := true, laidKinds := [.data, .pinned], laidTests := true, laidLooks := .later }
def CurveMeetsCardSaid : Prop := Claim7.holds Tryd.pinned (.plain (OpenSpec.ofChange curveMeetsSpec)) curveMeetsCard

/-- THE SECOND FORM's CARD OF 'souterrainkeep.CurveNothing'. -/
def curveNothingUptoCard : Claim7 := { stood := { row := curveNothingUptoRow, standIns := [], harness := (true, "edcf1fab19a8932613a5e0a047e96b1f236b8b1aa0b821fcbd232682d114ebd1"), looks := false }, kinds := [], alts := [], laidByText := true, laidKinds := [.data, .pinned], laidTests := true, laidLooks := .later }
def CurveNothingUptoCardSaid : Prop := Claim7.holds Tryd.pinned (.plain (OpenSpec.upto curveNothingSpec)) curveNothingUptoCard

/-- THE SECOND FORM's CARD OF 'souterrainkeep.CurveMeets'. -/
def curveMeetsUptoCard : Claim7 := { stood := { row := curveMeetsUptoRow, standIns := [], harness := (true, "edcf1fab19a8932613a5e0a047e96b1f236b8b1aa0b821fcbd232682d114ebd1"), looks := false }, kinds := [], alts := [], laidByText := true, laidKinds := [.data, .pinned], laidTests := true, laidLooks := .later }
def CurveMeetsUptoCardSaid : Prop := Claim7.holds Tryd.pinned (.plain (OpenSpec.upto curveMeetsSpec)) curveMeetsUptoCard
end Rows
end Go.Proofs.YtmceahknglkhoaaDoor
