/-
  DERIVED. GIVEN WITH THE SEED: THE CARDS: each row of YtoecndogaklngaaGreatDoorRows.lean that lists a variable, with what it lists TIED to the program's text (the seventh form; the later family's looks); each row that meets fmt, with fmt's text TOLD by the authors' own Lean function (tested against real Go, not proved from fmt's source: count such statements apart). THE CARD IS WHAT COUNTS. Prove the row's statement (the work); the ties are given (YtoecndogaklngaaGreatDoorTie.lean); close each card by the builder's one call (the guide's Derived/Test/ToyasCard.lean, 'card_holds'). Laid BY PROGRAM, IN A SANDBOX (cutbox-door.mjs). By AI agents, Wed Nov 11 2026. No macro, syntax, notation, axiom, sorry.
-/
import Derived.Test.YtoecndogaklngaaGreatDoorRows
import GoSem.ClaimSeven
namespace Go.Proofs.YtoecndogaklngaaGreatDoor
namespace Rows

/-- THE TIED CARD OF 'artesianlaw06.DigitsFractions'. -/
def digitsFractionsCard : Claim7 := { stood := { row := digitsFractionsRow, standIns := [], harness := (true, "fb39fe80dde4d040a5dc7f8e4393de08beb1b638675c2800c50f63a1665f201b"), looks := false }, kinds := [], alts := [], laidByText := true, laidKinds := [.data, .pinned], laidTests := true, laidLooks := .later }
def DigitsFractionsCardSaid : Prop := Claim7.holds Tryz.pinned (.plain (OpenSpec.ofChange digitsFractionsSpec)) digitsFractionsCard

/-- THE SECOND FORM's CARD OF 'artesianlaw06.DigitsFractions'. -/
def digitsFractionsUptoCard : Claim7 := { stood := { row := digitsFractionsUptoRow, standIns := [], harness := (true, "fb39fe80dde4d040a5dc7f8e4393de08beb1b638675c2800c50f63a1665f201b"), looks := false }, kinds := [], alts := [], laidByText := true, laidKinds := [.data, .pinned], laidTests := true, laidLooks := .later }
def DigitsFractionsUptoCardSaid : Prop := Claim7.holds Tryz.pinned (.plain (OpenSpec.upto digitsFractionsSpec)) digitsFractionsUptoCard
end Rows
end Go.Proofs.YtoecndogaklngaaGreatDoor
