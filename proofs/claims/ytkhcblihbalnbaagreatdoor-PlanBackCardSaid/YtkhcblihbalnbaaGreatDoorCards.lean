/-
  DERIVED. GIVEN WITH THE SEED: THE CARDS: each row of YtkhcblihbalnbaaGreatDoorRows.lean that lists a variable, with what it lists TIED to the program's text (the seventh form; the later family's looks); each row that meets fmt, with fmt's text TOLD by the authors' own Lean function (tested against real Go, not proved from fmt's source: count such statements apart). THE CARD IS WHAT COUNTS. Prove the row's statement (the work); the ties are given (YtkhcblihbalnbaaGreatDoorTie.lean); close each card by the builder's one call (the guide's Derived/Test/ToyasCard.lean, 'card_holds'). Laid BY PROGRAM, IN A SANDBOX (cutbox-door.mjs). By AI agents, Wed Nov 11 2026. No macro, syntax, notation, axiom, sorry.
-/
import Derived.Test.YtkhcblihbalnbaaGreatDoorRows
import GoSem.ClaimSeven
namespace Go.Proofs.YtkhcblihbalnbaaGreatDoor
namespace Rows

/-- THE TIED CARD OF 'artesianlaw27.PlanBack'. -/
def planBackCard : Claim7 := { stood := { row := planBackRow, standIns := [], harness := (true, "d9b7735ec84cd0b29caec5858fdf373bf5d5c584f1d304e5f877b81c65b3b887"), looks := false }, kinds := [], alts := [], laidByText := true, laidKinds := [.data, .pinned], laidTests := true, laidLooks := .later }
def PlanBackCardSaid : Prop := Claim7.holds Tryz.pinned (.plain (OpenSpec.ofChange planBackSpec)) planBackCard

/-- THE TIED CARD OF 'artesianlaw27.PlanBytes'. -/
def planBytesCard : Claim7 := { stood := { row := planBytesRow, standIns := [], harness := (true, "d9b7735ec84cd0b29caec5858fdf373bf5d5c584f1d304e5f877b81c65b3b887"), looks := false }, kinds := [], alts := [], laidByText := true, laidKinds := [.data, .pinned], laidTests := true, laidLooks := .later }
def PlanBytesCardSaid : Prop := Claim7.holds Tryz.pinned (.plain (OpenSpec.ofChange planBytesSpec)) planBytesCard

/-- THE SECOND FORM's CARD OF 'artesianlaw27.PlanBack'. -/
def planBackUptoCard : Claim7 := { stood := { row := planBackUptoRow, standIns := [], harness := (true, "d9b7735ec84cd0b29caec5858fdf373bf5d5c584f1d304e5f877b81c65b3b887"), looks := false }, kinds := [], alts := [], laidByText := true, laidKinds := [.data, .pinned], laidTests := true, laidLooks := .later }
def PlanBackUptoCardSaid : Prop := Claim7.holds Tryz.pinned (.plain (OpenSpec.upto planBackSpec)) planBackUptoCard

/-- THE SECOND FORM's CARD OF 'artesianlaw27.PlanBytes'. -/
def planBytesUptoCard : Claim7 := { stood := { row := planBytesUptoRow, standIns := [], harness := (true, "d9b7735ec84cd0b29caec5858fdf373bf5d5c584f1d304e5f877b81c65b3b887"), looks := false }, kinds := [], alts := [], laidByText := true, laidKinds := [.data, .pinned], laidTests := true, laidLooks := .later }
def PlanBytesUptoCardSaid : Prop := Claim7.holds Tryz.pinned (.plain (OpenSpec.upto planBytesSpec)) planBytesUptoCard
end Rows
end Go.Proofs.YtkhcblihbalnbaaGreatDoor
