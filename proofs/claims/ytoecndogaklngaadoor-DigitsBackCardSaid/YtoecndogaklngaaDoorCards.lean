/-
  DERIVED. GIVEN WITH THE SEED: THE CARDS: each row of YtoecndogaklngaaDoorRows.lean that lists a variable, with what it lists TIED to the program's text (the seventh form; the later family's looks); each row that meets fmt, with fmt's text TOLD by the authors' own Lean function (tested against real Go, not proved from fmt's source: count such statements apart). THE CARD IS WHAT COUNTS. Prove the row's statement (the work); the ties are given (YtoecndogaklngaaDoorTie.lean); close each card by the builder's one call (the guide's Derived/Test/ToyasCard.lean, 'card_holds'). Laid BY PROGRAM, IN A SANDBOX (cutbox-door.mjs). By AI agents, Wed Nov 11 2026. No macro, syntax, notation, axiom, sorry.
-/
import Derived.Test.YtoecndogaklngaaDoorRows
import GoSem.ClaimSeven
namespace Go.Proofs.YtoecndogaklngaaDoor
namespace Rows

/-- THE TIED CARD OF 'artesianlaw06.DigitsKnown'. -/
def digitsKnownCard : Claim7 := { stood := { row := digitsKnownRow, standIns := [], harness := (true, "ebdab815a4671621de7e96025cf0b7b9a8f9a54a4de28a67cc801d1a59f26ce9"), looks := false }, kinds := [], alts := [], laidByText := true, laidKinds := [.data, .pinned], laidTests := true, laidLooks := .later }
def DigitsKnownCardSaid : Prop := Claim7.holds Tryd.pinned (.plain (OpenSpec.ofChange digitsKnownSpec)) digitsKnownCard

/-- THE TIED CARD OF 'artesianlaw06.DigitsBack'. -/
def digitsBackCard : Claim7 := { stood := { row := digitsBackRow, standIns := [], harness := (true, "ebdab815a4671621de7e96025cf0b7b9a8f9a54a4de28a67cc801d1a59f26ce9"), looks := false }, kinds := [], alts := [], laidByText := true, laidKinds := [.data, .pinned], laidTests := true, laidLooks := .later }
def DigitsBackCardSaid : Prop := Claim7.holds Tryd.pinned (.plain (OpenSpec.ofChange digitsBackSpec)) digitsBackCard

/-- THE TIED CARD OF 'artesianlaw06.DigitsSame'. -/
def digitsSameCard : Claim7 := { stood := { row := digitsSameRow, standIns := [], harness := (true, "ebdab815a4671621de7e96025cf0b7b9a8f9a54a4de28a67cc801d1a59f26ce9"), looks := false }, kinds := [], alts := [], laidByText := true, laidKinds := [.data, .pinned], laidTests := true, laidLooks := .later }
def DigitsSameCardSaid : Prop := Claim7.holds Tryd.pinned (.plain (OpenSpec.ofChange digitsSameSpec)) digitsSameCard

/-- THE SECOND FORM's CARD OF 'artesianlaw06.DigitsKnown'. -/
def digitsKnownUptoCard : Claim7 := { stood := { row := digitsKnownUptoRow, standIns := [], harness := (true, "ebdab815a4671621de7e96025cf0b7b9a8f9a54a4de28a67cc801d1a59f26ce9"), looks := false }, kinds := [], alts := [], laidByText := true, laidKinds := [.data, .pinned], laidTests := true, laidLooks := .later }
def DigitsKnownUptoCardSaid : Prop := Claim7.holds Tryd.pinned (.plain (OpenSpec.upto digitsKnownSpec)) digitsKnownUptoCard

/-- THE SECOND FORM's CARD OF 'artesianlaw06.DigitsBack'. -/
def digitsBackUptoCard : Claim7 := { stood := { row := digitsBackUptoRow, standIns := [], harness := (true, "ebdab815a4671621de7e96025cf0b7b9a8f9a54a4de28a67cc801d1a59f26ce9"), looks := false }, kinds := [], alts := [], laidByText := true, laidKinds := [.data, .pinned], laidTests := true, laidLooks := .later }
def DigitsBackUptoCardSaid : Prop := Claim7.holds Tryd.pinned (.plain (OpenSpec.upto digitsBackSpec)) digitsBackUptoCard

/-- THE SECOND FORM's CARD OF 'artesianlaw06.DigitsSame'. -/
def digitsSameUptoCard : Claim7 := { stood := { row := digitsSameUptoRow, standIns := [], harness := (true, "ebdab815a4671621de7e96025cf0b7b9a8f9a54a4de28a67cc801d1a59f26ce9"), looks := false }, kinds := [], alts := [], laidByText := true, laidKinds := [.data, .pinned], laidTests := true, laidLooks := .later }
def DigitsSameUptoCardSaid : Prop := Claim7.holds Tryd.pinned (.plain (OpenSpec.upto digitsSameSpec)) digitsSameUptoCard
end Rows
end Go.Proofs.YtoecndogaklngaaDoor
