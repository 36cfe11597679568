/-
  DERIVED. GIVEN WITH THE SEED: THE CARDS: each row of YtfcgnpphabplbaaGreatDoorRows.lean that lists a variable, with what it lists TIED to the program's text (the seventh form; the later family's looks); each row that meets fmt, with fmt's text TOLD by the authors' own Lean function (tested against real Go, not proved from fmt's source: count such statements apart). THE CARD IS WHAT COUNTS. Prove the row's statement (the work); the ties are given (YtfcgnpphabplbaaGreatDoorTie.lean); close each card by the builder's one call (the guide's Derived/Test/ToyasCard.lean, 'card_holds'). Laid BY PROGRAM, IN A SANDBOX (cutbox-door.mjs). By AI agents, Wed Nov 11 2026. No macro, syntax, notation, axiom, sorry.
-/
import Derived.Test.YtfcgnpphabplbaaGreatDoorRows
import GoSem.ClaimSeven
namespace Go.Proofs.YtfcgnpphabplbaaGreatDoor
namespace Rows

/-- THE TIED CARD OF 'aukletlaw08.SubstAt'. -/
def substAtCard : Claim7 := { stood := { row := substAtRow, standIns := [], harness := (true, "2f3acc57a7185d7fb7fb950f8d5f87ca403d6a98089d349c01e2c7db1fb18800"), looks := true }, kinds := [], alts := [], laidByText := true, laidKinds := [.data, .pinned], laidTests := true, laidLooks := .later }
def SubstAtCardSaid : Prop := Claim7.holds Tryz.pinned (.plain (OpenSpec.ofChange substAtSpec)) substAtCard

/-- THE TIED CARD OF 'aukletlaw09.FieldsNext'. -/
def fieldsNextCard : Claim7 := { stood := { row := fieldsNextRow, standIns := [], harness := (true, "2f3acc57a7185d7fb7fb950f8d5f87ca403d6a98089d349c01e2c7db1fb18800"), looks := true }, kinds := [], alts := [], laidByText := true, laidKinds := [.data, .pinned], laidTests := true, laidLooks := .later }
def FieldsNextCardSaid : Prop := Claim7.holds Tryz.pinned (.plain (OpenSpec.ofChange fieldsNextSpec)) fieldsNextCard

/-- THE TIED CARD OF 'aukletlaw09.FieldsAll'. -/
def fieldsAllCard : Claim7 := { stood := { row := fieldsAllRow, standIns := [], harness := (true, "2f3acc57a7185d7fb7fb950f8d5f87ca403d6a98089d349c01e2c7db1fb18800"), looks := true }, kinds := [], alts := [], laidByText := true, laidKinds := [.data, .pinned], laidTests := true, laidLooks := .later }
def FieldsAllCardSaid : Prop := Claim7.holds Tryz.pinned (.plain (OpenSpec.ofChange fieldsAllSpec)) fieldsAllCard

/-- THE TIED CARD OF 'aukletlaw09.FieldsBlocks'. -/
def fieldsBlocksCard : Claim7 := { stood := { row := fieldsBlocksRow, standIns := [], harness := (true, "2f3acc57a7185d7fb7fb950f8d5f87ca403d6a98089d349c01e2c7db1fb18800"), looks := true }, kinds := [], alts := [], laidByText := true, laidKinds := [.data, .pinned], laidTests := true, laidLooks := .later }
def FieldsBlocksCardSaid : Prop := Claim7.holds Tryz.pinned (.plain (OpenSpec.ofChange fieldsBlocksSpec)) fieldsBlocksCard

/-- THE TIED CARD OF 'aukletlaw09.FieldsJoined'. -/
def fieldsJoinedCard : Claim7 := { stood := { row := fieldsJoinedRow, standIns := [], harness := (true, "2f3acc57a7185d7fb7fb950f8d5f87ca403d6a98089d349c01e2c7db1fb18800"), looks := true }, kinds := [], alts := [], laidByText := true, laidKinds := [.data, .pinned], laidTests := true, laidLooks := .later }
def FieldsJoinedCardSaid : Prop := Claim7.holds Tryz.pinned (.plain (OpenSpec.ofChange fieldsJoinedSpec)) fieldsJoinedCard

/-- THE TIED CARD OF 'aukletlaw09.FieldsActs'. -/
def fieldsActsCard : Claim7 := { stood := { row := fieldsActsRow, standIns := [], harness := (true, "2f3acc57a7185d7fb7fb950f8d5f87ca403d6a98089d349c01e2c7db1fb18800"), looks := true }, kinds := [], alts := [], laidByText := true, laidKinds := [.data, .pinned], laidTests := true, laidLooks := .later }
def FieldsActsCardSaid : Prop := Claim7.holds Tryz.pinned (.plain (OpenSpec.ofChange fieldsActsSpec)) fieldsActsCard

/-- THE SECOND FORM's CARD OF 'aukletlaw08.SubstAt'. -/
def substAtUptoCard : Claim7 := { stood := { row := substAtUptoRow, standIns := [], harness := (true, "2f3acc57a7185d7fb7fb950f8d5f87ca403d6a98089d349c01e2c7db1fb18800"), looks := true }, kinds := [], alts := [], laidByText := true, laidKinds := [.data, .pinned], laidTests := true, laidLooks := .later }
def SubstAtUptoCardSaid : Prop := Claim7.holds Tryz.pinned (.plain (OpenSpec.upto substAtSpec)) substAtUptoCard

/-- THE SECOND FORM's CARD OF 'aukletlaw09.FieldsNext'. -/
def fieldsNextUptoCard : Claim7 := { stood := { row := fieldsNextUptoRow, standIns := [], harness := (true, "2f3acc57a7185d7fb7fb950f8d5f87ca403d6a98089d349c01e2c7db1fb18800"), looks := true }, kinds := [], alts := [], laidByText := true, laidKinds := [.data, .pinned], laidTests := true, laidLooks := .later }
def FieldsNextUptoCardSaid : Prop := Claim7.holds Tryz.pinned (.plain (OpenSpec.upto fieldsNextSpec)) fieldsNextUptoCard

/-- THE SECOND FORM's CARD OF 'aukletlaw09.FieldsAll'. -/
def fieldsAllUptoCard : Claim7 := { stood := { row := fieldsAllUptoRow, standIns := [], harness := (true, "2f3acc57a7185d7fb7fb950f8d5f87ca403d6a98089d349c01e2c7db1fb18800"), looks := true }, kinds := [], alts := [], laidByText := true, laidKinds := [.data, .pinned], laidTests := true, laidLooks := .later }
def FieldsAllUptoCardSaid : Prop := Claim7.holds Tryz.pinned (.plain (OpenSpec.upto fieldsAllSpec)) fieldsAllUptoCard

/-- THE SECOND FORM's CARD OF 'aukletlaw09.FieldsBlocks'. -/
def fieldsBlocksUptoCard : Claim7 := { stood := { row := fieldsBlocksUptoRow, standIns := [], harness := (true, "2f3acc57a7185d7fb7fb950f8d5f87ca403d6a98089d349c01e2c7db1fb18800"), looks := true }, kinds := [], alts := [], laidByText := true, laidKinds := [.data, .pinned], laidTests := true, laidLooks := .later }
def FieldsBlocksUptoCardSaid : Prop := Claim7.holds Tryz.pinned (.plain (OpenSpec.upto fieldsBlocksSpec)) fieldsBlocksUptoCard

/-- THE SECOND FORM's CARD OF 'aukletlaw09.FieldsJoined'. -/
def fieldsJoinedUptoCard : Claim7 := { stood := { row := fieldsJoinedUptoRow, standIns := [], harness := (true, "2f3acc57a7185d7fb7fb950f8d5f87ca403d6a98089d349c01e2c7db1fb18800"), looks := true }, kinds := [], alts := [], laidByText := true, laidKinds := [.data, .pinned], laidTests := true, laidLooks := .later }
def FieldsJoinedUptoCardSaid : Prop := Claim7.holds Tryz.pinned (.plain (OpenSpec.upto fieldsJoinedSpec)) fieldsJoinedUptoCard

/-- THE SECOND FORM's CARD OF 'aukletlaw09.FieldsActs'. -/
def fieldsActsUptoCard : Claim7 := { stood := { row := fieldsActsUptoRow, standIns := [], harness := (true, "2f3acc57a7185d7fb7fb950f8d5f87ca403d6a98089d349c01e2c7db1fb18800"), looks := true }, kinds := [], alts := [], laidByText := true, laidKinds := [.data, .pinned], laidTests := true, laidLooks := .later }
def FieldsActsUptoCardSaid : Prop := Claim7.holds Tryz.pinned (.plain (OpenSpec.upto fieldsActsSpec)) fieldsActsUptoCard
end Rows
end Go.Proofs.YtfcgnpphabplbaaGreatDoor
