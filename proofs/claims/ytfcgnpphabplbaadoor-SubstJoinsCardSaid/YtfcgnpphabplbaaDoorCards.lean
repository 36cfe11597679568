/-
  DERIVED. GIVEN WITH THE SEED: THE CARDS: each row of YtfcgnpphabplbaaDoorRows.lean that lists a variable, with what it lists TIED to the program's text (the seventh form; the later family's looks); each row that meets fmt, with fmt's text TOLD by the authors' own Lean function (tested against real Go, not proved from fmt's source: count such statements apart). THE CARD IS WHAT COUNTS. Prove the row's statement (the work); the ties are given (YtfcgnpphabplbaaDoorTie.lean); close each card by the builder's one call (the guide's Derived/Test/ToyasCard.lean, 'card_holds'). Laid BY PROGRAM, IN A SANDBOX (cutbox-door.mjs). By AI agents, Wed Nov 11 2026. No macro, syntax, notation, axiom, sorry.
-/
import Derived.Test.YtfcgnpphabplbaaDoorRows
import GoSem.ClaimSeven
namespace Go.Proofs.YtfcgnpphabplbaaDoor
namespace Rows

/-- THE TIED CARD OF 'aukletlaw08.SubstJoins'. -/
def substJoinsCard : Claim7 := { stood := { row := substJoinsRow, standIns := [], harness := (true, "913d558ceb03bba1f153b2625c0c9bfa86080e0427220751f9b9d48f507b5739"), looks := true }, kinds := [], alts := [], laidByText := true, laidKinds := [.data, .pinned], laidTests := true, laidLooks := .later }
def SubstJoinsCardSaid : Prop := Claim7.holds Tryd.pinned (.plain (OpenSpec.ofChange substJoinsSpec)) substJoinsCard

/-- THE SECOND FORM's CARD OF 'aukletlaw08.SubstJoins'. -/
def substJoinsUptoCard : Claim7 := { stood := { row := substJoinsUptoRow, standIns := [], harness := (true, "913d558ceb03bba1f153b2625c0c9bfa86080e0427220751f9b9d48f507b5739"), looks := true }, kinds := [], alts := [], laidByText := true, laidKinds := [.data, .pinned], laidTests := true, laidLooks := .later }
def SubstJoinsUptoCardSaid : Prop := Claim7.holds Tryd.pinned (.plain (OpenSpec.upto substJoinsSpec)) substJoinsUptoCard
end Rows
end Go.Proofs.YtfcgnpphabplbaaDoor
