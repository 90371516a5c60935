/-
  DERIVED. GIVEN WITH THE SEED: THE CARDS: each row of YtcaaadaikfnbaaaGreatDoorRows.lean that lists a variable, with what it lists TIED to the program's text (the seventh form; the later family's looks); each row that meets fmt, with fmt's text TOLD by the authors' own Lean function (tested against real Go, not proved from fmt's source: count such statements apart). THE CARD IS WHAT COUNTS. Prove the row's statement (the work); the ties are given (YtcaaadaikfnbaaaGreatDoorTie.lean); close each card by the builder's one call (the guide's Derived/Test/ToyasCard.lean, 'card_holds'). Laid BY PROGRAM, IN A SANDBOX (cutbox-door.mjs). By AI agents, Wed Nov 11 2026. No macro, syntax, notation, axiom, sorry.
-/
import Derived.Test.YtcaaadaikfnbaaaGreatDoorRows
import GoSem.ClaimSeven
namespace Go.Proofs.YtcaaadaikfnbaaaGreatDoor
namespace Rows

/-- THE TIED CARD OF 'inkhorntop.TopUtf'. -/
def topUtfCard : Claim7 := { stood := { row := topUtfRow, standIns := [], harness := (true, "33ed11e432ded13f849410557fc04b56cd1b81f2cfab13cae2e12b399cfcbf72"), looks := false }, kinds := [], alts := [], laidByText := true, laidKinds := [.data, .data, .data, .pinned], laidTests := true, laidLooks := .later }
def TopUtfCardSaid : Prop := Claim7.holds Tryz.pinned (.plain (OpenSpec.ofChange topUtfSpec)) topUtfCard

/-- THE SECOND FORM's CARD OF 'inkhorntop.TopUtf'. -/
def topUtfUptoCard : Claim7 := { stood := { row := topUtfUptoRow, standIns := [], harness := (true, "33ed11e432ded13f849410557fc04b56cd1b81f2cfab13cae2e12b399cfcbf72"), looks := false }, kinds := [], alts := [], laidByText := true, laidKinds := [.data, .data, .data, .pinned], laidTests := true, laidLooks := .later }
def TopUtfUptoCardSaid : Prop := Claim7.holds Tryz.pinned (.plain (OpenSpec.upto topUtfSpec)) topUtfUptoCard
end Rows
end Go.Proofs.YtcaaadaikfnbaaaGreatDoor
