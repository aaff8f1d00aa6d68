/-
  DERIVED. GIVEN WITH THE SEED: THE CARDS: each row of YtnfonfjleonbdaaGreatDoorRows.lean that lists a variable, with what it lists TIED to the program's text (the seventh form; the later family's looks); each row that meets fmt, with fmt's text TOLD by the authors' own Lean function (tested against real Go, not proved from fmt's source: count such statements apart). THE CARD IS WHAT COUNTS. Prove the row's statement (the work); the ties are given (YtnfonfjleonbdaaGreatDoorTie.lean); close each card by the builder's one call (the guide's Derived/Test/ToyasCard.lean, 'card_holds'). Laid BY PROGRAM, IN A SANDBOX (cutbox-door.mjs). By AI agents, Wed Nov 11 2026. No macro, syntax, notation, axiom, sorry.
-/
import Derived.Test.YtnfonfjleonbdaaGreatDoorRows
import GoSem.ClaimSeven
namespace Go.Proofs.YtnfonfjleonbdaaGreatDoor
namespace Rows

/-- THE TIED CARD OF 'interlacelaw17.StateEncodes'. -/
def stateEncodesCard : Claim7 := { stood := { row := stateEncodesRow, standIns := [], harness := (true, "27831e8378af6bd8adcf486210dcda27fa27e69f9f448e8b8caeb71906f8a08a"), looks := false }, kinds := [], alts := [], laidByText := true, laidKinds := [.data, .data], laidTests := true, laidLooks := .later }
def StateEncodesCardSaid : Prop := Claim7.holds Tryz.pinned (.plain (OpenSpec.ofChange stateEncodesSpec)) stateEncodesCard

/-- THE SECOND FORM's CARD OF 'interlacelaw17.StateEncodes'. -/
def stateEncodesUptoCard : Claim7 := { stood := { row := stateEncodesUptoRow, standIns := [], harness := (true, "27831e8378af6bd8adcf486210dcda27fa27e69f9f448e8b8caeb71906f8a08a"), looks := false }, kinds := [], alts := [], laidByText := true, laidKinds := [.data, .data], laidTests := true, laidLooks := .later }
def StateEncodesUptoCardSaid : Prop := Claim7.holds Tryz.pinned (.plain (OpenSpec.upto stateEncodesSpec)) stateEncodesUptoCard
end Rows
end Go.Proofs.YtnfonfjleonbdaaGreatDoor
