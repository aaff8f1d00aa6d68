/-
  DERIVED. GIVEN WITH THE SEED: THE CARDS: each row of YtdfkadeceaepeaaGreatDoorRows.lean that lists a variable, with what it lists TIED to the program's text (the seventh form; the later family's looks); each row that meets fmt, with fmt's text TOLD by the authors' own Lean function (tested against real Go, not proved from fmt's source: count such statements apart). THE CARD IS WHAT COUNTS. Prove the row's statement (the work); the ties are given (YtdfkadeceaepeaaGreatDoorTie.lean); close each card by the builder's one call (the guide's Derived/Test/ToyasCard.lean, 'card_holds'). Laid BY PROGRAM, IN A SANDBOX (cutbox-door.mjs). By AI agents, Wed Nov 11 2026. No macro, syntax, notation, axiom, sorry.
-/
import Derived.Test.YtdfkadeceaepeaaGreatDoorRows
import GoSem.ClaimSeven
namespace Go.Proofs.YtdfkadeceaepeaaGreatDoor
namespace Rows

/-- THE TIED CARD OF 'interlacelaw12.TypingMatchesSpec'. -/
def typingMatchesSpecCard : Claim7 := { stood := { row := typingMatchesSpecRow, standIns := [], harness := (true, "0d0f90d3c54e51ff40e71dfcf94462c937c90451e65f743f082a711228d155d8"), looks := false }, kinds := [], alts := [], laidByText := true, laidKinds := [.widerDeep], laidTests := true, laidLooks := .later }
def TypingMatchesSpecCardSaid : Prop := Claim7.holds Tryz.pinned (.plain (OpenSpec.ofChange typingMatchesSpecSpec)) typingMatchesSpecCard

/-- THE TIED CARD OF 'interlacelaw12.TypingFindsAsSpecified'. -/
def typingFindsAsSpecifiedCard : Claim7 := { stood := { row := typingFindsAsSpecifiedRow, standIns := [], harness := (true, "0d0f90d3c54e51ff40e71dfcf94462c937c90451e65f743f082a711228d155d8"), looks := false }, kinds := [], alts := [], laidByText := true, laidKinds := [.widerDeep], laidTests := true, laidLooks := .later }
def TypingFindsAsSpecifiedCardSaid : Prop := Claim7.holds Tryz.pinned (.plain (OpenSpec.ofChange typingFindsAsSpecifiedSpec)) typingFindsAsSpecifiedCard

/-- THE TIED CARD OF 'interlacelaw12.TypingOfParts'. -/
def typingOfPartsCard : Claim7 := { stood := { row := typingOfPartsRow, standIns := [], harness := (true, "0d0f90d3c54e51ff40e71dfcf94462c937c90451e65f743f082a711228d155d8"), looks := false }, kinds := [], alts := [], laidByText := true, laidKinds := [.widerDeep], laidTests := true, laidLooks := .later }
def TypingOfPartsCardSaid : Prop := Claim7.holds Tryz.pinned (.plain (OpenSpec.ofChange typingOfPartsSpec)) typingOfPartsCard

/-- THE TIED CARD OF 'interlacelaw12.TypingOfStages'. -/
def typingOfStagesCard : Claim7 := { stood := { row := typingOfStagesRow, standIns := [], harness := (true, "0d0f90d3c54e51ff40e71dfcf94462c937c90451e65f743f082a711228d155d8"), looks := false }, kinds := [], alts := [], laidByText := true, laidKinds := [.widerDeep], laidTests := true, laidLooks := .later }
def TypingOfStagesCardSaid : Prop := Claim7.holds Tryz.pinned (.plain (OpenSpec.ofChange typingOfStagesSpec)) typingOfStagesCard

/-- THE TIED CARD OF 'interlacelaw12.TypingProgramsMatchSpec'. -/
def typingProgramsMatchSpecCard : Claim7 := { stood := { row := typingProgramsMatchSpecRow, standIns := [], harness := (true, "0d0f90d3c54e51ff40e71dfcf94462c937c90451e65f743f082a711228d155d8"), looks := false }, kinds := [], alts := [], laidByText := true, laidKinds := [.widerDeep], laidTests := true, laidLooks := .later }
def TypingProgramsMatchSpecCardSaid : Prop := Claim7.holds Tryz.pinned (.plain (OpenSpec.ofChange typingProgramsMatchSpecSpec)) typingProgramsMatchSpecCard

/-- THE TIED CARD OF 'interlacelaw12.TypingFreezesAsSpecified'. -/
def typingFreezesAsSpecifiedCard : Claim7 := { stood := { row := typingFreezesAsSpecifiedRow, standIns := [], harness := (true, "0d0f90d3c54e51ff40e71dfcf94462c937c90451e65f743f082a711228d155d8"), looks := false }, kinds := [], alts := [], laidByText := true, laidKinds := [.widerDeep], laidTests := true, laidLooks := .later }
def TypingFreezesAsSpecifiedCardSaid : Prop := Claim7.holds Tryz.pinned (.plain (OpenSpec.ofChange typingFreezesAsSpecifiedSpec)) typingFreezesAsSpecifiedCard

/-- THE TIED CARD OF 'interlacelaw12.TypingFreezeIsStable'. -/
def typingFreezeIsStableCard : Claim7 := { stood := { row := typingFreezeIsStableRow, standIns := [], harness := (true, "0d0f90d3c54e51ff40e71dfcf94462c937c90451e65f743f082a711228d155d8"), looks := false }, kinds := [], alts := [], laidByText := true, laidKinds := [.widerDeep], laidTests := true, laidLooks := .later }
def TypingFreezeIsStableCardSaid : Prop := Claim7.holds Tryz.pinned (.plain (OpenSpec.ofChange typingFreezeIsStableSpec)) typingFreezeIsStableCard

/-- THE SECOND FORM's CARD OF 'interlacelaw12.TypingMatchesSpec'. -/
def typingMatchesSpecUptoCard : Claim7 := { stood := { row := typingMatchesSpecUptoRow, standIns := [], harness := (true, "0d0f90d3c54e51ff40e71dfcf94462c937c90451e65f743f082a711228d155d8"), looks := false }, kinds := [], alts := [], laidByText := true, laidKinds := [.widerDeep], laidTests := true, laidLooks := .later }
def TypingMatchesSpecUptoCardSaid : Prop := Claim7.holds Tryz.pinned (.plain (OpenSpec.upto typingMatchesSpecSpec)) typingMatchesSpecUptoCard

/-- THE SECOND FORM's CARD OF 'interlacelaw12.TypingFindsAsSpecified'. -/
def typingFindsAsSpecifiedUptoCard : Claim7 := { stood := { row := typingFindsAsSpecifiedUptoRow, standIns := [], harness := (true, "0d0f90d3c54e51ff40e71dfcf94462c937c90451e65f743f082a711228d155d8"), looks := false }, kinds := [], alts := [], laidByText := true, laidKinds := [.widerDeep], laidTests := true, laidLooks := .later }
def TypingFindsAsSpecifiedUptoCardSaid : Prop := Claim7.holds Tryz.pinned (.plain (OpenSpec.upto typingFindsAsSpecifiedSpec)) typingFindsAsSpecifiedUptoCard

/-- THE SECOND FORM's CARD OF 'interlacelaw12.TypingOfParts'. -/
def typingOfPartsUptoCard : Claim7 := { stood := { row := typingOfPartsUptoRow, standIns := [], harness := (true, "0d0f90d3c54e51ff40e71dfcf94462c937c90451e65f743f082a711228d155d8"), looks := false }, kinds := [], alts := [], laidByText := true, laidKinds := [.widerDeep], laidTests := true, laidLooks := .later }
def TypingOfPartsUptoCardSaid : Prop := Claim7.holds Tryz.pinned (.plain (OpenSpec.upto typingOfPartsSpec)) typingOfPartsUptoCard

/-- THE SECOND FORM's CARD OF 'interlacelaw12.TypingOfStages'. -/
def typingOfStagesUptoCard : Claim7 := { stood := { row := typingOfStagesUptoRow, standIns := [], harness := (true, "0d0f90d3c54e51ff40e71dfcf94462c937c90451e65f743f082a711228d155d8"), looks := false }, kinds := [], alts := [], laidByText := true, laidKinds := [.widerDeep], laidTests := true, laidLooks := .later }
def TypingOfStagesUptoCardSaid : Prop := Claim7.holds Tryz.pinned (.plain (OpenSpec.upto typingOfStagesSpec)) typingOfStagesUptoCard

/-- THE SECOND FORM's CARD OF 'interlacelaw12.TypingProgramsMatchSpec'. -/
def typingProgramsMatchSpecUptoCard : Claim7 := { stood := { row := typingProgramsMatchSpecUptoRow, standIns := [], harness := (true, "0d0f90d3c54e51ff40e71dfcf94462c937c90451e65f743f082a711228d155d8"), looks := false }, kinds := [], alts := [], laidByText := true, laidKinds := [.widerDeep], laidTests := true, laidLooks := .later }
def TypingProgramsMatchSpecUptoCardSaid : Prop := Claim7.holds Tryz.pinned (.plain (OpenSpec.upto typingProgramsMatchSpecSpec)) typingProgramsMatchSpecUptoCard

/-- THE SECOND FORM's CARD OF 'interlacelaw12.TypingFreezesAsSpecified'. -/
def typingFreezesAsSpecifiedUptoCard : Claim7 := { stood := { row := typingFreezesAsSpecifiedUptoRow, standIns := [], harness := (true, "0d0f90d3c54e51ff40e71dfcf94462c937c90451e65f743f082a711228d155d8"), looks := false }, kinds := [], alts := [], laidByText := true, laidKinds := [.widerDeep], laidTests := true, laidLooks := .later }
def TypingFreezesAsSpecifiedUptoCardSaid : Prop := Claim7.holds Tryz.pinned (.plain (OpenSpec.upto typingFreezesAsSpecifiedSpec)) typingFreezesAsSpecifiedUptoCard

/-- THE SECOND FORM's CARD OF 'interlacelaw12.TypingFreezeIsStable'. -/
def typingFreezeIsStableUptoCard : Claim7 := { stood := { row := typingFreezeIsStableUptoRow, standIns := [], harness := (true, "0d0f90d3c54e51ff40e71dfcf94462c937c90451e65f743f082a711228d155d8"), looks := false }, kinds := [], alts := [], laidByText := true, laidKinds := [.widerDeep], laidTests := true, laidLooks := .later }
def TypingFreezeIsStableUptoCardSaid : Prop := Claim7.holds Tryz.pinned (.plain (OpenSpec.upto typingFreezeIsStableSpec)) typingFreezeIsStableUptoCard
end Rows
end Go.Proofs.YtdfkadeceaepeaaGreatDoor
