/-
  DERIVED. GIVEN WITH THE SEED: THE CARDS: each row of YtedccjcfafejdaaDoorRows.lean that lists a variable, with what it lists TIED to the program's text (the seventh form; the later family's looks); each row that meets fmt, with fmt's text TOLD by the authors' own Lean function (tested against real Go, not proved from fmt's source: count such statements apart). THE CARD IS WHAT COUNTS. Prove the row's statement (the work); the ties are given (YtedccjcfafejdaaDoorTie.lean); close each card by the builder's one call (the guide's Derived/Test/ToyasCard.lean, 'card_holds'). Laid BY PROGRAM, IN A SANDBOX (cutbox-door.mjs). By AI agents, Wed Nov 11 2026. No macro, syntax, notation, axiom, sorry.
-/
import Derived.Test.YtedccjcfafejdaaDoorRows
import GoSem.ClaimSeven
namespace Go.Proofs.YtedccjcfafejdaaDoor
namespace Rows

/-- THE TIED CARD OF 'interlacelaw46.ReceiptSumsAdd'. -/
def receiptSumsAddCard : Claim7 := { stood := { row := receiptSumsAddRow, standIns := [], harness := (true, "f8ebdce4a266f3383eec666f73f96b31ad58ef24d8c90ce1ce26683c53afb831"), looks := false }, kinds := [], alts := [], laidByText := true, laidKinds := [.data, .data], laidTests := true, laidLooks := .later }
def ReceiptSumsAddCardSaid : Prop := Claim7.holds Tryd.pinned (.plain (OpenSpec.ofChange receiptSumsAddSpec)) receiptSumsAddCard

/-- THE TIED CARD OF 'interlacelaw46.ReceiptHonestNeighbours'. -/
def receiptHonestNeighboursCard : Claim7 := { stood := { row := receiptHonestNeighboursRow, standIns := [], harness := (true, "f8ebdce4a266f3383eec666f73f96b31ad58ef24d8c90ce1ce26683c53afb831"), looks := false }, kinds := [], alts := [], laidByText := true, laidKinds := [.data], laidTests := true, laidLooks := .later }
def ReceiptHonestNeighboursCardSaid : Prop := Claim7.holds Tryd.pinned (.plain (OpenSpec.ofChange receiptHonestNeighboursSpec)) receiptHonestNeighboursCard

/-- THE TIED CARD OF 'interlacelaw46.ReceiptConvicts'. -/
def receiptConvictsCard : Claim7 := { stood := { row := receiptConvictsRow, standIns := [], harness := (true, "f8ebdce4a266f3383eec666f73f96b31ad58ef24d8c90ce1ce26683c53afb831"), looks := false }, kinds := [], alts := [], laidByText := true, laidKinds := [.data], laidTests := true, laidLooks := .later }
def ReceiptConvictsCardSaid : Prop := Claim7.holds Tryd.pinned (.plain (OpenSpec.ofChange receiptConvictsSpec)) receiptConvictsCard

/-- THE TIED CARD OF 'interlacelaw46.ReceiptChainsBind'. -/
def receiptChainsBindCard : Claim7 := { stood := { row := receiptChainsBindRow, standIns := [], harness := (true, "f8ebdce4a266f3383eec666f73f96b31ad58ef24d8c90ce1ce26683c53afb831"), looks := false }, kinds := [], alts := [], laidByText := true, laidKinds := [.data], laidTests := true, laidLooks := .later }
def ReceiptChainsBindCardSaid : Prop := Claim7.holds Tryd.pinned (.plain (OpenSpec.ofChange receiptChainsBindSpec)) receiptChainsBindCard

/-- THE TIED CARD OF 'interlacelaw46.ReceiptChecksAsSpecified'. -/
def receiptChecksAsSpecifiedCard : Claim7 := { stood := { row := receiptChecksAsSpecifiedRow, standIns := [], harness := (true, "f8ebdce4a266f3383eec666f73f96b31ad58ef24d8c90ce1ce26683c53afb831"), looks := false }, kinds := [], alts := [], laidByText := true, laidKinds := [.data, .data], laidTests := true, laidLooks := .later }
def ReceiptChecksAsSpecifiedCardSaid : Prop := Claim7.holds Tryd.pinned (.plain (OpenSpec.ofChange receiptChecksAsSpecifiedSpec)) receiptChecksAsSpecifiedCard

/-- THE TIED CARD OF 'interlacelaw46.ReceiptEncodes'. -/
def receiptEncodesCard : Claim7 := { stood := { row := receiptEncodesRow, standIns := [], harness := (true, "f8ebdce4a266f3383eec666f73f96b31ad58ef24d8c90ce1ce26683c53afb831"), looks := false }, kinds := [], alts := [], laidByText := true, laidKinds := [.data, .data], laidTests := true, laidLooks := .later }
def ReceiptEncodesCardSaid : Prop := Claim7.holds Tryd.pinned (.plain (OpenSpec.ofChange receiptEncodesSpec)) receiptEncodesCard

/-- THE SECOND FORM's CARD OF 'interlacelaw46.ReceiptSumsAdd'. -/
def receiptSumsAddUptoCard : Claim7 := { stood := { row := receiptSumsAddUptoRow, standIns := [], harness := (true, "f8ebdce4a266f3383eec666f73f96b31ad58ef24d8c90ce1ce26683c53afb831"), looks := false }, kinds := [], alts := [], laidByText := true, laidKinds := [.data, .data], laidTests := true, laidLooks := .later }
def ReceiptSumsAddUptoCardSaid : Prop := Claim7.holds Tryd.pinned (.plain (OpenSpec.upto receiptSumsAddSpec)) receiptSumsAddUptoCard

/-- THE SECOND FORM's CARD OF 'interlacelaw46.ReceiptHonestNeighbours'. -/
def receiptHonestNeighboursUptoCard : Claim7 := { stood := { row := receiptHonestNeighboursUptoRow, standIns := [], harness := (true, "f8ebdce4a266f3383eec666f73f96b31ad58ef24d8c90ce1ce26683c53afb831"), looks := false }, kinds := [], alts := [], laidByText := true, laidKinds := [.data], laidTests := true, laidLooks := .later }
def ReceiptHonestNeighboursUptoCardSaid : Prop := Claim7.holds Tryd.pinned (.plain (OpenSpec.upto receiptHonestNeighboursSpec)) receiptHonestNeighboursUptoCard

/-- THE SECOND FORM's CARD OF 'interlacelaw46.ReceiptConvicts'. -/
def receiptConvictsUptoCard : Claim7 := { stood := { row := receiptConvictsUptoRow, standIns := [], harness := (true, "f8ebdce4a266f3383eec666f73f96b31ad58ef24d8c90ce1ce26683c53afb831"), looks := false }, kinds := [], alts := [], laidByText := true, laidKinds := [.data], laidTests := true, laidLooks := .later }
def ReceiptConvictsUptoCardSaid : Prop := Claim7.holds Tryd.pinned (.plain (OpenSpec.upto receiptConvictsSpec)) receiptConvictsUptoCard

/-- THE SECOND FORM's CARD OF 'interlacelaw46.ReceiptChainsBind'. -/
def receiptChainsBindUptoCard : Claim7 := { stood := { row := receiptChainsBindUptoRow, standIns := [], harness := (true, "f8ebdce4a266f3383eec666f73f96b31ad58ef24d8c90ce1ce26683c53afb831"), looks := false }, kinds := [], alts := [], laidByText := true, laidKinds := [.data], laidTests := true, laidLooks := .later }
def ReceiptChainsBindUptoCardSaid : Prop := Claim7.holds Tryd.pinned (.plain (OpenSpec.upto receiptChainsBindSpec)) receiptChainsBindUptoCard

/-- THE SECOND FORM's CARD OF 'interlacelaw46.ReceiptChecksAsSpecified'. -/
def receiptChecksAsSpecifiedUptoCard : Claim7 := { stood := { row := receiptChecksAsSpecifiedUptoRow, standIns := [], harness := (true, "f8ebdce4a266f3383eec666f73f96b31ad58ef24d8c90ce1ce26683c53afb831"), looks := false }, kinds := [], alts := [], laidByText := true, laidKinds := [.data, .data], laidTests := true, laidLooks := .later }
def ReceiptChecksAsSpecifiedUptoCardSaid : Prop := Claim7.holds Tryd.pinned (.plain (OpenSpec.upto receiptChecksAsSpecifiedSpec)) receiptChecksAsSpecifiedUptoCard

/-- THE SECOND FORM's CARD OF 'interlacelaw46.ReceiptEncodes'. -/
def receiptEncodesUptoCard : Claim7 := { stood := { row := receiptEncodesUptoRow, standIns := [], harness := (true, "f8ebdce4a266f3383eec666f73f96b31ad58ef24d8c90ce1ce26683c53afb831"), looks := false }, kinds := [], alts := [], laidByText := true, laidKinds := [.data, .data], laidTests := true, laidLooks := .later }
def ReceiptEncodesUptoCardSaid : Prop := Claim7.holds Tryd.pinned (.plain (OpenSpec.upto receiptEncodesSpec)) receiptEncodesUptoCard
end Rows
end Go.Proofs.YtedccjcfafejdaaDoor
