/-
  DERIVED. GIVEN WITH THE SEED: THE CARDS: each row of YtedccjcfafejdaaGreatDoorRows.lean that lists a variable, with what it lists TIED to the program's text (the seventh form; the later family's looks); each row that meets fmt, with fmt's text TOLD by the authors' own Lean function (tested against real Go, not proved from fmt's source: count such statements apart). THE CARD IS WHAT COUNTS. Prove the row's statement (the work); the ties are given (YtedccjcfafejdaaGreatDoorTie.lean); close each card by the builder's one call (the guide's Derived/Test/ToyasCard.lean, 'card_holds'). Laid BY PROGRAM, IN A SANDBOX (cutbox-door.mjs). By AI agents, Wed Nov 11 2026. No macro, syntax, notation, axiom, sorry.
-/
import Derived.Test.YtedccjcfafejdaaGreatDoorRows
import GoSem.ClaimSeven
namespace Go.Proofs.YtedccjcfafejdaaGreatDoor
namespace Rows

/-- THE TIED CARD OF 'interlacelaw46.ReceiptKeepsLedger'. -/
def receiptKeepsLedgerCard : Claim7 := { stood := { row := receiptKeepsLedgerRow, standIns := [], harness := (true, "f749e65fe5ab0f5fb7fc2c8ce9408d72eec034e97943df00e6696dae1e0cf964"), looks := false }, kinds := [], alts := [], laidByText := true, laidKinds := [.data, .data], laidTests := true, laidLooks := .later }
def ReceiptKeepsLedgerCardSaid : Prop := Claim7.holds Tryz.pinned (.plain (OpenSpec.ofChange receiptKeepsLedgerSpec)) receiptKeepsLedgerCard

/-- THE TIED CARD OF 'interlacelaw46.ReceiptMergesAsSpecified'. -/
def receiptMergesAsSpecifiedCard : Claim7 := { stood := { row := receiptMergesAsSpecifiedRow, standIns := [], harness := (true, "f749e65fe5ab0f5fb7fc2c8ce9408d72eec034e97943df00e6696dae1e0cf964"), looks := false }, kinds := [], alts := [], laidByText := true, laidKinds := [.data, .data], laidTests := true, laidLooks := .later }
def ReceiptMergesAsSpecifiedCardSaid : Prop := Claim7.holds Tryz.pinned (.plain (OpenSpec.ofChange receiptMergesAsSpecifiedSpec)) receiptMergesAsSpecifiedCard

/-- THE TIED CARD OF 'interlacelaw46.ReceiptTextsMatchSpec'. -/
def receiptTextsMatchSpecCard : Claim7 := { stood := { row := receiptTextsMatchSpecRow, standIns := [], harness := (true, "f749e65fe5ab0f5fb7fc2c8ce9408d72eec034e97943df00e6696dae1e0cf964"), looks := false }, kinds := [], alts := [], laidByText := true, laidKinds := [.data, .data], laidTests := true, laidLooks := .later }
def ReceiptTextsMatchSpecCardSaid : Prop := Claim7.holds Tryz.pinned (.plain (OpenSpec.ofChange receiptTextsMatchSpecSpec)) receiptTextsMatchSpecCard

/-- THE SECOND FORM's CARD OF 'interlacelaw46.ReceiptKeepsLedger'. -/
def receiptKeepsLedgerUptoCard : Claim7 := { stood := { row := receiptKeepsLedgerUptoRow, standIns := [], harness := (true, "f749e65fe5ab0f5fb7fc2c8ce9408d72eec034e97943df00e6696dae1e0cf964"), looks := false }, kinds := [], alts := [], laidByText := true, laidKinds := [.data, .data], laidTests := true, laidLooks := .later }
def ReceiptKeepsLedgerUptoCardSaid : Prop := Claim7.holds Tryz.pinned (.plain (OpenSpec.upto receiptKeepsLedgerSpec)) receiptKeepsLedgerUptoCard

/-- THE SECOND FORM's CARD OF 'interlacelaw46.ReceiptMergesAsSpecified'. -/
def receiptMergesAsSpecifiedUptoCard : Claim7 := { stood := { row := receiptMergesAsSpecifiedUptoRow, standIns := [], harness := (true, "f749e65fe5ab0f5fb7fc2c8ce9408d72eec034e97943df00e6696dae1e0cf964"), looks := false }, kinds := [], alts := [], laidByText := true, laidKinds := [.data, .data], laidTests := true, laidLooks := .later }
def ReceiptMergesAsSpecifiedUptoCardSaid : Prop := Claim7.holds Tryz.pinned (.plain (OpenSpec.upto receiptMergesAsSpecifiedSpec)) receiptMergesAsSpecifiedUptoCard

/-- THE SECOND FORM's CARD OF 'interlacelaw46.ReceiptTextsMatchSpec'. -/
def receiptTextsMatchSpecUptoCard : Claim7 := { stood := { row := receiptTextsMatchSpecUptoRow, standIns := [], harness := (true, "f749e65fe5ab0f5fb7fc2c8ce9408d72eec034e97943df00e6696dae1e0cf964"), looks := false }, kinds := [], alts := [], laidByText := true, laidKinds := [.data, .data], laidTests := true, laidLooks := .later }
def ReceiptTextsMatchSpecUptoCardSaid : Prop := Claim7.holds Tryz.pinned (.plain (OpenSpec.upto receiptTextsMatchSpecSpec)) receiptTextsMatchSpecUptoCard
end Rows
end Go.Proofs.YtedccjcfafejdaaGreatDoor
