/-
  DERIVED. GIVEN WITH THE SEED: THE PROGRAM's TIES (one call each: nine closed facts by the kernel) AND EACH ROW's TIE, after the 31st guide's Derived/Test/Toyas{Tie, Card}.lean. No idea stands in it: it is a product of the set-up. Laid BY PROGRAM, IN A SANDBOX (cutbox-door.mjs). By AI agents, Wed Nov 11 2026. No macro, syntax, notation, axiom, sorry.
-/
import Derived.Test.YtedccjcfafejdaaDoorRows
import Derived.LaidByTextLater
import Derived.SevenTiedAt
import Derived.LaidSub
import Derived.LaidOnce
namespace Go.Proofs.YtedccjcfafejdaaDoor
open Go
set_option maxRecDepth 100000
theorem seatTie1 : Tryd.prog.laidByTextLater [("interlace/interlaceref02.constants", Rows.laid_interlace_interlaceref02_constants), ("interlace/hash.constants", Rows.laid_interlace_hash_constants)] [.data, .data] true :=
  Program.laidByTextLater_by_one 19 8 65 (by kernel_rfl) (by kernel_rfl) (by kernel_rfl) (by kernel_rfl) (by kernel_rfl) (by kernel_rfl) (fun _ _ => by kernel_rfl)
theorem noOwnUnsafe : Tryd.pinned.checked.prog.headLifts.contains "ownunsafe" = false := by kernel_rfl
theorem tie : Tryd.prog.laidByTextLater [("interlace/interlaceref02.constants", Rows.laid_interlace_interlaceref02_constants), ("interlace/hash.constants", Rows.laid_interlace_hash_constants)] [.data, .data] true :=
  Program.laidByTextLater.sub seatTie1 ["interlace/interlaceref02.constants", "interlace/hash.constants"] (by kernel_rfl) (by kernel_rfl)
theorem receiptSumsAdd_row_tie : Rows.receiptSumsAddRow.laidByTextAt .later Tryd.pinned [.data, .data] true :=
  OpenClaim.laidByTextAt_later rfl rfl tie noOwnUnsafe
theorem receiptChecksAsSpecified_row_tie : Rows.receiptChecksAsSpecifiedRow.laidByTextAt .later Tryd.pinned [.data, .data] true :=
  OpenClaim.laidByTextAt_later rfl rfl tie noOwnUnsafe
theorem receiptEncodes_row_tie : Rows.receiptEncodesRow.laidByTextAt .later Tryd.pinned [.data, .data] true :=
  OpenClaim.laidByTextAt_later rfl rfl tie noOwnUnsafe
theorem tie2 : Tryd.prog.laidByTextLater [("interlace/hash.constants", Rows.laid_interlace_hash_constants)] [.data] true :=
  Program.laidByTextLater.sub seatTie1 ["interlace/hash.constants"] (by kernel_rfl) (by kernel_rfl)
theorem receiptHonestNeighbours_row_tie : Rows.receiptHonestNeighboursRow.laidByTextAt .later Tryd.pinned [.data] true :=
  OpenClaim.laidByTextAt_later rfl rfl tie2 noOwnUnsafe
theorem receiptConvicts_row_tie : Rows.receiptConvictsRow.laidByTextAt .later Tryd.pinned [.data] true :=
  OpenClaim.laidByTextAt_later rfl rfl tie2 noOwnUnsafe
theorem receiptChainsBind_row_tie : Rows.receiptChainsBindRow.laidByTextAt .later Tryd.pinned [.data] true :=
  OpenClaim.laidByTextAt_later rfl rfl tie2 noOwnUnsafe
theorem receiptSumsAddUpto_row_tie : Rows.receiptSumsAddUptoRow.laidByTextAt .later Tryd.pinned [.data, .data] true :=
  OpenClaim.laidByTextAt_later rfl rfl tie noOwnUnsafe
theorem receiptHonestNeighboursUpto_row_tie : Rows.receiptHonestNeighboursUptoRow.laidByTextAt .later Tryd.pinned [.data] true :=
  OpenClaim.laidByTextAt_later rfl rfl tie2 noOwnUnsafe
theorem receiptConvictsUpto_row_tie : Rows.receiptConvictsUptoRow.laidByTextAt .later Tryd.pinned [.data] true :=
  OpenClaim.laidByTextAt_later rfl rfl tie2 noOwnUnsafe
theorem receiptChainsBindUpto_row_tie : Rows.receiptChainsBindUptoRow.laidByTextAt .later Tryd.pinned [.data] true :=
  OpenClaim.laidByTextAt_later rfl rfl tie2 noOwnUnsafe
theorem receiptChecksAsSpecifiedUpto_row_tie : Rows.receiptChecksAsSpecifiedUptoRow.laidByTextAt .later Tryd.pinned [.data, .data] true :=
  OpenClaim.laidByTextAt_later rfl rfl tie noOwnUnsafe
theorem receiptEncodesUpto_row_tie : Rows.receiptEncodesUptoRow.laidByTextAt .later Tryd.pinned [.data, .data] true :=
  OpenClaim.laidByTextAt_later rfl rfl tie noOwnUnsafe
end Go.Proofs.YtedccjcfafejdaaDoor
