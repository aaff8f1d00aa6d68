/-
  NARROWER THAN 'FOR EVERY INPUT', by the rows' own cells (each row's printed sentence says how): MeaningIsAnAlgebra: loops · MeaningFiltersAreBoolean: loops · MeaningMatchesSpec: loops · MeaningStarIsLeast: loops · MeaningFreezes: loops.
  DERIVED. THE GIVEN ROWS OF THIS SEAT. 7 by the template 'for every input the law returns true; each argument reads behind the call as it read before'; 0 by the template 'total and deterministic' (their statements: YtfbhdkpmipgmbaaTotals.lean).
  GIVEN WITH THE SEED: the statements are not yours to turn. If you find one false, say at which input.
  Laid BY PROGRAM, IN A SANDBOX (cutbox-rows.mjs): the forced cells as the released guide's own fill.sh prints them over the translation eeeec1c374669786… (all of the seat's roots in one cut). By AI agents, Wed Nov 11 2026. No macro, syntax, notation, axiom, sorry.
-/
import Derived.Test.YtfbhdkpmipgmbaaChecked
import GoSem.Claim
import GoSem.ClaimJoined
import GoSem.ClaimMapViews
import Derived.JoinedTies
import Derived.KernelRfl
namespace Go.Proofs.Ytfbhdkpmipgmbaa
/- THE CELL 'sum', in the pinned program and in every row, IS THE sha256 OF THE DUMP (.gsa) THAT YtfbhdkpmipgmbaaProg.lean LOADS. Nothing in Lean hashes anything: it is a label: what it is worth is what the hold of that sum in a sandbox is worth. -/
noncomputable def Try.pinned : Pinned := { name := "ytfbhdkpmipgmbaa", sum := "eeeec1c37466978636ad6ef5e0a27e0465c62ce5a32cfb8b3def4e4bb67c1ace", checked := Try.checked }
namespace Rows
def none {H : Type} : Left H := { results := [], args := [] }

/-- 'interlacelaw13.MeaningMergesSets': WHATEVER THE INPUT: true; the input reads as it did. -/
def meaningMergesSetsSpec : ChangeSpec := { name := "meaningMergesSets", fn := fun _ => fun
  | [d1, d2, d3] => { results := [.lit (.bool true)], args := [d1, d2, d3] }
  | _ => none }
def meaningMergesSetsRow : OpenClaim := { program := "ytfbhdkpmipgmbaa", sum := "eeeec1c37466978636ad6ef5e0a27e0465c62ce5a32cfb8b3def4e4bb67c1ace", func := "interlace/interlacelaw13.MeaningMergesSets", spec := "meaningMergesSets", unfollowed := true, recurses := true, apart := false }
def MeaningMergesSetsSaid : Prop := meaningMergesSetsRow.holds Try.pinned (OpenSpec.ofChange meaningMergesSetsSpec)

/-- ITS FALSE NEIGHBOUR: 'it returns false'. Refute it at one input. -/
def meaningMergesSetsWrong : ChangeSpec := { name := "meaningMergesSets", fn := fun _ => fun
  | [d1, d2, d3] => { results := [.lit (.bool false)], args := [d1, d2, d3] }
  | _ => none }
def MeaningMergesSetsWrongFalsely : Prop := meaningMergesSetsRow.holds Try.pinned (OpenSpec.ofChange meaningMergesSetsWrong)

/-- 'interlacelaw13.MeaningIsAnAlgebra': WHATEVER THE INPUT: true; the input reads as it did. -/
def meaningIsAnAlgebraSpec : ChangeSpec := { name := "meaningIsAnAlgebra", fn := fun _ => fun
  | [d1, d2, d3, d4, d5, d6] => { results := [.lit (.bool true)], args := [d1, d2, d3, d4, d5, d6] }
  | _ => none }
def meaningIsAnAlgebraRow : OpenClaim := { program := "ytfbhdkpmipgmbaa", sum := "eeeec1c37466978636ad6ef5e0a27e0465c62ce5a32cfb8b3def4e4bb67c1ace", func := "interlace/interlacelaw13.MeaningIsAnAlgebra", spec := "meaningIsAnAlgebra", unfollowed := true, recurses := true, loops := true, apart := false }
def MeaningIsAnAlgebraSaid : Prop := meaningIsAnAlgebraRow.holds Try.pinned (OpenSpec.ofChange meaningIsAnAlgebraSpec)

/-- ITS FALSE NEIGHBOUR: 'it returns false'. Refute it at one input. -/
def meaningIsAnAlgebraWrong : ChangeSpec := { name := "meaningIsAnAlgebra", fn := fun _ => fun
  | [d1, d2, d3, d4, d5, d6] => { results := [.lit (.bool false)], args := [d1, d2, d3, d4, d5, d6] }
  | _ => none }
def MeaningIsAnAlgebraWrongFalsely : Prop := meaningIsAnAlgebraRow.holds Try.pinned (OpenSpec.ofChange meaningIsAnAlgebraWrong)

/-- 'interlacelaw13.MeaningFiltersAreBoolean': WHATEVER THE INPUT: true; the input reads as it did. -/
def meaningFiltersAreBooleanSpec : ChangeSpec := { name := "meaningFiltersAreBoolean", fn := fun _ => fun
  | [d1, d2, d3, d4, d5] => { results := [.lit (.bool true)], args := [d1, d2, d3, d4, d5] }
  | _ => none }
def meaningFiltersAreBooleanRow : OpenClaim := { program := "ytfbhdkpmipgmbaa", sum := "eeeec1c37466978636ad6ef5e0a27e0465c62ce5a32cfb8b3def4e4bb67c1ace", func := "interlace/interlacelaw13.MeaningFiltersAreBoolean", spec := "meaningFiltersAreBoolean", unfollowed := true, recurses := true, loops := true, apart := false }
def MeaningFiltersAreBooleanSaid : Prop := meaningFiltersAreBooleanRow.holds Try.pinned (OpenSpec.ofChange meaningFiltersAreBooleanSpec)

/-- ITS FALSE NEIGHBOUR: 'it returns false'. Refute it at one input. -/
def meaningFiltersAreBooleanWrong : ChangeSpec := { name := "meaningFiltersAreBoolean", fn := fun _ => fun
  | [d1, d2, d3, d4, d5] => { results := [.lit (.bool false)], args := [d1, d2, d3, d4, d5] }
  | _ => none }
def MeaningFiltersAreBooleanWrongFalsely : Prop := meaningFiltersAreBooleanRow.holds Try.pinned (OpenSpec.ofChange meaningFiltersAreBooleanWrong)

/-- 'interlacelaw13.MeaningSetsFields': WHATEVER THE INPUT: true; the input reads as it did. -/
def meaningSetsFieldsSpec : ChangeSpec := { name := "meaningSetsFields", fn := fun _ => fun
  | [d1, d2, d3, d4, d5, d6, d7] => { results := [.lit (.bool true)], args := [d1, d2, d3, d4, d5, d6, d7] }
  | _ => none }
def meaningSetsFieldsRow : OpenClaim := { program := "ytfbhdkpmipgmbaa", sum := "eeeec1c37466978636ad6ef5e0a27e0465c62ce5a32cfb8b3def4e4bb67c1ace", func := "interlace/interlacelaw13.MeaningSetsFields", spec := "meaningSetsFields", unfollowed := true, recurses := true, apart := false }
def MeaningSetsFieldsSaid : Prop := meaningSetsFieldsRow.holds Try.pinned (OpenSpec.ofChange meaningSetsFieldsSpec)

/-- ITS FALSE NEIGHBOUR: 'it returns false'. Refute it at one input. -/
def meaningSetsFieldsWrong : ChangeSpec := { name := "meaningSetsFields", fn := fun _ => fun
  | [d1, d2, d3, d4, d5, d6, d7] => { results := [.lit (.bool false)], args := [d1, d2, d3, d4, d5, d6, d7] }
  | _ => none }
def MeaningSetsFieldsWrongFalsely : Prop := meaningSetsFieldsRow.holds Try.pinned (OpenSpec.ofChange meaningSetsFieldsWrong)

/-- 'interlacelaw13.MeaningMatchesSpec': WHATEVER THE INPUT: true; the input reads as it did. -/
def meaningMatchesSpecSpec : ChangeSpec := { name := "meaningMatchesSpec", fn := fun _ => fun
  | [d1, d2, d3, d4, d5, d6] => { results := [.lit (.bool true)], args := [d1, d2, d3, d4, d5, d6] }
  | _ => none }
def meaningMatchesSpecRow : OpenClaim := { program := "ytfbhdkpmipgmbaa", sum := "eeeec1c37466978636ad6ef5e0a27e0465c62ce5a32cfb8b3def4e4bb67c1ace", func := "interlace/interlacelaw13.MeaningMatchesSpec", spec := "meaningMatchesSpec", unfollowed := true, recurses := true, loops := true, apart := false }
def MeaningMatchesSpecSaid : Prop := meaningMatchesSpecRow.holds Try.pinned (OpenSpec.ofChange meaningMatchesSpecSpec)

/-- ITS FALSE NEIGHBOUR: 'it returns false'. Refute it at one input. -/
def meaningMatchesSpecWrong : ChangeSpec := { name := "meaningMatchesSpec", fn := fun _ => fun
  | [d1, d2, d3, d4, d5, d6] => { results := [.lit (.bool false)], args := [d1, d2, d3, d4, d5, d6] }
  | _ => none }
def MeaningMatchesSpecWrongFalsely : Prop := meaningMatchesSpecRow.holds Try.pinned (OpenSpec.ofChange meaningMatchesSpecWrong)

/-- 'interlacelaw13.MeaningStarIsLeast': WHATEVER THE INPUT: true; the input reads as it did. -/
def meaningStarIsLeastSpec : ChangeSpec := { name := "meaningStarIsLeast", fn := fun _ => fun
  | [d1, d2, d3, d4, d5, d6] => { results := [.lit (.bool true)], args := [d1, d2, d3, d4, d5, d6] }
  | _ => none }
def meaningStarIsLeastRow : OpenClaim := { program := "ytfbhdkpmipgmbaa", sum := "eeeec1c37466978636ad6ef5e0a27e0465c62ce5a32cfb8b3def4e4bb67c1ace", func := "interlace/interlacelaw13.MeaningStarIsLeast", spec := "meaningStarIsLeast", unfollowed := true, recurses := true, loops := true, apart := false }
def MeaningStarIsLeastSaid : Prop := meaningStarIsLeastRow.holds Try.pinned (OpenSpec.ofChange meaningStarIsLeastSpec)

/-- ITS FALSE NEIGHBOUR: 'it returns false'. Refute it at one input. -/
def meaningStarIsLeastWrong : ChangeSpec := { name := "meaningStarIsLeast", fn := fun _ => fun
  | [d1, d2, d3, d4, d5, d6] => { results := [.lit (.bool false)], args := [d1, d2, d3, d4, d5, d6] }
  | _ => none }
def MeaningStarIsLeastWrongFalsely : Prop := meaningStarIsLeastRow.holds Try.pinned (OpenSpec.ofChange meaningStarIsLeastWrong)

/-- 'interlacelaw13.MeaningFreezes': WHATEVER THE INPUT: true; the input reads as it did. -/
def meaningFreezesSpec : ChangeSpec := { name := "meaningFreezes", fn := fun _ => fun
  | [d1, d2, d3, d4, d5] => { results := [.lit (.bool true)], args := [d1, d2, d3, d4, d5] }
  | _ => none }
def meaningFreezesRow : OpenClaim := { program := "ytfbhdkpmipgmbaa", sum := "eeeec1c37466978636ad6ef5e0a27e0465c62ce5a32cfb8b3def4e4bb67c1ace", func := "interlace/interlacelaw13.MeaningFreezes", spec := "meaningFreezes", unfollowed := true, recurses := true, loops := true, apart := false }
def MeaningFreezesSaid : Prop := meaningFreezesRow.holds Try.pinned (OpenSpec.ofChange meaningFreezesSpec)

/-- ITS FALSE NEIGHBOUR: 'it returns false'. Refute it at one input. -/
def meaningFreezesWrong : ChangeSpec := { name := "meaningFreezes", fn := fun _ => fun
  | [d1, d2, d3, d4, d5] => { results := [.lit (.bool false)], args := [d1, d2, d3, d4, d5] }
  | _ => none }
def MeaningFreezesWrongFalsely : Prop := meaningFreezesRow.holds Try.pinned (OpenSpec.ofChange meaningFreezesWrong)

/- THE SECOND FORM. 'bulk': how many values and letters a reading holds, each counted each time it is reached (what is shared counts as often as it is met; a slice's spare places count too). A statement '..UptoSaid' is the law's where the arguments, and the package variables that the reading takes, are together of bulk at most 1048576: NARROWER than '..Said'. Prove '..Said' where nothing that the law and all that it calls make is longer than what came in: it says more and counts as full. Else prove '..UptoSaid'. A law counts once. -/
mutual
def uptoBulk {H : Type} : DataW H → Nat
  | .lit (.string bytes) => bytes.length + 1
  | .lit _ => 1
  | .nil => 1
  | .ptr d => uptoBulk d + 1
  | .slice elems spare => uptoBulkAll elems + uptoBulkAll spare + 1
  | .agg parts => uptoBulkAll parts + 1
  | .iface _ d => uptoBulk d + 1
  | .map entries => uptoBulkEntries entries + 1
  | .held _ => 1
def uptoBulkAll {H : Type} : List (DataW H) → Nat
  | [] => 0
  | d :: r => uptoBulk d + uptoBulkAll r
def uptoBulkEntries {H : Type} : List (Lit × DataW H) → Nat
  | [] => 0
  | x :: r => uptoBulkEntry x + uptoBulkEntries r
def uptoBulkEntry {H : Type} : Lit × DataW H → Nat
  | (.string bytes, d) => bytes.length + uptoBulk d + 1
  | (_, d) => uptoBulk d + 1
 end
def uptoSmall : (H : Type) → List (DataW H) → Bool := fun _ ds => decide (uptoBulkAll ds ≤ 1048576)
def OpenSpec.upto (s : _root_.Go.ChangeSpec) : _root_.Go.OpenSpec := { _root_.Go.OpenSpec.ofChange s with cond := some uptoSmall }

/-- 'interlacelaw13.MeaningMergesSets', WHERE WHAT IT READS IS OF BULK AT MOST 1048576: true; the input reads as it did. -/
def meaningMergesSetsUptoRow : OpenClaim := { program := "ytfbhdkpmipgmbaa", sum := "eeeec1c37466978636ad6ef5e0a27e0465c62ce5a32cfb8b3def4e4bb67c1ace", func := "interlace/interlacelaw13.MeaningMergesSets", spec := "meaningMergesSets", unfollowed := true, recurses := true, apart := false, narrowed := true }
def MeaningMergesSetsUptoSaid : Prop := meaningMergesSetsUptoRow.holds Try.pinned (OpenSpec.upto meaningMergesSetsSpec)

/-- 'interlacelaw13.MeaningIsAnAlgebra', WHERE WHAT IT READS IS OF BULK AT MOST 1048576: true; the input reads as it did. -/
def meaningIsAnAlgebraUptoRow : OpenClaim := { program := "ytfbhdkpmipgmbaa", sum := "eeeec1c37466978636ad6ef5e0a27e0465c62ce5a32cfb8b3def4e4bb67c1ace", func := "interlace/interlacelaw13.MeaningIsAnAlgebra", spec := "meaningIsAnAlgebra", unfollowed := true, recurses := true, loops := true, apart := false, narrowed := true }
def MeaningIsAnAlgebraUptoSaid : Prop := meaningIsAnAlgebraUptoRow.holds Try.pinned (OpenSpec.upto meaningIsAnAlgebraSpec)

/-- 'interlacelaw13.MeaningFiltersAreBoolean', WHERE WHAT IT READS IS OF BULK AT MOST 1048576: true; the input reads as it did. -/
def meaningFiltersAreBooleanUptoRow : OpenClaim := { program := "ytfbhdkpmipgmbaa", sum := "eeeec1c37466978636ad6ef5e0a27e0465c62ce5a32cfb8b3def4e4bb67c1ace", func := "interlace/interlacelaw13.MeaningFiltersAreBoolean", spec := "meaningFiltersAreBoolean", unfollowed := true, recurses := true, loops := true, apart := false, narrowed := true }
def MeaningFiltersAreBooleanUptoSaid : Prop := meaningFiltersAreBooleanUptoRow.holds Try.pinned (OpenSpec.upto meaningFiltersAreBooleanSpec)

/-- 'interlacelaw13.MeaningSetsFields', WHERE WHAT IT READS IS OF BULK AT MOST 1048576: true; the input reads as it did. -/
def meaningSetsFieldsUptoRow : OpenClaim := { program := "ytfbhdkpmipgmbaa", sum := "eeeec1c37466978636ad6ef5e0a27e0465c62ce5a32cfb8b3def4e4bb67c1ace", func := "interlace/interlacelaw13.MeaningSetsFields", spec := "meaningSetsFields", unfollowed := true, recurses := true, apart := false, narrowed := true }
def MeaningSetsFieldsUptoSaid : Prop := meaningSetsFieldsUptoRow.holds Try.pinned (OpenSpec.upto meaningSetsFieldsSpec)

/-- 'interlacelaw13.MeaningMatchesSpec', WHERE WHAT IT READS IS OF BULK AT MOST 1048576: true; the input reads as it did. -/
def meaningMatchesSpecUptoRow : OpenClaim := { program := "ytfbhdkpmipgmbaa", sum := "eeeec1c37466978636ad6ef5e0a27e0465c62ce5a32cfb8b3def4e4bb67c1ace", func := "interlace/interlacelaw13.MeaningMatchesSpec", spec := "meaningMatchesSpec", unfollowed := true, recurses := true, loops := true, apart := false, narrowed := true }
def MeaningMatchesSpecUptoSaid : Prop := meaningMatchesSpecUptoRow.holds Try.pinned (OpenSpec.upto meaningMatchesSpecSpec)

/-- 'interlacelaw13.MeaningStarIsLeast', WHERE WHAT IT READS IS OF BULK AT MOST 1048576: true; the input reads as it did. -/
def meaningStarIsLeastUptoRow : OpenClaim := { program := "ytfbhdkpmipgmbaa", sum := "eeeec1c37466978636ad6ef5e0a27e0465c62ce5a32cfb8b3def4e4bb67c1ace", func := "interlace/interlacelaw13.MeaningStarIsLeast", spec := "meaningStarIsLeast", unfollowed := true, recurses := true, loops := true, apart := false, narrowed := true }
def MeaningStarIsLeastUptoSaid : Prop := meaningStarIsLeastUptoRow.holds Try.pinned (OpenSpec.upto meaningStarIsLeastSpec)

/-- 'interlacelaw13.MeaningFreezes', WHERE WHAT IT READS IS OF BULK AT MOST 1048576: true; the input reads as it did. -/
def meaningFreezesUptoRow : OpenClaim := { program := "ytfbhdkpmipgmbaa", sum := "eeeec1c37466978636ad6ef5e0a27e0465c62ce5a32cfb8b3def4e4bb67c1ace", func := "interlace/interlacelaw13.MeaningFreezes", spec := "meaningFreezes", unfollowed := true, recurses := true, loops := true, apart := false, narrowed := true }
def MeaningFreezesUptoSaid : Prop := meaningFreezesUptoRow.holds Try.pinned (OpenSpec.upto meaningFreezesSpec)

end Rows
end Go.Proofs.Ytfbhdkpmipgmbaa
