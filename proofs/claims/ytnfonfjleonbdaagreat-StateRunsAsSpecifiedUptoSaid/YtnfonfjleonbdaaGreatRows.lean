/-
  NARROWER THAN 'FOR EVERY INPUT', by the rows' own cells (each row's printed sentence says how): StateDoesAsSpecified: loops · StateTranslatesBack: loops · StateCommutes: loops · StateRunsAsSpecified: loops.
  DERIVED. THE GIVEN ROWS OF THIS SEAT. 5 by the template 'for every input the law returns true; each argument reads behind the call as it read before'; 0 by the template 'total and deterministic' (their statements: YtnfonfjleonbdaaGreatTotals.lean).
  GIVEN WITH THE SEED: the statements are not yours to turn. If you find one false, say at which input.
  Laid BY PROGRAM, IN A SANDBOX (cutbox-rows.mjs): the forced cells as the released guide's own fill.sh prints them over the translation b4ef9d1ab0220017… (all of the seat's roots in one cut). By AI agents, Wed Nov 11 2026. No macro, syntax, notation, axiom, sorry.
-/
import Derived.Test.YtnfonfjleonbdaaGreatChecked
import GoSem.Claim
import GoSem.ClaimJoined
import GoSem.ClaimMapViews
import Derived.JoinedTies
import Derived.KernelRfl
namespace Go.Proofs.YtnfonfjleonbdaaGreat
/- THE CELL 'sum', in the pinned program and in every row, IS THE sha256 OF THE DUMP (.gsa) THAT YtnfonfjleonbdaaGreatProg.lean LOADS. Nothing in Lean hashes anything: it is a label: what it is worth is what the hold of that sum in a sandbox is worth. -/
noncomputable def Tryz.pinned : Pinned := { name := "ytnfonfjleonbdaagreat", sum := "b4ef9d1ab022001748ce398a9554599a318becff6372393e765fff6152e457f7", checked := Tryz.checked }
namespace Rows
def none {H : Type} : Left H := { results := [], args := [] }

/-- 'interlacelaw17.StateDoesAsSpecified': WHATEVER THE INPUT: true; the input reads as it did. -/
def stateDoesAsSpecifiedSpec : ChangeSpec := { name := "stateDoesAsSpecified", fn := fun _ => fun
  | [d1, d2, d3, d4, d5] => { results := [.lit (.bool true)], args := [d1, d2, d3, d4, d5] }
  | _ => none }
def stateDoesAsSpecifiedRow : OpenClaim := { program := "ytnfonfjleonbdaagreat", sum := "b4ef9d1ab022001748ce398a9554599a318becff6372393e765fff6152e457f7", func := "interlace/interlacelaw17.StateDoesAsSpecified", spec := "stateDoesAsSpecified", inPlace := ["slices.overlaps[interlace/api.Entry]"], unfollowed := true, recurses := true, loops := true, apart := false }
def StateDoesAsSpecifiedSaid : Prop := stateDoesAsSpecifiedRow.holds Tryz.pinned (OpenSpec.ofChange stateDoesAsSpecifiedSpec)

/-- ITS FALSE NEIGHBOUR: 'it returns false'. Refute it at one input. -/
def stateDoesAsSpecifiedWrong : ChangeSpec := { name := "stateDoesAsSpecified", fn := fun _ => fun
  | [d1, d2, d3, d4, d5] => { results := [.lit (.bool false)], args := [d1, d2, d3, d4, d5] }
  | _ => none }
def StateDoesAsSpecifiedWrongFalsely : Prop := stateDoesAsSpecifiedRow.holds Tryz.pinned (OpenSpec.ofChange stateDoesAsSpecifiedWrong)

/-- 'interlacelaw17.StateTranslatesBack': WHATEVER THE INPUT: true; the input reads as it did. -/
def stateTranslatesBackSpec : ChangeSpec := { name := "stateTranslatesBack", fn := fun _ => fun
  | [d1, d2, d3, d4, d5, d6, d7] => { results := [.lit (.bool true)], args := [d1, d2, d3, d4, d5, d6, d7] }
  | _ => none }
def stateTranslatesBackRow : OpenClaim := { program := "ytnfonfjleonbdaagreat", sum := "b4ef9d1ab022001748ce398a9554599a318becff6372393e765fff6152e457f7", func := "interlace/interlacelaw17.StateTranslatesBack", spec := "stateTranslatesBack", inPlace := ["slices.overlaps[interlace/api.Entry]"], unfollowed := true, recurses := true, loops := true, apart := false }
def StateTranslatesBackSaid : Prop := stateTranslatesBackRow.holds Tryz.pinned (OpenSpec.ofChange stateTranslatesBackSpec)

/-- ITS FALSE NEIGHBOUR: 'it returns false'. Refute it at one input. -/
def stateTranslatesBackWrong : ChangeSpec := { name := "stateTranslatesBack", fn := fun _ => fun
  | [d1, d2, d3, d4, d5, d6, d7] => { results := [.lit (.bool false)], args := [d1, d2, d3, d4, d5, d6, d7] }
  | _ => none }
def StateTranslatesBackWrongFalsely : Prop := stateTranslatesBackRow.holds Tryz.pinned (OpenSpec.ofChange stateTranslatesBackWrong)

/-- 'interlacelaw17.StateChecksAsSpecified': WHATEVER THE INPUT: true; the input reads as it did. -/
def stateChecksAsSpecifiedSpec : ChangeSpec := { name := "stateChecksAsSpecified", fn := fun _ => fun
  | [d1, d2, d3, d4, d5] => { results := [.lit (.bool true)], args := [d1, d2, d3, d4, d5] }
  | _ => none }
def stateChecksAsSpecifiedRow : OpenClaim := { program := "ytnfonfjleonbdaagreat", sum := "b4ef9d1ab022001748ce398a9554599a318becff6372393e765fff6152e457f7", func := "interlace/interlacelaw17.StateChecksAsSpecified", spec := "stateChecksAsSpecified", inPlace := ["slices.overlaps[interlace/api.Entry]"], unfollowed := true, recurses := true, apart := false }
def StateChecksAsSpecifiedSaid : Prop := stateChecksAsSpecifiedRow.holds Tryz.pinned (OpenSpec.ofChange stateChecksAsSpecifiedSpec)

/-- ITS FALSE NEIGHBOUR: 'it returns false'. Refute it at one input. -/
def stateChecksAsSpecifiedWrong : ChangeSpec := { name := "stateChecksAsSpecified", fn := fun _ => fun
  | [d1, d2, d3, d4, d5] => { results := [.lit (.bool false)], args := [d1, d2, d3, d4, d5] }
  | _ => none }
def StateChecksAsSpecifiedWrongFalsely : Prop := stateChecksAsSpecifiedRow.holds Tryz.pinned (OpenSpec.ofChange stateChecksAsSpecifiedWrong)

/-- 'interlacelaw17.StateCommutes': WHATEVER THE INPUT: true; the input reads as it did. -/
def stateCommutesSpec : ChangeSpec := { name := "stateCommutes", fn := fun _ => fun
  | [d1, d2, d3, d4, d5, d6, d7, d8] => { results := [.lit (.bool true)], args := [d1, d2, d3, d4, d5, d6, d7, d8] }
  | _ => none }
def stateCommutesRow : OpenClaim := { program := "ytnfonfjleonbdaagreat", sum := "b4ef9d1ab022001748ce398a9554599a318becff6372393e765fff6152e457f7", func := "interlace/interlacelaw17.StateCommutes", spec := "stateCommutes", inPlace := ["slices.overlaps[interlace/api.Entry]"], unfollowed := true, recurses := true, loops := true, apart := false }
def StateCommutesSaid : Prop := stateCommutesRow.holds Tryz.pinned (OpenSpec.ofChange stateCommutesSpec)

/-- ITS FALSE NEIGHBOUR: 'it returns false'. Refute it at one input. -/
def stateCommutesWrong : ChangeSpec := { name := "stateCommutes", fn := fun _ => fun
  | [d1, d2, d3, d4, d5, d6, d7, d8] => { results := [.lit (.bool false)], args := [d1, d2, d3, d4, d5, d6, d7, d8] }
  | _ => none }
def StateCommutesWrongFalsely : Prop := stateCommutesRow.holds Tryz.pinned (OpenSpec.ofChange stateCommutesWrong)

/-- 'interlacelaw17.StateRunsAsSpecified': WHATEVER THE INPUT: true; the input reads as it did. -/
def stateRunsAsSpecifiedSpec : ChangeSpec := { name := "stateRunsAsSpecified", fn := fun _ => fun
  | [d1, d2, d3, d4, d5] => { results := [.lit (.bool true)], args := [d1, d2, d3, d4, d5] }
  | _ => none }
def stateRunsAsSpecifiedRow : OpenClaim := { program := "ytnfonfjleonbdaagreat", sum := "b4ef9d1ab022001748ce398a9554599a318becff6372393e765fff6152e457f7", func := "interlace/interlacelaw17.StateRunsAsSpecified", spec := "stateRunsAsSpecified", inPlace := ["slices.overlaps[interlace/api.Entry]"], unfollowed := true, recurses := true, loops := true, apart := false }
def StateRunsAsSpecifiedSaid : Prop := stateRunsAsSpecifiedRow.holds Tryz.pinned (OpenSpec.ofChange stateRunsAsSpecifiedSpec)

/-- ITS FALSE NEIGHBOUR: 'it returns false'. Refute it at one input. -/
def stateRunsAsSpecifiedWrong : ChangeSpec := { name := "stateRunsAsSpecified", fn := fun _ => fun
  | [d1, d2, d3, d4, d5] => { results := [.lit (.bool false)], args := [d1, d2, d3, d4, d5] }
  | _ => none }
def StateRunsAsSpecifiedWrongFalsely : Prop := stateRunsAsSpecifiedRow.holds Tryz.pinned (OpenSpec.ofChange stateRunsAsSpecifiedWrong)

/- THE SECOND FORM. 'bulk': how many values and letters a reading holds, each counted each time it is reached (what is shared counts as often as it is met; a slice's spare places count too). A statement '..UptoSaid' is the law's where the arguments, and the package variables that the reading takes, are together of bulk at most 1048576: NARROWER than '..Said'. Prove '..Said' where nothing that the law and all that it calls make is longer than what came in: it says more and counts as full. Else prove '..UptoSaid'. A law counts once. -/
mutual
def uptoBulk {H : Type} : DataW H → Nat
  | .lit (.string bytes) => bytes.length + 1
  | .lit _ => 1
  | .nil => 1
  | .ptr d => uptoBulk d + 1
  | .slice elems spare => uptoBulkAll elems + uptoBulkAll spare + 1
  | .agg parts => uptoBulkAll parts + 1
  | .iface _ d => uptoBulk d + 1
  | .map entries => uptoBulkEntries entries + 1
  | .held _ => 1
def uptoBulkAll {H : Type} : List (DataW H) → Nat
  | [] => 0
  | d :: r => uptoBulk d + uptoBulkAll r
def uptoBulkEntries {H : Type} : List (Lit × DataW H) → Nat
  | [] => 0
  | x :: r => uptoBulkEntry x + uptoBulkEntries r
def uptoBulkEntry {H : Type} : Lit × DataW H → Nat
  | (.string bytes, d) => bytes.length + uptoBulk d + 1
  | (_, d) => uptoBulk d + 1
 end
def uptoSmall : (H : Type) → List (DataW H) → Bool := fun _ ds => decide (uptoBulkAll ds ≤ 1048576)
def OpenSpec.upto (s : _root_.Go.ChangeSpec) : _root_.Go.OpenSpec := { _root_.Go.OpenSpec.ofChange s with cond := some uptoSmall }

/-- 'interlacelaw17.StateDoesAsSpecified', WHERE WHAT IT READS IS OF BULK AT MOST 1048576: true; the input reads as it did. -/
def stateDoesAsSpecifiedUptoRow : OpenClaim := { program := "ytnfonfjleonbdaagreat", sum := "b4ef9d1ab022001748ce398a9554599a318becff6372393e765fff6152e457f7", func := "interlace/interlacelaw17.StateDoesAsSpecified", spec := "stateDoesAsSpecified", inPlace := ["slices.overlaps[interlace/api.Entry]"], unfollowed := true, recurses := true, loops := true, apart := false, narrowed := true }
def StateDoesAsSpecifiedUptoSaid : Prop := stateDoesAsSpecifiedUptoRow.holds Tryz.pinned (OpenSpec.upto stateDoesAsSpecifiedSpec)

/-- 'interlacelaw17.StateTranslatesBack', WHERE WHAT IT READS IS OF BULK AT MOST 1048576: true; the input reads as it did. -/
def stateTranslatesBackUptoRow : OpenClaim := { program := "ytnfonfjleonbdaagreat", sum := "b4ef9d1ab022001748ce398a9554599a318becff6372393e765fff6152e457f7", func := "interlace/interlacelaw17.StateTranslatesBack", spec := "stateTranslatesBack", inPlace := ["slices.overlaps[interlace/api.Entry]"], unfollowed := true, recurses := true, loops := true, apart := false, narrowed := true }
def StateTranslatesBackUptoSaid : Prop := stateTranslatesBackUptoRow.holds Tryz.pinned (OpenSpec.upto stateTranslatesBackSpec)

/-- 'interlacelaw17.StateChecksAsSpecified', WHERE WHAT IT READS IS OF BULK AT MOST 1048576: true; the input reads as it did. -/
def stateChecksAsSpecifiedUptoRow : OpenClaim := { program := "ytnfonfjleonbdaagreat", sum := "b4ef9d1ab022001748ce398a9554599a318becff6372393e765fff6152e457f7", func := "interlace/interlacelaw17.StateChecksAsSpecified", spec := "stateChecksAsSpecified", inPlace := ["slices.overlaps[interlace/api.Entry]"], unfollowed := true, recurses := true, apart := false, narrowed := true }
def StateChecksAsSpecifiedUptoSaid : Prop := stateChecksAsSpecifiedUptoRow.holds Tryz.pinned (OpenSpec.upto stateChecksAsSpecifiedSpec)

/-- 'interlacelaw17.StateCommutes', WHERE WHAT IT READS IS OF BULK AT MOST 1048576: true; the input reads as it did. -/
def stateCommutesUptoRow : OpenClaim := { program := "ytnfonfjleonbdaagreat", sum := "b4ef9d1ab022001748ce398a9554599a318becff6372393e765fff6152e457f7", func := "interlace/interlacelaw17.StateCommutes", spec := "stateCommutes", inPlace := ["slices.overlaps[interlace/api.Entry]"], unfollowed := true, recurses := true, loops := true, apart := false, narrowed := true }
def StateCommutesUptoSaid : Prop := stateCommutesUptoRow.holds Tryz.pinned (OpenSpec.upto stateCommutesSpec)

/-- 'interlacelaw17.StateRunsAsSpecified', WHERE WHAT IT READS IS OF BULK AT MOST 1048576: true; the input reads as it did. -/
def stateRunsAsSpecifiedUptoRow : OpenClaim := { program := "ytnfonfjleonbdaagreat", sum := "b4ef9d1ab022001748ce398a9554599a318becff6372393e765fff6152e457f7", func := "interlace/interlacelaw17.StateRunsAsSpecified", spec := "stateRunsAsSpecified", inPlace := ["slices.overlaps[interlace/api.Entry]"], unfollowed := true, recurses := true, loops := true, apart := false, narrowed := true }
def StateRunsAsSpecifiedUptoSaid : Prop := stateRunsAsSpecifiedUptoRow.holds Tryz.pinned (OpenSpec.upto stateRunsAsSpecifiedSpec)

end Rows
end Go.Proofs.YtnfonfjleonbdaaGreat
