/-
  NARROWER THAN 'FOR EVERY INPUT', by the rows' own cells (each row's printed sentence says how): TypingMatchesSpec: loops, laid · TypingFindsAsSpecified: loops, laid · TypingOfParts: loops, laid · TypingOfStages: loops, laid · TypingProgramsMatchSpec: loops, laid · TypingFreezesAsSpecified: loops, laid · TypingFreezeIsStable: loops, laid.
  DERIVED. THE GIVEN ROWS OF THIS SEAT. 7 by the template 'for every input the law returns true; each argument reads behind the call as it read before'; 0 by the template 'total and deterministic' (their statements: YtdfkadeceaepeaaGreatDoorTotals.lean).
  GIVEN WITH THE SEED: the statements are not yours to turn. If you find one false, say at which input.
  Laid BY PROGRAM, IN A SANDBOX (cutbox-rows.mjs): the forced cells as the released guide's own fill.sh prints them over the translation 74ab655f196303b8… (all of the seat's roots in one cut). By AI agents, Wed Nov 11 2026. No macro, syntax, notation, axiom, sorry.
-/
import Derived.Test.YtdfkadeceaepeaaGreatDoorChecked
import GoSem.Claim
import GoSem.ClaimJoined
import GoSem.ClaimMapViews
import Derived.JoinedTies
import Derived.KernelRfl
namespace Go.Proofs.YtdfkadeceaepeaaGreatDoor
/- THE CELL 'sum', in the pinned program and in every row, IS THE sha256 OF THE DUMP (.gsa) THAT YtdfkadeceaepeaaGreatDoorProg.lean LOADS. Nothing in Lean hashes anything: it is a label: what it is worth is what the hold of that sum in a sandbox is worth. -/
noncomputable def Tryz.pinned : Pinned := { name := "ytdfkadeceaepeaagreatdoor", sum := "74ab655f196303b89c57cb27eb284bdeb929a7ca2fb1f0db83ad0f6775b547aa", checked := Tryz.checked }
namespace Rows
def none {H : Type} : Left H := { results := [], args := [] }

/- WHAT THE LISTED PACKAGE-LEVEL VARIABLES READ AS WHEN THE CALL BEGINS. Each datum BY PROGRAM (the guide's laid-datum.mjs) off the statement by which the dump's own 'gosem.cut.vars' lays the variable. In a bare row this is a premise. The card (YtdfkadeceaepeaaGreatDoorCards.lean) ties it to the program's text. -/
def laid_interlace_token_words {H : Type} : DataW H := .agg [.lit (.string [97, 110, 100]), .lit (.string [97, 110, 121]), .lit (.string [97, 116]), .lit (.string [98, 97, 99, 107]), .lit (.string [98, 111, 120]), .lit (.string [98, 117, 114, 115, 116]), .lit (.string [98, 121]), .lit (.string [99, 97, 112, 97, 99, 105, 116, 121]), .lit (.string [99, 101, 105, 108, 105, 110, 103]), .lit (.string [99, 104, 101, 99, 107]), .lit (.string [99, 111, 110, 116, 114, 97, 99, 116]), .lit (.string [99, 111, 117, 110, 116]), .lit (.string [100, 101, 109, 97, 110, 100]), .lit (.string [100, 114, 111, 112]), .lit (.string [101, 97, 99, 104]), .lit (.string [101, 100, 103, 101]), .lit (.string [101, 110, 116, 114, 105, 101, 115]), .lit (.string [102, 97, 108, 115, 101]), .lit (.string [102, 105, 101, 108, 100]), .lit (.string [102, 108, 111, 111, 114]), .lit (.string [102, 114, 111, 109]), .lit (.string [105, 100]), .lit (.string [105, 110]), .lit (.string [105, 110, 110, 101, 114]), .lit (.string [105, 110, 116, 111]), .lit (.string [108, 105, 110, 107]), .lit (.string [110, 101, 116, 119, 111, 114, 107]), .lit (.string [110, 111, 100, 101]), .lit (.string [110, 111, 116]), .lit (.string [111, 112, 101, 110]), .lit (.string [111, 114]), .lit (.string [112, 97, 116, 104]), .lit (.string [112, 111, 114, 116]), .lit (.string [112, 114, 105, 99, 101]), .lit (.string [114, 111, 117, 116, 101]), .lit (.string [114, 117, 108, 101, 115]), .lit (.string [115, 116, 97, 103, 101]), .lit (.string [116, 97, 107, 101]), .lit (.string [116, 101, 110, 97, 110, 116]), .lit (.string [116, 104, 101, 110]), .lit (.string [116, 105, 109, 101]), .lit (.string [116, 111]), .lit (.string [116, 111, 107, 101, 110]), .lit (.string [116, 114, 97, 110, 115, 108, 97, 116, 101]), .lit (.string [116, 114, 117, 101]), .lit (.string [118, 105, 97]), .lit (.string [119, 105, 100, 116, 104]), .lit (.string [119, 105, 114, 101]), .lit (.string [119, 105, 116, 104, 105, 110])]

/-- 'interlacelaw12.TypingMatchesSpec': WHATEVER THE INPUT: true; the input reads as it did. -/
def typingMatchesSpecSpec : ChangeSpec := { name := "typingMatchesSpec", fn := fun _ => fun
  | [d1, d2, d3, d4] => { results := [.lit (.bool true)], args := [d1, d2, d3, d4] }
  | _ => none }
def typingMatchesSpecRow : OpenClaim := { program := "ytdfkadeceaepeaagreatdoor", sum := "74ab655f196303b89c57cb27eb284bdeb929a7ca2fb1f0db83ad0f6775b547aa", func := "interlace/interlacelaw12.TypingMatchesSpec", spec := "typingMatchesSpec", unfollowed := true, recurses := true, named := ["interlace/token.words"], loops := true, apart := false, laid := [("interlace/token.words", laid_interlace_token_words)] }
def TypingMatchesSpecSaid : Prop := typingMatchesSpecRow.holds Tryz.pinned (OpenSpec.ofChange typingMatchesSpecSpec)

/-- ITS FALSE NEIGHBOUR: 'it returns false'. Refute it at one input. -/
def typingMatchesSpecWrong : ChangeSpec := { name := "typingMatchesSpec", fn := fun _ => fun
  | [d1, d2, d3, d4] => { results := [.lit (.bool false)], args := [d1, d2, d3, d4] }
  | _ => none }
def TypingMatchesSpecWrongFalsely : Prop := typingMatchesSpecRow.holds Tryz.pinned (OpenSpec.ofChange typingMatchesSpecWrong)

/-- 'interlacelaw12.TypingFindsAsSpecified': WHATEVER THE INPUT: true; the input reads as it did. -/
def typingFindsAsSpecifiedSpec : ChangeSpec := { name := "typingFindsAsSpecified", fn := fun _ => fun
  | [d] => { results := [.lit (.bool true)], args := [d] }
  | _ => none }
def typingFindsAsSpecifiedRow : OpenClaim := { program := "ytdfkadeceaepeaagreatdoor", sum := "74ab655f196303b89c57cb27eb284bdeb929a7ca2fb1f0db83ad0f6775b547aa", func := "interlace/interlacelaw12.TypingFindsAsSpecified", spec := "typingFindsAsSpecified", unfollowed := true, recurses := true, named := ["interlace/token.words"], loops := true, apart := false, laid := [("interlace/token.words", laid_interlace_token_words)] }
def TypingFindsAsSpecifiedSaid : Prop := typingFindsAsSpecifiedRow.holds Tryz.pinned (OpenSpec.ofChange typingFindsAsSpecifiedSpec)

/-- ITS FALSE NEIGHBOUR: 'it returns false'. Refute it at one input. -/
def typingFindsAsSpecifiedWrong : ChangeSpec := { name := "typingFindsAsSpecified", fn := fun _ => fun
  | [d] => { results := [.lit (.bool false)], args := [d] }
  | _ => none }
def TypingFindsAsSpecifiedWrongFalsely : Prop := typingFindsAsSpecifiedRow.holds Tryz.pinned (OpenSpec.ofChange typingFindsAsSpecifiedWrong)

/-- 'interlacelaw12.TypingOfParts': WHATEVER THE INPUT: true; the input reads as it did. -/
def typingOfPartsSpec : ChangeSpec := { name := "typingOfParts", fn := fun _ => fun
  | [d1, d2, d3] => { results := [.lit (.bool true)], args := [d1, d2, d3] }
  | _ => none }
def typingOfPartsRow : OpenClaim := { program := "ytdfkadeceaepeaagreatdoor", sum := "74ab655f196303b89c57cb27eb284bdeb929a7ca2fb1f0db83ad0f6775b547aa", func := "interlace/interlacelaw12.TypingOfParts", spec := "typingOfParts", unfollowed := true, recurses := true, named := ["interlace/token.words"], loops := true, apart := false, laid := [("interlace/token.words", laid_interlace_token_words)] }
def TypingOfPartsSaid : Prop := typingOfPartsRow.holds Tryz.pinned (OpenSpec.ofChange typingOfPartsSpec)

/-- ITS FALSE NEIGHBOUR: 'it returns false'. Refute it at one input. -/
def typingOfPartsWrong : ChangeSpec := { name := "typingOfParts", fn := fun _ => fun
  | [d1, d2, d3] => { results := [.lit (.bool false)], args := [d1, d2, d3] }
  | _ => none }
def TypingOfPartsWrongFalsely : Prop := typingOfPartsRow.holds Tryz.pinned (OpenSpec.ofChange typingOfPartsWrong)

/-- 'interlacelaw12.TypingOfStages': WHATEVER THE INPUT: true; the input reads as it did. -/
def typingOfStagesSpec : ChangeSpec := { name := "typingOfStages", fn := fun _ => fun
  | [d1, d2, d3, d4, d5] => { results := [.lit (.bool true)], args := [d1, d2, d3, d4, d5] }
  | _ => none }
def typingOfStagesRow : OpenClaim := { program := "ytdfkadeceaepeaagreatdoor", sum := "74ab655f196303b89c57cb27eb284bdeb929a7ca2fb1f0db83ad0f6775b547aa", func := "interlace/interlacelaw12.TypingOfStages", spec := "typingOfStages", unfollowed := true, recurses := true, named := ["interlace/token.words"], loops := true, apart := false, laid := [("interlace/token.words", laid_interlace_token_words)] }
def TypingOfStagesSaid : Prop := typingOfStagesRow.holds Tryz.pinned (OpenSpec.ofChange typingOfStagesSpec)

/-- ITS FALSE NEIGHBOUR: 'it returns false'. Refute it at one input. -/
def typingOfStagesWrong : ChangeSpec := { name := "typingOfStages", fn := fun _ => fun
  | [d1, d2, d3, d4, d5] => { results := [.lit (.bool false)], args := [d1, d2, d3, d4, d5] }
  | _ => none }
def TypingOfStagesWrongFalsely : Prop := typingOfStagesRow.holds Tryz.pinned (OpenSpec.ofChange typingOfStagesWrong)

/-- 'interlacelaw12.TypingProgramsMatchSpec': WHATEVER THE INPUT: true; the input reads as it did. -/
def typingProgramsMatchSpecSpec : ChangeSpec := { name := "typingProgramsMatchSpec", fn := fun _ => fun
  | [d1, d2, d3, d4] => { results := [.lit (.bool true)], args := [d1, d2, d3, d4] }
  | _ => none }
def typingProgramsMatchSpecRow : OpenClaim := { program := "ytdfkadeceaepeaagreatdoor", sum := "74ab655f196303b89c57cb27eb284bdeb929a7ca2fb1f0db83ad0f6775b547aa", func := "interlace/interlacelaw12.TypingProgramsMatchSpec", spec := "typingProgramsMatchSpec", unfollowed := true, recurses := true, named := ["interlace/token.words"], loops := true, apart := false, laid := [("interlace/token.words", laid_interlace_token_words)] }
def TypingProgramsMatchSpecSaid : Prop := typingProgramsMatchSpecRow.holds Tryz.pinned (OpenSpec.ofChange typingProgramsMatchSpecSpec)

/-- ITS FALSE NEIGHBOUR: 'it returns false'. Refute it at one input. -/
def typingProgramsMatchSpecWrong : ChangeSpec := { name := "typingProgramsMatchSpec", fn := fun _ => fun
  | [d1, d2, d3, d4] => { results := [.lit (.bool false)], args := [d1, d2, d3, d4] }
  | _ => none }
def TypingProgramsMatchSpecWrongFalsely : Prop := typingProgramsMatchSpecRow.holds Tryz.pinned (OpenSpec.ofChange typingProgramsMatchSpecWrong)

/-- 'interlacelaw12.TypingFreezesAsSpecified': WHATEVER THE INPUT: true; the input reads as it did. -/
def typingFreezesAsSpecifiedSpec : ChangeSpec := { name := "typingFreezesAsSpecified", fn := fun _ => fun
  | [d1, d2] => { results := [.lit (.bool true)], args := [d1, d2] }
  | _ => none }
def typingFreezesAsSpecifiedRow : OpenClaim := { program := "ytdfkadeceaepeaagreatdoor", sum := "74ab655f196303b89c57cb27eb284bdeb929a7ca2fb1f0db83ad0f6775b547aa", func := "interlace/interlacelaw12.TypingFreezesAsSpecified", spec := "typingFreezesAsSpecified", unfollowed := true, recurses := true, named := ["interlace/token.words"], loops := true, apart := false, laid := [("interlace/token.words", laid_interlace_token_words)] }
def TypingFreezesAsSpecifiedSaid : Prop := typingFreezesAsSpecifiedRow.holds Tryz.pinned (OpenSpec.ofChange typingFreezesAsSpecifiedSpec)

/-- ITS FALSE NEIGHBOUR: 'it returns false'. Refute it at one input. -/
def typingFreezesAsSpecifiedWrong : ChangeSpec := { name := "typingFreezesAsSpecified", fn := fun _ => fun
  | [d1, d2] => { results := [.lit (.bool false)], args := [d1, d2] }
  | _ => none }
def TypingFreezesAsSpecifiedWrongFalsely : Prop := typingFreezesAsSpecifiedRow.holds Tryz.pinned (OpenSpec.ofChange typingFreezesAsSpecifiedWrong)

/-- 'interlacelaw12.TypingFreezeIsStable': WHATEVER THE INPUT: true; the input reads as it did. -/
def typingFreezeIsStableSpec : ChangeSpec := { name := "typingFreezeIsStable", fn := fun _ => fun
  | [d1, d2, d3, d4] => { results := [.lit (.bool true)], args := [d1, d2, d3, d4] }
  | _ => none }
def typingFreezeIsStableRow : OpenClaim := { program := "ytdfkadeceaepeaagreatdoor", sum := "74ab655f196303b89c57cb27eb284bdeb929a7ca2fb1f0db83ad0f6775b547aa", func := "interlace/interlacelaw12.TypingFreezeIsStable", spec := "typingFreezeIsStable", unfollowed := true, recurses := true, named := ["interlace/token.words"], loops := true, apart := false, laid := [("interlace/token.words", laid_interlace_token_words)] }
def TypingFreezeIsStableSaid : Prop := typingFreezeIsStableRow.holds Tryz.pinned (OpenSpec.ofChange typingFreezeIsStableSpec)

/-- ITS FALSE NEIGHBOUR: 'it returns false'. Refute it at one input. -/
def typingFreezeIsStableWrong : ChangeSpec := { name := "typingFreezeIsStable", fn := fun _ => fun
  | [d1, d2, d3, d4] => { results := [.lit (.bool false)], args := [d1, d2, d3, d4] }
  | _ => none }
def TypingFreezeIsStableWrongFalsely : Prop := typingFreezeIsStableRow.holds Tryz.pinned (OpenSpec.ofChange typingFreezeIsStableWrong)

/- THE SECOND FORM. 'bulk': how many values and letters a reading holds, each counted each time it is reached (what is shared counts as often as it is met; a slice's spare places count too). A statement '..UptoSaid' is the law's where the arguments, and the package variables that the reading takes, are together of bulk at most 1048576: NARROWER than '..Said'. Prove '..Said' where nothing that the law and all that it calls make is longer than what came in: it says more and counts as full. Else prove '..UptoSaid'. A law counts once. -/
mutual
def uptoBulk {H : Type} : DataW H → Nat
  | .lit (.string bytes) => bytes.length + 1
  | .lit _ => 1
  | .nil => 1
  | .ptr d => uptoBulk d + 1
  | .slice elems spare => uptoBulkAll elems + uptoBulkAll spare + 1
  | .agg parts => uptoBulkAll parts + 1
  | .iface _ d => uptoBulk d + 1
  | .map entries => uptoBulkEntries entries + 1
  | .held _ => 1
def uptoBulkAll {H : Type} : List (DataW H) → Nat
  | [] => 0
  | d :: r => uptoBulk d + uptoBulkAll r
def uptoBulkEntries {H : Type} : List (Lit × DataW H) → Nat
  | [] => 0
  | x :: r => uptoBulkEntry x + uptoBulkEntries r
def uptoBulkEntry {H : Type} : Lit × DataW H → Nat
  | (.string bytes, d) => bytes.length + uptoBulk d + 1
  | (_, d) => uptoBulk d + 1
 end
def uptoSmall : (H : Type) → List (DataW H) → Bool := fun _ ds => decide (uptoBulkAll ds ≤ 1048576)
def OpenSpec.upto (s : _root_.Go.ChangeSpec) : _root_.Go.OpenSpec := { _root_.Go.OpenSpec.ofChange s with cond := some uptoSmall }

/-- 'interlacelaw12.TypingMatchesSpec', WHERE WHAT IT READS IS OF BULK AT MOST 1048576: true; the input reads as it did. -/
def typingMatchesSpecUptoRow : OpenClaim := { program := "ytdfkadeceaepeaagreatdoor", sum := "74ab655f196303b89c57cb27eb284bdeb929a7ca2fb1f0db83ad0f6775b547aa", func := "interlace/interlacelaw12.TypingMatchesSpec", spec := "typingMatchesSpec", unfollowed := true, recurses := true, named := ["interlace/token.words"], loops := true, apart := false, laid := [("interlace/token.words", laid_interlace_token_words)], narrowed := true }
def TypingMatchesSpecUptoSaid : Prop := typingMatchesSpecUptoRow.holds Tryz.pinned (OpenSpec.upto typingMatchesSpecSpec)

/-- 'interlacelaw12.TypingFindsAsSpecified', WHERE WHAT IT READS IS OF BULK AT MOST 1048576: true; the input reads as it did. -/
def typingFindsAsSpecifiedUptoRow : OpenClaim := { program := "ytdfkadeceaepeaagreatdoor", sum := "74ab655f196303b89c57cb27eb284bdeb929a7ca2fb1f0db83ad0f6775b547aa", func := "interlace/interlacelaw12.TypingFindsAsSpecified", spec := "typingFindsAsSpecified", unfollowed := true, recurses := true, named := ["interlace/token.words"], loops := true, apart := false, laid := [("interlace/token.words", laid_interlace_token_words)], narrowed := true }
def TypingFindsAsSpecifiedUptoSaid : Prop := typingFindsAsSpecifiedUptoRow.holds Tryz.pinned (OpenSpec.upto typingFindsAsSpecifiedSpec)

/-- 'interlacelaw12.TypingOfParts', WHERE WHAT IT READS IS OF BULK AT MOST 1048576: true; the input reads as it did. -/
def typingOfPartsUptoRow : OpenClaim := { program := "ytdfkadeceaepeaagreatdoor", sum := "74ab655f196303b89c57cb27eb284bdeb929a7ca2fb1f0db83ad0f6775b547aa", func := "interlace/interlacelaw12.TypingOfParts", spec := "typingOfParts", unfollowed := true, recurses := true, named := ["interlace/token.words"], loops := true, apart := false, laid := [("interlace/token.words", laid_interlace_token_words)], narrowed := true }
def TypingOfPartsUptoSaid : Prop := typingOfPartsUptoRow.holds Tryz.pinned (OpenSpec.upto typingOfPartsSpec)

/-- 'interlacelaw12.TypingOfStages', WHERE WHAT IT READS IS OF BULK AT MOST 1048576: true; the input reads as it did. -/
def typingOfStagesUptoRow : OpenClaim := { program := "ytdfkadeceaepeaagreatdoor", sum := "74ab655f196303b89c57cb27eb284bdeb929a7ca2fb1f0db83ad0f6775b547aa", func := "interlace/interlacelaw12.TypingOfStages", spec := "typingOfStages", unfollowed := true, recurses := true, named := ["interlace/token.words"], loops := true, apart := false, laid := [("interlace/token.words", laid_interlace_token_words)], narrowed := true }
def TypingOfStagesUptoSaid : Prop := typingOfStagesUptoRow.holds Tryz.pinned (OpenSpec.upto typingOfStagesSpec)

/-- 'interlacelaw12.TypingProgramsMatchSpec', WHERE WHAT IT READS IS OF BULK AT MOST 1048576: true; the input reads as it did. -/
def typingProgramsMatchSpecUptoRow : OpenClaim := { program := "ytdfkadeceaepeaagreatdoor", sum := "74ab655f196303b89c57cb27eb284bdeb929a7ca2fb1f0db83ad0f6775b547aa", func := "interlace/interlacelaw12.TypingProgramsMatchSpec", spec := "typingProgramsMatchSpec", unfollowed := true, recurses := true, named := ["interlace/token.words"], loops := true, apart := false, laid := [("interlace/token.words", laid_interlace_token_words)], narrowed := true }
def TypingProgramsMatchSpecUptoSaid : Prop := typingProgramsMatchSpecUptoRow.holds Tryz.pinned (OpenSpec.upto typingProgramsMatchSpecSpec)

/-- 'interlacelaw12.TypingFreezesAsSpecified', WHERE WHAT IT READS IS OF BULK AT MOST 1048576: true; the input reads as it did. -/
def typingFreezesAsSpecifiedUptoRow : OpenClaim := { program := "ytdfkadeceaepeaagreatdoor", sum := "74ab655f196303b89c57cb27eb284bdeb929a7ca2fb1f0db83ad0f6775b547aa", func := "interlace/interlacelaw12.TypingFreezesAsSpecified", spec := "typingFreezesAsSpecified", unfollowed := true, recurses := true, named := ["interlace/token.words"], loops := true, apart := false, laid := [("interlace/token.words", laid_interlace_token_words)], narrowed := true }
def TypingFreezesAsSpecifiedUptoSaid : Prop := typingFreezesAsSpecifiedUptoRow.holds Tryz.pinned (OpenSpec.upto typingFreezesAsSpecifiedSpec)

/-- 'interlacelaw12.TypingFreezeIsStable', WHERE WHAT IT READS IS OF BULK AT MOST 1048576: true; the input reads as it did. -/
def typingFreezeIsStableUptoRow : OpenClaim := { program := "ytdfkadeceaepeaagreatdoor", sum := "74ab655f196303b89c57cb27eb284bdeb929a7ca2fb1f0db83ad0f6775b547aa", func := "interlace/interlacelaw12.TypingFreezeIsStable", spec := "typingFreezeIsStable", unfollowed := true, recurses := true, named := ["interlace/token.words"], loops := true, apart := false, laid := [("interlace/token.words", laid_interlace_token_words)], narrowed := true }
def TypingFreezeIsStableUptoSaid : Prop := typingFreezeIsStableUptoRow.holds Tryz.pinned (OpenSpec.upto typingFreezeIsStableSpec)

end Rows
end Go.Proofs.YtdfkadeceaepeaaGreatDoor
