/- Joined by program: parts of a data level over the model, of the program's functions over it, and of the statement's proof. -/
import Derived.Test.YtnfonfjleonbdaaRows
import Derived.Test.YtnfonfjleonbdaaGf
/- For every input of bulk at most 1048576 the statement StateTokensAreFew returns true, and its arguments read afterwards as they read before. -/
namespace Go.Proofs.Ytnfonfjleonbdaa.tokens
open Go Go.DL Go.TY Go.MM Go.ST
theorem own : ownKnob Try.prog.godebug = none := by kernel_rfl
/-- How much is read. -/
def weigh (H : Type) : Weigh H where
  B := Rows.uptoBulk
  BA := Rows.uptoBulkAll
  lit := fun l => by cases l <;> simp [Rows.uptoBulk]
  str := fun s => by simp [Rows.uptoBulk]
  nil := by simp [Rows.uptoBulk]
  slice := fun e s => by simp [Rows.uptoBulk]
  agg := fun p => by simp [Rows.uptoBulk]
  allc := fun d r => by simp [Rows.uptoBulkAll]
theorem params : Try.f3.params.toList = [3, 3, 22] := by rw [Try.params3]
theorem law (uss : List (List T)) (h : HasAll Try.prog Try.f3.params.toList uss) (hb : bulkA uss ≤ 1048576) : DCalls Try.prog 3 (mkAll Try.prog Try.f3.params.toList uss) (.bool true) := by
  rw [params] at h ⊢
  match uss, h with
  | [u0, u1, u2], ⟨g0, g1, g2, _⟩ =>
    simp only [bulkA] at hb
    obtain ⟨n, e0⟩ := aI g0
    obtain ⟨m, e1⟩ := aI g1
    obtain ⟨l, l1, l2, l3⟩ := aUs g2 (by omega)
    simp only [mkAll]
    rw [e0, e1]
    exact (law_Tokens n m l l3 l2).lesAll ⟨Les.refl _, Les.refl _, l1, trivial⟩
theorem fits : LawFits Try.checked Try.f3 Rows.stateTokensAreFewSpec typesU 4 where
  laid := (by kernel_rfl)
  closed := typesU_ok
  params := (by kernel_rfl)
  readable := (by kernel_rfl)
  res := (by kernel_rfl)
  bool := Try.underlying4
  vars := rfl
  fn := fun H ds h => by
    rw [params] at h
    match ds, h with
    | [_, _, _], _ => rfl
set_option maxRecDepth 100000 in
theorem lifted (os : Os) (started : os.Started) (H : Type) (enc : TypeId × Value → H) (F : Stop.Interp) :
    ReturnsInHanded {} Try.checked os 3 .any ((Rows.OpenSpec.upto Rows.stateTokensAreFewSpec).pre6 enc Try.prog Try.f3 Rows.stateTokensAreFewUptoRow.domain false) (((Rows.OpenSpec.upto Rows.stateTokensAreFewSpec).at F).post enc Try.prog Try.f3 false true false false) :=
  law_upto (C := Try.checked) fits (weigh H) (k := Rows.uptoSmall) (N := 1048576) (fun _ => rfl) rfl (fun ds h => of_decide_eq_true h) own started (by kernel_rfl) Try.func3
    (OpenSpec.witness (enc := enc) (C := Try.checked) (s := Rows.OpenSpec.upto Rows.stateTokensAreFewSpec) (k := Rows.uptoSmall) rfl false
      ⟨#[], #[.int .i64 0, .int .i64 0, .slice none 0 0], []⟩ 8 (by kernel_rfl) (by kernel_rfl) (by kernel_rfl)
      (x := ([.lit (.int .i64 0), .lit (.int .i64 0), .nil], [], [])) (by kernel_rfl) rfl (by kernel_rfl))
    law
theorem over : Rows.stateTokensAreFewUptoRow.holds Try.pinned (Rows.OpenSpec.upto Rows.stateTokensAreFewSpec) :=
  OpenClaim.holds_of_cond 3 Try.f3 rfl rfl rfl rfl rfl rfl rfl ⟨rfl, rfl, rfl, rfl, rfl⟩ rfl rfl rfl rfl rfl (by kernel_rfl) Try.func3 (by kernel_rfl)
    (of_decide_eq_true (by kernel_rfl)) (by unfold Func.isWrapper; first | (rw [if_pos (by decide +kernel)]; kernel_rfl) | (rw [if_neg (by decide +kernel)]; exact ⟨rfl, rfl⟩))
    (fun os started H enc _ F => lifted os started H enc F)
theorem proved : Rows.StateTokensAreFewUptoSaid := over
#print axioms proved
end Go.Proofs.Ytnfonfjleonbdaa.tokens
