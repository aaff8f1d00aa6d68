/- Joined by program: parts of a data level over the model, of the program's functions over it, and of the statement's proof. -/
import Derived.Test.YtnfonfjleonbdaaGreatRows
import Derived.Test.YtnfonfjleonbdaaGreatGg
/- For every input of bulk at most 1048576 the statement StateRunsAsSpecified returns true, and its arguments read afterwards as they read before. -/
namespace Go.Proofs.YtnfonfjleonbdaaGreat.runs
open Go Go.DL Go.TY Go.MM Go.ST
theorem own : ownKnob Tryz.prog.godebug = none := by kernel_rfl
/-- How much is read. -/
def weigh (H : Type) : Weigh H where
  B := Rows.uptoBulk
  BA := Rows.uptoBulkAll
  lit := fun l => by cases l <;> simp [Rows.uptoBulk]
  str := fun s => by simp [Rows.uptoBulk]
  nil := by simp [Rows.uptoBulk]
  slice := fun e s => by simp [Rows.uptoBulk]
  agg := fun p => by simp [Rows.uptoBulk]
  allc := fun d r => by simp [Rows.uptoBulkAll]
theorem params : Tryz.f7.params.toList = [22, 24, 25, 27, 3] := by rw [Tryz.params7]
theorem law (a : List (List T)) (h : HasAll Tryz.prog Tryz.f7.params.toList a) (d : bulkA a ≤ 1048576) : DCalls Tryz.prog 7 (mkAll Tryz.prog Tryz.f7.params.toList a) (.bool true) := by
  rw [params] at h ⊢
  match a, h with
  | [u0, u1, u2, u3, u4], ⟨g0, g1, g2, g3, g4, _⟩ =>
    simp only [bulkA] at d
    obtain ⟨l, e, f, g⟩ := aFields g0 (by omega)
    obtain ⟨p, i, m, j⟩ := aProgS g1 (by omega)
    obtain ⟨s, s1, s2, k⟩ := aEnts g2 (by omega)
    obtain ⟨x, b, x2⟩ := aHead g3
    obtain ⟨n, c⟩ := aInt g4
    simp only [mkAll]
    rw [b, c]
    exact (law_Runs l p s x n ⟨f, g, by omega, j, by omega, k, x2⟩).lesAll ⟨e, i, s1, Les.refl _, Les.refl _, trivial⟩
theorem fits : LawFits Tryz.checked Tryz.f7 Rows.stateRunsAsSpecifiedSpec typesS 4 where
  laid := (by kernel_rfl)
  closed := typesS_ok
  params := (by kernel_rfl)
  readable := (by kernel_rfl)
  res := (by kernel_rfl)
  bool := Tryz.underlying4
  vars := rfl
  fn := fun H ds h => by
    rw [params] at h
    match ds, h with
    | [_, _, _, _, _], _ => rfl
set_option maxRecDepth 100000 in
theorem lifted (b : Os) (a : b.Started) (H : Type) (enc : TypeId × Value → H) (F : Stop.Interp) :
    ReturnsInHanded {} Tryz.checked b 7 .any ((Rows.OpenSpec.upto Rows.stateRunsAsSpecifiedSpec).pre6 enc Tryz.prog Tryz.f7 Rows.stateRunsAsSpecifiedUptoRow.domain false) (((Rows.OpenSpec.upto Rows.stateRunsAsSpecifiedSpec).at F).post enc Tryz.prog Tryz.f7 false true false false) :=
  law_upto (C := Tryz.checked) fits (weigh H) (k := Rows.uptoSmall) (N := 1048576) (fun _ => rfl) rfl (fun ds h => of_decide_eq_true h) own a (by kernel_rfl) Tryz.func7
    (OpenSpec.witness (enc := enc) (C := Tryz.checked) (s := Rows.OpenSpec.upto Rows.stateRunsAsSpecifiedSpec) (k := Rows.uptoSmall) rfl false
      ⟨#[], #[.slice none 0 0, .slice none 0 0, .slice none 0 0, .agg #[.int .i64 0, .int .i64 0, .int .i64 0, .int .i64 0, .int .i64 0, .int .i64 0, .int .i64 0, .int .i64 0, .int .i64 0, .int .i64 0], .int .i64 0], []⟩ 8 (by kernel_rfl) (by kernel_rfl) (by kernel_rfl)
      (x := ([.nil, .nil, .nil, .agg [.lit (.int .i64 0), .lit (.int .i64 0), .lit (.int .i64 0), .lit (.int .i64 0), .lit (.int .i64 0), .lit (.int .i64 0), .lit (.int .i64 0), .lit (.int .i64 0), .lit (.int .i64 0), .lit (.int .i64 0)], .lit (.int .i64 0)], [], [])) (by kernel_rfl) rfl (by kernel_rfl))
    law
theorem over : Rows.stateRunsAsSpecifiedUptoRow.holds Tryz.pinned (Rows.OpenSpec.upto Rows.stateRunsAsSpecifiedSpec) :=
  OpenClaim.holds_of_cond 7 Tryz.f7 rfl rfl rfl rfl rfl rfl rfl ⟨rfl, rfl, rfl, rfl, rfl⟩ rfl rfl rfl rfl rfl (by kernel_rfl) Tryz.func7 (by kernel_rfl)
    (of_decide_eq_true (by kernel_rfl)) (by unfold Func.isWrapper; first | (rw [if_pos (by decide +kernel)]; kernel_rfl) | (rw [if_neg (by decide +kernel)]; exact ⟨rfl, rfl⟩))
    (fun b a H enc _ F => lifted b a H enc F)
theorem proved : Rows.StateRunsAsSpecifiedUptoSaid := over
#print axioms proved
end Go.Proofs.YtnfonfjleonbdaaGreat.runs
