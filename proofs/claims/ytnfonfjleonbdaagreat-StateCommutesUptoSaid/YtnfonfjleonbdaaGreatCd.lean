/- Joined by program: parts of a data level over the model, of the program's functions over it, and of the statement's proof. -/
import Derived.Test.YtnfonfjleonbdaaGreatRows
import Derived.Test.YtnfonfjleonbdaaGreatGg
/- For every input of bulk at most 1048576 the statement StateCommutes returns true, and its arguments read afterwards as they read before. -/
namespace Go.Proofs.YtnfonfjleonbdaaGreat.commutes
open Go Go.DL Go.TY Go.MM Go.ST
theorem own : ownKnob Tryz.prog.godebug = none := by kernel_rfl
/-- How much is read. -/
def weigh (H : Type) : Weigh H where
  B := Rows.uptoBulk
  BA := Rows.uptoBulkAll
  lit := fun l => by cases l <;> simp [Rows.uptoBulk]
  str := fun s => by simp [Rows.uptoBulk]
  nil := by simp [Rows.uptoBulk]
  slice := fun e s => by simp [Rows.uptoBulk]
  agg := fun p => by simp [Rows.uptoBulk]
  allc := fun d r => by simp [Rows.uptoBulkAll]
theorem params : Tryz.f6.params.toList = [22, 24, 25, 27, 27, 3, 3, 3] := by rw [Tryz.params6]
theorem law (uss : List (List T)) (h : HasAll Tryz.prog Tryz.f6.params.toList uss) (hb : bulkA uss ≤ 1048576) : DCalls Tryz.prog 6 (mkAll Tryz.prog Tryz.f6.params.toList uss) (.bool true) := by
  rw [params] at h ⊢
  match uss, h with
  | [u0, u1, u2, u3, u4, u5, u6, u7], ⟨g0, g1, g2, g3, g4, g5, g6, g7, _⟩ =>
    simp only [bulkA] at hb
    obtain ⟨l, l1, l2, l3⟩ := aFields g0 (by omega)
    obtain ⟨p, p1, p2, p3⟩ := aProgS g1 (by omega)
    obtain ⟨s, s1, s2, s3⟩ := aEnts g2 (by omega)
    obtain ⟨x, e3, x2⟩ := aHead g3
    obtain ⟨y, e4, y2⟩ := aHead g4
    obtain ⟨i, e5⟩ := aInt g5
    obtain ⟨k, e6⟩ := aInt g6
    obtain ⟨m, e7⟩ := aInt g7
    simp only [mkAll]
    rw [e3, e4, e5, e6, e7]
    exact (law_Commutes l p s x y i k m ⟨l2, l3, by omega, p3, by omega, s3, x2⟩ y2).lesAll ⟨l1, p1, s1, Les.refl _, Les.refl _, Les.refl _, Les.refl _, Les.refl _, trivial⟩
theorem fits : LawFits Tryz.checked Tryz.f6 Rows.stateCommutesSpec typesS 4 where
  laid := (by kernel_rfl)
  closed := typesS_ok
  params := (by kernel_rfl)
  readable := (by kernel_rfl)
  res := (by kernel_rfl)
  bool := Tryz.underlying4
  vars := rfl
  fn := fun H ds h => by
    rw [params] at h
    match ds, h with
    | [_, _, _, _, _, _, _, _], _ => rfl
set_option maxRecDepth 100000 in
theorem lifted (os : Os) (started : os.Started) (H : Type) (enc : TypeId × Value → H) (F : Stop.Interp) :
    ReturnsInHanded {} Tryz.checked os 6 .any ((Rows.OpenSpec.upto Rows.stateCommutesSpec).pre6 enc Tryz.prog Tryz.f6 Rows.stateCommutesUptoRow.domain false) (((Rows.OpenSpec.upto Rows.stateCommutesSpec).at F).post enc Tryz.prog Tryz.f6 false true false false) :=
  law_upto (C := Tryz.checked) fits (weigh H) (k := Rows.uptoSmall) (N := 1048576) (fun _ => rfl) rfl (fun ds h => of_decide_eq_true h) own started (by kernel_rfl) Tryz.func6
    (OpenSpec.witness (enc := enc) (C := Tryz.checked) (s := Rows.OpenSpec.upto Rows.stateCommutesSpec) (k := Rows.uptoSmall) rfl false
      ⟨#[], #[.slice none 0 0, .slice none 0 0, .slice none 0 0, .agg #[.int .i64 0, .int .i64 0, .int .i64 0, .int .i64 0, .int .i64 0, .int .i64 0, .int .i64 0, .int .i64 0, .int .i64 0, .int .i64 0], .agg #[.int .i64 0, .int .i64 0, .int .i64 0, .int .i64 0, .int .i64 0, .int .i64 0, .int .i64 0, .int .i64 0, .int .i64 0, .int .i64 0], .int .i64 0, .int .i64 0, .int .i64 0], []⟩ 8 (by kernel_rfl) (by kernel_rfl) (by kernel_rfl)
      (x := ([.nil, .nil, .nil, .agg [.lit (.int .i64 0), .lit (.int .i64 0), .lit (.int .i64 0), .lit (.int .i64 0), .lit (.int .i64 0), .lit (.int .i64 0), .lit (.int .i64 0), .lit (.int .i64 0), .lit (.int .i64 0), .lit (.int .i64 0)], .agg [.lit (.int .i64 0), .lit (.int .i64 0), .lit (.int .i64 0), .lit (.int .i64 0), .lit (.int .i64 0), .lit (.int .i64 0), .lit (.int .i64 0), .lit (.int .i64 0), .lit (.int .i64 0), .lit (.int .i64 0)], .lit (.int .i64 0), .lit (.int .i64 0), .lit (.int .i64 0)], [], [])) (by kernel_rfl) rfl (by kernel_rfl))
    law
theorem over : Rows.stateCommutesUptoRow.holds Tryz.pinned (Rows.OpenSpec.upto Rows.stateCommutesSpec) :=
  OpenClaim.holds_of_cond 6 Tryz.f6 rfl rfl rfl rfl rfl rfl rfl ⟨rfl, rfl, rfl, rfl, rfl⟩ rfl rfl rfl rfl rfl (by kernel_rfl) Tryz.func6 (by kernel_rfl)
    (of_decide_eq_true (by kernel_rfl)) (by unfold Func.isWrapper; first | (rw [if_pos (by decide +kernel)]; kernel_rfl) | (rw [if_neg (by decide +kernel)]; exact ⟨rfl, rfl⟩))
    (fun os started H enc _ F => lifted os started H enc F)
theorem proved : Rows.StateCommutesUptoSaid := over
#print axioms proved
end Go.Proofs.YtnfonfjleonbdaaGreat.commutes
