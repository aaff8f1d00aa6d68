/- Joined by program: parts of a data level over the model, of the program's functions over it, and of the statement's proof. -/
import Derived.Test.YtnfonfjleonbdaaGreatRows
import Derived.Test.YtnfonfjleonbdaaGreatGe
import Derived.Test.YtnfonfjleonbdaaGreatGf
/- For every input of bulk at most 1048576 the statement StateChecksAsSpecified returns true, and its arguments read afterwards as they read before. -/
namespace Go.Proofs.YtnfonfjleonbdaaGreat.checks
open Go Go.DL Go.TY Go.MM Go.ST
theorem own : ownKnob Tryz.prog.godebug = none := by kernel_rfl
/-- How much is read. -/
def weigh (H : Type) : Weigh H where
  B := Rows.uptoBulk
  BA := Rows.uptoBulkAll
  lit := fun l => by cases l <;> simp [Rows.uptoBulk]
  str := fun s => by simp [Rows.uptoBulk]
  nil := by simp [Rows.uptoBulk]
  slice := fun e s => by simp [Rows.uptoBulk]
  agg := fun p => by simp [Rows.uptoBulk]
  allc := fun d r => by simp [Rows.uptoBulkAll]
theorem params : Tryz.f5.params.toList = [30, 25, 25, 9, 59] := by rw [Tryz.params5]
theorem law (uss : List (List T)) (h : HasAll Tryz.prog Tryz.f5.params.toList uss) (hb : bulkA uss ≤ 1048576) : DCalls Tryz.prog 5 (mkAll Tryz.prog Tryz.f5.params.toList uss) (.bool true) := by
  rw [params] at h ⊢
  match uss, h with
  | [u0, u1, u2, u3, u4], ⟨g0, g1, g2, g3, g4, _⟩ =>
    simp only [bulkA] at hb
    obtain ⟨vs, l1, l2, l3⟩ := aVars g0 (by omega)
    obtain ⟨s, s1, s2, s3⟩ := aEnts g1 (by omega)
    obtain ⟨m, m1, m2, m3⟩ := aEnts g2 (by omega)
    obtain ⟨v, e3, _⟩ := aStr g3
    obtain ⟨k, k1, k2⟩ := aInts g4 (by omega)
    simp only [mkAll]
    rw [e3]
    exact (law_Checks vs s m v k (by omega) l3 (by omega) (by omega) s3 m3 k2).lesAll ⟨l1, s1, m1, Les.refl _, k1, trivial⟩
theorem fits : LawFits Tryz.checked Tryz.f5 Rows.stateChecksAsSpecifiedSpec typesS 4 where
  laid := (by kernel_rfl)
  closed := typesS_ok
  params := (by kernel_rfl)
  readable := (by kernel_rfl)
  res := (by kernel_rfl)
  bool := Tryz.underlying4
  vars := rfl
  fn := fun H ds h => by
    rw [params] at h
    match ds, h with
    | [_, _, _, _, _], _ => rfl
set_option maxRecDepth 100000 in
theorem lifted (os : Os) (started : os.Started) (H : Type) (enc : TypeId × Value → H) (F : Stop.Interp) :
    ReturnsInHanded {} Tryz.checked os 5 .any ((Rows.OpenSpec.upto Rows.stateChecksAsSpecifiedSpec).pre6 enc Tryz.prog Tryz.f5 Rows.stateChecksAsSpecifiedUptoRow.domain false) (((Rows.OpenSpec.upto Rows.stateChecksAsSpecifiedSpec).at F).post enc Tryz.prog Tryz.f5 false true false false) :=
  law_upto (C := Tryz.checked) fits (weigh H) (k := Rows.uptoSmall) (N := 1048576) (fun _ => rfl) rfl (fun ds h => of_decide_eq_true h) own started (by kernel_rfl) Tryz.func5
    (OpenSpec.witness (enc := enc) (C := Tryz.checked) (s := Rows.OpenSpec.upto Rows.stateChecksAsSpecifiedSpec) (k := Rows.uptoSmall) rfl false
      ⟨#[], #[.slice none 0 0, .slice none 0 0, .slice none 0 0, .string ⟨#[]⟩, .slice none 0 0], []⟩ 8 (by kernel_rfl) (by kernel_rfl) (by kernel_rfl)
      (x := ([.nil, .nil, .nil, .lit (.string []), .nil], [], [])) (by kernel_rfl) rfl (by kernel_rfl))
    law
theorem over : Rows.stateChecksAsSpecifiedUptoRow.holds Tryz.pinned (Rows.OpenSpec.upto Rows.stateChecksAsSpecifiedSpec) :=
  OpenClaim.holds_of_cond 5 Tryz.f5 rfl rfl rfl rfl rfl rfl rfl ⟨rfl, rfl, rfl, rfl, rfl⟩ rfl rfl rfl rfl rfl (by kernel_rfl) Tryz.func5 (by kernel_rfl)
    (of_decide_eq_true (by kernel_rfl)) (by unfold Func.isWrapper; first | (rw [if_pos (by decide +kernel)]; kernel_rfl) | (rw [if_neg (by decide +kernel)]; exact ⟨rfl, rfl⟩))
    (fun os started H enc _ F => lifted os started H enc F)
theorem proved : Rows.StateChecksAsSpecifiedUptoSaid := over
#print axioms proved
end Go.Proofs.YtnfonfjleonbdaaGreat.checks
