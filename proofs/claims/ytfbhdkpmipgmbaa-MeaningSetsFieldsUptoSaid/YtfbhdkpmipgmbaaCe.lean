/- For every input of bulk at most 1048576 the statement MeaningSetsFields returns true, and its arguments read afterwards as they read before. -/
import Derived.Test.YtfbhdkpmipgmbaaRows
import Derived.Test.YtfbhdkpmipgmbaaMg
import Derived.Test.YtfbhdkpmipgmbaaL6
namespace Go.Proofs.Ytfbhdkpmipgmbaa.setsFields
open Go Go.DL Go.MM

theorem own : ownKnob Try.prog.godebug = none := by kernel_rfl

/-- How much is read. -/
def weigh (H : Type) : Weigh H where
  B := Rows.uptoBulk
  BA := Rows.uptoBulkAll
  lit := fun l => by cases l <;> simp [Rows.uptoBulk]
  str := fun s => by simp [Rows.uptoBulk]
  nil := by simp [Rows.uptoBulk]
  slice := fun e s => by simp [Rows.uptoBulk]
  agg := fun p => by simp [Rows.uptoBulk]
  allc := fun d r => by simp [Rows.uptoBulkAll]

theorem params : Try.f6.params.toList = [32, 9, 9, 3, 3, 3, 24] := by rw [Try.params6]

theorem law (uss : List (List T)) (h : HasAll Try.prog Try.f6.params.toList uss) (hb : bulkA uss ≤ 1048576) : DCalls Try.prog 6 (mkAll Try.prog Try.f6.params.toList uss) (.bool true) := by
  rw [params] at h ⊢
  match uss, h with
  | [u0, u1, u2, u3, u4, u5, u6], ⟨g0, g1, g2, g3, g4, g5, g6, _⟩ =>
    simp only [bulkA] at hb
    obtain ⟨l0, p0, q0, s0⟩ := aFields g0 (by omega)
    obtain ⟨r1, e1, q1⟩ := aStr g1
    obtain ⟨r2, e2, q2⟩ := aStr g2
    obtain ⟨n3, e3⟩ := aInt g3
    obtain ⟨n4, e4⟩ := aInt g4
    obtain ⟨n5, e5⟩ := aInt g5
    obtain ⟨h6, e6, q6⟩ := aHead g6
    simp only [mkAll]
    rw [e1, e2, e3, e4, e5, e6]
    exact (t6 l0 q0 s0 r1 r2 (by omega) (by omega) n3 n4 n5 h6 q6).lesAll ⟨p0, Les.refl _, Les.refl _, Les.refl _, Les.refl _, Les.refl _, Les.refl _, trivial⟩

theorem fits : LawFits Try.checked Try.f6 Rows.meaningSetsFieldsSpec types 4 where
  laid := (by kernel_rfl)
  closed := types_ok
  params := (by kernel_rfl)
  readable := (by kernel_rfl)
  res := (by kernel_rfl)
  bool := Try.underlying4
  vars := rfl
  fn := fun H ds h => by
    rw [params] at h
    match ds, h with
    | [_, _, _, _, _, _, _], _ => rfl

set_option maxRecDepth 100000 in
theorem lifted (os : Os) (started : os.Started) (H : Type) (enc : TypeId × Value → H) (F : Stop.Interp) :
    ReturnsInHanded {} Try.checked os 6 .any ((Rows.OpenSpec.upto Rows.meaningSetsFieldsSpec).pre6 enc Try.prog Try.f6 Rows.meaningSetsFieldsUptoRow.domain false) (((Rows.OpenSpec.upto Rows.meaningSetsFieldsSpec).at F).post enc Try.prog Try.f6 false true false false) :=
  law_upto (C := Try.checked) fits (weigh H) (k := Rows.uptoSmall) (N := 1048576) rfl (fun ds h => of_decide_eq_true h) own started (by kernel_rfl) Try.func6
    (OpenSpec.witness (enc := enc) (C := Try.checked) (s := Rows.OpenSpec.upto Rows.meaningSetsFieldsSpec) (k := Rows.uptoSmall) rfl false
      ⟨#[], #[.slice none 0 0, .string ⟨#[]⟩, .string ⟨#[]⟩, .int .i64 0, .int .i64 0, .int .i64 0, .agg #[.int .i64 0, .int .i64 0, .int .i64 0, .int .i64 0, .int .i64 0, .int .i64 0, .int .i64 0, .int .i64 0, .int .i64 0, .int .i64 0]], []⟩ 8 (by kernel_rfl) (by kernel_rfl) (by kernel_rfl)
      (x := ([.nil, .lit (.string []), .lit (.string []), .lit (.int .i64 0), .lit (.int .i64 0), .lit (.int .i64 0), .agg [.lit (.int .i64 0), .lit (.int .i64 0), .lit (.int .i64 0), .lit (.int .i64 0), .lit (.int .i64 0), .lit (.int .i64 0), .lit (.int .i64 0), .lit (.int .i64 0), .lit (.int .i64 0), .lit (.int .i64 0)]], [], [])) (by kernel_rfl) rfl (by kernel_rfl))
    law

theorem over : Rows.meaningSetsFieldsUptoRow.holds Try.pinned (Rows.OpenSpec.upto Rows.meaningSetsFieldsSpec) :=
  OpenClaim.holds_of_cond 6 Try.f6 rfl rfl rfl rfl rfl rfl rfl ⟨rfl, rfl, rfl, rfl, rfl⟩ rfl rfl rfl rfl rfl (by kernel_rfl) Try.func6 (by kernel_rfl)
    (of_decide_eq_true (by kernel_rfl)) (by unfold Func.isWrapper; first | (rw [if_pos (by decide +kernel)]; kernel_rfl) | (rw [if_neg (by decide +kernel)]; exact ⟨rfl, rfl⟩))
    (fun os started H enc _ F => lifted os started H enc F)

theorem proved : Rows.MeaningSetsFieldsUptoSaid := over
#print axioms proved
end Go.Proofs.Ytfbhdkpmipgmbaa.setsFields
