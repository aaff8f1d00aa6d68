/- For every input of bulk at most 1048576 the statement MeaningStarIsLeast returns true, and its arguments read afterwards as they read before. -/
import Derived.Test.YtfbhdkpmipgmbaaRows
import Derived.Test.YtfbhdkpmipgmbaaMg
import Derived.Test.YtfbhdkpmipgmbaaL8
namespace Go.Proofs.Ytfbhdkpmipgmbaa.star
open Go Go.DL Go.MM

theorem own : ownKnob Try.prog.godebug = none := by kernel_rfl

/-- How much is read. -/
def weigh (H : Type) : Weigh H where
  B := Rows.uptoBulk
  BA := Rows.uptoBulkAll
  lit := fun l => by cases l <;> simp [Rows.uptoBulk]
  str := fun s => by simp [Rows.uptoBulk]
  nil := by simp [Rows.uptoBulk]
  slice := fun e s => by simp [Rows.uptoBulk]
  agg := fun p => by simp [Rows.uptoBulk]
  allc := fun d r => by simp [Rows.uptoBulkAll]

theorem params : Try.f8.params.toList = [32, 38, 38, 24, 22, 3] := by rw [Try.params8]

theorem law (uss : List (List T)) (h : HasAll Try.prog Try.f8.params.toList uss) (hb : bulkA uss ≤ 1048576) : DCalls Try.prog 8 (mkAll Try.prog Try.f8.params.toList uss) (.bool true) := by
  rw [params] at h ⊢
  match uss, h with
  | [u0, u1, u2, u3, u4, u5], ⟨g0, g1, g2, g3, g4, g5, _⟩ =>
    simp only [bulkA] at hb
    obtain ⟨l0, p0, q0, s0⟩ := aFields g0 (by omega)
    obtain ⟨r1, p1, q1, s1⟩ := aPol g1 (by omega)
    obtain ⟨r2, p2, q2, s2⟩ := aPol g2 (by omega)
    obtain ⟨h3, e3, q3⟩ := aHead g3
    obtain ⟨r4, p4, q4, s4⟩ := aHeads g4
    obtain ⟨n5, e5⟩ := aInt g5
    simp only [mkAll]
    rw [e3, e5]
    exact (t8 l0 q0 s0 r1 r2 q1 q2 (by omega) (by omega) h3 q3 r4 q4 s4 n5).lesAll ⟨p0, p1, p2, Les.refl _, p4, Les.refl _, trivial⟩

theorem fits : LawFits Try.checked Try.f8 Rows.meaningStarIsLeastSpec types 4 where
  laid := (by kernel_rfl)
  closed := types_ok
  params := (by kernel_rfl)
  readable := (by kernel_rfl)
  res := (by kernel_rfl)
  bool := Try.underlying4
  vars := rfl
  fn := fun H ds h => by
    rw [params] at h
    match ds, h with
    | [_, _, _, _, _, _], _ => rfl

set_option maxRecDepth 100000 in
theorem lifted (os : Os) (started : os.Started) (H : Type) (enc : TypeId × Value → H) (F : Stop.Interp) :
    ReturnsInHanded {} Try.checked os 8 .any ((Rows.OpenSpec.upto Rows.meaningStarIsLeastSpec).pre6 enc Try.prog Try.f8 Rows.meaningStarIsLeastUptoRow.domain false) (((Rows.OpenSpec.upto Rows.meaningStarIsLeastSpec).at F).post enc Try.prog Try.f8 false true false false) :=
  law_upto (C := Try.checked) fits (weigh H) (k := Rows.uptoSmall) (N := 1048576) rfl (fun ds h => of_decide_eq_true h) own started (by kernel_rfl) Try.func8
    (OpenSpec.witness (enc := enc) (C := Try.checked) (s := Rows.OpenSpec.upto Rows.meaningStarIsLeastSpec) (k := Rows.uptoSmall) rfl false
      ⟨#[], #[.slice none 0 0, .agg #[.int .i64 0, .int .i64 0, .string ⟨#[]⟩, .int .i64 0, .int .i64 0, .slice none 0 0, .string ⟨#[]⟩, .int .i64 0, .slice none 0 0], .agg #[.int .i64 0, .int .i64 0, .string ⟨#[]⟩, .int .i64 0, .int .i64 0, .slice none 0 0, .string ⟨#[]⟩, .int .i64 0, .slice none 0 0], .agg #[.int .i64 0, .int .i64 0, .int .i64 0, .int .i64 0, .int .i64 0, .int .i64 0, .int .i64 0, .int .i64 0, .int .i64 0, .int .i64 0], .slice none 0 0, .int .i64 0], []⟩ 8 (by kernel_rfl) (by kernel_rfl) (by kernel_rfl)
      (x := ([.nil, .agg [.lit (.int .i64 0), .agg [.lit (.int .i64 0), .lit (.string []), .lit (.int .i64 0), .lit (.int .i64 0), .nil], .lit (.string []), .lit (.int .i64 0), .nil], .agg [.lit (.int .i64 0), .agg [.lit (.int .i64 0), .lit (.string []), .lit (.int .i64 0), .lit (.int .i64 0), .nil], .lit (.string []), .lit (.int .i64 0), .nil], .agg [.lit (.int .i64 0), .lit (.int .i64 0), .lit (.int .i64 0), .lit (.int .i64 0), .lit (.int .i64 0), .lit (.int .i64 0), .lit (.int .i64 0), .lit (.int .i64 0), .lit (.int .i64 0), .lit (.int .i64 0)], .nil, .lit (.int .i64 0)], [], [])) (by kernel_rfl) rfl (by kernel_rfl))
    law

theorem over : Rows.meaningStarIsLeastUptoRow.holds Try.pinned (Rows.OpenSpec.upto Rows.meaningStarIsLeastSpec) :=
  OpenClaim.holds_of_cond 8 Try.f8 rfl rfl rfl rfl rfl rfl rfl ⟨rfl, rfl, rfl, rfl, rfl⟩ rfl rfl rfl rfl rfl (by kernel_rfl) Try.func8 (by kernel_rfl)
    (of_decide_eq_true (by kernel_rfl)) (by unfold Func.isWrapper; first | (rw [if_pos (by decide +kernel)]; kernel_rfl) | (rw [if_neg (by decide +kernel)]; exact ⟨rfl, rfl⟩))
    (fun os started H enc _ F => lifted os started H enc F)

theorem proved : Rows.MeaningStarIsLeastUptoSaid := over
#print axioms proved
end Go.Proofs.Ytfbhdkpmipgmbaa.star
