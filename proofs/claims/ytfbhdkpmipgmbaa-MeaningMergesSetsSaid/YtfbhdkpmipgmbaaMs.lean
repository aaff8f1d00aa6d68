/- For every input the statement MeaningMergesSets returns true, and its arguments read afterwards as they read before. No condition. -/
import Derived.Test.YtfbhdkpmipgmbaaRows
import Derived.Test.YtfbhdkpmipgmbaaMsPd
namespace Go.Proofs.Ytfbhdkpmipgmbaa.mergesSets
open Go Go.DL Go.MM

theorem own : ownKnob Try.prog.godebug = none := by kernel_rfl
theorem laidOut : laidOutB Try.prog = true := by kernel_rfl

theorem law (uss : List (List T)) (h : HasAll Try.prog Try.f3.params.toList uss) : DCalls Try.prog 3 (mkAll Try.prog Try.f3.params.toList uss) (.bool true) := by
  have e : Try.f3.params.toList = [22, 22, 24] := by rw [Try.params3]
  rw [e] at h ⊢
  match uss, h with
  | [u, v, x], ⟨hu, hv, hx, _⟩ =>
    obtain ⟨a, a1, a2, a3, a4⟩ := hasHeads hu
    obtain ⟨b, b1, b2, b3, b4⟩ := hasHeads hv
    obtain ⟨y, rfl, y2, y3⟩ := hasHead hx
    have hc := f3 a b y a1 b1 y2 a2 b2
    have e3 : mkT Try.prog 24 (y.map I) = hd y := mk24 _
    simp only [mkAll]
    rw [e3]
    rcases a4 with e1 | ⟨e1, rfl⟩ <;> rcases b4 with e2 | ⟨e2, rfl⟩ <;> rw [e1, e2]
    · exact hc
    · exact leArgs (.same _ (.slice 10 (.same _ .nil))) hc
    · exact leArgs (.slice 10 (.same _ (.same _ .nil))) hc
    · exact leArgs (.slice 10 (.slice 10 (.same _ .nil))) hc

set_option maxRecDepth 100000 in
theorem lifted (os : Os) (started : os.Started) (H : Type) (enc : TypeId × Value → H) :
    ReturnsInHanded {} Try.checked os 3 .any (Rows.meaningMergesSetsSpec.pre6 enc Try.prog Try.f3 Rows.meaningMergesSetsRow.domain false) (Rows.meaningMergesSetsSpec.post enc Try.prog Try.f3 false true false false) :=
  law_of (C := Try.checked) types (tb := 4) own started (by kernel_rfl) Try.func3
    (ChangeSpec.witness6 (enc := enc) (C := Try.checked) false ⟨#[], #[.slice none 0 0, .slice none 0 0, .agg #[.int .i64 0, .int .i64 0, .int .i64 0, .int .i64 0, .int .i64 0, .int .i64 0, .int .i64 0, .int .i64 0, .int .i64 0, .int .i64 0]], []⟩ 8 (by kernel_rfl) (by kernel_rfl) (by kernel_rfl) (by kernel_rfl))
    laidOut types_ok (by kernel_rfl) (by kernel_rfl) (by kernel_rfl) Try.underlying4 rfl
    (fun ds h => by
      have e : Try.f3.params.toList = [22, 22, 24] := by rw [Try.params3]
      rw [e] at h
      match ds, h with
      | [_, _, _], _ => rfl) law

theorem over : Rows.meaningMergesSetsRow.holds Try.pinned (OpenSpec.ofChange Rows.meaningMergesSetsSpec) :=
  OpenClaim.holds_of_wide 3 Try.f3 rfl rfl rfl rfl rfl rfl rfl ⟨rfl, rfl, rfl, rfl, rfl⟩ rfl rfl rfl rfl rfl (by kernel_rfl) Try.func3 (by kernel_rfl)
    (of_decide_eq_true (by kernel_rfl)) (by unfold Func.isWrapper; first | (rw [if_pos (by decide +kernel)]; kernel_rfl) | (rw [if_neg (by decide +kernel)]; exact ⟨rfl, rfl⟩))
    (fun os started H enc _ => lifted os started H enc)

theorem proved : Rows.MeaningMergesSetsSaid := over
#print axioms proved
end Go.Proofs.Ytfbhdkpmipgmbaa.mergesSets
