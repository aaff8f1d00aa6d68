/- Joined by program: parts of a data level over the model, of the program's functions over it, and of the statement's proof. -/
import Derived.Test.YtdfkadeceaepeaaGreatRows
import Derived.Test.YtdfkadeceaepeaaGreatGf
/- For every input of bulk at most 1048576 the statement MeaningIsLocal returns true, and its arguments read afterwards as they read before. -/
namespace Go.Proofs.YtdfkadeceaepeaaGreat.isLocal
open Go Go.DL Go.MM
theorem own : ownKnob Tryz.prog.godebug = none := by kernel_rfl
/-- How much is read. -/
def weigh (H : Type) : Weigh H where
  B := Rows.uptoBulk
  BA := Rows.uptoBulkAll
  lit := fun l => by cases l <;> simp [Rows.uptoBulk]
  str := fun s => by simp [Rows.uptoBulk]
  nil := by simp [Rows.uptoBulk]
  slice := fun e s => by simp [Rows.uptoBulk]
  agg := fun p => by simp [Rows.uptoBulk]
  allc := fun d r => by simp [Rows.uptoBulkAll]
theorem params : Tryz.f3.params.toList = [22, 28, 30, 3, 5] := by rw [Tryz.params3]
theorem law (uss : List (List T)) (h : HasAll Tryz.prog Tryz.f3.params.toList uss) (hb : bulkA uss ≤ 1048576) : DCalls Tryz.prog 3 (mkAll Tryz.prog Tryz.f3.params.toList uss) (.bool true) := by
  rw [params] at h ⊢
  match uss, h with
  | [u0, u1, u2, u3, u4], ⟨g0, g1, g2, g3, g4, _⟩ =>
    simp only [bulkA] at hb
    obtain ⟨l0, p0, q0, s0⟩ := aFields g0 (by omega)
    obtain ⟨r1, p1, q1, s1⟩ := aPol g1 (by omega)
    obtain ⟨h2, e2, q2⟩ := aHead g2
    obtain ⟨n3, e3⟩ := aInt g3
    obtain ⟨n4, e4, q4⟩ := aU8 g4
    simp only [mkAll]
    rw [e2, e3, e4]
    exact (t_local l0 q0 s0 r1 q1 (by omega) h2 q2 n3 n4 q4).lesAll ⟨p0, p1, Les.refl _, Les.refl _, Les.refl _, trivial⟩
theorem fits : LawFits Tryz.checked Tryz.f3 Rows.meaningIsLocalSpec typesL 4 where
  laid := (by kernel_rfl)
  closed := typesL_ok
  params := (by kernel_rfl)
  readable := (by kernel_rfl)
  res := (by kernel_rfl)
  bool := Tryz.underlying4
  vars := rfl
  fn := fun H ds h => by
    rw [params] at h
    match ds, h with
    | [_, _, _, _, _], _ => rfl
set_option maxRecDepth 100000 in
theorem lifted (os : Os) (started : os.Started) (H : Type) (enc : TypeId × Value → H) (F : Stop.Interp) :
    ReturnsInHanded {} Tryz.checked os 3 .any ((Rows.OpenSpec.upto Rows.meaningIsLocalSpec).pre6 enc Tryz.prog Tryz.f3 Rows.meaningIsLocalUptoRow.domain false) (((Rows.OpenSpec.upto Rows.meaningIsLocalSpec).at F).post enc Tryz.prog Tryz.f3 false true false false) :=
  law_upto (C := Tryz.checked) fits (weigh H) (k := Rows.uptoSmall) (N := 1048576) (fun _ => rfl) rfl (fun ds h => of_decide_eq_true h) own started (by kernel_rfl) Tryz.func3
    (OpenSpec.witness (enc := enc) (C := Tryz.checked) (s := Rows.OpenSpec.upto Rows.meaningIsLocalSpec) (k := Rows.uptoSmall) rfl false
      ⟨#[], #[.slice none 0 0, .agg #[.int .i64 0, .int .i64 0, .string ⟨#[]⟩, .int .i64 0, .int .i64 0, .slice none 0 0, .string ⟨#[]⟩, .int .i64 0, .slice none 0 0], .agg #[.int .i64 0, .int .i64 0, .int .i64 0, .int .i64 0, .int .i64 0, .int .i64 0, .int .i64 0, .int .i64 0, .int .i64 0, .int .i64 0], .int .i64 0, .int .u8 0], []⟩ 8 (by kernel_rfl) (by kernel_rfl) (by kernel_rfl)
      (x := ([.nil, .agg [.lit (.int .i64 0), .agg [.lit (.int .i64 0), .lit (.string []), .lit (.int .i64 0), .lit (.int .i64 0), .nil], .lit (.string []), .lit (.int .i64 0), .nil], .agg [.lit (.int .i64 0), .lit (.int .i64 0), .lit (.int .i64 0), .lit (.int .i64 0), .lit (.int .i64 0), .lit (.int .i64 0), .lit (.int .i64 0), .lit (.int .i64 0), .lit (.int .i64 0), .lit (.int .i64 0)], .lit (.int .i64 0), .lit (.int .u8 0)], [], [])) (by kernel_rfl) rfl (by kernel_rfl))
    law
theorem over : Rows.meaningIsLocalUptoRow.holds Tryz.pinned (Rows.OpenSpec.upto Rows.meaningIsLocalSpec) :=
  OpenClaim.holds_of_cond 3 Tryz.f3 rfl rfl rfl rfl rfl rfl rfl ⟨rfl, rfl, rfl, rfl, rfl⟩ rfl rfl rfl rfl rfl (by kernel_rfl) Tryz.func3 (by kernel_rfl)
    (of_decide_eq_true (by kernel_rfl)) (by unfold Func.isWrapper; first | (rw [if_pos (by decide +kernel)]; kernel_rfl) | (rw [if_neg (by decide +kernel)]; exact ⟨rfl, rfl⟩))
    (fun os started H enc _ F => lifted os started H enc F)
theorem proved : Rows.MeaningIsLocalUptoSaid := over
#print axioms proved
end Go.Proofs.YtdfkadeceaepeaaGreat.isLocal
