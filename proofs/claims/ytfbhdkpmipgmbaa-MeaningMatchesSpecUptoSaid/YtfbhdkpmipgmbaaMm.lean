/- For every input of bulk at most 1048576 the statement MeaningMatchesSpec returns true, and its arguments read afterwards as they read before. -/
import Derived.Test.YtfbhdkpmipgmbaaRows
import Derived.Test.YtfbhdkpmipgmbaaMmPf
namespace Go.Proofs.Ytfbhdkpmipgmbaa.matchesSpec
open Go Go.DL Go.MM

theorem own : ownKnob Try.prog.godebug = none := by kernel_rfl

/-- How much is read. -/
def weigh (H : Type) : Weigh H where
  B := Rows.uptoBulk
  BA := Rows.uptoBulkAll
  lit := fun l => by cases l <;> simp [Rows.uptoBulk]
  str := fun s => by simp [Rows.uptoBulk]
  nil := by simp [Rows.uptoBulk]
  slice := fun e s => by simp [Rows.uptoBulk]
  agg := fun p => by simp [Rows.uptoBulk]
  allc := fun d r => by simp [Rows.uptoBulkAll]

theorem params : Try.f7.params.toList = [32, 38, 35, 24, 22, 3] := by rw [Try.params7]

theorem law (uss : List (List T)) (h : HasAll Try.prog Try.f7.params.toList uss) (hb : bulkA uss ≤ 1048576) : DCalls Try.prog 7 (mkAll Try.prog Try.f7.params.toList uss) (.bool true) := by
  rw [params] at h ⊢
  match uss, h with
  | [u0, u1, u2, u3, u4, u5], ⟨h0, h1, h2, h3, h4, h5, _⟩ =>
    simp only [bulkA] at hb
    obtain ⟨l, l1, l2, l3⟩ := aFields h0 (by omega)
    obtain ⟨r, r1, r2, _⟩ := aPol h1 (by omega)
    obtain ⟨x, x1, x2, x3⟩ := aPred h2 (by omega)
    obtain ⟨h, e3, hh⟩ := aHead h3
    obtain ⟨hs, s1, s2, s3⟩ := aHeads h4
    obtain ⟨n, e5⟩ := aInt h5
    simp only [mkAll]
    rw [e3, e5]
    exact (t7 l l2 l3 r r2 x (by omega) x3 h hh hs s2 s3 n).lesAll ⟨l1, r1, x1, Les.refl _, s1, Les.refl _, trivial⟩

theorem fits : LawFits Try.checked Try.f7 Rows.meaningMatchesSpecSpec types 4 where
  laid := (by kernel_rfl)
  closed := types_ok
  params := (by kernel_rfl)
  readable := (by kernel_rfl)
  res := (by kernel_rfl)
  bool := Try.underlying4
  vars := rfl
  fn := fun H ds h => by
    rw [params] at h
    match ds, h with
    | [_, _, _, _, _, _], _ => rfl

set_option maxRecDepth 100000 in
theorem lifted (os : Os) (started : os.Started) (H : Type) (enc : TypeId × Value → H) (F : Stop.Interp) :
    ReturnsInHanded {} Try.checked os 7 .any ((Rows.OpenSpec.upto Rows.meaningMatchesSpecSpec).pre6 enc Try.prog Try.f7 Rows.meaningMatchesSpecUptoRow.domain false) (((Rows.OpenSpec.upto Rows.meaningMatchesSpecSpec).at F).post enc Try.prog Try.f7 false true false false) :=
  law_upto (C := Try.checked) fits (weigh H) (k := Rows.uptoSmall) (N := 1048576) rfl (fun ds h => of_decide_eq_true h) own started (by kernel_rfl) Try.func7
    (OpenSpec.witness (enc := enc) (C := Try.checked) (s := Rows.OpenSpec.upto Rows.meaningMatchesSpecSpec) (k := Rows.uptoSmall) rfl false
      ⟨#[], #[.slice none 0 0, .agg #[.int .i64 0, .int .i64 0, .string ⟨#[]⟩, .int .i64 0, .int .i64 0, .slice none 0 0, .string ⟨#[]⟩, .int .i64 0, .slice none 0 0], .agg #[.int .i64 0, .string ⟨#[]⟩, .int .i64 0, .int .i64 0, .slice none 0 0], .agg #[.int .i64 0, .int .i64 0, .int .i64 0, .int .i64 0, .int .i64 0, .int .i64 0, .int .i64 0, .int .i64 0, .int .i64 0, .int .i64 0], .slice none 0 0, .int .i64 0], []⟩ 8 (by kernel_rfl) (by kernel_rfl) (by kernel_rfl)
      (x := ([.nil, .agg [.lit (.int .i64 0), .agg [.lit (.int .i64 0), .lit (.string []), .lit (.int .i64 0), .lit (.int .i64 0), .nil], .lit (.string []), .lit (.int .i64 0), .nil], .agg [.lit (.int .i64 0), .lit (.string []), .lit (.int .i64 0), .lit (.int .i64 0), .nil], .agg [.lit (.int .i64 0), .lit (.int .i64 0), .lit (.int .i64 0), .lit (.int .i64 0), .lit (.int .i64 0), .lit (.int .i64 0), .lit (.int .i64 0), .lit (.int .i64 0), .lit (.int .i64 0), .lit (.int .i64 0)], .nil, .lit (.int .i64 0)], [], [])) (by kernel_rfl) rfl (by kernel_rfl))
    law

theorem over : Rows.meaningMatchesSpecUptoRow.holds Try.pinned (Rows.OpenSpec.upto Rows.meaningMatchesSpecSpec) :=
  OpenClaim.holds_of_cond 7 Try.f7 rfl rfl rfl rfl rfl rfl rfl ⟨rfl, rfl, rfl, rfl, rfl⟩ rfl rfl rfl rfl rfl (by kernel_rfl) Try.func7 (by kernel_rfl)
    (of_decide_eq_true (by kernel_rfl)) (by unfold Func.isWrapper; first | (rw [if_pos (by decide +kernel)]; kernel_rfl) | (rw [if_neg (by decide +kernel)]; exact ⟨rfl, rfl⟩))
    (fun os started H enc _ F => lifted os started H enc F)

theorem proved : Rows.MeaningMatchesSpecUptoSaid := over
#print axioms proved
end Go.Proofs.Ytfbhdkpmipgmbaa.matchesSpec
