/- Joined by program: parts of a data level over the model, of the program's functions over it, and of the statement's proof. -/
import Derived.Test.YtnfonfjleonbdaaGreatDoorCards
import Derived.Test.YtnfonfjleonbdaaGreatDoorTie
import Derived.Test.YtnfonfjleonbdaaGreatDoorGd
import Derived.Test.YtnfonfjleonbdaaGreatDoorGf
/- For every input of bulk at most 1048576 the statement StateEncodes returns true, and its arguments read afterwards as they read before. -/
namespace Go.Proofs.YtnfonfjleonbdaaGreatDoor.encodes
open Go Go.DL Go.RowKit Go.ST
theorem own : ownKnob Tryz.prog.godebug = none := by kernel_rfl
/-- How much is read. -/
def weigh (H : Type) : Weigh H where
  B := Rows.uptoBulk
  BA := Rows.uptoBulkAll
  lit := fun l => by cases l <;> simp [Rows.uptoBulk]
  str := fun s => by simp [Rows.uptoBulk]
  nil := by simp [Rows.uptoBulk]
  slice := fun e s => by simp [Rows.uptoBulk]
  agg := fun p => by simp [Rows.uptoBulk]
  allc := fun d r => by simp [Rows.uptoBulkAll]
theorem params : Tryz.f3.params.toList = [22, 22, 23] := by rw [Tryz.params3]
theorem law (uss : List (List T)) (h : HasAll Tryz.prog Tryz.f3.params.toList uss) (hb : bulkA uss ≤ 1048576) : DCalls Tryz.prog 3 (mkAll Tryz.prog Tryz.f3.params.toList uss) (.bool true) := by
  rw [params] at h ⊢
  match uss, h with
  | [u0, u1, u2], ⟨g0, g1, g2, _⟩ =>
    simp only [bulkA] at hb
    obtain ⟨s, s1, s2, s3, s4⟩ := zEnts g0 (by omega)
    obtain ⟨m, m1, m2, m3, m4⟩ := zEnts g1 (by omega)
    obtain ⟨b, b1, b2, b3⟩ := zBytes g2
    simp only [mkAll]
    exact (law_Encodes s m b s3 m3 (by omega) (by omega) s4 m4 b2 (by omega)).lesAll ⟨s1, m1, b1, trivial⟩
theorem fits : LawFits Tryz.checked Tryz.f3 Rows.stateEncodesSpec typesZ 4 where
  laid := (by kernel_rfl)
  closed := typesZ_ok
  params := (by kernel_rfl)
  readable := (by kernel_rfl)
  res := (by kernel_rfl)
  bool := Tryz.underlying4
  vars := rfl
  fn := fun H ds h => by
    rw [params] at h
    match ds, h with
    | [_, _, _], _ => rfl
/-- A world for the witness: the settled one, the tables holding what their initialisers lay. -/
noncomputable def laidWorld (os : Os) : World := { World.holding Tryz.prog os ⟨#[], #[], []⟩ with heap := (((World.holding Tryz.prog os ⟨#[], #[], []⟩).heap.modify 0 fun | .cells _ t frozen => .cells (Go.RC.kons.map fun z => Value.int .u32 z).toArray t frozen | o => o).modify 1 fun | .cells _ t frozen => .cells (Go.RC.kons.map fun z => Value.int .u32 z).toArray t frozen | o => o) }
theorem laid_met (os : Os) : laidMet Tryz.prog Rows.stateEncodesUptoRow.laid ((laidWorld os).forCall (fun _ _ => 0) ⟨#[], #[.slice none 0 0, .slice none 0 0, .slice none 0 0], []⟩).memory :=
  laidMet_of_run' 8 (by kernel_rfl) (by kernel_rfl)
theorem reads (os : Os) {H : Type} (enc : TypeId × Value → H) : ∃ places, DataW.whole enc Tryz.prog ((laidWorld os).forCall (fun _ _ => 0) ⟨#[], #[.slice none 0 0, .slice none 0 0, .slice none 0 0], []⟩).memory Tryz.f3.params.toList Rows.stateEncodesSpec.vars false (#[.slice none 0 0, .slice none 0 0, .slice none 0 0] : Array Value).toList 8 = some ([.nil, .nil, .nil], [], places) :=
  ⟨[], by kernel_rfl⟩
set_option maxRecDepth 100000 in
theorem lifted (os : Os) (started : os.Started) (H : Type) (enc : TypeId × Value → H) (F : Stop.Interp) :
    ReturnsInHanded {} Tryz.checked os 3 .any ((Rows.OpenSpec.upto Rows.stateEncodesSpec).preRow enc Tryz.prog Tryz.f3 Rows.stateEncodesUptoRow.domain false Rows.stateEncodesUptoRow.laid) (((Rows.OpenSpec.upto Rows.stateEncodesSpec).at F).post enc Tryz.prog Tryz.f3 false true false false) := by
  obtain ⟨places, hx⟩ := reads os enc
  exact law_laid (C := Tryz.checked) fits (weigh H) (k := Rows.uptoSmall) (N := 1048576) rfl (fun ds h => of_decide_eq_true h) own started (by kernel_rfl) Tryz.func3
    (witness_row_at (enc := enc) (C := Tryz.checked) false (laidWorld os) #[.slice none 0 0, .slice none 0 0, .slice none 0 0] rfl (by kernel_rfl) (by kernel_rfl) (by kernel_rfl)
      (OpenSpec.preRow_of_cond 8 hx (by kernel_rfl) (fun k hk => by cases hk; kernel_rfl) (by kernel_rfl) (laid_met os)))
    (fun W h => Go.RC.globOk_two h)
    law
theorem saidUpto : Rows.StateEncodesUptoSaid :=
  OpenClaim.holds_of_cond 3 Tryz.f3 rfl rfl rfl rfl rfl rfl rfl ⟨rfl, rfl, rfl, rfl, rfl⟩ rfl rfl rfl rfl rfl (by kernel_rfl) Tryz.func3 (by kernel_rfl)
    (of_decide_eq_true (by kernel_rfl)) (by unfold Func.isWrapper; first | (rw [if_pos (by decide +kernel)]; kernel_rfl) | (rw [if_neg (by decide +kernel)]; exact ⟨rfl, rfl⟩))
    (fun os started H enc _ F => by rw [OpenClaim.pre_eq_preRow]; exact lifted os started H enc F)
/-- No parameter wants a stand-in; the program's own looks are off. -/
theorem plain (f : FuncId) (fn : Func) (hf : Tryz.pinned.checked.prog.funcNamed "interlace/interlacelaw17.StateEncodes" = some f) (hfn : Tryz.pinned.checked.prog.funcs[f]? = some fn) :
    false = Tryz.pinned.checked.prog.looks [] ∧ ∀ (j : Nat) t, fn.params[j]? = some t → Tryz.pinned.checked.prog.wantsStandIn t = false := by
  obtain rfl : f = 3 := Option.some.inj ((show Tryz.prog.funcNamed "interlace/interlacelaw17.StateEncodes" = some 3 by kernel_rfl).symm.trans hf) |>.symm
  obtain rfl : fn = Tryz.f3 := (Option.some.inj (Tryz.func3.symm.trans hfn)).symm
  refine ⟨by kernel_rfl, fun j t ht => ?_⟩
  have hm : t ∈ Tryz.f3.params.toList := Array.mem_toList_iff.2 (Array.mem_of_getElem? ht)
  have ha : Tryz.f3.params.toList.all (fun t => !Tryz.prog.wantsStandIn t) = true := by kernel_rfl
  have e : Tryz.prog.wantsStandIn t = false := by simpa using List.all_eq_true.1 ha t hm
  exact e
theorem proved : Rows.StateEncodesUptoCardSaid :=
  Claim7.holds_tied_plain_at .later [] _ _ _ _ saidUpto (fun _ h => by cases h) (by kernel_rfl) (fun _ h => by cases h) stateEncodesUpto_row_tie rfl ⟨rfl, rfl⟩ (by kernel_rfl) rfl plain (by kernel_rfl)
#print axioms proved
end Go.Proofs.YtnfonfjleonbdaaGreatDoor.encodes
