/- Joined by program: parts of a data level over the model, of the program's functions over it, and of the statement's proof. -/
import Derived.Test.YtdfkadeceaepeaaGreatDoorCards
import Derived.Test.YtdfkadeceaepeaaGreatDoorTie
import Derived.Test.YtdfkadeceaepeaaGreatDoorGd
import Derived.Test.YtdfkadeceaepeaaGreatDoorGf
/- For every input of bulk at most 1048576 the statement TypingFreezeIsStable returns true, and its arguments read afterwards as they read before. -/
namespace Go.Proofs.YtdfkadeceaepeaaGreatDoor.stable
open Go Go.DL Go.RowKit Go.TY Go.MM
theorem own : ownKnob Tryz.prog.godebug = none := by kernel_rfl
/-- How much is read. -/
def weigh (H : Type) : Weigh H where
  B := Rows.uptoBulk
  BA := Rows.uptoBulkAll
  lit := fun l => by cases l <;> simp [Rows.uptoBulk]
  str := fun s => by simp [Rows.uptoBulk]
  nil := by simp [Rows.uptoBulk]
  slice := fun e s => by simp [Rows.uptoBulk]
  agg := fun p => by simp [Rows.uptoBulk]
  allc := fun d r => by simp [Rows.uptoBulkAll]
theorem params : Tryz.f9.params.toList = [22, 56, 3, 3] := by rw [Tryz.params9]
theorem law (uss : List (List T)) (h : HasAll Tryz.prog Tryz.f9.params.toList uss) (hb : bulkA uss ≤ 1048576) : DCalls Tryz.prog 9 (mkAll Tryz.prog Tryz.f9.params.toList uss) (.bool true) := by
  rw [params] at h ⊢
  match uss, h with
  | [u0, u1, u2, u3], ⟨g0, g1, g2, g3, _⟩ =>
    simp only [bulkA] at hb
    obtain ⟨l, l1, l2, l3⟩ := aFields g0 (by omega)
    obtain ⟨p, p1, p2, p3⟩ := aProg g1 (by omega)
    obtain ⟨s, e2⟩ := aInt g2
    obtain ⟨t, e3⟩ := aInt g3
    simp only [mkAll]
    rw [e2, e3]
    exact (law9 l l2 l3 p (by omega) p3 s t).lesAll ⟨l1, p1, Les.refl _, Les.refl _, trivial⟩
theorem fits : LawFits Tryz.checked Tryz.f9 Rows.typingFreezeIsStableSpec typesT 4 where
  laid := (by kernel_rfl)
  closed := typesT_ok
  params := (by kernel_rfl)
  readable := (by kernel_rfl)
  res := (by kernel_rfl)
  bool := Tryz.underlying4
  vars := rfl
  fn := fun H ds h => by
    rw [params] at h
    match ds, h with
    | [_, _, _, _], _ => rfl
/-- A world for the witness: the settled one, the tables holding what their initialisers lay. -/
noncomputable def laidWorld (os : Os) : World := { World.holding Tryz.prog os ⟨#[], #[], []⟩ with heap := ((World.holding Tryz.prog os ⟨#[], #[], []⟩).heap.modify 0 fun | .cells _ t frozen => .cells (wordsG.map fun z => Value.string z).toArray t frozen | o => o) }
theorem laid_met (os : Os) : laidMet Tryz.prog Rows.typingFreezeIsStableUptoRow.laid ((laidWorld os).forCall (fun _ _ => 0) ⟨#[], #[.slice none 0 0, .slice none 0 0, .int .i64 0, .int .i64 0], []⟩).memory :=
  laidMet_of_run' 8 (by kernel_rfl) (by kernel_rfl)
theorem reads (os : Os) {H : Type} (enc : TypeId × Value → H) : ∃ places, DataW.whole enc Tryz.prog ((laidWorld os).forCall (fun _ _ => 0) ⟨#[], #[.slice none 0 0, .slice none 0 0, .int .i64 0, .int .i64 0], []⟩).memory Tryz.f9.params.toList Rows.typingFreezeIsStableSpec.vars false (#[.slice none 0 0, .slice none 0 0, .int .i64 0, .int .i64 0] : Array Value).toList 8 = some ([.nil, .nil, .lit (.int .i64 0), .lit (.int .i64 0)], [], places) :=
  ⟨[], by kernel_rfl⟩
set_option maxRecDepth 100000 in
theorem lifted (os : Os) (started : os.Started) (H : Type) (enc : TypeId × Value → H) (F : Stop.Interp) :
    ReturnsInHanded {} Tryz.checked os 9 .any ((Rows.OpenSpec.upto Rows.typingFreezeIsStableSpec).preRow enc Tryz.prog Tryz.f9 Rows.typingFreezeIsStableUptoRow.domain false Rows.typingFreezeIsStableUptoRow.laid) (((Rows.OpenSpec.upto Rows.typingFreezeIsStableSpec).at F).post enc Tryz.prog Tryz.f9 false true false false) := by
  obtain ⟨places, hx⟩ := reads os enc
  exact law_laid (C := Tryz.checked) fits (weigh H) (k := Rows.uptoSmall) (N := 1048576) rfl (fun ds h => of_decide_eq_true h) own started (by kernel_rfl) Tryz.func9
    (witness_row_at (enc := enc) (C := Tryz.checked) false (laidWorld os) #[.slice none 0 0, .slice none 0 0, .int .i64 0, .int .i64 0] rfl (by kernel_rfl) (by kernel_rfl) (by kernel_rfl)
      (OpenSpec.preRow_of_cond 8 hx (by kernel_rfl) (fun k hk => by cases hk; kernel_rfl) (by kernel_rfl) (laid_met os)))
    (fun W h => globOk_words h)
    law
theorem saidUpto : Rows.TypingFreezeIsStableUptoSaid :=
  OpenClaim.holds_of_cond 9 Tryz.f9 rfl rfl rfl rfl rfl rfl rfl ⟨rfl, rfl, rfl, rfl, rfl⟩ rfl rfl rfl rfl rfl (by kernel_rfl) Tryz.func9 (by kernel_rfl)
    (of_decide_eq_true (by kernel_rfl)) (by unfold Func.isWrapper; first | (rw [if_pos (by decide +kernel)]; kernel_rfl) | (rw [if_neg (by decide +kernel)]; exact ⟨rfl, rfl⟩))
    (fun os started H enc _ F => by rw [OpenClaim.pre_eq_preRow]; exact lifted os started H enc F)
/-- No parameter wants a stand-in; the program's own looks are off. -/
theorem plain (f : FuncId) (fn : Func) (hf : Tryz.pinned.checked.prog.funcNamed "interlace/interlacelaw12.TypingFreezeIsStable" = some f) (hfn : Tryz.pinned.checked.prog.funcs[f]? = some fn) :
    false = Tryz.pinned.checked.prog.looks [] ∧ ∀ (j : Nat) t, fn.params[j]? = some t → Tryz.pinned.checked.prog.wantsStandIn t = false := by
  obtain rfl : f = 9 := Option.some.inj ((show Tryz.prog.funcNamed "interlace/interlacelaw12.TypingFreezeIsStable" = some 9 by kernel_rfl).symm.trans hf) |>.symm
  obtain rfl : fn = Tryz.f9 := (Option.some.inj (Tryz.func9.symm.trans hfn)).symm
  refine ⟨by kernel_rfl, fun j t ht => ?_⟩
  have hm : t ∈ Tryz.f9.params.toList := Array.mem_toList_iff.2 (Array.mem_of_getElem? ht)
  have ha : Tryz.f9.params.toList.all (fun t => !Tryz.prog.wantsStandIn t) = true := by kernel_rfl
  have e : Tryz.prog.wantsStandIn t = false := by simpa using List.all_eq_true.1 ha t hm
  exact e
theorem proved : Rows.TypingFreezeIsStableUptoCardSaid :=
  Claim7.holds_tied_plain_at .later [] _ _ _ _ saidUpto (fun _ h => by cases h) (by kernel_rfl) (fun _ h => by cases h) typingFreezeIsStableUpto_row_tie rfl ⟨rfl, rfl⟩ (by kernel_rfl) rfl plain (by kernel_rfl)
#print axioms proved
end Go.Proofs.YtdfkadeceaepeaaGreatDoor.stable
