/- Joined by program: parts of a data level over the model, of the program's functions over it, and of the statement's proof. -/
import Derived.Test.YtedccjcfafejdaaDoorCards
import Derived.Test.YtedccjcfafejdaaDoorTie
import Derived.Test.YtedccjcfafejdaaDoorGg
/- For every input of bulk at most 1048576 the statement ReceiptHonestNeighbours returns true, and its arguments read afterwards as they read before. -/
namespace Go.Proofs.YtedccjcfafejdaaDoor.honest
open Go Go.DL Go.RowKit Go.RC
theorem own : ownKnob Tryd.prog.godebug = none := by kernel_rfl
/-- How much is read. -/
def weigh (H : Type) : Weigh H where
  B := Rows.uptoBulk
  BA := Rows.uptoBulkAll
  lit := fun l => by cases l <;> simp [Rows.uptoBulk]
  str := fun s => by simp [Rows.uptoBulk]
  nil := by simp [Rows.uptoBulk]
  slice := fun e s => by simp [Rows.uptoBulk]
  agg := fun p => by simp [Rows.uptoBulk]
  allc := fun d r => by simp [Rows.uptoBulkAll]
theorem params : Tryd.f4.params.toList = [32, 32, 33, 34, 5, 5] := by rw [Tryd.params4]
/-- Where the one table is listed. -/
theorem globOk_one {W : World} (h : laidMet Tryd.prog [("interlace/hash.constants", Lib.tabData .u32 kons)] W) : GlobOk (fun b _ => b < W.heap.size) W := globOk_of fun g cs hg => by
  match g, hg with
  | 0, hg => cases hg; exact ⟨.u32, kons, rfl, by decide, fun i hi => (Lib.tabIs_of_head g_hash g_hashType Tryd.underlying149 Tryd.underlying117 cells117 cells149 h).cell g_hash i hi⟩
theorem law (uss : List (List T)) (h : HasAll Tryd.prog Tryd.f4.params.toList uss) (hb : bulkA uss ≤ 1048576) : DCalls Tryd.prog 4 (mkAll Tryd.prog Tryd.f4.params.toList uss) (.bool true) := by
  rw [params] at h ⊢
  match uss, h with
  | [u0, u1, u2, u3, u4, u5], ⟨g0, g1, g2, g3, g4, g5, _⟩ =>
    simp only [bulkA] at hb
    obtain ⟨p, e0, p0, p1, -⟩ := aU16 g0
    obtain ⟨f, e1, f0, f1, -⟩ := aU16 g1
    obtain ⟨l, l2, w2, b2⟩ := aHeads g2
    obtain ⟨c, e3, -⟩ := aU64 g3
    obtain ⟨t, e4, t0, t1, -⟩ := aU8 g4
    obtain ⟨v, e5, v0, v1, -⟩ := aU8 g5
    simp only [mkAll]
    rw [e0, e1, e3, e4, e5]
    exact (t_HonestNeighbours p f c t v l w2 (by omega) p0 p1 f0 f1 t0 t1 v0 v1).lesAll ⟨Les.refl _, Les.refl _, l2, Les.refl _, Les.refl _, Les.refl _, trivial⟩
theorem fits : LawFits Tryd.checked Tryd.f4 Rows.receiptHonestNeighboursSpec typesN 4 where
  laid := (by kernel_rfl)
  closed := typesN_ok
  params := (by kernel_rfl)
  readable := (by kernel_rfl)
  res := (by kernel_rfl)
  bool := Tryd.underlying4
  vars := rfl
  fn := fun H ds h => by
    rw [params] at h
    match ds, h with
    | [_, _, _, _, _, _], _ => rfl
/-- A world for the witness: the settled one, the tables holding what their initialisers lay. -/
noncomputable def laidWorld (os : Os) : World := { World.holding Tryd.prog os ⟨#[], #[], []⟩ with heap := ((World.holding Tryd.prog os ⟨#[], #[], []⟩).heap.modify 0 fun | .cells _ t frozen => .cells (kons.map fun z => Value.int .u32 z).toArray t frozen | o => o) }
theorem laid_met (os : Os) : laidMet Tryd.prog Rows.receiptHonestNeighboursUptoRow.laid ((laidWorld os).forCall (fun _ _ => 0) ⟨#[], #[.int .u16 0, .int .u16 0, .slice none 0 0, .int .u64 0, .int .u8 0, .int .u8 0], []⟩).memory :=
  laidMet_of_run' 8 (by kernel_rfl) (by kernel_rfl)
theorem reads (os : Os) {H : Type} (enc : TypeId × Value → H) : ∃ places, DataW.whole enc Tryd.prog ((laidWorld os).forCall (fun _ _ => 0) ⟨#[], #[.int .u16 0, .int .u16 0, .slice none 0 0, .int .u64 0, .int .u8 0, .int .u8 0], []⟩).memory Tryd.f4.params.toList Rows.receiptHonestNeighboursSpec.vars false (#[.int .u16 0, .int .u16 0, .slice none 0 0, .int .u64 0, .int .u8 0, .int .u8 0] : Array Value).toList 8 = some ([.lit (.int .u16 0), .lit (.int .u16 0), .nil, .lit (.int .u64 0), .lit (.int .u8 0), .lit (.int .u8 0)], [], places) :=
  ⟨[], by kernel_rfl⟩
set_option maxRecDepth 100000 in
theorem lifted (os : Os) (started : os.Started) (H : Type) (enc : TypeId × Value → H) (F : Stop.Interp) :
    ReturnsInHanded {} Tryd.checked os 4 .any ((Rows.OpenSpec.upto Rows.receiptHonestNeighboursSpec).preRow enc Tryd.prog Tryd.f4 Rows.receiptHonestNeighboursUptoRow.domain false Rows.receiptHonestNeighboursUptoRow.laid) (((Rows.OpenSpec.upto Rows.receiptHonestNeighboursSpec).at F).post enc Tryd.prog Tryd.f4 false true false false) := by
  obtain ⟨places, hx⟩ := reads os enc
  exact law_laid (C := Tryd.checked) fits (weigh H) (k := Rows.uptoSmall) (N := 1048576) rfl (fun ds h => of_decide_eq_true h) own started (by kernel_rfl) Tryd.func4
    (witness_row_at (enc := enc) (C := Tryd.checked) false (laidWorld os) #[.int .u16 0, .int .u16 0, .slice none 0 0, .int .u64 0, .int .u8 0, .int .u8 0] rfl (by kernel_rfl) (by kernel_rfl) (by kernel_rfl)
      (OpenSpec.preRow_of_cond 8 hx (by kernel_rfl) (fun k hk => by cases hk; kernel_rfl) (by kernel_rfl) (laid_met os)))
    (fun W h => globOk_one h)
    law
theorem saidUpto : Rows.ReceiptHonestNeighboursUptoSaid :=
  OpenClaim.holds_of_cond 4 Tryd.f4 rfl rfl rfl rfl rfl rfl rfl ⟨rfl, rfl, rfl, rfl, rfl⟩ rfl rfl rfl rfl rfl (by kernel_rfl) Tryd.func4 (by kernel_rfl)
    (of_decide_eq_true (by kernel_rfl)) (by unfold Func.isWrapper; first | (rw [if_pos (by decide +kernel)]; kernel_rfl) | (rw [if_neg (by decide +kernel)]; exact ⟨rfl, rfl⟩))
    (fun os started H enc _ F => by rw [OpenClaim.pre_eq_preRow]; exact lifted os started H enc F)
/-- No parameter wants a stand-in; the program's own looks are off. -/
theorem plain (f : FuncId) (fn : Func) (hf : Tryd.pinned.checked.prog.funcNamed "interlace/interlacelaw46.ReceiptHonestNeighbours" = some f) (hfn : Tryd.pinned.checked.prog.funcs[f]? = some fn) :
    false = Tryd.pinned.checked.prog.looks [] ∧ ∀ (j : Nat) t, fn.params[j]? = some t → Tryd.pinned.checked.prog.wantsStandIn t = false := by
  obtain rfl : f = 4 := Option.some.inj ((show Tryd.prog.funcNamed "interlace/interlacelaw46.ReceiptHonestNeighbours" = some 4 by kernel_rfl).symm.trans hf) |>.symm
  obtain rfl : fn = Tryd.f4 := (Option.some.inj (Tryd.func4.symm.trans hfn)).symm
  refine ⟨by kernel_rfl, fun j t ht => ?_⟩
  have hm : t ∈ Tryd.f4.params.toList := Array.mem_toList_iff.2 (Array.mem_of_getElem? ht)
  have ha : Tryd.f4.params.toList.all (fun t => !Tryd.prog.wantsStandIn t) = true := by kernel_rfl
  have e : Tryd.prog.wantsStandIn t = false := by simpa using List.all_eq_true.1 ha t hm
  exact e
theorem proved : Rows.ReceiptHonestNeighboursUptoCardSaid :=
  Claim7.holds_tied_plain_at .later [] _ _ _ _ saidUpto (fun _ h => by cases h) (by kernel_rfl) (fun _ h => by cases h) receiptHonestNeighboursUpto_row_tie rfl ⟨rfl, rfl⟩ (by kernel_rfl) rfl plain (by kernel_rfl)
#print axioms proved
end Go.Proofs.YtedccjcfafejdaaDoor.honest
