/- Joined by program: parts of a data level over the model, and of the program's functions over it. No statement here. -/
import Derived.Test.YtfbhdkpmipgmbaaProg
import Derived.Test.YtfbhdkpmipgmbaaDb
import Derived.KernelRfl
import Derived.Test.YtfbhdkpmipgmbaaMi
section
/- Lowered code of the program's functions: printed by program. No statement here. -/
namespace Go.MM
open Go Go.DL Go.Proofs
set_option maxRecDepth 100000

-- interlace/interlacelaw13.MeaningFiltersAreBoolean
noncomputable def c5 : DCode := (.seq (.region [⟨some 6, .box 5 (.tmp 1), none, []⟩,
  ⟨some 7, .box 5 (.tmp 2), none, []⟩,
  ⟨some 8, .box 10 (.tmp 3), none, []⟩,
  ⟨some 10, .mov (.const (.bool false)), none, []⟩] []) (.seq (.cut (.region [⟨some 20, .load 5 true (.tmp 6), none, []⟩,
  ⟨some 21, .call 24 [(.tmp 20)], none, []⟩,
  ⟨some 22, .load 5 true (.tmp 7), none, []⟩,
  ⟨some 23, .call 24 [(.tmp 22)], none, []⟩,
  ⟨some 11, .alloc [(.int .i64 (0)), (.int .i64 (0)), (.str ⟨#[]⟩), (.int .i64 (0)), (.int .i64 (0)), .nil, (.str ⟨#[]⟩), (.int .i64 (0)), .nil], none, []⟩,
  ⟨some 12, .alloc [(.int .i64 (0)), (.int .i64 (0)), (.str ⟨#[]⟩), (.int .i64 (0)), (.int .i64 (0)), .nil, (.str ⟨#[]⟩), (.int .i64 (0)), .nil], none, []⟩,
  ⟨none, .store 9 (.tmp 11) (.tmp 21), none, []⟩,
  ⟨none, .store 9 (.tmp 12) (.tmp 23), none, []⟩] [])) (.seq (.seq (.region [⟨some 24, .mov (.tmp 0), none, []⟩,
  ⟨some 25, .load 10 true (.tmp 8), none, []⟩,
  ⟨some 26, .mov (.tmp 4), none, []⟩,
  ⟨some 27, .load 9 true (.tmp 11), none, []⟩,
  ⟨some 28, .load 9 true (.tmp 12), none, []⟩,
  ⟨some 29, .buildS 38 9 2 [(.int .i64 (0)), (.int .i64 (0)), (.str ⟨#[]⟩), (.int .i64 (0)), (.int .i64 (0)), .nil, (.str ⟨#[]⟩), (.int .i64 (0)), .nil] [(0, (.tmp 27)), (1, (.tmp 28))], none, []⟩,
  ⟨some 30, .call 18 [(.tmp 24), (.tmp 25), (.tmp 26), (.tmp 29)], none, []⟩,
  ⟨some 31, .not (.tmp 30), none, []⟩] []) (.cond (.tmp 31) (.seq (.region [⟨some 32, .call 12 [], none, []⟩,
  ⟨some 10, .mov (.tmp 32), none, []⟩] []) .ret) .skip)) (.seq (.cut (.region [⟨some 33, .load 5 true (.tmp 6), none, []⟩,
  ⟨some 34, .buildS 35 5 1 [(.int .i64 (0)), (.str ⟨#[]⟩), (.int .i64 (0)), (.int .i64 (0)), .nil] [(0, (.tmp 33))], none, []⟩,
  ⟨some 35, .build [(.int .i64 (0)), (.str ⟨#[]⟩), (.int .i64 (0)), (.int .i64 (0)), .nil] [(0, 1, (.const (.int .i64 (6)))), (4, 1, (.tmp 34))], none, []⟩,
  ⟨some 36, .call 24 [(.tmp 35)], none, []⟩,
  ⟨some 13, .alloc [(.int .i64 (0)), (.int .i64 (0)), (.str ⟨#[]⟩), (.int .i64 (0)), (.int .i64 (0)), .nil, (.str ⟨#[]⟩), (.int .i64 (0)), .nil], none, []⟩,
  ⟨none, .store 9 (.tmp 13) (.tmp 36), none, []⟩] [])) (.seq (.seq (.region [⟨some 37, .load 5 true (.tmp 6), none, []⟩,
  ⟨some 38, .load 5 true (.tmp 7), none, []⟩,
  ⟨some 39, .call 25 [(.const (.int .i64 (7))), (.tmp 37), (.tmp 38)], none, []⟩,
  ⟨some 40, .call 24 [(.tmp 39)], none, []⟩,
  ⟨some 41, .load 9 true (.tmp 11), none, []⟩,
  ⟨some 42, .load 9 true (.tmp 12), none, []⟩,
  ⟨some 43, .call 21 [(.tmp 41), (.tmp 42)], none, []⟩,
  ⟨some 44, .build [(.int .i64 (0)), (.int .i64 (0)), (.str ⟨#[]⟩), (.int .i64 (0)), (.int .i64 (0)), .nil, (.str ⟨#[]⟩), (.int .i64 (0)), .nil, (.int .i64 (0)), (.int .i64 (0)), (.str ⟨#[]⟩), (.int .i64 (0)), (.int .i64 (0)), .nil, (.str ⟨#[]⟩), (.int .i64 (0)), .nil] [(0, 9, (.tmp 40)), (9, 9, (.tmp 43))], none, []⟩,
  ⟨some 45, .load 5 true (.tmp 6), none, []⟩,
  ⟨some 46, .load 5 true (.tmp 7), none, []⟩,
  ⟨some 47, .call 25 [(.const (.int .i64 (8))), (.tmp 45), (.tmp 46)], none, []⟩,
  ⟨some 48, .call 24 [(.tmp 47)], none, []⟩,
  ⟨some 49, .load 9 true (.tmp 11), none, []⟩,
  ⟨some 50, .load 9 true (.tmp 12), none, []⟩,
  ⟨some 51, .call 19 [(.tmp 49), (.tmp 50)], none, []⟩,
  ⟨some 52, .build [(.int .i64 (0)), (.int .i64 (0)), (.str ⟨#[]⟩), (.int .i64 (0)), (.int .i64 (0)), .nil, (.str ⟨#[]⟩), (.int .i64 (0)), .nil, (.int .i64 (0)), (.int .i64 (0)), (.str ⟨#[]⟩), (.int .i64 (0)), (.int .i64 (0)), .nil, (.str ⟨#[]⟩), (.int .i64 (0)), .nil] [(0, 9, (.tmp 48)), (9, 9, (.tmp 51))], none, []⟩,
  ⟨some 53, .load 9 true (.tmp 11), none, []⟩,
  ⟨some 54, .load 9 true (.tmp 12), none, []⟩,
  ⟨some 55, .call 21 [(.tmp 53), (.tmp 54)], none, []⟩,
  ⟨some 56, .load 9 true (.tmp 12), none, []⟩,
  ⟨some 57, .load 9 true (.tmp 11), none, []⟩,
  ⟨some 58, .call 21 [(.tmp 56), (.tmp 57)], none, []⟩,
  ⟨some 59, .build [(.int .i64 (0)), (.int .i64 (0)), (.str ⟨#[]⟩), (.int .i64 (0)), (.int .i64 (0)), .nil, (.str ⟨#[]⟩), (.int .i64 (0)), .nil, (.int .i64 (0)), (.int .i64 (0)), (.str ⟨#[]⟩), (.int .i64 (0)), (.int .i64 (0)), .nil, (.str ⟨#[]⟩), (.int .i64 (0)), .nil] [(0, 9, (.tmp 55)), (9, 9, (.tmp 58))], none, []⟩,
  ⟨some 60, .load 9 true (.tmp 11), none, []⟩,
  ⟨some 61, .load 9 true (.tmp 11), none, []⟩,
  ⟨some 62, .call 21 [(.tmp 60), (.tmp 61)], none, []⟩,
  ⟨some 63, .load 9 true (.tmp 11), none, []⟩,
  ⟨some 64, .build [(.int .i64 (0)), (.int .i64 (0)), (.str ⟨#[]⟩), (.int .i64 (0)), (.int .i64 (0)), .nil, (.str ⟨#[]⟩), (.int .i64 (0)), .nil, (.int .i64 (0)), (.int .i64 (0)), (.str ⟨#[]⟩), (.int .i64 (0)), (.int .i64 (0)), .nil, (.str ⟨#[]⟩), (.int .i64 (0)), .nil] [(0, 9, (.tmp 62)), (9, 9, (.tmp 63))], none, []⟩,
  ⟨some 65, .load 9 true (.tmp 11), none, []⟩,
  ⟨some 66, .load 9 true (.tmp 13), none, []⟩,
  ⟨some 67, .call 21 [(.tmp 65), (.tmp 66)], none, []⟩,
  ⟨some 68, .call 20 [], none, []⟩,
  ⟨some 69, .build [(.int .i64 (0)), (.int .i64 (0)), (.str ⟨#[]⟩), (.int .i64 (0)), (.int .i64 (0)), .nil, (.str ⟨#[]⟩), (.int .i64 (0)), .nil, (.int .i64 (0)), (.int .i64 (0)), (.str ⟨#[]⟩), (.int .i64 (0)), (.int .i64 (0)), .nil, (.str ⟨#[]⟩), (.int .i64 (0)), .nil] [(0, 9, (.tmp 67)), (9, 9, (.tmp 68))], none, []⟩,
  ⟨some 70, .load 9 true (.tmp 11), none, []⟩,
  ⟨some 71, .load 9 true (.tmp 13), none, []⟩,
  ⟨some 72, .call 19 [(.tmp 70), (.tmp 71)], none, []⟩,
  ⟨some 73, .call 22 [], none, []⟩,
  ⟨some 74, .build [(.int .i64 (0)), (.int .i64 (0)), (.str ⟨#[]⟩), (.int .i64 (0)), (.int .i64 (0)), .nil, (.str ⟨#[]⟩), (.int .i64 (0)), .nil, (.int .i64 (0)), (.int .i64 (0)), (.str ⟨#[]⟩), (.int .i64 (0)), (.int .i64 (0)), .nil, (.str ⟨#[]⟩), (.int .i64 (0)), .nil] [(0, 9, (.tmp 72)), (9, 9, (.tmp 73))], none, []⟩,
  ⟨some 75, .load 9 true (.tmp 11), none, []⟩,
  ⟨some 76, .call 26 [(.tmp 75)], none, []⟩,
  ⟨some 77, .call 22 [], none, []⟩,
  ⟨some 78, .build [(.int .i64 (0)), (.int .i64 (0)), (.str ⟨#[]⟩), (.int .i64 (0)), (.int .i64 (0)), .nil, (.str ⟨#[]⟩), (.int .i64 (0)), .nil, (.int .i64 (0)), (.int .i64 (0)), (.str ⟨#[]⟩), (.int .i64 (0)), (.int .i64 (0)), .nil, (.str ⟨#[]⟩), (.int .i64 (0)), .nil] [(0, 9, (.tmp 76)), (9, 9, (.tmp 77))], none, []⟩,
  ⟨some 79, .buildT 18 7 [(.int .i64 (0)), (.int .i64 (0)), (.str ⟨#[]⟩), (.int .i64 (0)), (.int .i64 (0)), .nil, (.str ⟨#[]⟩), (.int .i64 (0)), .nil, (.int .i64 (0)), (.int .i64 (0)), (.str ⟨#[]⟩), (.int .i64 (0)), (.int .i64 (0)), .nil, (.str ⟨#[]⟩), (.int .i64 (0)), .nil] [(0, (.tmp 44)), (1, (.tmp 52)), (2, (.tmp 59)), (3, (.tmp 64)), (4, (.tmp 69)), (5, (.tmp 74)), (6, (.tmp 78))], none, []⟩,
  ⟨some 80, .len (.tmp 79), none, []⟩,
  ⟨some 81, .mov (.const (.int .i64 (0))), none, []⟩] []) (.block 0 (.loop (.seq (.region [⟨some 82, .bin .lss (.tmp 81) (.tmp 80), none, []⟩] []) (.seq (.cond (.tmp 82) .skip (.exit 0)) (.seq (.block 1 (.seq (.region [⟨some 83, .idxL 18 (.tmp 79) (.tmp 81), none, []⟩,
  ⟨some 84, .load 18 true (.tmp 83), none, []⟩,
  ⟨some 15, .alloc [(.int .i64 (0)), (.int .i64 (0)), (.str ⟨#[]⟩), (.int .i64 (0)), (.int .i64 (0)), .nil, (.str ⟨#[]⟩), (.int .i64 (0)), .nil, (.int .i64 (0)), (.int .i64 (0)), (.str ⟨#[]⟩), (.int .i64 (0)), (.int .i64 (0)), .nil, (.str ⟨#[]⟩), (.int .i64 (0)), .nil], none, []⟩,
  ⟨none, .store 18 (.tmp 15) (.tmp 84), none, []⟩] []) (.seq (.seq (.region [⟨some 85, .mov (.tmp 0), none, []⟩,
  ⟨some 86, .idxA 2 9 (.tmp 15) (.const (.int .i64 (0))), none, []⟩,
  ⟨some 87, .load 9 true (.tmp 86), none, []⟩,
  ⟨some 88, .idxA 2 9 (.tmp 15) (.const (.int .i64 (1))), none, []⟩,
  ⟨some 89, .load 9 true (.tmp 88), none, []⟩,
  ⟨some 90, .call 27 [(.tmp 85), (.tmp 87), (.tmp 89)], none, []⟩,
  ⟨some 91, .not (.tmp 90), none, []⟩] []) (.cond (.tmp 91) (.exit 1) .skip)) (.seq (.region [⟨some 93, .mov (.tmp 0), none, []⟩,
  ⟨some 94, .idxA 2 9 (.tmp 15) (.const (.int .i64 (0))), none, []⟩,
  ⟨some 95, .load 9 true (.tmp 94), none, []⟩,
  ⟨some 96, .load 10 true (.tmp 8), none, []⟩,
  ⟨some 97, .mov (.tmp 4), none, []⟩,
  ⟨some 98, .call 28 [(.tmp 93), (.tmp 95), (.tmp 96), (.tmp 97)], none, []⟩,
  ⟨some 92, .mov (.tmp 98), none, []⟩,
  ⟨some 99, .ext (.tmp 92) 0, none, []⟩,
  ⟨some 100, .ext (.tmp 92) 1, none, []⟩,
  ⟨some 16, .mov (.tmp 99), none, []⟩,
  ⟨some 17, .mov (.tmp 100), none, []⟩] []) (.seq (.region [⟨some 102, .mov (.tmp 0), none, []⟩,
  ⟨some 103, .idxA 2 9 (.tmp 15) (.const (.int .i64 (1))), none, []⟩,
  ⟨some 104, .load 9 true (.tmp 103), none, []⟩,
  ⟨some 105, .load 10 true (.tmp 8), none, []⟩,
  ⟨some 106, .mov (.tmp 4), none, []⟩,
  ⟨some 107, .call 28 [(.tmp 102), (.tmp 104), (.tmp 105), (.tmp 106)], none, []⟩,
  ⟨some 101, .mov (.tmp 107), none, []⟩,
  ⟨some 108, .ext (.tmp 101) 0, none, []⟩,
  ⟨some 109, .ext (.tmp 101) 1, none, []⟩,
  ⟨some 18, .mov (.tmp 108), none, []⟩,
  ⟨some 19, .mov (.tmp 109), none, []⟩] []) (.seq (.region [⟨some 110, .mov (.tmp 17), none, []⟩,
  ⟨some 111, .bin .neq (.tmp 110) (.const (.int .i64 (0))), none, []⟩,
  ⟨some 112, .mov (.tmp 111), none, []⟩,
  ⟨some 113, .mov (.tmp 19), some (112, false), []⟩,
  ⟨some 114, .bin .neq (.tmp 113) (.const (.int .i64 (0))), some (112, false), []⟩,
  ⟨some 115, .pick (.tmp 112) (.const (.bool true)) (.tmp 114), none, []⟩,
  ⟨some 116, .mov (.tmp 115), none, []⟩,
  ⟨some 117, .mov (.tmp 16), some (116, false), []⟩,
  ⟨some 118, .mov (.tmp 18), some (116, false), []⟩,
  ⟨some 119, .call 14 [(.tmp 117), (.tmp 118)], some (116, false), []⟩,
  ⟨some 120, .not (.tmp 119), some (116, false), []⟩,
  ⟨some 121, .pick (.tmp 116) (.const (.bool true)) (.tmp 120), none, []⟩] []) (.cond (.tmp 121) (.seq (.region [⟨some 10, .mov (.const (.bool false)), none, []⟩] []) .ret) .skip))))))) (.region [⟨some 122, .bin .add (.tmp 81) (.const (.int .i64 (1))), none, []⟩,
  ⟨some 81, .mov (.tmp 122), none, []⟩] []))))))) (.seq (.region [⟨some 123, .call 12 [], none, []⟩,
  ⟨some 10, .mov (.tmp 123), none, []⟩] []) .ret))))))
theorem l5 : (Try.f5.body.bind (lowC Try.prog 124 [6000001, 6000004])) = some c5 := by kernel_rfl

end Go.MM
end
section
/- Meaning: the statement that filters are boolean. -/
namespace Go.MM
open Go Go.DL Go.Proofs
set_option maxRecDepth 100000
set_option maxHeartbeats 16000000

theorem e25a (p q : Pr) : DCalls Try.prog 25 [I 7, ep p, ep q] (ep (.and p q)) := by rw [ep_eq, ep_eq, ep_eq]; exact t25a p q
theorem e25o (p q : Pr) : DCalls Try.prog 25 [I 8, ep p, ep q] (ep (.or p q)) := by rw [ep_eq, ep_eq, ep_eq]; exact t25o p q
theorem e24n (p : Pr) : DCalls Try.prog 24 [.agg [I 6, nm0, I 0, I 0, .slice 5 [ep p]]] (eo (.filter (.not p))) := by
  have := e24 (.not p)
  rwa [ep_eq, show encP (.not p) = .agg [I 6, nm0, I 0, I 0, .slice 5 [encP p]] from rfl, ← ep_eq] at this

def booleans (x y : Pr) : List (Po × Po) := [(.filter (.and x y), .seq (.filter x) (.filter y)), (.filter (.or x y), .union (.filter x) (.filter y)), (.seq (.filter x) (.filter y), .seq (.filter y) (.filter x)), (.seq (.filter x) (.filter x), .filter x), (.seq (.filter x) (.filter (.not x)), dropO), (.union (.filter x) (.filter (.not x)), idO), (.star (.filter x), idO)]

theorem mrg_self1 (h : List Int) : mrg [h] [h] = [h] := by
  unfold mrg mrgGo
  simp [cmpL_self]
  rfl

/-- Both give the same, and give it. -/
def Gives (l : List Fd) (tick : Int) (h : List Int) (x : Po × Po) : Prop := ∃ s, gives l tick x.1 h = some s ∧ gives l tick x.2 h = some s
structure PairGives (l : List Fd) (tick : Int) (h : List Int) (x : Po × Po) : Prop where
  sm1 : Sm (rawO x.1)
  sm2 : Sm (rawO x.2)
  eq : Gives l tick h x

theorem wt_filter (p : Pr) : wO (.filter p) = (rawP p).nodes + 1 := by simp only [wO, rawO, RO.wt, wtSs]; omega
theorem nodes_not (p : Pr) : (rawP (.not p)).nodes = (rawP p).nodes + 1 := by simp only [rawP, RP.nodes, nodesPs]; omega
theorem nodes_and (p q : Pr) : (rawP (.and p q)).nodes = (rawP p).nodes + (rawP q).nodes + 1 := by simp only [rawP, RP.nodes, nodesPs]; omega
theorem nodes_or (p q : Pr) : (rawP (.or p q)).nodes = (rawP p).nodes + (rawP q).nodes + 1 := by simp only [rawP, RP.nodes, nodesPs]; omega
theorem nm_filter {p : Pr} (h : namesP (rawP p)) : NmO (.filter p) := ⟨h, by decide, trivial⟩
theorem nm_not {p : Pr} (h : namesP (rawP p)) : namesP (rawP (.not p)) := ⟨by decide, h, trivial⟩
theorem nm_and {p q : Pr} (h : namesP (rawP p)) (k : namesP (rawP q)) : namesP (rawP (.and p q)) := ⟨by decide, h, k, trivial⟩
theorem nm_or {p q : Pr} (h : namesP (rawP p)) (k : namesP (rawP q)) : namesP (rawP (.or p q)) := ⟨by decide, h, k, trivial⟩

theorem booleans_ok (l : List Fd) (tick : Int) (h : List Int) (x y : Pr) (nx : namesP (rawP x)) (ny : namesP (rawP y)) (wx : (rawP x).nodes ≤ 2 ^ 20) (wy : (rawP y).nodes ≤ 2 ^ 20) : ∀ z ∈ booleans x y, PairGives l tick h z := by
  have un := @nm_union
  have sq := @nm_seq
  have st := @nm_star
  have fl := @nm_filter
  intro z hz
  simp only [booleans, List.mem_cons, List.not_mem_nil, or_false] at hz
  have w : ∀ y : Po, wO y ≤ 2 ^ 30 → NmO y → Sm (rawO y) := fun y h1 h2 => ⟨by simp only [wO] at h1; omega, h2⟩
  have wu := wt_union
  have wsq := wt_seq
  have wst := wt_star
  have wi := wt_id
  have wd := wt_drop
  have wf := wt_filter
  have ms := mrg_self1 h
  have mn : mrg [] [h] = [h] := rfl
  have mz : mrg [h] [] = [h] := mrg_nil _
  rcases hz with rfl | rfl | rfl | rfl | rfl | rfl | rfl
  · refine ⟨w _ (by rw [wf, nodes_and]; omega) (fl (nm_and nx ny)), w _ (by rw [wsq, wf, wf]; omega) (sq (fl nx) (fl ny)), ?_⟩
    unfold Gives
    cases hx : holds l tick h x <;> cases hy : holds l tick h y <;> simp [gives, image, holds, small, mrg, hx, hy]
  · refine ⟨w _ (by rw [wf, nodes_or]; omega) (fl (nm_or nx ny)), w _ (by rw [wu, wf, wf]; omega) (un (fl nx) (fl ny)), ?_⟩
    unfold Gives
    cases hx : holds l tick h x <;> cases hy : holds l tick h y <;> simp [gives, image, holds, small, hx, hy, ms, mn, mz, mrg_nil]
  · refine ⟨w _ (by rw [wsq, wf, wf]; omega) (sq (fl nx) (fl ny)), w _ (by rw [wsq, wf, wf]; omega) (sq (fl ny) (fl nx)), ?_⟩
    unfold Gives
    cases hx : holds l tick h x <;> cases hy : holds l tick h y <;> simp [gives, image, holds, small, mrg, hx, hy]
  · refine ⟨w _ (by rw [wsq, wf]; omega) (sq (fl nx) (fl nx)), w _ (by rw [wf]; omega) (fl nx), ?_⟩
    unfold Gives
    cases hx : holds l tick h x <;> simp [gives, image, holds, small, mrg, hx]
  · refine ⟨w _ (by rw [wsq, wf, wf, nodes_not]; omega) (sq (fl nx) (fl (nm_not nx))), w _ (by rw [wd]; omega) nm_drop, ?_⟩
    unfold Gives
    cases hx : holds l tick h x <;> simp [gives, image, holds, small, mrg, hx, dropO]
  · refine ⟨w _ (by rw [wu, wf, wf, nodes_not]; omega) (un (fl nx) (fl (nm_not nx))), w _ (by rw [wi]; omega) nm_id, ?_⟩
    unfold Gives
    cases hx : holds l tick h x <;> simp [gives, image, holds, small, hx, idO, mn, mz]
  · refine ⟨w _ (by rw [wst, wf]; omega) (st (fl nx)), w _ (by rw [wi]; omega) nm_id, ?_⟩
    refine ⟨[h], ?_, by simp [gives, idO, holds]⟩
    simp only [gives]
    rw [rounds_succ]
    cases hx : holds l tick h x <;> simp [image, small, hx, mn, mz, show mrg [] [] = [] from rfl]

theorem list7' {a0 a1 a2 a3 a4 a5 a6 b0 b1 b2 b3 b4 b5 b6 : T} (h0 : a0 = b0) (h1 : a1 = b1) (h2 : a2 = b2) (h3 : a3 = b3) (h4 : a4 = b4) (h5 : a5 = b5) (h6 : a6 = b6) : [a0, a1, a2, a3, a4, a5, a6] = [b0, b1, b2, b3, b4, b5, b6] := by
  rw [h0, h1, h2, h3, h4, h5, h6]

theorem t5 (l : List RF) (hl : l.length < 2 ^ 60) (hn : ∀ f ∈ l, f.name.size < 2 ^ 62) (x1 x2 : RP) (hx1 : x1.nodes ≤ 2 ^ 20) (hx2 : x2.nodes ≤ 2 ^ 20) (nx1 : namesP x1) (nx2 : namesP x2) (h : List Int) (hh : h.length = 10) (tick : Int) :
    DCalls Try.prog 5 [encFs l, .agg (cellsR x1), .agg (cellsR x2), hd h, I tick] (.bool true) := by
  refine dcalls_low (rs := [.tmp 10]) mixed Try.func5 l5 rfl rfl rfl (r := [.bool true]) (Nat.le_of_ble_eq_true rfl) ?_
  have a1 := r24 x1
  have a2 := r24 x2
  have s1 : Sm (.mk 1 x1 e0 0 []) := ⟨by simp only [RO.wt, wtSs]; omega, nx1, by decide, trivial⟩
  have s2 : Sm (.mk 1 x2 e0 0 []) := ⟨by simp only [RO.wt, wtSs]; omega, nx2, by decide, trivial⟩
  have c18 := t18 l hl hn h hh tick [.mk 1 x1 e0 0 [], .mk 1 x2 e0 0 []] (by simp) (fun y hy => by
    simp only [List.mem_cons, List.not_mem_nil, or_false] at hy
    rcases hy with rfl | rfl
    · exact ⟨s1.wt, s1.nm⟩
    · exact ⟨s2.wt, s2.nm⟩)
  simp only [List.map_cons, List.map_nil, encS_cells] at c18
  have c12 := t12
  repeat' ((conv => whnf); first | exact trivial | refine now_T ?_ | refine aE1 ?_ | refine aE0 ?_ | refine aN1 ?_ | refine aN0 ?_ | refine aD1 ?_ | refine aD0 ?_ | refine now_E (fun hq => ?_) (fun hq => ?_) | refine now_N (fun hq => ?_) (fun hq => ?_) | refine now_D (fun hq => ?_) (fun hq => ?_) | refine rb1 ?_ | refine rb0 ?_ | refine rbx ?_ | refine rix ?_ | (refine And.intro (by first | (exact cellsR_len _; done) | (simp [hh]; done) | fail) ?_) | refine aS ?_ | fail)
  refine wpC_cut (β := Unit) (fun _ => {sl := [(0, .t (encFs l)), (4, .t (I tick)), (6, .ptr 6 0), (7, .ptr 7 0), (8, .ptr 8 0), (11, .ptr 11 0), (12, .ptr 12 0)], bx := [(6, .d 5 (cellsR x1)), (7, .d 5 (cellsR x2)), (8, .d 10 (h.map I)), (11, .d 9 (cellsS (.mk 1 x1 e0 0 []))), (12, .d 9 (cellsS (.mk 1 x2 e0 0 [])))]}) (fun _ => True) ?_ ?_
  · repeat' ((conv => whnf); first | exact trivial | refine k_call _ (a1) ?_ | refine k_call _ (a2) ?_ | refine now_T ?_ | refine aE1 ?_ | refine aE0 ?_ | refine aN1 ?_ | refine aN0 ?_ | refine aD1 ?_ | refine aD0 ?_ | refine now_E (fun hq => ?_) (fun hq => ?_) | refine now_N (fun hq => ?_) (fun hq => ?_) | refine now_D (fun hq => ?_) (fun hq => ?_) | refine rb1 ?_ | refine rb0 ?_ | refine rbx ?_ | refine rix ?_ | (refine And.intro (by first | (exact ⟨cellsS_len _, Nat.le_refl 9⟩; done) | fail) ?_) | refine aS ?_ | fail)
    all_goals exact ⟨(), trivial, by (repeat' (first | (exact leBd (by simp [putL])) | exact trivial | exact LeV.same _ | exact LeB.same _ | exact rfl | exact fun _ _ _ => trivial | exact lI | exact LeV.nil _ _ _ | exact lB | refine leBd ?_ | refine leOwn ?_ | refine And.intro ?_ ?_)); done⟩
  rintro _ _
  cases hR : rightB l h tick [.mk 1 x1 e0 0 [], .mk 1 x2 e0 0 []] with
  | false =>
    rw [hR] at c18
    repeat' ((conv => whnf); first | exact trivial | refine k_call _ (c18) ?_ | refine k_call _ (c12) ?_ | refine now_T ?_ | refine aE1 ?_ | refine aE0 ?_ | refine aN1 ?_ | refine aN0 ?_ | refine aD1 ?_ | refine aD0 ?_ | refine now_E (fun hq => ?_) (fun hq => ?_) | refine now_N (fun hq => ?_) (fun hq => ?_) | refine now_D (fun hq => ?_) (fun hq => ?_) | refine rb1 ?_ | refine rb0 ?_ | refine rbx ?_ | refine rix ?_ | (refine And.intro (by first | (simp [hh]; done) | (exact ⟨⟨trivial, cellsS_len _⟩, cellsS_len _⟩; done) | fail) ?_) | refine aS ?_ | fail)
  | true =>
  rw [hR] at c18
  obtain ⟨ck, ho, _, _, hall⟩ := right_ok hh hR
  obtain ⟨q1, e1, o1⟩ := typed_po (hall (.mk 1 x1 e0 0 []) (by simp)).1
  obtain ⟨q2, e2, o2⟩ := typed_po (hall (.mk 1 x2 e0 0 []) (by simp)).1
  cases q1 with
  | set | union | seq | star => cases e1
  | filter x =>
  cases q2 with
  | set | union | seq | star => cases e2
  | filter y =>
  simp only [rawO, RO.mk.injEq, true_and, and_true] at e1 e2
  have okL := ck.ok
  have hfd := ck.fds
  generalize l.map RF.fd = L at *
  rw [hfd] at c18 ⊢
  subst e1
  subst e2
  have hbo := booleans_ok L tick h x y nx1 nx2 hx1 hx2
  have n24 := e24n x
  repeat' ((conv => whnf); first | exact trivial | refine k_call _ (c18) ?_ | refine now_T ?_ | refine aE1 ?_ | refine aE0 ?_ | refine aN1 ?_ | refine aN0 ?_ | refine aD1 ?_ | refine aD0 ?_ | refine now_E (fun hq => ?_) (fun hq => ?_) | refine now_N (fun hq => ?_) (fun hq => ?_) | refine now_D (fun hq => ?_) (fun hq => ?_) | refine rb1 ?_ | refine rb0 ?_ | refine rbx ?_ | refine rix ?_ | (refine And.intro (by first | (simp [hh]; done) | (exact ⟨⟨trivial, cellsS_len _⟩, cellsS_len _⟩; done) | fail) ?_) | refine aS ?_ | fail)
  refine wpC_cut (β := Unit) (fun _ => {sl := [(0, .t (fds L)), (4, .t (I tick)), (6, .ptr 6 0), (7, .ptr 7 0), (8, .ptr 8 0), (11, .ptr 11 0), (12, .ptr 12 0), (13, .ptr 13 0)], bx := [(6, .d 5 (cellsR (rawP x))), (7, .d 5 (cellsR (rawP y))), (8, .d 10 (h.map I)), (11, .d 9 (cellsS (rawO (.filter x)))), (12, .d 9 (cellsS (rawO (.filter y)))), (13, .d 9 (cellsS (rawO (.filter (.not x)))))]}) (fun _ => True) ?_ ?_
  · repeat' ((conv => whnf); first | exact trivial | refine k_call _ (n24) ?_ | refine now_T ?_ | refine aE1 ?_ | refine aE0 ?_ | refine aN1 ?_ | refine aN0 ?_ | refine aD1 ?_ | refine aD0 ?_ | refine now_E (fun hq => ?_) (fun hq => ?_) | refine now_N (fun hq => ?_) (fun hq => ?_) | refine now_D (fun hq => ?_) (fun hq => ?_) | refine rb1 ?_ | refine rb0 ?_ | refine rbx ?_ | refine rix ?_ | (refine And.intro (by first | (exact cellsR_len _; done) | (exact ⟨trivial, cellsR_len _⟩; done) | fail) ?_) | refine aS ?_ | fail)
    all_goals exact ⟨(), trivial, by (repeat' (first | (exact leBd (by simp [putL])) | exact trivial | exact LeV.same _ | exact LeB.same _ | exact rfl | exact fun _ _ _ => trivial | exact lI | exact LeV.nil _ _ _ | exact lB | refine leBd ?_ | refine leOwn ?_ | refine And.intro ?_ ?_)); done⟩
  rintro _ _
  repeat' ((conv => whnf); first | exact trivial | refine k_call _ (e20) ?_ | refine k_call _ (e22) ?_ | refine k_call _ (e25a x y) ?_ | refine k_call _ (e25o x y) ?_ | refine k_call _ (e24 (.and x y)) ?_ | refine k_call _ (e24 (.or x y)) ?_ | refine k_call _ (e21 _ _) ?_ | refine k_call _ (e19 _ _) ?_ | refine k_call _ (e26 _) ?_ | refine now_T ?_ | refine aE1 ?_ | refine aE0 ?_ | refine aN1 ?_ | refine aN0 ?_ | refine aD1 ?_ | refine aD0 ?_ | refine now_E (fun hq => ?_) (fun hq => ?_) | refine now_N (fun hq => ?_) (fun hq => ?_) | refine now_D (fun hq => ?_) (fun hq => ?_) | refine rb1 ?_ | refine rb0 ?_ | refine rbx ?_ | refine rix ?_ | (refine And.intro (by first | (exact ⟨⟨trivial, cellsS_len _⟩, cellsS_len _⟩; done) | (simp [putL, cellsS_len]; done) | fail) ?_) | refine aS ?_ | fail)
  have hlen : (booleans x y).length = 7 := rfl
  have hz : (z18).length = 18 := rfl
  have pc := fun (a b : Po) => congrArg T.agg (pair_cells (cellsS_len (rawO a)) (cellsS_len (rawO b)) z18 hz).symm
  refine wpC_loop (α := Nat) (fun i => {sl := [(0, .t (fds L)), (4, .t (I tick)), (8, .ptr 8 0), (79, .t (.slice 18 ((booleans x y).map pairT))), (80, .t (I 7)), (81, .t (I i))], bx := [(8, .d 10 (h.map I))]})
    (fun i => i ≤ 7) (fun i => 7 - i) 0 (by omega) ?_ ?_
  · repeat' (first | (exact leT (congrArg (T.slice 18) (list7' (pc _ _) (pc _ _) (pc _ _) (pc _ _) (pc _ _) (pc _ _) (pc _ _)))) | exact trivial | exact LeV.same _ | exact LeB.same _ | exact rfl | exact fun _ _ _ => trivial | exact lI | exact LeV.nil _ _ _ | exact lB | refine leBd ?_ | refine leOwn ?_ | refine And.intro ?_ ?_)
  rintro i hi
  rcases Nat.lt_or_ge i 7 with hlt | hge
  · have hx := hbo _ (List.getElem_mem (by rw [hlen]; exact hlt))
    generalize hA : booleans x y = A at *
    have hg : (A.map pairT)[i]?.getD .nil = pairT (A[i]'(by rw [hlen]; exact hlt)) := by simp [show i < A.length by rw [hlen]; exact hlt]
    generalize A[i]'(by rw [hlen]; exact hlt) = v at *
    obtain ⟨v1, v2⟩ := v
    obtain ⟨z1, z2, s, g1, g2⟩ := hx
    have c27 := t27 L okL v1 v2 z1 z2
    cases hT : typedB L v1 v2 with
    | false =>
      rw [hT] at c27
      repeat' ((conv => whnf); first | exact trivial | (refine now_v (pairT (v1, v2)) (by first | (exact hg; done) | fail) ?_) | (refine now_v (eo v1) (by first | (exact congrArg T.agg (pl1 (cellsS_len (rawO v1))); done) | fail) ?_) | (refine now_v (eo v2) (by first | (exact congrArg T.agg (pl2 (cellsS_len (rawO v1)) (cellsS_len (rawO v2))); done) | fail) ?_) | refine k_call _ (c27) ?_ | (exact ⟨i + 1, by omega, by omega, by (repeat' (first | exact trivial | exact LeV.same _ | exact LeB.same _ | exact rfl | exact fun _ _ _ => trivial | exact lI | exact LeV.nil _ _ _ | exact lB | refine leBd ?_ | refine leOwn ?_ | refine And.intro ?_ ?_)); done⟩) | refine now_T ?_ | refine aE1 ?_ | refine aE0 ?_ | refine aN1 ?_ | refine aN0 ?_ | refine aD1 ?_ | refine aD0 ?_ | refine now_E (fun hq => ?_) (fun hq => ?_) | refine now_N (fun hq => ?_) (fun hq => ?_) | refine now_D (fun hq => ?_) (fun hq => ?_) | refine rb1 ?_ | refine rb0 ?_ | refine rbx ?_ | refine rix ?_ | (refine And.intro (by first | (simp [T.cells, cellsS_len]; done) | (simp [hh]; done) | fail) ?_) | refine aS ?_ | fail)
    | true =>
      rw [hT] at c27
      obtain ⟨t1, t2⟩ := typedB_ok hT
      have k1 := t28 L okL tick v1 t1 h ho
      have k2 := t28 L okL tick v2 t2 h ho
      rw [← eo_eq, g1] at k1
      rw [← eo_eq, g2] at k2
      have so := gives_ok okL t1 ho g1
      have c14 := t14 s s so.ok.len so.ok.len (by have := so.len; omega)
      rw [beq_self_eq_true] at c14
      repeat' ((conv => whnf); first | exact trivial | (refine now_v (pairT (v1, v2)) (by first | (exact hg; done) | fail) ?_) | (refine now_v (eo v1) (by first | (exact congrArg T.agg (pl1 (cellsS_len (rawO v1))); done) | fail) ?_) | (refine now_v (eo v2) (by first | (exact congrArg T.agg (pl2 (cellsS_len (rawO v1)) (cellsS_len (rawO v2))); done) | fail) ?_) | refine k_call _ (c27) ?_ | refine k_call _ (k1) ?_ | refine k_call _ (k2) ?_ | refine k_call _ (c14) ?_ | (exact ⟨i + 1, by omega, by omega, by (repeat' (first | exact trivial | exact LeV.same _ | exact LeB.same _ | exact rfl | exact fun _ _ _ => trivial | exact lI | exact LeV.nil _ _ _ | exact lB | refine leBd ?_ | refine leOwn ?_ | refine And.intro ?_ ?_)); done⟩) | refine now_T ?_ | refine aE1 ?_ | refine aE0 ?_ | refine aN1 ?_ | refine aN0 ?_ | refine aD1 ?_ | refine aD0 ?_ | refine now_E (fun hq => ?_) (fun hq => ?_) | refine now_N (fun hq => ?_) (fun hq => ?_) | refine now_D (fun hq => ?_) (fun hq => ?_) | refine rb1 ?_ | refine rb0 ?_ | refine rbx ?_ | refine rix ?_ | (refine And.intro (by first | (simp [T.cells, cellsS_len]; done) | (simp [hh]; done) | fail) ?_) | refine aS ?_ | fail)
  · have : i = 7 := by omega
    subst this
    repeat' ((conv => whnf); first | exact trivial | refine k_call _ (c12) ?_ | refine now_T ?_ | refine aE1 ?_ | refine aE0 ?_ | refine aN1 ?_ | refine aN0 ?_ | refine aD1 ?_ | refine aD0 ?_ | refine now_E (fun hq => ?_) (fun hq => ?_) | refine now_N (fun hq => ?_) (fun hq => ?_) | refine now_D (fun hq => ?_) (fun hq => ?_) | refine rb1 ?_ | refine rb0 ?_ | refine rbx ?_ | refine rix ?_ | refine aS ?_ | fail)
end Go.MM
end
