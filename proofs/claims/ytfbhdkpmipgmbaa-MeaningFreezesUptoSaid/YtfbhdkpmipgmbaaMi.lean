/- Joined by program: parts of a data level over the model, and of the program's functions over it. No statement here. -/
import Derived.Test.YtfbhdkpmipgmbaaProg
import Derived.Test.YtfbhdkpmipgmbaaDb
import Derived.KernelRfl
import Derived.Test.YtfbhdkpmipgmbaaMh
section
/- Lowered code of the program's functions: printed by program. No statement here. -/
namespace Go.MM
open Go Go.DL Go.Proofs
set_option maxRecDepth 100000

-- interlace/interlacelaw13.MeaningIsAnAlgebra
noncomputable def c4 : DCode := (.seq (.region [⟨some 7, .box 9 (.tmp 1), none, []⟩,
  ⟨some 8, .box 9 (.tmp 2), none, []⟩,
  ⟨some 9, .box 9 (.tmp 3), none, []⟩,
  ⟨some 10, .box 10 (.tmp 4), none, []⟩,
  ⟨some 12, .mov (.const (.bool false)), none, []⟩] []) (.seq (.seq (.region [⟨some 15, .mov (.tmp 0), none, []⟩,
  ⟨some 16, .load 10 true (.tmp 10), none, []⟩,
  ⟨some 17, .mov (.tmp 5), none, []⟩,
  ⟨some 18, .load 9 true (.tmp 7), none, []⟩,
  ⟨some 19, .load 9 true (.tmp 8), none, []⟩,
  ⟨some 20, .load 9 true (.tmp 9), none, []⟩,
  ⟨some 21, .buildS 38 9 3 [(.int .i64 (0)), (.int .i64 (0)), (.str ⟨#[]⟩), (.int .i64 (0)), (.int .i64 (0)), .nil, (.str ⟨#[]⟩), (.int .i64 (0)), .nil] [(0, (.tmp 18)), (1, (.tmp 19)), (2, (.tmp 20))], none, []⟩,
  ⟨some 22, .call 18 [(.tmp 15), (.tmp 16), (.tmp 17), (.tmp 21)], none, []⟩,
  ⟨some 23, .not (.tmp 22), none, []⟩] []) (.cond (.tmp 23) (.seq (.region [⟨some 24, .call 12 [], none, []⟩,
  ⟨some 12, .mov (.tmp 24), none, []⟩] []) .ret) .skip)) (.seq (.seq (.region [⟨some 25, .load 9 true (.tmp 7), none, []⟩,
  ⟨some 26, .load 9 true (.tmp 8), none, []⟩,
  ⟨some 27, .call 19 [(.tmp 25), (.tmp 26)], none, []⟩,
  ⟨some 28, .load 9 true (.tmp 8), none, []⟩,
  ⟨some 29, .load 9 true (.tmp 7), none, []⟩,
  ⟨some 30, .call 19 [(.tmp 28), (.tmp 29)], none, []⟩,
  ⟨some 31, .build [(.int .i64 (0)), (.int .i64 (0)), (.str ⟨#[]⟩), (.int .i64 (0)), (.int .i64 (0)), .nil, (.str ⟨#[]⟩), (.int .i64 (0)), .nil, (.int .i64 (0)), (.int .i64 (0)), (.str ⟨#[]⟩), (.int .i64 (0)), (.int .i64 (0)), .nil, (.str ⟨#[]⟩), (.int .i64 (0)), .nil] [(0, 9, (.tmp 27)), (9, 9, (.tmp 30))], none, []⟩,
  ⟨some 32, .load 9 true (.tmp 7), none, []⟩,
  ⟨some 33, .load 9 true (.tmp 8), none, []⟩,
  ⟨some 34, .load 9 true (.tmp 9), none, []⟩,
  ⟨some 35, .call 19 [(.tmp 33), (.tmp 34)], none, []⟩,
  ⟨some 36, .call 19 [(.tmp 32), (.tmp 35)], none, []⟩,
  ⟨some 37, .load 9 true (.tmp 7), none, []⟩,
  ⟨some 38, .load 9 true (.tmp 8), none, []⟩,
  ⟨some 39, .call 19 [(.tmp 37), (.tmp 38)], none, []⟩,
  ⟨some 40, .load 9 true (.tmp 9), none, []⟩,
  ⟨some 41, .call 19 [(.tmp 39), (.tmp 40)], none, []⟩,
  ⟨some 42, .build [(.int .i64 (0)), (.int .i64 (0)), (.str ⟨#[]⟩), (.int .i64 (0)), (.int .i64 (0)), .nil, (.str ⟨#[]⟩), (.int .i64 (0)), .nil, (.int .i64 (0)), (.int .i64 (0)), (.str ⟨#[]⟩), (.int .i64 (0)), (.int .i64 (0)), .nil, (.str ⟨#[]⟩), (.int .i64 (0)), .nil] [(0, 9, (.tmp 36)), (9, 9, (.tmp 41))], none, []⟩,
  ⟨some 43, .load 9 true (.tmp 7), none, []⟩,
  ⟨some 44, .load 9 true (.tmp 7), none, []⟩,
  ⟨some 45, .call 19 [(.tmp 43), (.tmp 44)], none, []⟩,
  ⟨some 46, .load 9 true (.tmp 7), none, []⟩,
  ⟨some 47, .build [(.int .i64 (0)), (.int .i64 (0)), (.str ⟨#[]⟩), (.int .i64 (0)), (.int .i64 (0)), .nil, (.str ⟨#[]⟩), (.int .i64 (0)), .nil, (.int .i64 (0)), (.int .i64 (0)), (.str ⟨#[]⟩), (.int .i64 (0)), (.int .i64 (0)), .nil, (.str ⟨#[]⟩), (.int .i64 (0)), .nil] [(0, 9, (.tmp 45)), (9, 9, (.tmp 46))], none, []⟩,
  ⟨some 48, .load 9 true (.tmp 7), none, []⟩,
  ⟨some 49, .call 20 [], none, []⟩,
  ⟨some 50, .call 19 [(.tmp 48), (.tmp 49)], none, []⟩,
  ⟨some 51, .load 9 true (.tmp 7), none, []⟩,
  ⟨some 52, .build [(.int .i64 (0)), (.int .i64 (0)), (.str ⟨#[]⟩), (.int .i64 (0)), (.int .i64 (0)), .nil, (.str ⟨#[]⟩), (.int .i64 (0)), .nil, (.int .i64 (0)), (.int .i64 (0)), (.str ⟨#[]⟩), (.int .i64 (0)), (.int .i64 (0)), .nil, (.str ⟨#[]⟩), (.int .i64 (0)), .nil] [(0, 9, (.tmp 50)), (9, 9, (.tmp 51))], none, []⟩,
  ⟨some 53, .load 9 true (.tmp 7), none, []⟩,
  ⟨some 54, .load 9 true (.tmp 8), none, []⟩,
  ⟨some 55, .load 9 true (.tmp 9), none, []⟩,
  ⟨some 56, .call 21 [(.tmp 54), (.tmp 55)], none, []⟩,
  ⟨some 57, .call 21 [(.tmp 53), (.tmp 56)], none, []⟩,
  ⟨some 58, .load 9 true (.tmp 7), none, []⟩,
  ⟨some 59, .load 9 true (.tmp 8), none, []⟩,
  ⟨some 60, .call 21 [(.tmp 58), (.tmp 59)], none, []⟩,
  ⟨some 61, .load 9 true (.tmp 9), none, []⟩,
  ⟨some 62, .call 21 [(.tmp 60), (.tmp 61)], none, []⟩,
  ⟨some 63, .build [(.int .i64 (0)), (.int .i64 (0)), (.str ⟨#[]⟩), (.int .i64 (0)), (.int .i64 (0)), .nil, (.str ⟨#[]⟩), (.int .i64 (0)), .nil, (.int .i64 (0)), (.int .i64 (0)), (.str ⟨#[]⟩), (.int .i64 (0)), (.int .i64 (0)), .nil, (.str ⟨#[]⟩), (.int .i64 (0)), .nil] [(0, 9, (.tmp 57)), (9, 9, (.tmp 62))], none, []⟩,
  ⟨some 64, .call 22 [], none, []⟩,
  ⟨some 65, .load 9 true (.tmp 7), none, []⟩,
  ⟨some 66, .call 21 [(.tmp 64), (.tmp 65)], none, []⟩,
  ⟨some 67, .load 9 true (.tmp 7), none, []⟩,
  ⟨some 68, .build [(.int .i64 (0)), (.int .i64 (0)), (.str ⟨#[]⟩), (.int .i64 (0)), (.int .i64 (0)), .nil, (.str ⟨#[]⟩), (.int .i64 (0)), .nil, (.int .i64 (0)), (.int .i64 (0)), (.str ⟨#[]⟩), (.int .i64 (0)), (.int .i64 (0)), .nil, (.str ⟨#[]⟩), (.int .i64 (0)), .nil] [(0, 9, (.tmp 66)), (9, 9, (.tmp 67))], none, []⟩,
  ⟨some 69, .load 9 true (.tmp 7), none, []⟩,
  ⟨some 70, .call 22 [], none, []⟩,
  ⟨some 71, .call 21 [(.tmp 69), (.tmp 70)], none, []⟩,
  ⟨some 72, .load 9 true (.tmp 7), none, []⟩,
  ⟨some 73, .build [(.int .i64 (0)), (.int .i64 (0)), (.str ⟨#[]⟩), (.int .i64 (0)), (.int .i64 (0)), .nil, (.str ⟨#[]⟩), (.int .i64 (0)), .nil, (.int .i64 (0)), (.int .i64 (0)), (.str ⟨#[]⟩), (.int .i64 (0)), (.int .i64 (0)), .nil, (.str ⟨#[]⟩), (.int .i64 (0)), .nil] [(0, 9, (.tmp 71)), (9, 9, (.tmp 72))], none, []⟩,
  ⟨some 74, .call 20 [], none, []⟩,
  ⟨some 75, .load 9 true (.tmp 7), none, []⟩,
  ⟨some 76, .call 21 [(.tmp 74), (.tmp 75)], none, []⟩,
  ⟨some 77, .call 20 [], none, []⟩,
  ⟨some 78, .build [(.int .i64 (0)), (.int .i64 (0)), (.str ⟨#[]⟩), (.int .i64 (0)), (.int .i64 (0)), .nil, (.str ⟨#[]⟩), (.int .i64 (0)), .nil, (.int .i64 (0)), (.int .i64 (0)), (.str ⟨#[]⟩), (.int .i64 (0)), (.int .i64 (0)), .nil, (.str ⟨#[]⟩), (.int .i64 (0)), .nil] [(0, 9, (.tmp 76)), (9, 9, (.tmp 77))], none, []⟩,
  ⟨some 79, .load 9 true (.tmp 7), none, []⟩,
  ⟨some 80, .call 20 [], none, []⟩,
  ⟨some 81, .call 21 [(.tmp 79), (.tmp 80)], none, []⟩,
  ⟨some 82, .call 20 [], none, []⟩,
  ⟨some 83, .build [(.int .i64 (0)), (.int .i64 (0)), (.str ⟨#[]⟩), (.int .i64 (0)), (.int .i64 (0)), .nil, (.str ⟨#[]⟩), (.int .i64 (0)), .nil, (.int .i64 (0)), (.int .i64 (0)), (.str ⟨#[]⟩), (.int .i64 (0)), (.int .i64 (0)), .nil, (.str ⟨#[]⟩), (.int .i64 (0)), .nil] [(0, 9, (.tmp 81)), (9, 9, (.tmp 82))], none, []⟩,
  ⟨some 84, .load 9 true (.tmp 7), none, []⟩,
  ⟨some 85, .load 9 true (.tmp 8), none, []⟩,
  ⟨some 86, .load 9 true (.tmp 9), none, []⟩,
  ⟨some 87, .call 19 [(.tmp 85), (.tmp 86)], none, []⟩,
  ⟨some 88, .call 21 [(.tmp 84), (.tmp 87)], none, []⟩,
  ⟨some 89, .load 9 true (.tmp 7), none, []⟩,
  ⟨some 90, .load 9 true (.tmp 8), none, []⟩,
  ⟨some 91, .call 21 [(.tmp 89), (.tmp 90)], none, []⟩,
  ⟨some 92, .load 9 true (.tmp 7), none, []⟩,
  ⟨some 93, .load 9 true (.tmp 9), none, []⟩,
  ⟨some 94, .call 21 [(.tmp 92), (.tmp 93)], none, []⟩,
  ⟨some 95, .call 19 [(.tmp 91), (.tmp 94)], none, []⟩,
  ⟨some 96, .build [(.int .i64 (0)), (.int .i64 (0)), (.str ⟨#[]⟩), (.int .i64 (0)), (.int .i64 (0)), .nil, (.str ⟨#[]⟩), (.int .i64 (0)), .nil, (.int .i64 (0)), (.int .i64 (0)), (.str ⟨#[]⟩), (.int .i64 (0)), (.int .i64 (0)), .nil, (.str ⟨#[]⟩), (.int .i64 (0)), .nil] [(0, 9, (.tmp 88)), (9, 9, (.tmp 95))], none, []⟩,
  ⟨some 97, .load 9 true (.tmp 7), none, []⟩,
  ⟨some 98, .load 9 true (.tmp 8), none, []⟩,
  ⟨some 99, .call 19 [(.tmp 97), (.tmp 98)], none, []⟩,
  ⟨some 100, .load 9 true (.tmp 9), none, []⟩,
  ⟨some 101, .call 21 [(.tmp 99), (.tmp 100)], none, []⟩,
  ⟨some 102, .load 9 true (.tmp 7), none, []⟩,
  ⟨some 103, .load 9 true (.tmp 9), none, []⟩,
  ⟨some 104, .call 21 [(.tmp 102), (.tmp 103)], none, []⟩,
  ⟨some 105, .load 9 true (.tmp 8), none, []⟩,
  ⟨some 106, .load 9 true (.tmp 9), none, []⟩,
  ⟨some 107, .call 21 [(.tmp 105), (.tmp 106)], none, []⟩,
  ⟨some 108, .call 19 [(.tmp 104), (.tmp 107)], none, []⟩,
  ⟨some 109, .build [(.int .i64 (0)), (.int .i64 (0)), (.str ⟨#[]⟩), (.int .i64 (0)), (.int .i64 (0)), .nil, (.str ⟨#[]⟩), (.int .i64 (0)), .nil, (.int .i64 (0)), (.int .i64 (0)), (.str ⟨#[]⟩), (.int .i64 (0)), (.int .i64 (0)), .nil, (.str ⟨#[]⟩), (.int .i64 (0)), .nil] [(0, 9, (.tmp 101)), (9, 9, (.tmp 108))], none, []⟩,
  ⟨some 110, .buildT 18 11 [(.int .i64 (0)), (.int .i64 (0)), (.str ⟨#[]⟩), (.int .i64 (0)), (.int .i64 (0)), .nil, (.str ⟨#[]⟩), (.int .i64 (0)), .nil, (.int .i64 (0)), (.int .i64 (0)), (.str ⟨#[]⟩), (.int .i64 (0)), (.int .i64 (0)), .nil, (.str ⟨#[]⟩), (.int .i64 (0)), .nil] [(0, (.tmp 31)), (1, (.tmp 42)), (2, (.tmp 47)), (3, (.tmp 52)), (4, (.tmp 63)), (5, (.tmp 68)), (6, (.tmp 73)), (7, (.tmp 78)), (8, (.tmp 83)), (9, (.tmp 96)), (10, (.tmp 109))], none, []⟩,
  ⟨some 111, .len (.tmp 110), none, []⟩,
  ⟨some 112, .mov (.const (.int .i64 (0))), none, []⟩] []) (.block 0 (.loop (.seq (.region [⟨some 113, .bin .lss (.tmp 112) (.tmp 111), none, []⟩] []) (.seq (.cond (.tmp 113) .skip (.exit 0)) (.seq (.block 1 (.seq (.region [⟨some 114, .idxL 18 (.tmp 110) (.tmp 112), none, []⟩,
  ⟨some 115, .load 18 true (.tmp 114), none, []⟩,
  ⟨some 14, .alloc [(.int .i64 (0)), (.int .i64 (0)), (.str ⟨#[]⟩), (.int .i64 (0)), (.int .i64 (0)), .nil, (.str ⟨#[]⟩), (.int .i64 (0)), .nil, (.int .i64 (0)), (.int .i64 (0)), (.str ⟨#[]⟩), (.int .i64 (0)), (.int .i64 (0)), .nil, (.str ⟨#[]⟩), (.int .i64 (0)), .nil], none, []⟩,
  ⟨none, .store 18 (.tmp 14) (.tmp 115), none, []⟩] []) (.seq (.region [⟨some 116, .mov (.tmp 0), none, []⟩,
  ⟨some 117, .idxA 2 9 (.tmp 14) (.const (.int .i64 (0))), none, []⟩,
  ⟨some 118, .load 9 true (.tmp 117), none, []⟩,
  ⟨some 119, .idxA 2 9 (.tmp 14) (.const (.int .i64 (1))), none, []⟩,
  ⟨some 120, .load 9 true (.tmp 119), none, []⟩,
  ⟨some 121, .load 10 true (.tmp 10), none, []⟩,
  ⟨some 122, .mov (.tmp 5), none, []⟩,
  ⟨some 123, .call 23 [(.tmp 116), (.tmp 118), (.tmp 120), (.tmp 121), (.tmp 122)], none, []⟩,
  ⟨some 124, .not (.tmp 123), none, []⟩] []) (.cond (.tmp 124) (.seq (.region [⟨some 12, .mov (.const (.bool false)), none, []⟩] []) .ret) .skip)))) (.region [⟨some 125, .bin .add (.tmp 112) (.const (.int .i64 (1))), none, []⟩,
  ⟨some 112, .mov (.tmp 125), none, []⟩] []))))))) (.seq (.region [⟨some 126, .call 12 [], none, []⟩,
  ⟨some 12, .mov (.tmp 126), none, []⟩] []) .ret))))
theorem l4 : (Try.f4.body.bind (lowC Try.prog 127 [])) = some c4 := by kernel_rfl

end Go.MM
end
section
/- Meaning: the statement that policies are an algebra. -/
namespace Go.MM
open Go Go.DL Go.Proofs
set_option maxRecDepth 100000
set_option maxHeartbeats 8000000

theorem e19 (p q : Po) : DCalls Try.prog 19 [eo p, eo q] (eo (.union p q)) := by rw [eo_eq, eo_eq, eo_eq]; exact t19 p q
theorem e21 (p q : Po) : DCalls Try.prog 21 [eo p, eo q] (eo (.seq p q)) := by rw [eo_eq, eo_eq, eo_eq]; exact t21 p q
theorem e26 (p : Po) : DCalls Try.prog 26 [eo p] (eo (.star p)) := by rw [eo_eq, eo_eq]; exact t26 p
theorem e24 (p : Pr) : DCalls Try.prog 24 [ep p] (eo (.filter p)) := by rw [eo_eq, ep_eq]; exact t24 p
def dropO : Po := .filter .ff
def idO : Po := .filter .tt
theorem e20 : DCalls Try.prog 20 [] (eo dropO) := by
  have h : DCalls Try.prog 24 [.agg [I 2, nm0, I 0, I 0, .nil]] (eo dropO) := by
    rw [eo_eq]; exact leArgs (.agg (.same _ (.same _ (.same _ (.same _ (.none _ .nil))))) .nil) (t24 .ff)
  refine dcalls_low (rs := [.cell 0 38]) mixed Try.func20 l20 rfl rfl rfl (r := [eo dropO]) (Nat.le_of_ble_eq_true rfl) ?_
  repeat' ((conv => whnf); first | exact trivial | refine k_call _ (h) ?_ | refine now_T ?_ | refine aE1 ?_ | refine aE0 ?_ | refine aN1 ?_ | refine aN0 ?_ | refine aD1 ?_ | refine aD0 ?_ | refine now_E (fun hq => ?_) (fun hq => ?_) | refine now_N (fun hq => ?_) (fun hq => ?_) | refine now_D (fun hq => ?_) (fun hq => ?_) | refine rb1 ?_ | refine rb0 ?_ | refine rbx ?_ | refine rix ?_ | refine aS ?_ | fail)
theorem e22 : DCalls Try.prog 22 [] (eo idO) := by
  have h : DCalls Try.prog 24 [.agg [I 1, nm0, I 0, I 0, .nil]] (eo idO) := by
    rw [eo_eq]; exact leArgs (.agg (.same _ (.same _ (.same _ (.same _ (.none _ .nil))))) .nil) (t24 .tt)
  refine dcalls_low (rs := [.cell 0 38]) mixed Try.func22 l22 rfl rfl rfl (r := [eo idO]) (Nat.le_of_ble_eq_true rfl) ?_
  repeat' ((conv => whnf); first | exact trivial | refine k_call _ (h) ?_ | refine now_T ?_ | refine aE1 ?_ | refine aE0 ?_ | refine aN1 ?_ | refine aN0 ?_ | refine aD1 ?_ | refine aD0 ?_ | refine now_E (fun hq => ?_) (fun hq => ?_) | refine now_N (fun hq => ?_) (fun hq => ?_) | refine now_D (fun hq => ?_) (fun hq => ?_) | refine rb1 ?_ | refine rb0 ?_ | refine rbx ?_ | refine rix ?_ | refine aS ?_ | fail)

/-- The weight of a policy. -/
abbrev wO (p : Po) : Nat := (rawO p).wt
abbrev NmO (p : Po) : Prop := namesO (rawO p)
theorem nm_zP : namesP zP := ⟨by decide, trivial⟩
theorem nm_union {p q : Po} (h : NmO p) (k : NmO q) : NmO (.union p q) := ⟨nm_zP, by decide, h, k, trivial⟩
theorem nm_seq {p q : Po} (h : NmO p) (k : NmO q) : NmO (.seq p q) := ⟨nm_zP, by decide, h, k, trivial⟩
theorem nm_star {p : Po} (h : NmO p) : NmO (.star p) := ⟨nm_zP, by decide, h, trivial⟩
theorem nm_drop : NmO dropO := ⟨⟨by decide, trivial⟩, by decide, trivial⟩
theorem nm_id : NmO idO := ⟨⟨by decide, trivial⟩, by decide, trivial⟩
theorem wt_union (p q : Po) : wO (.union p q) = wO p + wO q + 2 := by simp only [wO, rawO, RO.wt, wtSs, zP, RP.nodes, nodesPs]; omega
theorem wt_seq (p q : Po) : wO (.seq p q) = wO p + wO q + 2 := by simp only [wO, rawO, RO.wt, wtSs, zP, RP.nodes, nodesPs]; omega
theorem wt_star (p : Po) : wO (.star p) = wO p + 2 := by simp only [wO, rawO, RO.wt, wtSs, zP, RP.nodes, nodesPs]; omega
theorem wt_drop : wO dropO = 2 := rfl
theorem wt_id : wO idO = 2 := rfl

/-- Two policies that are held against each other. -/
abbrev pairT (x : Po × Po) : T := .agg (cellsS (rawO x.1) ++ cellsS (rawO x.2))
structure PairOk (l : List Fd) (tick : Int) (h : List Int) (x : Po × Po) : Prop where
  sm1 : Sm (rawO x.1)
  sm2 : Sm (rawO x.2)
  eq : ∀ z, Den l tick x.1 h z ↔ Den l tick x.2 h z

theorem pair_cells {c d : List T} (hc : c.length = 9) (hd : d.length = 9) (z : List T) (hz : z.length = 18) : putL (putL z 0 9 c) 9 9 d = c ++ d := by
  unfold putL
  simp [hc, hd, hz, List.take_append, List.drop_append, List.drop_eq_nil_of_le]

/-- What the algebra says. -/
def algebra (p q s : Po) : List (Po × Po) := [(.union p q, .union q p), (.union p (.union q s), .union (.union p q) s), (.union p p, p), (.union p dropO, p), (.seq p (.seq q s), .seq (.seq p q) s), (.seq idO p, p), (.seq p idO, p), (.seq dropO p, dropO), (.seq p dropO, dropO), (.seq p (.union q s), .union (.seq p q) (.seq p s)), (.seq (.union p q) s, .union (.seq p s) (.seq q s))]

theorem algebra_ok (l : List Fd) (tick : Int) (h : List Int) (p q s : Po) (hp : Sm (rawO p)) (hq : Sm (rawO q)) (hs : Sm (rawO s)) (wp : wO p ≤ 2 ^ 20) (wq : wO q ≤ 2 ^ 20) (ws : wO s ≤ 2 ^ 20) : ∀ x ∈ algebra p q s, PairOk l tick h x := by
  have np := hp.nm
  have nq := hq.nm
  have ns := hs.nm
  have un := @nm_union
  have sq := @nm_seq
  intro x hx
  simp only [algebra, List.mem_cons, List.not_mem_nil, or_false] at hx
  have w : ∀ y : Po, wO y ≤ 2 ^ 30 → NmO y → Sm (rawO y) := fun y h1 h2 => ⟨by simp only [wO] at h1; omega, h2⟩
  have wu := wt_union
  have wsq := wt_seq
  have wd := wt_drop
  have wi := wt_id
  rcases hx with rfl | rfl | rfl | rfl | rfl | rfl | rfl | rfl | rfl | rfl | rfl
  · exact ⟨w _ (by rw [wu]; omega) (un np nq), w _ (by rw [wu]; omega) (un nq np), fun z => Or.comm⟩
  · exact ⟨w _ (by rw [wu, wu]; omega) (un np (un nq ns)), w _ (by rw [wu, wu]; omega) (un (un np nq) ns), fun z => by simp only [Den]; exact or_assoc.symm⟩
  · exact ⟨w _ (by rw [wu]; omega) (un np np), hp, fun z => by simp only [Den, or_self]⟩
  · exact ⟨w _ (by rw [wu, wd]; omega) (un np nm_drop), hp, fun z => by simp [Den, dropO, holds]⟩
  · exact ⟨w _ (by rw [wsq, wsq]; omega) (sq np (sq nq ns)), w _ (by rw [wsq, wsq]; omega) (sq (sq np nq) ns), fun z => by
      simp only [Den]
      exact ⟨fun ⟨y, h1, v, h2, h3⟩ => ⟨v, ⟨y, h1, h2⟩, h3⟩, fun ⟨v, ⟨y, h1, h2⟩, h3⟩ => ⟨y, h1, v, h2, h3⟩⟩⟩
  · exact ⟨w _ (by rw [wsq, wi]; omega) (sq nm_id np), hp, fun z => by simp [Den, idO, holds]⟩
  · exact ⟨w _ (by rw [wsq, wi]; omega) (sq np nm_id), hp, fun z => by simp [Den, idO, holds]⟩
  · exact ⟨w _ (by rw [wsq, wd]; omega) (sq nm_drop np), w _ (by rw [wd]; omega) nm_drop, fun z => by simp [Den, dropO, holds]⟩
  · exact ⟨w _ (by rw [wsq, wd]; omega) (sq np nm_drop), w _ (by rw [wd]; omega) nm_drop, fun z => by simp [Den, dropO, holds]⟩
  · exact ⟨w _ (by rw [wsq, wu]; omega) (sq np (un nq ns)), w _ (by rw [wu, wsq, wsq]; omega) (un (sq np nq) (sq np ns)), fun z => by
      simp only [Den]
      constructor
      · rintro ⟨y, h1, h2 | h2⟩
        · exact .inl ⟨y, h1, h2⟩
        · exact .inr ⟨y, h1, h2⟩
      · rintro (⟨y, h1, h2⟩ | ⟨y, h1, h2⟩)
        · exact ⟨y, h1, .inl h2⟩
        · exact ⟨y, h1, .inr h2⟩⟩
  · exact ⟨w _ (by rw [wsq, wu]; omega) (sq (un np nq) ns), w _ (by rw [wu, wsq, wsq]; omega) (un (sq np ns) (sq nq ns)), fun z => by
      simp only [Den]
      constructor
      · rintro ⟨y, h1 | h1, h2⟩
        · exact .inl ⟨y, h1, h2⟩
        · exact .inr ⟨y, h1, h2⟩
      · rintro (⟨y, h1, h2⟩ | ⟨y, h1, h2⟩)
        · exact ⟨y, .inl h1, h2⟩
        · exact ⟨y, .inr h1, h2⟩⟩

abbrev z18 : List T := [I 0, I 0, nm0, I 0, I 0, .nil, nm0, I 0, .nil, I 0, I 0, nm0, I 0, I 0, .nil, nm0, I 0, .nil]
theorem list11 {a0 a1 a2 a3 a4 a5 a6 a7 a8 a9 a10 b0 b1 b2 b3 b4 b5 b6 b7 b8 b9 b10 : T} (h0 : a0 = b0) (h1 : a1 = b1) (h2 : a2 = b2) (h3 : a3 = b3) (h4 : a4 = b4) (h5 : a5 = b5) (h6 : a6 = b6) (h7 : a7 = b7) (h8 : a8 = b8) (h9 : a9 = b9) (h10 : a10 = b10) : [a0, a1, a2, a3, a4, a5, a6, a7, a8, a9, a10] = [b0, b1, b2, b3, b4, b5, b6, b7, b8, b9, b10] := by
  rw [h0, h1, h2, h3, h4, h5, h6, h7, h8, h9, h10]

theorem pl1 {c d : List T} (hc : c.length = 9) : (([] ++ ((c ++ d) ++ [])).drop 0).take 9 = c := by simp [hc, List.take_append, List.take_of_length_le]
theorem pl2 {c d : List T} (hc : c.length = 9) (hd : d.length = 9) : (([] ++ ((c ++ d) ++ [])).drop 9).take 9 = d := by simp [hc, hd, List.drop_append, List.take_of_length_le, List.drop_eq_nil_of_le]

theorem t4 (l : List RF) (hl : l.length < 2 ^ 60) (hn : ∀ f ∈ l, f.name.size < 2 ^ 62) (r1 r2 r3 : RO) (hr1 : Sm r1) (hr2 : Sm r2) (hr3 : Sm r3) (w1 : r1.wt ≤ 2 ^ 20) (w2 : r2.wt ≤ 2 ^ 20) (w3 : r3.wt ≤ 2 ^ 20) (h : List Int) (hh : h.length = 10) (tick : Int) :
    DCalls Try.prog 4 [encFs l, .agg (cellsS r1), .agg (cellsS r2), .agg (cellsS r3), hd h, I tick] (.bool true) := by
  refine dcalls_low (rs := [.tmp 12]) mixed Try.func4 l4 rfl rfl rfl (r := [.bool true]) (Nat.le_of_ble_eq_true rfl) ?_
  have c18 := t18 l hl hn h hh tick [r1, r2, r3] (by simp) (fun y hy => by
    simp only [List.mem_cons, List.not_mem_nil, or_false] at hy
    rcases hy with rfl | rfl | rfl
    · exact ⟨hr1.wt, hr1.nm⟩
    · exact ⟨hr2.wt, hr2.nm⟩
    · exact ⟨hr3.wt, hr3.nm⟩)
  simp only [List.map_cons, List.map_nil, encS_cells] at c18
  have c12 := t12
  cases hR : rightB l h tick [r1, r2, r3] with
  | false =>
    rw [hR] at c18
    repeat' ((conv => whnf); first | exact trivial | refine k_call _ (c18) ?_ | refine k_call _ (c12) ?_ | refine now_T ?_ | refine aE1 ?_ | refine aE0 ?_ | refine aN1 ?_ | refine aN0 ?_ | refine aD1 ?_ | refine aD0 ?_ | refine now_E (fun hq => ?_) (fun hq => ?_) | refine now_N (fun hq => ?_) (fun hq => ?_) | refine now_D (fun hq => ?_) (fun hq => ?_) | refine rb1 ?_ | refine rb0 ?_ | refine rbx ?_ | refine rix ?_ | (refine And.intro (by first | (exact cellsS_len _; done) | (simp [hh]; done) | (exact ⟨⟨⟨trivial, cellsS_len _⟩, cellsS_len _⟩, cellsS_len _⟩; done) | fail) ?_) | refine aS ?_ | fail)
  | true =>
  rw [hR] at c18
  obtain ⟨ck, ho, _, _, hall⟩ := right_ok hh hR
  obtain ⟨p, rfl, op⟩ := typed_po (hall r1 (by simp)).1
  obtain ⟨q, rfl, oq⟩ := typed_po (hall r2 (by simp)).1
  obtain ⟨s, rfl, os⟩ := typed_po (hall r3 (by simp)).1
  have okL := ck.ok
  have hfd := ck.fds
  generalize l.map RF.fd = L at *
  rw [hfd] at c18 ⊢
  have hal := algebra_ok L tick h p q s hr1 hr2 hr3 w1 w2 w3
  repeat' ((conv => whnf); first | exact trivial | refine k_call _ (c18) ?_ | refine k_call _ (e20) ?_ | refine k_call _ (e22) ?_ | refine k_call _ (e19 _ _) ?_ | refine k_call _ (e21 _ _) ?_ | refine now_T ?_ | refine aE1 ?_ | refine aE0 ?_ | refine aN1 ?_ | refine aN0 ?_ | refine aD1 ?_ | refine aD0 ?_ | refine now_E (fun hq => ?_) (fun hq => ?_) | refine now_N (fun hq => ?_) (fun hq => ?_) | refine now_D (fun hq => ?_) (fun hq => ?_) | refine rb1 ?_ | refine rb0 ?_ | refine rbx ?_ | refine rix ?_ | (refine And.intro (by first | (exact cellsS_len _; done) | (simp [hh]; done) | (exact ⟨⟨⟨trivial, cellsS_len _⟩, cellsS_len _⟩, cellsS_len _⟩; done) | (exact ⟨⟨trivial, cellsS_len _⟩, cellsS_len _⟩; done) | (simp [putL, cellsS_len]; done) | fail) ?_) | refine aS ?_ | fail)
  have hlen : (algebra p q s).length = 11 := rfl
  have hz : (z18).length = 18 := rfl
  have pc := fun (x : Po × Po) => pair_cells (cellsS_len (rawO x.1)) (cellsS_len (rawO x.2)) z18 hz
  refine wpC_loop (α := Nat) (fun i => {sl := [(0, .t (fds L)), (5, .t (I tick)), (10, .ptr 10 0), (110, .t (.slice 18 ((algebra p q s).map pairT))), (111, .t (I 11)), (112, .t (I i))], bx := [(10, .d 10 (h.map I))]})
    (fun i => i ≤ 11) (fun i => 11 - i) 0 (by omega) ?_ ?_
  · repeat' (first | (exact leT (congrArg (T.slice 18) (list11 (congrArg T.agg (pc (_, _)).symm) (congrArg T.agg (pc (_, _)).symm) (congrArg T.agg (pc (_, _)).symm) (congrArg T.agg (pc (_, _)).symm) (congrArg T.agg (pc (_, _)).symm) (congrArg T.agg (pc (_, _)).symm) (congrArg T.agg (pc (_, _)).symm) (congrArg T.agg (pc (_, _)).symm) (congrArg T.agg (pc (_, _)).symm) (congrArg T.agg (pc (_, _)).symm) (congrArg T.agg (pc (_, _)).symm)))) | exact trivial | exact LeV.same _ | exact LeB.same _ | exact rfl | exact fun _ _ _ => trivial | exact lI | exact LeV.nil _ _ _ | exact lB | refine leBd ?_ | refine leOwn ?_ | refine And.intro ?_ ?_)
  rintro i hi
  rcases Nat.lt_or_ge i 11 with hlt | hge
  · have hx := hal _ (List.getElem_mem (by rw [hlen]; exact hlt))
    generalize hA : algebra p q s = A at *
    have hg : (A.map pairT)[i]?.getD .nil = pairT (A[i]'(by rw [hlen]; exact hlt)) := by simp [show i < A.length by rw [hlen]; exact hlt]
    generalize A[i]'(by rw [hlen]; exact hlt) = x at *
    have c23 := t23 L okL x.1 x.2 hx.sm1 hx.sm2 h ho tick
    rw [agree_den okL ho hx.eq] at c23
    repeat' ((conv => whnf); first | exact trivial | (refine now_v (pairT x) (by first | (exact hg; done) | fail) ?_) | (refine now_v (eo x.1) (by first | (exact congrArg T.agg (pl1 (cellsS_len (rawO x.1))); done) | fail) ?_) | (refine now_v (eo x.2) (by first | (exact congrArg T.agg (pl2 (cellsS_len (rawO x.1)) (cellsS_len (rawO x.2))); done) | fail) ?_) | refine k_call _ (c23) ?_ | refine now_T ?_ | refine aE1 ?_ | refine aE0 ?_ | refine aN1 ?_ | refine aN0 ?_ | refine aD1 ?_ | refine aD0 ?_ | refine now_E (fun hq => ?_) (fun hq => ?_) | refine now_N (fun hq => ?_) (fun hq => ?_) | refine now_D (fun hq => ?_) (fun hq => ?_) | refine rb1 ?_ | refine rb0 ?_ | refine rbx ?_ | refine rix ?_ | (refine And.intro (by first | (simp [T.cells, cellsS_len]; done) | (simp [hh]; done) | fail) ?_) | refine aS ?_ | fail)
    exact ⟨i + 1, by omega, by omega, by (repeat' (first | exact trivial | exact LeV.same _ | exact LeB.same _ | exact rfl | exact fun _ _ _ => trivial | exact lI | exact LeV.nil _ _ _ | exact lB | refine leBd ?_ | refine leOwn ?_ | refine And.intro ?_ ?_)); done⟩
  · have : i = 11 := by omega
    subst this
    repeat' ((conv => whnf); first | exact trivial | refine k_call _ (c12) ?_ | refine now_T ?_ | refine aE1 ?_ | refine aE0 ?_ | refine aN1 ?_ | refine aN0 ?_ | refine aD1 ?_ | refine aD0 ?_ | refine now_E (fun hq => ?_) (fun hq => ?_) | refine now_N (fun hq => ?_) (fun hq => ?_) | refine now_D (fun hq => ?_) (fun hq => ?_) | refine rb1 ?_ | refine rb0 ?_ | refine rbx ?_ | refine rix ?_ | refine aS ?_ | fail)
end Go.MM
end
