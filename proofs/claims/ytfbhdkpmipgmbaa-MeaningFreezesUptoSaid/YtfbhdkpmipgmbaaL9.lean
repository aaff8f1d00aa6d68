/- Joined by program: parts of a data level over the model, and of the program's functions over it. No statement here. -/
import Derived.Test.YtfbhdkpmipgmbaaProg
import Derived.Test.YtfbhdkpmipgmbaaDb
import Derived.KernelRfl
import Derived.Test.YtfbhdkpmipgmbaaMf
import Derived.Test.YtfbhdkpmipgmbaaMi
section
/- Lowered code of the program's functions: printed by program. No statement here. -/
namespace Go.MM9
open Go Go.DL Go.Proofs
set_option maxRecDepth 100000

-- interlace/interlacelaw13.MeaningFreezes
noncomputable def c9 : DCode := (.seq (.region [⟨some 6, .box 9 (.tmp 1), none, []⟩,
  ⟨some 7, .box 10 (.tmp 2), none, []⟩,
  ⟨some 10, .mov (.const (.bool false)), none, []⟩] []) (.seq (.seq (.region [⟨some 16, .mov (.tmp 0), none, []⟩,
  ⟨some 17, .load 10 true (.tmp 7), none, []⟩,
  ⟨some 18, .mov (.tmp 3), none, []⟩,
  ⟨some 19, .load 9 true (.tmp 6), none, []⟩,
  ⟨some 20, .buildS 38 9 1 [(.int .i64 (0)), (.int .i64 (0)), (.str ⟨#[]⟩), (.int .i64 (0)), (.int .i64 (0)), .nil, (.str ⟨#[]⟩), (.int .i64 (0)), .nil] [(0, (.tmp 19))], none, []⟩,
  ⟨some 21, .call 18 [(.tmp 16), (.tmp 17), (.tmp 18), (.tmp 20)], none, []⟩,
  ⟨some 22, .not (.tmp 21), none, []⟩,
  ⟨some 23, .mov (.tmp 22), none, []⟩,
  ⟨some 24, .mov (.tmp 4), some (23, false), []⟩,
  ⟨some 25, .bin .lss (.tmp 24) (.const (.int .i64 (0))), some (23, false), []⟩,
  ⟨some 26, .pick (.tmp 23) (.const (.bool true)) (.tmp 25), none, []⟩,
  ⟨some 27, .mov (.tmp 26), none, []⟩,
  ⟨some 28, .mov (.tmp 4), some (27, false), []⟩,
  ⟨some 29, .bin .gtr (.tmp 28) (.const (.int .i64 (1073741824))), some (27, false), []⟩,
  ⟨some 30, .pick (.tmp 27) (.const (.bool true)) (.tmp 29), none, []⟩] []) (.cond (.tmp 30) (.seq (.region [⟨some 31, .call 12 [], none, []⟩,
  ⟨some 10, .mov (.tmp 31), none, []⟩] []) .ret) .skip)) (.seq (.region [⟨some 32, .load 9 true (.tmp 6), none, []⟩,
  ⟨some 33, .mov (.tmp 3), none, []⟩,
  ⟨some 34, .call 39 [(.tmp 32), (.tmp 33)], none, []⟩,
  ⟨some 11, .alloc [(.int .i64 (0)), (.int .i64 (0)), (.str ⟨#[]⟩), (.int .i64 (0)), (.int .i64 (0)), .nil, (.str ⟨#[]⟩), (.int .i64 (0)), .nil], none, []⟩,
  ⟨none, .store 9 (.tmp 11) (.tmp 34), none, []⟩] []) (.seq (.seq (.region [⟨some 35, .mov (.tmp 0), none, []⟩,
  ⟨some 36, .load 9 true (.tmp 11), none, []⟩,
  ⟨some 37, .call 40 [(.tmp 35), (.tmp 36)], none, []⟩,
  ⟨some 38, .bin .neq (.tmp 37) (.const (.int .i64 (0))), none, []⟩] []) (.cond (.tmp 38) (.seq (.region [⟨some 10, .mov (.const (.bool false)), none, []⟩] []) .ret) .skip)) (.seq (.region [⟨some 40, .mov (.tmp 0), none, []⟩,
  ⟨some 41, .load 9 true (.tmp 6), none, []⟩,
  ⟨some 42, .load 10 true (.tmp 7), none, []⟩,
  ⟨some 43, .mov (.tmp 3), none, []⟩,
  ⟨some 44, .call 28 [(.tmp 40), (.tmp 41), (.tmp 42), (.tmp 43)], none, []⟩,
  ⟨some 39, .mov (.tmp 44), none, []⟩,
  ⟨some 45, .ext (.tmp 39) 0, none, []⟩,
  ⟨some 46, .ext (.tmp 39) 1, none, []⟩,
  ⟨some 12, .mov (.tmp 45), none, []⟩,
  ⟨some 13, .mov (.tmp 46), none, []⟩] []) (.seq (.region [⟨some 48, .mov (.tmp 0), none, []⟩,
  ⟨some 49, .load 9 true (.tmp 11), none, []⟩,
  ⟨some 50, .load 10 true (.tmp 7), none, []⟩,
  ⟨some 51, .mov (.tmp 4), none, []⟩,
  ⟨some 52, .call 28 [(.tmp 48), (.tmp 49), (.tmp 50), (.tmp 51)], none, []⟩,
  ⟨some 47, .mov (.tmp 52), none, []⟩,
  ⟨some 53, .ext (.tmp 47) 0, none, []⟩,
  ⟨some 54, .ext (.tmp 47) 1, none, []⟩,
  ⟨some 14, .mov (.tmp 53), none, []⟩,
  ⟨some 15, .mov (.tmp 54), none, []⟩] []) (.seq (.region [⟨some 55, .call 12 [], none, []⟩,
  ⟨some 56, .mov (.tmp 55), none, []⟩,
  ⟨some 57, .mov (.tmp 13), some (56, true), []⟩,
  ⟨some 58, .mov (.tmp 15), some (56, true), []⟩,
  ⟨some 59, .bin .eql (.tmp 57) (.tmp 58), some (56, true), []⟩,
  ⟨some 60, .pick (.tmp 56) (.tmp 59) (.const (.bool false)), none, []⟩,
  ⟨some 61, .mov (.tmp 60), none, []⟩,
  ⟨some 62, .mov (.tmp 12), some (61, true), []⟩,
  ⟨some 63, .mov (.tmp 14), some (61, true), []⟩,
  ⟨some 64, .call 14 [(.tmp 62), (.tmp 63)], some (61, true), []⟩,
  ⟨some 65, .pick (.tmp 61) (.tmp 64) (.const (.bool false)), none, []⟩,
  ⟨some 10, .mov (.tmp 65), none, []⟩] []) .ret)))))))
theorem l9 : (Try.f9.body.bind (lowC Try.prog 66 [])) = some c9 := by kernel_rfl

-- interlace/typing.Freeze
noncomputable def c39 : DCode := (.seq (.region [⟨some 2, .box 9 (.tmp 0), none, []⟩,
  ⟨some 3, .box 1 (.tmp 1), none, []⟩,
  ⟨some 4, .alloc [(.int .i64 (0)), (.int .i64 (0)), (.str ⟨#[]⟩), (.int .i64 (0)), (.int .i64 (0)), .nil, (.str ⟨#[]⟩), (.int .i64 (0)), .nil], none, []⟩] []) (.seq (.region [⟨some 5, .alloc [.nilfn], none, []⟩] []) (.seq (.cut (.region [⟨some 6, .mkfn 61 [(.tmp 3), (.tmp 5)], none, []⟩,
  ⟨none, .store 1 (.tmp 5) (.tmp 6), none, []⟩] [])) (.seq (.region [⟨some 7, .load 1 false (.tmp 5), none, []⟩,
  ⟨some 8, .load 9 true (.tmp 2), none, []⟩,
  ⟨some 9, .callv (.tmp 7) [(.tmp 8)], none, []⟩,
  ⟨none, .store 9 (.tmp 4) (.tmp 9), none, []⟩] []) .ret))))
theorem l39 : (Try.f39.body.bind (lowC Try.prog 10 [6000002])) = some c39 := by kernel_rfl

-- interlace/typing.Freeze$1
noncomputable def c61 : DCode := (.seq (.region [⟨some 3, .box 9 (.tmp 0), none, []⟩,
  ⟨some 4, .alloc [(.int .i64 (0)), (.int .i64 (0)), (.str ⟨#[]⟩), (.int .i64 (0)), (.int .i64 (0)), .nil, (.str ⟨#[]⟩), (.int .i64 (0)), .nil], none, []⟩] []) (.seq (.region [⟨some 8, .offA 1 (.tmp 3), none, []⟩,
  ⟨some 9, .load 5 true (.tmp 8), none, []⟩,
  ⟨some 10, .load 1 false (.tmp 1), none, []⟩,
  ⟨some 11, .call 62 [(.tmp 9), (.tmp 10)], none, []⟩,
  ⟨some 12, .offA 1 (.tmp 3), none, []⟩,
  ⟨none, .store 5 (.tmp 12) (.tmp 11), none, []⟩] []) (.seq (.region [⟨some 5, .mov (.const .nil), none, []⟩] []) (.seq (.seq (.region [⟨some 13, .offA 8 (.tmp 3), none, []⟩,
  ⟨some 14, .load 1 false (.tmp 13), none, []⟩,
  ⟨some 15, .len (.tmp 14), none, []⟩,
  ⟨some 16, .mov (.const (.int .i64 (0))), none, []⟩] []) (.block 0 (.loop (.seq (.region [⟨some 17, .bin .lss (.tmp 16) (.tmp 15), none, []⟩] []) (.seq (.cond (.tmp 17) .skip (.exit 0)) (.seq (.block 1 (.seq (.region [⟨some 18, .idxL 9 (.tmp 14) (.tmp 16), none, []⟩,
  ⟨some 19, .load 9 true (.tmp 18), none, []⟩,
  ⟨some 7, .alloc [(.int .i64 (0)), (.int .i64 (0)), (.str ⟨#[]⟩), (.int .i64 (0)), (.int .i64 (0)), .nil, (.str ⟨#[]⟩), (.int .i64 (0)), .nil], none, []⟩,
  ⟨none, .store 9 (.tmp 7) (.tmp 19), none, []⟩] []) (.region [⟨some 20, .mov (.tmp 5), none, []⟩,
  ⟨some 21, .load 1 false (.tmp 2), none, []⟩,
  ⟨some 22, .load 9 true (.tmp 7), none, []⟩,
  ⟨some 23, .callv (.tmp 21) [(.tmp 22)], none, []⟩,
  ⟨some 24, .buildS 38 9 1 [(.int .i64 (0)), (.int .i64 (0)), (.str ⟨#[]⟩), (.int .i64 (0)), (.int .i64 (0)), .nil, (.str ⟨#[]⟩), (.int .i64 (0)), .nil] [(0, (.tmp 23))], none, []⟩,
  ⟨some 25, .append 36 38 9 120 (.tmp 20) (.tmp 24), none, []⟩,
  ⟨some 5, .mov (.tmp 25), none, []⟩] []))) (.region [⟨some 26, .bin .add (.tmp 16) (.const (.int .i64 (1))), none, []⟩,
  ⟨some 16, .mov (.tmp 26), none, []⟩] []))))))) (.seq (.region [⟨some 27, .mov (.tmp 5), none, []⟩,
  ⟨some 28, .offA 8 (.tmp 3), none, []⟩,
  ⟨none, .store 1 (.tmp 28) (.tmp 27), none, []⟩] []) (.seq (.region [⟨some 29, .load 9 true (.tmp 3), none, []⟩,
  ⟨none, .store 9 (.tmp 4) (.tmp 29), none, []⟩] []) .ret))))))
theorem l61 : (Try.f61.body.bind (lowC Try.prog 30 [])) = some c61 := by kernel_rfl

-- interlace/typing.FreezePred
noncomputable def c62 : DCode := (.seq (.region [⟨some 2, .box 5 (.tmp 0), none, []⟩,
  ⟨some 4, .alloc [(.int .i64 (0)), (.str ⟨#[]⟩), (.int .i64 (0)), (.int .i64 (0)), .nil], none, []⟩] []) (.seq (.seq (.region [⟨some 8, .offA 0 (.tmp 2), none, []⟩,
  ⟨some 9, .load 1 false (.tmp 8), none, []⟩,
  ⟨some 10, .bin .eql (.tmp 9) (.const (.int .i64 (9))), none, []⟩] []) (.cond (.tmp 10) (.seq (.seq (.region [⟨some 11, .offA 2 (.tmp 2), none, []⟩,
  ⟨some 12, .load 1 false (.tmp 11), none, []⟩,
  ⟨some 13, .mov (.tmp 1), none, []⟩,
  ⟨some 14, .bin .leq (.tmp 12) (.tmp 13), none, []⟩,
  ⟨some 15, .mov (.tmp 14), none, []⟩,
  ⟨some 16, .mov (.tmp 1), some (15, true), []⟩,
  ⟨some 17, .offA 3 (.tmp 2), some (15, true), []⟩,
  ⟨some 18, .load 1 false (.tmp 17), some (15, true), []⟩,
  ⟨some 19, .bin .lss (.tmp 16) (.tmp 18), some (15, true), []⟩,
  ⟨some 20, .pick (.tmp 15) (.tmp 19) (.const (.bool false)), none, []⟩] []) (.cond (.tmp 20) (.seq (.region [⟨some 21, .build [(.int .i64 (0)), (.str ⟨#[]⟩), (.int .i64 (0)), (.int .i64 (0)), .nil] [(0, 1, (.const (.int .i64 (1))))], none, []⟩,
  ⟨none, .store 5 (.tmp 4) (.tmp 21), none, []⟩] []) .ret) .skip)) (.seq (.region [⟨some 22, .build [(.int .i64 (0)), (.str ⟨#[]⟩), (.int .i64 (0)), (.int .i64 (0)), .nil] [(0, 1, (.const (.int .i64 (2))))], none, []⟩,
  ⟨none, .store 5 (.tmp 4) (.tmp 22), none, []⟩] []) .ret)) .skip)) (.seq (.region [⟨some 5, .mov (.const .nil), none, []⟩] []) (.seq (.seq (.region [⟨some 23, .offA 4 (.tmp 2), none, []⟩,
  ⟨some 24, .load 1 false (.tmp 23), none, []⟩,
  ⟨some 25, .len (.tmp 24), none, []⟩,
  ⟨some 26, .mov (.const (.int .i64 (0))), none, []⟩] []) (.block 0 (.loop (.seq (.region [⟨some 27, .bin .lss (.tmp 26) (.tmp 25), none, []⟩] []) (.seq (.cond (.tmp 27) .skip (.exit 0)) (.seq (.block 1 (.seq (.region [⟨some 28, .idxL 5 (.tmp 24) (.tmp 26), none, []⟩,
  ⟨some 29, .load 5 true (.tmp 28), none, []⟩,
  ⟨some 7, .alloc [(.int .i64 (0)), (.str ⟨#[]⟩), (.int .i64 (0)), (.int .i64 (0)), .nil], none, []⟩,
  ⟨none, .store 5 (.tmp 7) (.tmp 29), none, []⟩] []) (.region [⟨some 30, .mov (.tmp 5), none, []⟩,
  ⟨some 31, .load 5 true (.tmp 7), none, []⟩,
  ⟨some 32, .mov (.tmp 1), none, []⟩,
  ⟨some 33, .call 62 [(.tmp 31), (.tmp 32)], none, []⟩,
  ⟨some 34, .buildS 35 5 1 [(.int .i64 (0)), (.str ⟨#[]⟩), (.int .i64 (0)), (.int .i64 (0)), .nil] [(0, (.tmp 33))], none, []⟩,
  ⟨some 35, .append 33 35 5 64 (.tmp 30) (.tmp 34), none, []⟩,
  ⟨some 5, .mov (.tmp 35), none, []⟩] []))) (.region [⟨some 36, .bin .add (.tmp 26) (.const (.int .i64 (1))), none, []⟩,
  ⟨some 26, .mov (.tmp 36), none, []⟩] []))))))) (.seq (.region [⟨some 37, .mov (.tmp 5), none, []⟩,
  ⟨some 38, .offA 4 (.tmp 2), none, []⟩,
  ⟨none, .store 1 (.tmp 38) (.tmp 37), none, []⟩] []) (.seq (.region [⟨some 39, .load 5 true (.tmp 2), none, []⟩,
  ⟨none, .store 5 (.tmp 4) (.tmp 39), none, []⟩] []) .ret))))))
theorem l62 : (Try.f62.body.bind (lowC Try.prog 40 [])) = some c62 := by kernel_rfl

end Go.MM9
end
section
/- Meaning: policies frozen at a tick. -/
namespace Go.MM
open Go Go.DL Go.Proofs
set_option maxRecDepth 100000
set_option maxHeartbeats 8000000

mutual
/-- A predicate at a tick. -/
def frzR (tick : Int) : RP → RP
  | .mk k f n m a => if k = 9 then (if n ≤ tick ∧ tick < m then .mk 1 e0 0 0 [] else .mk 2 e0 0 0 []) else .mk k f n m (frzRs tick a)
def frzRs (tick : Int) : List RP → List RP
  | [] => []
  | r :: rs => frzR tick r :: frzRs tick rs
end
theorem frzRs_eq (tick : Int) : ∀ l : List RP, frzRs tick l = l.map (frzR tick)
  | [] => rfl
  | r :: rs => congrArg (frzR tick r :: ·) (frzRs_eq tick rs)

theorem t62 (tick : Int) (N : Nat) : ∀ r : RP, r.nodes ≤ N → N < 2 ^ 40 → DCalls Try.prog 62 [.agg (cellsR r), I tick] (.agg (cellsR (frzR tick r))) := by
  induction N with
  | zero => intro r h; have := r.nodes_pos; omega
  | succ N ih =>
    rintro ⟨k, f, n, m, l⟩ hr hN
    simp only [RP.nodes, frzR] at hr ⊢
    have go : ∀ x, wpC Try.prog MM9.c62 (initSt [.agg (cellsR (.mk k f n m l)), I tick]) (Post (sizesOf Try.prog) [.cell 4 35] [x]) → DCalls Try.prog 62 [.agg (cellsR (.mk k f n m l)), I tick] x := fun x h =>
      dcalls_low (rs := [.cell 4 35]) mixed Try.func62 MM9.l62 rfl rfl rfl (r := [x]) (Nat.le_of_ble_eq_true rfl) h
    by_cases hk : k = 9
    · rw [if_pos hk]
      by_cases hc : n ≤ tick ∧ tick < m
      · rw [if_pos hc]
        refine leAgg (go (.agg [I 1, nm0, I 0, I 0, .nil]) ?_) (.same _ (.same _ (.same _ (.same _ (.none _ .nil)))))
        repeat' ((conv => whnf); first | exact trivial | refine now_T ?_ | refine aE1 ?_ | refine aE0 ?_ | refine aN1 ?_ | refine aN0 ?_ | refine aD1 ?_ | refine aD0 ?_ | refine now_E (fun hq => ?_) (fun hq => ?_) | refine now_N (fun hq => ?_) (fun hq => ?_) | refine now_D (fun hq => ?_) (fun hq => ?_) | refine rb1 ?_ | refine rb0 ?_ | refine rbx ?_ | refine rix ?_ | refine aS ?_ | fail)
      · rw [if_neg hc]
        refine leAgg (go (.agg [I 2, nm0, I 0, I 0, .nil]) ?_) (.same _ (.same _ (.same _ (.same _ (.none _ .nil)))))
        repeat' ((conv => whnf); first | exact trivial | refine now_T ?_ | refine aE1 ?_ | refine aE0 ?_ | refine aN1 ?_ | refine aN0 ?_ | refine aD1 ?_ | refine aD0 ?_ | refine now_E (fun hq => ?_) (fun hq => ?_) | refine now_N (fun hq => ?_) (fun hq => ?_) | refine now_D (fun hq => ?_) (fun hq => ?_) | refine rb1 ?_ | refine rb0 ?_ | refine rbx ?_ | refine rix ?_ | refine aS ?_ | fail)
        all_goals (exfalso; omega)
    · rw [if_neg hk]
      have hl := nodesPs_len l
      refine go _ ?_
      repeat' ((conv => whnf); first | exact trivial | refine now_T ?_ | refine aE1 ?_ | refine aE0 ?_ | refine aN1 ?_ | refine aN0 ?_ | refine aD1 ?_ | refine aD0 ?_ | refine now_E (fun hq => ?_) (fun hq => ?_) | refine now_N (fun hq => ?_) (fun hq => ?_) | refine now_D (fun hq => ?_) (fun hq => ?_) | refine rb1 ?_ | refine rb0 ?_ | refine rbx ?_ | refine rix ?_ | refine aS ?_ | fail)
      refine wpC_loopE 0 (α := Nat) (β := Unit) (fun q => {sl := [(1, .t (I tick)), (2, .ptr 2 0), (4, .ptr 4 0), (5, .own 35 35 5 ((l.take q).map fun x => .agg (cellsR (frzR tick x)))), (24, .t (.slice 5 (l.map encR))), (25, .t (I l.length)), (26, .t (I q))], bx := [(2, .d 5 (cellsR (.mk k f n m l))), (4, .d 5 [I 0, nm0, I 0, I 0, .nil])]})
        (fun q => q ≤ l.length) (fun q => l.length - q) (fun _ => {sl := [(2, .ptr 2 0), (4, .ptr 4 0), (5, .t (.slice 5 (l.map fun x => .agg (cellsR (frzR tick x)))))], bx := [(2, .d 5 (cellsR (.mk k f n m l))), (4, .d 5 [I 0, nm0, I 0, I 0, .nil])]}) (fun _ => True) 0 (by simp) ?_ ?_ ?_
      · repeat' (first | exact trivial | exact LeV.same _ | exact LeB.same _ | exact rfl | exact fun _ _ _ => trivial | exact lI | exact LeV.nil _ _ _ | exact lB | refine leBd ?_ | refine leOwn ?_ | refine And.intro ?_ ?_)
      · rintro i hi
        rcases Nat.lt_or_ge i l.length with h | h
        · have hn := nodesPs_take h
          have hm := nodesPs_mono (l := l) (j := i + 1)
          have hc := ih l[i] (by omega) (by omega)
          have hcl := cellsR_len (frzR tick l[i])
          have hg : (l.map encR)[i]?.getD .nil = .agg (cellsR l[i]) := by simp [h, encR_cells]
          have ht : l.take (i + 1) = l.take i ++ [l[i]] := by rw [List.take_succ_eq_append_getElem h]
          generalize l[i] = x at *
          obtain ⟨xk, xf, xn, xm, xl⟩ := x
          repeat' ((conv => whnf); first | exact trivial | (refine now_v (.agg (cellsR (.mk xk xf xn xm xl))) (by first | (exact hg; done) | fail) ?_) | refine k_call _ (hc) ?_ | refine now_T ?_ | refine aE1 ?_ | refine aE0 ?_ | refine aN1 ?_ | refine aN0 ?_ | refine aD1 ?_ | refine aD0 ?_ | refine now_E (fun hq => ?_) (fun hq => ?_) | refine now_N (fun hq => ?_) (fun hq => ?_) | refine now_D (fun hq => ?_) (fun hq => ?_) | refine rb1 ?_ | refine rb0 ?_ | refine rbx ?_ | refine rix ?_ | (refine And.intro (by first | (exact hcl; done) | (exact ⟨trivial, hcl⟩; done) | ((simp only [List.length_map, List.length_take, List.length_cons, List.length_nil]; omega); done) | fail) ?_) | refine aS ?_ | fail)
          refine ⟨i + 1, h, by omega, ?_⟩
          repeat' (first | (exact leOwn (by rw [ht]; simp)) | exact trivial | exact LeV.same _ | exact LeB.same _ | exact rfl | exact fun _ _ _ => trivial | exact lI | exact LeV.nil _ _ _ | exact lB | refine leBd ?_ | refine leOwn ?_ | refine And.intro ?_ ?_)
        · have : i = l.length := by omega
          subst this
          rw [List.take_length]
          repeat' ((conv => whnf); first | exact trivial | (exact ⟨(), trivial, by (repeat' (first | (exact LeV.data _ _ _ _) | exact trivial | exact LeV.same _ | exact LeB.same _ | exact rfl | exact fun _ _ _ => trivial | exact lI | exact LeV.nil _ _ _ | exact lB | refine leBd ?_ | refine leOwn ?_ | refine And.intro ?_ ?_)); done⟩) | refine now_T ?_ | refine aE1 ?_ | refine aE0 ?_ | refine aN1 ?_ | refine aN0 ?_ | refine aD1 ?_ | refine aD0 ?_ | refine now_E (fun hq => ?_) (fun hq => ?_) | refine now_N (fun hq => ?_) (fun hq => ?_) | refine now_D (fun hq => ?_) (fun hq => ?_) | refine rb1 ?_ | refine rb0 ?_ | refine rbx ?_ | refine rix ?_ | refine aS ?_ | fail)
      · rintro _ _
        have e : (l.map fun x => T.agg (cellsR (frzR tick x))) = (frzRs tick l).map encR := by rw [frzRs_eq, List.map_map]; exact List.map_congr_left fun x _ => (encR_cells _).symm
        rw [e]
        repeat' ((conv => whnf); first | exact trivial | refine now_T ?_ | refine aE1 ?_ | refine aE0 ?_ | refine aN1 ?_ | refine aN0 ?_ | refine aD1 ?_ | refine aD0 ?_ | refine now_E (fun hq => ?_) (fun hq => ?_) | refine now_N (fun hq => ?_) (fun hq => ?_) | refine now_D (fun hq => ?_) (fun hq => ?_) | refine rb1 ?_ | refine rb0 ?_ | refine rbx ?_ | refine rix ?_ | refine aS ?_ | fail)
        all_goals exact ⟨congrArg some rfl, trivial⟩

mutual
/-- A policy at a tick. -/
def frzS (tick : Int) : RO → RO
  | .mk k p f n a => .mk k (frzR tick p) f n (frzSs tick a)
def frzSs (tick : Int) : List RO → List RO
  | [] => []
  | r :: rs => frzS tick r :: frzSs tick rs
end
theorem frzSs_eq (tick : Int) : ∀ l : List RO, frzSs tick l = l.map (frzS tick)
  | [] => rfl
  | r :: rs => congrArg (frzS tick r :: ·) (frzSs_eq tick rs)

abbrev frzK (tick : Int) : T := .knot 61 [.cptr [I tick] 0] []
theorem t61 (tick : Int) (N : Nat) : ∀ r : RO, r.wt ≤ N → N < 2 ^ 40 → DCalls Try.prog 61 [.agg (cellsS r), .cptr [I tick] 0, frzK tick] (.agg (cellsS (frzS tick r))) := by
  induction N with
  | zero => intro r h; have := r.wt_pos; omega
  | succ N ih =>
    rintro ⟨k, ⟨pk, pf, pn, pm, pa⟩, f, n, l⟩ hr hN
    simp only [RO.wt, frzS] at hr ⊢
    have h62 := t62 tick _ (.mk pk pf pn pm pa) (Nat.le_refl _) (by omega)
    obtain ⟨c0, c1, c2, c3, c4, he⟩ := list5 (cellsR_len (frzR tick (.mk pk pf pn pm pa)))
    rw [he] at h62
    simp only [cellsS]
    rw [he]
    have hl := wtSs_len l
    refine dcalls_low (rs := [.cell 4 38]) mixed Try.func61 MM9.l61 rfl rfl rfl (r := [.agg (I k :: ([c0, c1, c2, c3, c4] ++ [.str f, I n, .slice 9 ((frzSs tick l).map encS)]))]) (Nat.le_of_ble_eq_true rfl) ?_
    repeat' ((conv => whnf); first | exact trivial | refine k_call _ (h62) ?_ | refine now_T ?_ | refine aE1 ?_ | refine aE0 ?_ | refine aN1 ?_ | refine aN0 ?_ | refine aD1 ?_ | refine aD0 ?_ | refine now_E (fun hq => ?_) (fun hq => ?_) | refine now_N (fun hq => ?_) (fun hq => ?_) | refine now_D (fun hq => ?_) (fun hq => ?_) | refine rb1 ?_ | refine rb0 ?_ | refine rbx ?_ | refine rix ?_ | refine aS ?_ | fail)
    refine wpC_loopE 0 (α := Nat) (β := Unit) (fun q => {sl := [(2, .t (frzK tick)), (3, .ptr 3 0), (4, .ptr 4 0), (5, .own 25 38 9 ((l.take q).map fun x => .agg (cellsS (frzS tick x)))), (14, .t (.slice 9 (l.map encS))), (15, .t (I l.length)), (16, .t (I q))], bx := [(3, .d 9 (I k :: ([c0, c1, c2, c3, c4] ++ [.str f, I n, .slice 9 (l.map encS)]))), (4, .d 9 [I 0, I 0, nm0, I 0, I 0, .nil, nm0, I 0, .nil])]})
      (fun q => q ≤ l.length) (fun q => l.length - q) (fun _ => {sl := [(3, .ptr 3 0), (4, .ptr 4 0), (5, .t (.slice 9 (l.map fun x => .agg (cellsS (frzS tick x)))))], bx := [(3, .d 9 (I k :: ([c0, c1, c2, c3, c4] ++ [.str f, I n, .slice 9 (l.map encS)]))), (4, .d 9 [I 0, I 0, nm0, I 0, I 0, .nil, nm0, I 0, .nil])]}) (fun _ => True) 0 (by simp) ?_ ?_ ?_
    · repeat' (first | exact trivial | exact LeV.same _ | exact LeB.same _ | exact rfl | exact fun _ _ _ => trivial | exact lI | exact LeV.nil _ _ _ | exact lB | refine leBd ?_ | refine leOwn ?_ | refine And.intro ?_ ?_)
    · rintro i hi
      rcases Nat.lt_or_ge i l.length with h | h
      · have hn := wtSs_take h
        have hm := wtSs_mono (l := l) (j := i + 1)
        have hc := ih l[i] (by omega) (by omega)
        have hcl := cellsS_len (frzS tick l[i])
        have hg : (l.map encS)[i]?.getD .nil = .agg (cellsS l[i]) := by simp [h, encS_cells]
        have ht : l.take (i + 1) = l.take i ++ [l[i]] := by rw [List.take_succ_eq_append_getElem h]
        generalize l[i] = x at *
        obtain ⟨xk, ⟨yk, yf, yn, ym, ya⟩, xf, xn, xl⟩ := x
        repeat' ((conv => whnf); first | exact trivial | (refine now_v (.agg (cellsS (.mk xk (.mk yk yf yn ym ya) xf xn xl))) (by first | (exact hg; done) | fail) ?_) | refine k_call _ (hc) ?_ | refine now_T ?_ | refine aE1 ?_ | refine aE0 ?_ | refine aN1 ?_ | refine aN0 ?_ | refine aD1 ?_ | refine aD0 ?_ | refine now_E (fun hq => ?_) (fun hq => ?_) | refine now_N (fun hq => ?_) (fun hq => ?_) | refine now_D (fun hq => ?_) (fun hq => ?_) | refine rb1 ?_ | refine rb0 ?_ | refine rbx ?_ | refine rix ?_ | (refine And.intro (by first | (exact hcl; done) | (exact ⟨trivial, hcl⟩; done) | ((simp only [List.length_map, List.length_take, List.length_cons, List.length_nil]; omega); done) | fail) ?_) | refine aS ?_ | fail)
        refine ⟨i + 1, h, by omega, ?_⟩
        repeat' (first | (exact leOwn (by rw [ht]; simp)) | exact trivial | exact LeV.same _ | exact LeB.same _ | exact rfl | exact fun _ _ _ => trivial | exact lI | exact LeV.nil _ _ _ | exact lB | refine leBd ?_ | refine leOwn ?_ | refine And.intro ?_ ?_)
      · have : i = l.length := by omega
        subst this
        rw [List.take_length]
        repeat' ((conv => whnf); first | exact trivial | (exact ⟨(), trivial, by (repeat' (first | (exact LeV.data _ _ _ _) | exact trivial | exact LeV.same _ | exact LeB.same _ | exact rfl | exact fun _ _ _ => trivial | exact lI | exact LeV.nil _ _ _ | exact lB | refine leBd ?_ | refine leOwn ?_ | refine And.intro ?_ ?_)); done⟩) | refine now_T ?_ | refine aE1 ?_ | refine aE0 ?_ | refine aN1 ?_ | refine aN0 ?_ | refine aD1 ?_ | refine aD0 ?_ | refine now_E (fun hq => ?_) (fun hq => ?_) | refine now_N (fun hq => ?_) (fun hq => ?_) | refine now_D (fun hq => ?_) (fun hq => ?_) | refine rb1 ?_ | refine rb0 ?_ | refine rbx ?_ | refine rix ?_ | refine aS ?_ | fail)
    · rintro _ _
      have e : (l.map fun x => T.agg (cellsS (frzS tick x))) = (frzSs tick l).map encS := by rw [frzSs_eq, List.map_map]; exact List.map_congr_left fun x _ => (encS_cells _).symm
      rw [e]
      repeat' ((conv => whnf); first | exact trivial | refine now_T ?_ | refine aE1 ?_ | refine aE0 ?_ | refine aN1 ?_ | refine aN0 ?_ | refine aD1 ?_ | refine aD0 ?_ | refine now_E (fun hq => ?_) (fun hq => ?_) | refine now_N (fun hq => ?_) (fun hq => ?_) | refine now_D (fun hq => ?_) (fun hq => ?_) | refine rb1 ?_ | refine rb0 ?_ | refine rbx ?_ | refine rix ?_ | refine aS ?_ | fail)
      all_goals exact ⟨congrArg some rfl, trivial⟩

theorem t39 (tick : Int) (r : RO) (hr : r.wt < 2 ^ 39) : DCalls Try.prog 39 [.agg (cellsS r), I tick] (.agg (cellsS (frzS tick r))) := by
  refine dcalls_low (rs := [.cell 4 38]) mixed Try.func39 MM9.l39 rfl rfl rfl (r := [.agg (cellsS (frzS tick r))]) (Nat.le_of_ble_eq_true rfl) ?_
  have h61 := t61 tick _ r (Nat.le_refl _) (by omega)
  repeat' ((conv => whnf); first | exact trivial | refine now_T ?_ | refine aE1 ?_ | refine aE0 ?_ | refine aN1 ?_ | refine aN0 ?_ | refine aD1 ?_ | refine aD0 ?_ | refine now_E (fun hq => ?_) (fun hq => ?_) | refine now_N (fun hq => ?_) (fun hq => ?_) | refine now_D (fun hq => ?_) (fun hq => ?_) | refine rb1 ?_ | refine rb0 ?_ | refine rbx ?_ | refine rix ?_ | (refine And.intro (by first | (exact cellsS_len _; done) | fail) ?_) | refine aS ?_ | fail)
  refine wpC_cut (β := Unit) (fun _ => {sl := [(2, .ptr 2 0), (4, .ptr 4 0), (5, .t (frzK tick))], bx := [(2, .d 9 (cellsS r)), (4, .d 9 [I 0, I 0, nm0, I 0, I 0, .nil, nm0, I 0, .nil])]}) (fun _ => True) ?_ ?_
  · repeat' ((conv => whnf); first | exact trivial | (exact ⟨(), trivial, by (repeat' (first | (exact LeV.knot 5 61 [.ptr 3 0] [] _ [3] _ [] rfl rfl rfl (by simp [Wk.keys])) | exact trivial | exact LeV.same _ | exact LeB.same _ | exact rfl | exact fun _ _ _ => trivial | exact lI | exact LeV.nil _ _ _ | exact lB | refine leBd ?_ | refine leOwn ?_ | refine And.intro ?_ ?_)); done⟩) | refine now_T ?_ | refine aE1 ?_ | refine aE0 ?_ | refine aN1 ?_ | refine aN0 ?_ | refine aD1 ?_ | refine aD0 ?_ | refine now_E (fun hq => ?_) (fun hq => ?_) | refine now_N (fun hq => ?_) (fun hq => ?_) | refine now_D (fun hq => ?_) (fun hq => ?_) | refine rb1 ?_ | refine rb0 ?_ | refine rbx ?_ | refine rix ?_ | refine aS ?_ | fail)
  rintro _ _
  obtain ⟨k, p, f, n, a⟩ := r
  generalize frzS tick (.mk k p f n a) = q at *
  obtain ⟨qk, ⟨pk, pf, pn, pm, pa⟩, qf, qn, qa⟩ := q
  repeat' ((conv => whnf); first | exact trivial | refine k_call _ (h61) ?_ | refine now_T ?_ | refine aE1 ?_ | refine aE0 ?_ | refine aN1 ?_ | refine aN0 ?_ | refine aD1 ?_ | refine aD0 ?_ | refine now_E (fun hq => ?_) (fun hq => ?_) | refine now_N (fun hq => ?_) (fun hq => ?_) | refine now_D (fun hq => ?_) (fun hq => ?_) | refine rb1 ?_ | refine rb0 ?_ | refine rbx ?_ | refine rix ?_ | refine aS ?_ | fail)
  all_goals exact ⟨congrArg some rfl, trivial⟩

/-! ### formed policies at a tick -/
def frzP (tick : Int) : Pr → Pr
  | .not p => .not (frzP tick p)
  | .and p q => .and (frzP tick p) (frzP tick q)
  | .or p q => .or (frzP tick p) (frzP tick q)
  | .time n m => if n ≤ tick ∧ tick < m then .tt else .ff
  | p => p
def frzO (tick : Int) : Po → Po
  | .filter p => .filter (frzP tick p)
  | .union a b => .union (frzO tick a) (frzO tick b)
  | .seq a b => .seq (frzO tick a) (frzO tick b)
  | .star a => .star (frzO tick a)
  | .set f n => .set f n
theorem frz_rawP (tick : Int) : ∀ p : Pr, frzR tick (rawP p) = rawP (frzP tick p)
  | .tt | .ff | .eq _ _ | .pre _ _ _ | .rng _ _ _ => by simp [rawP, frzR, frzP, frzRs]
  | .time n m => by
    simp only [rawP, frzR, frzP, if_true]
    split <;> rfl
  | .not p => by simp [rawP, frzR, frzP, frzRs, frz_rawP tick p]
  | .and p q => by simp [rawP, frzR, frzP, frzRs, frz_rawP tick p, frz_rawP tick q]
  | .or p q => by simp [rawP, frzR, frzP, frzRs, frz_rawP tick p, frz_rawP tick q]
theorem frz_zP (tick : Int) : frzR tick zP = zP := by simp [zP, frzR, frzRs]
theorem frz_rawO (tick : Int) : ∀ p : Po, frzS tick (rawO p) = rawO (frzO tick p)
  | .filter p => by simp [rawO, frzS, frzO, frzSs, frz_rawP]
  | .set f n => by simp [rawO, frzS, frzO, frzSs, frz_zP]
  | .union a b => by simp [rawO, frzS, frzO, frzSs, frz_zP, frz_rawO tick a, frz_rawO tick b]
  | .seq a b => by simp [rawO, frzS, frzO, frzSs, frz_zP, frz_rawO tick a, frz_rawO tick b]
  | .star a => by simp [rawO, frzS, frzO, frzSs, frz_zP, frz_rawO tick a]

theorem frz_nodes (tick : Int) : ∀ p : Pr, (rawP (frzP tick p)).nodes = (rawP p).nodes
  | .tt | .ff | .eq _ _ | .pre _ _ _ | .rng _ _ _ => rfl
  | .time n m => by simp only [frzP]; split <;> rfl
  | .not p => by simp only [frzP, rawP, RP.nodes, nodesPs, frz_nodes tick p]
  | .and p q => by simp only [frzP, rawP, RP.nodes, nodesPs, frz_nodes tick p, frz_nodes tick q]
  | .or p q => by simp only [frzP, rawP, RP.nodes, nodesPs, frz_nodes tick p, frz_nodes tick q]
theorem frz_depth (tick : Int) : ∀ p : Pr, (rawP (frzP tick p)).depth = (rawP p).depth
  | .tt | .ff | .eq _ _ | .pre _ _ _ | .rng _ _ _ => rfl
  | .time n m => by simp only [frzP]; split <;> rfl
  | .not p => by simp only [frzP, rawP, RP.depth, depthPs, frz_depth tick p]
  | .and p q => by simp only [frzP, rawP, RP.depth, depthPs, frz_depth tick p, frz_depth tick q]
  | .or p q => by simp only [frzP, rawP, RP.depth, depthPs, frz_depth tick p, frz_depth tick q]
theorem frz_formedP (tick : Int) : ∀ p : Pr, formedP (rawP p) = true → formedP (rawP (frzP tick p)) = true
  | .tt, h | .ff, h | .eq _ _, h | .pre _ _ _, h | .rng _ _ _, h => h
  | .time n m, _ => by simp only [frzP]; split <;> rfl
  | .not p, h => by
    simp only [frzP, rawP, formedP, formedPs, Bool.and_eq_true] at h ⊢
    exact ⟨h.1, frz_formedP tick p h.2.1, trivial⟩
  | .and p q, h => by
    simp only [frzP, rawP, formedP, formedPs, Bool.and_eq_true] at h ⊢
    exact ⟨h.1, frz_formedP tick p h.2.1, frz_formedP tick q h.2.2.1, trivial⟩
  | .or p q, h => by
    simp only [frzP, rawP, formedP, formedPs, Bool.and_eq_true] at h ⊢
    exact ⟨h.1, frz_formedP tick p h.2.1, frz_formedP tick q h.2.2.1, trivial⟩
theorem frz_fitP (tick : Int) {l : List Fd} : ∀ p : Pr, (∀ x ∈ partsR (rawP p), fitP l x = 0) → ∀ x ∈ partsR (rawP (frzP tick p)), fitP l x = 0
  | .tt, h | .ff, h | .eq _ _, h | .pre _ _ _, h | .rng _ _ _, h => h
  | .time n m, _ => fun x hx => by
    simp only [frzP] at hx
    split at hx <;> simp [rawP, partsR, partsRs] at hx <;> subst hx <;> simp [fitP]
  | .not p, h => fun x hx => by
    simp only [frzP, rawP, partsR, partsRs, List.append_nil, List.mem_cons] at hx h
    rcases hx with rfl | hx
    · simp [fitP]
    · exact frz_fitP tick p (fun y hy => h y (.inr hy)) x hx
  | .and p q, h => fun x hx => by
    simp only [frzP, rawP, partsR, partsRs, List.append_nil, List.mem_cons, List.mem_append] at hx h
    rcases hx with rfl | hx | hx
    · simp [fitP]
    · exact frz_fitP tick p (fun y hy => h y (.inr (.inl hy))) x hx
    · exact frz_fitP tick q (fun y hy => h y (.inr (.inr hy))) x hx
  | .or p q, h => fun x hx => by
    simp only [frzP, rawP, partsR, partsRs, List.append_nil, List.mem_cons, List.mem_append] at hx h
    rcases hx with rfl | hx | hx
    · simp [fitP]
    · exact frz_fitP tick p (fun y hy => h y (.inr (.inl hy))) x hx
    · exact frz_fitP tick q (fun y hy => h y (.inr (.inr hy))) x hx
theorem firstNZ_all {l : List Int} (h : ∀ x ∈ l, x = 0) : firstNZ l = 0 := firstNZ_0 fun j hj => h _ (List.getElem_mem hj)

theorem frz_size (tick : Int) : ∀ p : Po, (rawO (frzO tick p)).size = (rawO p).size
  | .filter p => by simp [frzO, rawO, RO.size, sizeSs, frz_nodes]
  | .set _ _ => rfl
  | .union a b => by simp [frzO, rawO, RO.size, sizeSs, frz_size tick a, frz_size tick b]
  | .seq a b => by simp [frzO, rawO, RO.size, sizeSs, frz_size tick a, frz_size tick b]
  | .star a => by simp [frzO, rawO, RO.size, sizeSs, frz_size tick a]
theorem frz_deep (tick : Int) : ∀ p : Po, (rawO (frzO tick p)).deep = (rawO p).deep
  | .filter p => by simp [frzO, rawO, RO.deep, deepSs, frz_depth]
  | .set _ _ => rfl
  | .union a b => by simp [frzO, rawO, RO.deep, deepSs, frz_deep tick a, frz_deep tick b]
  | .seq a b => by simp [frzO, rawO, RO.deep, deepSs, frz_deep tick a, frz_deep tick b]
  | .star a => by simp [frzO, rawO, RO.deep, deepSs, frz_deep tick a]
theorem frz_formedO (tick : Int) : ∀ p : Po, formedO (rawO p) = true → formedO (rawO (frzO tick p)) = true
  | .filter p, h => by
    simp only [frzO, rawO, formedO, okO, if_true, Bool.and_eq_true] at h ⊢
    exact ⟨⟨⟨frz_formedP tick p h.1.1.1, h.1.1.2⟩, h.1.2⟩, h.2⟩
  | .set _ _, h => h
  | .union a b, h => by
    simp only [frzO, rawO, formedO, formedOs, Bool.and_eq_true] at h ⊢
    exact ⟨h.1, frz_formedO tick a h.2.1, frz_formedO tick b h.2.2.1, trivial⟩
  | .seq a b, h => by
    simp only [frzO, rawO, formedO, formedOs, Bool.and_eq_true] at h ⊢
    exact ⟨h.1, frz_formedO tick a h.2.1, frz_formedO tick b h.2.2.1, trivial⟩
  | .star a, h => by
    simp only [frzO, rawO, formedO, formedOs, Bool.and_eq_true] at h ⊢
    exact ⟨h.1, frz_formedO tick a h.2.1, trivial⟩
theorem frz_fitO (tick : Int) {l : List Fd} : ∀ p : Po, (∀ x ∈ partsS (rawO p), fitO l x = 0) → ∀ x ∈ partsS (rawO (frzO tick p)), fitO l x = 0
  | .filter p, h => fun x hx => by
    simp only [frzO, rawO, partsS, partsSs, List.mem_cons, List.not_mem_nil, or_false, forall_eq] at hx h
    subst hx
    simp only [fitO, if_true, fitAll] at h ⊢
    refine firstNZ_all fun y hy => ?_
    obtain ⟨z, hz, rfl⟩ := List.mem_map.1 hy
    exact frz_fitP tick p (fun w hw => firstNZ_inv h _ (List.mem_map.2 ⟨w, hw, rfl⟩)) z hz
  | .set _ _, h => h
  | .union a b, h => fun x hx => by
    simp only [frzO, rawO, partsS, partsSs, List.append_nil, List.mem_cons, List.mem_append] at hx h
    rcases hx with rfl | hx | hx
    · simp [fitO]
    · exact frz_fitO tick a (fun y hy => h y (.inr (.inl hy))) x hx
    · exact frz_fitO tick b (fun y hy => h y (.inr (.inr hy))) x hx
  | .seq a b, h => fun x hx => by
    simp only [frzO, rawO, partsS, partsSs, List.append_nil, List.mem_cons, List.mem_append] at hx h
    rcases hx with rfl | hx | hx
    · simp [fitO]
    · exact frz_fitO tick a (fun y hy => h y (.inr (.inl hy))) x hx
    · exact frz_fitO tick b (fun y hy => h y (.inr (.inr hy))) x hx
  | .star a, h => fun x hx => by
    simp only [frzO, rawO, partsS, partsSs, List.append_nil, List.mem_cons] at hx h
    rcases hx with rfl | hx
    · simp [fitO]
    · exact frz_fitO tick a (fun y hy => h y (.inr hy)) x hx
theorem frz_typed {l : List Fd} (tick : Int) {p : Po} (h : polI l (rawO p) = 0) : polI l (rawO (frzO tick p)) = 0 := by
  obtain ⟨h1, h2⟩ := pol0 h
  obtain ⟨a, b, c⟩ := check0 h1
  unfold polI
  have hc : checkO (rawO (frzO tick p)) = 0 := by
    have hl : limI (rawO p).size (rawO p).deep = 0 := if_pos ⟨a, b⟩
    unfold checkO
    rw [frz_size, frz_deep, hl, frz_formedO tick p c]
    rfl
  rw [if_neg (by simp [hc])]
  refine firstNZ_all fun y hy => ?_
  obtain ⟨z, hz, rfl⟩ := List.mem_map.1 hy
  exact frz_fitO tick p h2 z hz
theorem frz_holds {l : List Fd} (tick later : Int) (h : List Int) : ∀ p : Pr, holds l later h (frzP tick p) = holds l tick h p
  | .tt | .ff | .eq _ _ | .pre _ _ _ | .rng _ _ _ => rfl
  | .time n m => by
    simp only [frzP, holds]
    split
    · rename_i hc; simp [holds, hc]
    · rename_i hc
      simp only [holds]
      by_cases h1 : n ≤ tick
      · have : ¬ tick < m := fun h2 => hc ⟨h1, h2⟩
        simp [h1, this]
      · simp [h1]
  | .not p => by simp only [frzP, holds, frz_holds tick later h p]
  | .and p q => by simp only [frzP, holds, frz_holds tick later h p, frz_holds tick later h q]
  | .or p q => by simp only [frzP, holds, frz_holds tick later h p, frz_holds tick later h q]
theorem frz_gives {l : List Fd} (tick later : Int) : ∀ p : Po, gives l later (frzO tick p) = gives l tick p
  | .filter p => by funext h; simp only [frzO, gives, frz_holds]
  | .set _ _ => rfl
  | .union a b => by funext h; simp only [frzO, gives, frz_gives tick later a, frz_gives tick later b]
  | .seq a b => by funext h; simp only [frzO, gives, frz_gives tick later a, frz_gives tick later b]
  | .star a => by funext h; simp only [frzO, gives, frz_gives tick later a]
end Go.MM
end
section
/- Meaning: the statement on freezing. -/
namespace Go.MM
open Go Go.DL Go.Proofs
set_option maxRecDepth 100000
set_option maxHeartbeats 8000000

mutual
theorem frzR_names (tick : Int) : ∀ r : RP, namesP r → namesP (frzR tick r)
  | .mk k f n m a, h => by
    simp only [frzR]
    split
    · split <;> exact ⟨by decide, trivial⟩
    · exact ⟨h.1, frzRs_names tick a h.2⟩
theorem frzRs_names (tick : Int) : ∀ l : List RP, namesPs l → namesPs (frzRs tick l)
  | [], _ => trivial
  | r :: rs, h => ⟨frzR_names tick r h.1, frzRs_names tick rs h.2⟩
end
mutual
theorem frzS_names (tick : Int) : ∀ r : RO, namesO r → namesO (frzS tick r)
  | .mk k p f n a, h => ⟨frzR_names tick p h.1, h.2.1, frzSs_names tick a h.2.2⟩
theorem frzSs_names (tick : Int) : ∀ l : List RO, namesOs l → namesOs (frzSs tick l)
  | [], _ => trivial
  | r :: rs, h => ⟨frzS_names tick r h.1, frzSs_names tick rs h.2⟩
end
mutual
theorem frzR_nodes (tick : Int) : ∀ r : RP, (frzR tick r).nodes ≤ r.nodes
  | .mk k f n m a => by
    simp only [frzR]
    split
    · split <;> simp only [RP.nodes, nodesPs] <;> omega
    · have := frzRs_nodes tick a
      simp only [RP.nodes]; omega
theorem frzRs_nodes (tick : Int) : ∀ l : List RP, nodesPs (frzRs tick l) ≤ nodesPs l
  | [] => Nat.le_refl _
  | r :: rs => by have := frzR_nodes tick r; have := frzRs_nodes tick rs; simp only [frzRs, nodesPs]; omega
end
mutual
theorem frzS_wt (tick : Int) : ∀ r : RO, (frzS tick r).wt ≤ r.wt
  | .mk k p f n a => by have := frzR_nodes tick p; have := frzSs_wt tick a; simp only [frzS, RO.wt]; omega
theorem frzSs_wt (tick : Int) : ∀ l : List RO, wtSs (frzSs tick l) ≤ wtSs l
  | [] => Nat.le_refl _
  | r :: rs => by have := frzS_wt tick r; have := frzSs_wt tick rs; simp only [frzSs, wtSs]; omega
end

theorem t9 (l : List RF) (hl : l.length < 2 ^ 60) (hn : ∀ f ∈ l, f.name.size < 2 ^ 62) (r : RO) (hr : Sm r) (hw : r.wt < 2 ^ 39) (h : List Int) (hh : h.length = 10) (tick later : Int) :
    DCalls Try.prog 9 [encFs l, .agg (cellsS r), hd h, I tick, I later] (.bool true) := by
  refine dcalls_low (rs := [.tmp 10]) mixed Try.func9 MM9.l9 rfl rfl rfl (r := [.bool true]) (Nat.le_of_ble_eq_true rfl) ?_
  have c18 := t18 l hl hn h hh tick [r] (by simp) (fun y hy => by
    simp only [List.mem_cons, List.not_mem_nil, or_false] at hy
    subst hy
    exact ⟨hr.wt, hr.nm⟩)
  simp only [List.map_cons, List.map_nil, encS_cells] at c18
  have c12 := t12
  cases hR : rightB l h tick [r] with
  | false =>
    rw [hR] at c18
    repeat' ((conv => whnf); first | exact trivial | refine k_call _ (c18) ?_ | refine k_call _ (c12) ?_ | refine now_T ?_ | refine aE1 ?_ | refine aE0 ?_ | refine aN1 ?_ | refine aN0 ?_ | refine aD1 ?_ | refine aD0 ?_ | refine now_E (fun hq => ?_) (fun hq => ?_) | refine now_N (fun hq => ?_) (fun hq => ?_) | refine now_D (fun hq => ?_) (fun hq => ?_) | refine rb1 ?_ | refine rb0 ?_ | refine rbx ?_ | refine rix ?_ | (refine And.intro (by first | (exact cellsS_len _; done) | (simp [hh]; done) | (exact ⟨trivial, cellsS_len _⟩; done) | fail) ?_) | refine aS ?_ | fail)
  | true =>
  rw [hR] at c18
  by_cases hlat : 0 ≤ later ∧ later ≤ 1073741824
  · obtain ⟨ck, ho, _, _, hall⟩ := right_ok hh hR
    have htr := (hall r (by simp)).1
    obtain ⟨p, rfl, op⟩ := typed_po htr
    have okL := ck.ok
    have hfd := ck.fds
    generalize l.map RF.fd = L at *
    rw [hfd] at c18 ⊢
    have c39 := t39 tick (rawO p) hw
    have hfw := frzS_wt tick (rawO p)
    have hfn := frzS_names tick (rawO p) hr.nm
    have c40 := t40 L okL (frzS tick (rawO p)) (by omega) hfn
    rw [frz_rawO] at c39 c40
    have hty := frz_typed tick htr
    rw [hty] at c40
    have oq := typed_ok hty
    have k1 := t28 L okL tick p op h ho
    have k2 := t28 L okL later (frzO tick p) oq h ho
    rw [frz_gives, ← eo_eq] at k2
    rw [← eo_eq] at k1
    have c40 : DCalls Try.prog 40 [fds L, .agg ([] ++ (cellsS (rawO (frzO tick p)) ++ []))] (I 0) := by simpa using c40
    have k2 : DCalls Try.prog 28 [fds L, .agg ([] ++ (cellsS (rawO (frzO tick p)) ++ [])), hd h, I later] (resE (gives L tick p h)) := by simpa using k2
    have ks : ∀ s, gives L tick p h = some s → SOk s := fun s e => gives_ok okL op ho e
    generalize gives L tick p h = G at *
    cases G with
    | none =>
      have c14 := t14 [] [] sok_nil.ok.len sok_nil.ok.len (by simp)
      rw [beq_self_eq_true] at c14
      repeat' ((conv => whnf); first | exact trivial | refine k_call _ (c18) ?_ | refine k_call _ (c39) ?_ | refine k_call _ (c40) ?_ | refine k_call _ (k1) ?_ | refine k_call _ (k2) ?_ | refine k_call _ (c12) ?_ | refine k_call _ (c14) ?_ | refine now_T ?_ | refine aE1 ?_ | refine aE0 ?_ | refine aN1 ?_ | refine aN0 ?_ | refine aD1 ?_ | refine aD0 ?_ | refine now_E (fun hq => ?_) (fun hq => ?_) | refine now_N (fun hq => ?_) (fun hq => ?_) | refine now_D (fun hq => ?_) (fun hq => ?_) | refine rb1 ?_ | refine rb0 ?_ | refine rbx ?_ | refine rix ?_ | (refine And.intro (by first | (exact cellsS_len _; done) | (simp [hh]; done) | (exact ⟨trivial, cellsS_len _⟩; done) | (exact ⟨cellsS_len _, Nat.le_refl 9⟩; done) | fail) ?_) | refine aS ?_ | fail)
    | some s =>
      have so := ks s rfl
      have c14 := t14 s s so.ok.len so.ok.len (by have := so.len; omega)
      rw [beq_self_eq_true] at c14
      repeat' ((conv => whnf); first | exact trivial | refine k_call _ (c18) ?_ | refine k_call _ (c39) ?_ | refine k_call _ (c40) ?_ | refine k_call _ (k1) ?_ | refine k_call _ (k2) ?_ | refine k_call _ (c12) ?_ | refine k_call _ (c14) ?_ | refine now_T ?_ | refine aE1 ?_ | refine aE0 ?_ | refine aN1 ?_ | refine aN0 ?_ | refine aD1 ?_ | refine aD0 ?_ | refine now_E (fun hq => ?_) (fun hq => ?_) | refine now_N (fun hq => ?_) (fun hq => ?_) | refine now_D (fun hq => ?_) (fun hq => ?_) | refine rb1 ?_ | refine rb0 ?_ | refine rbx ?_ | refine rix ?_ | (refine And.intro (by first | (exact cellsS_len _; done) | (simp [hh]; done) | (exact ⟨trivial, cellsS_len _⟩; done) | (exact ⟨cellsS_len _, Nat.le_refl 9⟩; done) | fail) ?_) | refine aS ?_ | fail)
  · by_cases h0 : 0 ≤ later
    · repeat' ((conv => whnf); first | exact trivial | refine k_call _ (c18) ?_ | refine k_call _ (c12) ?_ | refine now_T ?_ | refine aE1 ?_ | refine aE0 ?_ | refine aN1 ?_ | refine aN0 ?_ | refine aD1 ?_ | refine aD0 ?_ | refine now_E (fun hq => ?_) (fun hq => ?_) | refine now_N (fun hq => ?_) (fun hq => ?_) | refine now_D (fun hq => ?_) (fun hq => ?_) | refine rb1 ?_ | refine rb0 ?_ | refine rbx ?_ | refine rix ?_ | (refine And.intro (by first | (exact cellsS_len _; done) | (simp [hh]; done) | (exact ⟨trivial, cellsS_len _⟩; done) | fail) ?_) | refine aS ?_ | fail)
      all_goals (exfalso; omega)
    · repeat' ((conv => whnf); first | exact trivial | refine k_call _ (c18) ?_ | refine k_call _ (c12) ?_ | refine now_T ?_ | refine aE1 ?_ | refine aE0 ?_ | refine aN1 ?_ | refine aN0 ?_ | refine aD1 ?_ | refine aD0 ?_ | refine now_E (fun hq => ?_) (fun hq => ?_) | refine now_N (fun hq => ?_) (fun hq => ?_) | refine now_D (fun hq => ?_) (fun hq => ?_) | refine rb1 ?_ | refine rb0 ?_ | refine rbx ?_ | refine rix ?_ | (refine And.intro (by first | (exact cellsS_len _; done) | (simp [hh]; done) | (exact ⟨trivial, cellsS_len _⟩; done) | fail) ?_) | refine aS ?_ | fail)
end Go.MM
end
