/- Joined by program: parts of a data level over the model, and of the program's functions over it. No statement here. -/
import Derived.Test.YtfbhdkpmipgmbaaProg
import Derived.Test.YtfbhdkpmipgmbaaDb
import Derived.KernelRfl
import Derived.Test.YtfbhdkpmipgmbaaMh
import Derived.Test.YtfbhdkpmipgmbaaL5
section
/- Lowered code of the program's functions: printed by program. No statement here. -/
namespace Go.MM
open Go Go.DL Go.Proofs
set_option maxRecDepth 100000

-- interlace/interlacelaw13.MeaningSetsFields
noncomputable def c6 : DCode := (.seq (.region [⟨some 13, .box 10 (.tmp 6), none, []⟩,
  ⟨some 14, .mov (.const (.bool false)), none, []⟩] []) (.seq (.seq (.region [⟨some 24, .mov (.tmp 0), none, []⟩,
  ⟨some 25, .load 10 true (.tmp 13), none, []⟩,
  ⟨some 26, .mov (.tmp 1), none, []⟩,
  ⟨some 27, .mov (.tmp 3), none, []⟩,
  ⟨some 28, .call 29 [(.tmp 26), (.tmp 27)], none, []⟩,
  ⟨some 29, .mov (.tmp 1), none, []⟩,
  ⟨some 30, .mov (.tmp 4), none, []⟩,
  ⟨some 31, .call 29 [(.tmp 29), (.tmp 30)], none, []⟩,
  ⟨some 32, .mov (.tmp 2), none, []⟩,
  ⟨some 33, .mov (.tmp 5), none, []⟩,
  ⟨some 34, .call 29 [(.tmp 32), (.tmp 33)], none, []⟩,
  ⟨some 35, .buildT 9 3 [(.int .i64 (0)), (.int .i64 (0)), (.str ⟨#[]⟩), (.int .i64 (0)), (.int .i64 (0)), .nil, (.str ⟨#[]⟩), (.int .i64 (0)), .nil] [(0, (.tmp 28)), (1, (.tmp 31)), (2, (.tmp 34))], none, []⟩,
  ⟨some 36, .call 18 [(.tmp 24), (.tmp 25), (.const (.int .i64 (0))), (.tmp 35)], none, []⟩,
  ⟨some 37, .not (.tmp 36), none, []⟩] []) (.cond (.tmp 37) (.seq (.region [⟨some 38, .call 12 [], none, []⟩,
  ⟨some 14, .mov (.tmp 38), none, []⟩] []) .ret) .skip)) (.seq (.cut (.region [⟨some 39, .mov (.tmp 1), none, []⟩,
  ⟨some 40, .mov (.tmp 3), none, []⟩,
  ⟨some 41, .call 29 [(.tmp 39), (.tmp 40)], none, []⟩,
  ⟨some 42, .mov (.tmp 1), none, []⟩,
  ⟨some 43, .mov (.tmp 3), none, []⟩,
  ⟨some 44, .call 30 [(.tmp 42), (.tmp 43)], none, []⟩,
  ⟨some 45, .call 24 [(.tmp 44)], none, []⟩,
  ⟨some 15, .alloc [(.int .i64 (0)), (.int .i64 (0)), (.str ⟨#[]⟩), (.int .i64 (0)), (.int .i64 (0)), .nil, (.str ⟨#[]⟩), (.int .i64 (0)), .nil], none, []⟩,
  ⟨some 16, .alloc [(.int .i64 (0)), (.int .i64 (0)), (.str ⟨#[]⟩), (.int .i64 (0)), (.int .i64 (0)), .nil, (.str ⟨#[]⟩), (.int .i64 (0)), .nil], none, []⟩,
  ⟨none, .store 9 (.tmp 15) (.tmp 41), none, []⟩,
  ⟨none, .store 9 (.tmp 16) (.tmp 45), none, []⟩] [])) (.seq (.cut (.region [⟨some 46, .load 9 true (.tmp 15), none, []⟩,
  ⟨some 47, .load 9 true (.tmp 16), none, []⟩,
  ⟨some 48, .call 21 [(.tmp 46), (.tmp 47)], none, []⟩,
  ⟨some 49, .load 9 true (.tmp 15), none, []⟩,
  ⟨some 50, .build [(.int .i64 (0)), (.int .i64 (0)), (.str ⟨#[]⟩), (.int .i64 (0)), (.int .i64 (0)), .nil, (.str ⟨#[]⟩), (.int .i64 (0)), .nil, (.int .i64 (0)), (.int .i64 (0)), (.str ⟨#[]⟩), (.int .i64 (0)), (.int .i64 (0)), .nil, (.str ⟨#[]⟩), (.int .i64 (0)), .nil] [(0, 9, (.tmp 48)), (9, 9, (.tmp 49))], none, []⟩,
  ⟨some 51, .load 9 true (.tmp 16), none, []⟩,
  ⟨some 52, .load 9 true (.tmp 15), none, []⟩,
  ⟨some 53, .call 21 [(.tmp 51), (.tmp 52)], none, []⟩,
  ⟨some 54, .load 9 true (.tmp 16), none, []⟩,
  ⟨some 55, .build [(.int .i64 (0)), (.int .i64 (0)), (.str ⟨#[]⟩), (.int .i64 (0)), (.int .i64 (0)), .nil, (.str ⟨#[]⟩), (.int .i64 (0)), .nil, (.int .i64 (0)), (.int .i64 (0)), (.str ⟨#[]⟩), (.int .i64 (0)), (.int .i64 (0)), .nil, (.str ⟨#[]⟩), (.int .i64 (0)), .nil] [(0, 9, (.tmp 53)), (9, 9, (.tmp 54))], none, []⟩,
  ⟨some 56, .mov (.tmp 1), none, []⟩,
  ⟨some 57, .mov (.tmp 4), none, []⟩,
  ⟨some 58, .call 29 [(.tmp 56), (.tmp 57)], none, []⟩,
  ⟨some 59, .load 9 true (.tmp 15), none, []⟩,
  ⟨some 60, .call 21 [(.tmp 58), (.tmp 59)], none, []⟩,
  ⟨some 61, .load 9 true (.tmp 15), none, []⟩,
  ⟨some 62, .build [(.int .i64 (0)), (.int .i64 (0)), (.str ⟨#[]⟩), (.int .i64 (0)), (.int .i64 (0)), .nil, (.str ⟨#[]⟩), (.int .i64 (0)), .nil, (.int .i64 (0)), (.int .i64 (0)), (.str ⟨#[]⟩), (.int .i64 (0)), (.int .i64 (0)), .nil, (.str ⟨#[]⟩), (.int .i64 (0)), .nil] [(0, 9, (.tmp 60)), (9, 9, (.tmp 61))], none, []⟩,
  ⟨some 63, .buildS 41 18 3 [(.int .i64 (0)), (.int .i64 (0)), (.str ⟨#[]⟩), (.int .i64 (0)), (.int .i64 (0)), .nil, (.str ⟨#[]⟩), (.int .i64 (0)), .nil, (.int .i64 (0)), (.int .i64 (0)), (.str ⟨#[]⟩), (.int .i64 (0)), (.int .i64 (0)), .nil, (.str ⟨#[]⟩), (.int .i64 (0)), .nil] [(0, (.tmp 50)), (1, (.tmp 55)), (2, (.tmp 62))], none, []⟩,
  ⟨some 17, .mov (.tmp 63), none, []⟩] [])) (.seq (.cut (.seq (.region [⟨some 64, .mov (.tmp 1), none, []⟩,
  ⟨some 65, .mov (.tmp 2), none, []⟩,
  ⟨some 66, .bin .neq (.tmp 64) (.tmp 65), none, []⟩] []) (.cond (.tmp 66) (.region [⟨some 67, .mov (.tmp 17), none, []⟩,
  ⟨some 68, .load 9 true (.tmp 15), none, []⟩,
  ⟨some 69, .mov (.tmp 2), none, []⟩,
  ⟨some 70, .mov (.tmp 5), none, []⟩,
  ⟨some 71, .call 29 [(.tmp 69), (.tmp 70)], none, []⟩,
  ⟨some 72, .call 21 [(.tmp 68), (.tmp 71)], none, []⟩,
  ⟨some 73, .mov (.tmp 2), none, []⟩,
  ⟨some 74, .mov (.tmp 5), none, []⟩,
  ⟨some 75, .call 29 [(.tmp 73), (.tmp 74)], none, []⟩,
  ⟨some 76, .load 9 true (.tmp 15), none, []⟩,
  ⟨some 77, .call 21 [(.tmp 75), (.tmp 76)], none, []⟩,
  ⟨some 78, .build [(.int .i64 (0)), (.int .i64 (0)), (.str ⟨#[]⟩), (.int .i64 (0)), (.int .i64 (0)), .nil, (.str ⟨#[]⟩), (.int .i64 (0)), .nil, (.int .i64 (0)), (.int .i64 (0)), (.str ⟨#[]⟩), (.int .i64 (0)), (.int .i64 (0)), .nil, (.str ⟨#[]⟩), (.int .i64 (0)), .nil] [(0, 9, (.tmp 72)), (9, 9, (.tmp 77))], none, []⟩,
  ⟨some 79, .load 9 true (.tmp 15), none, []⟩,
  ⟨some 80, .mov (.tmp 2), none, []⟩,
  ⟨some 81, .mov (.tmp 5), none, []⟩,
  ⟨some 82, .call 30 [(.tmp 80), (.tmp 81)], none, []⟩,
  ⟨some 83, .call 24 [(.tmp 82)], none, []⟩,
  ⟨some 84, .call 21 [(.tmp 79), (.tmp 83)], none, []⟩,
  ⟨some 85, .mov (.tmp 2), none, []⟩,
  ⟨some 86, .mov (.tmp 5), none, []⟩,
  ⟨some 87, .call 30 [(.tmp 85), (.tmp 86)], none, []⟩,
  ⟨some 88, .call 24 [(.tmp 87)], none, []⟩,
  ⟨some 89, .load 9 true (.tmp 15), none, []⟩,
  ⟨some 90, .call 21 [(.tmp 88), (.tmp 89)], none, []⟩,
  ⟨some 91, .build [(.int .i64 (0)), (.int .i64 (0)), (.str ⟨#[]⟩), (.int .i64 (0)), (.int .i64 (0)), .nil, (.str ⟨#[]⟩), (.int .i64 (0)), .nil, (.int .i64 (0)), (.int .i64 (0)), (.str ⟨#[]⟩), (.int .i64 (0)), (.int .i64 (0)), .nil, (.str ⟨#[]⟩), (.int .i64 (0)), .nil] [(0, 9, (.tmp 84)), (9, 9, (.tmp 90))], none, []⟩,
  ⟨some 92, .buildT 18 2 [(.int .i64 (0)), (.int .i64 (0)), (.str ⟨#[]⟩), (.int .i64 (0)), (.int .i64 (0)), .nil, (.str ⟨#[]⟩), (.int .i64 (0)), .nil, (.int .i64 (0)), (.int .i64 (0)), (.str ⟨#[]⟩), (.int .i64 (0)), (.int .i64 (0)), .nil, (.str ⟨#[]⟩), (.int .i64 (0)), .nil] [(0, (.tmp 78)), (1, (.tmp 91))], none, []⟩,
  ⟨some 93, .append 43 41 18 240 (.tmp 67) (.tmp 92), none, []⟩,
  ⟨some 17, .mov (.tmp 93), none, []⟩] []) .skip))) (.seq (.cut (.seq (.region [⟨some 94, .mov (.tmp 3), none, []⟩,
  ⟨some 95, .mov (.tmp 4), none, []⟩,
  ⟨some 96, .bin .neq (.tmp 94) (.tmp 95), none, []⟩] []) (.cond (.tmp 96) (.region [⟨some 97, .mov (.tmp 17), none, []⟩,
  ⟨some 98, .mov (.tmp 1), none, []⟩,
  ⟨some 99, .mov (.tmp 4), none, []⟩,
  ⟨some 100, .call 29 [(.tmp 98), (.tmp 99)], none, []⟩,
  ⟨some 101, .load 9 true (.tmp 16), none, []⟩,
  ⟨some 102, .call 21 [(.tmp 100), (.tmp 101)], none, []⟩,
  ⟨some 103, .call 20 [], none, []⟩,
  ⟨some 104, .build [(.int .i64 (0)), (.int .i64 (0)), (.str ⟨#[]⟩), (.int .i64 (0)), (.int .i64 (0)), .nil, (.str ⟨#[]⟩), (.int .i64 (0)), .nil, (.int .i64 (0)), (.int .i64 (0)), (.str ⟨#[]⟩), (.int .i64 (0)), (.int .i64 (0)), .nil, (.str ⟨#[]⟩), (.int .i64 (0)), .nil] [(0, 9, (.tmp 102)), (9, 9, (.tmp 103))], none, []⟩,
  ⟨some 105, .buildT 18 1 [(.int .i64 (0)), (.int .i64 (0)), (.str ⟨#[]⟩), (.int .i64 (0)), (.int .i64 (0)), .nil, (.str ⟨#[]⟩), (.int .i64 (0)), .nil, (.int .i64 (0)), (.int .i64 (0)), (.str ⟨#[]⟩), (.int .i64 (0)), (.int .i64 (0)), .nil, (.str ⟨#[]⟩), (.int .i64 (0)), .nil] [(0, (.tmp 104))], none, []⟩,
  ⟨some 106, .append 43 41 18 240 (.tmp 97) (.tmp 105), none, []⟩,
  ⟨some 17, .mov (.tmp 106), none, []⟩] []) .skip))) (.seq (.seq (.region [⟨some 107, .mov (.tmp 17), none, []⟩,
  ⟨some 108, .len (.tmp 107), none, []⟩,
  ⟨some 109, .mov (.const (.int .i64 (0))), none, []⟩] []) (.block 0 (.loop (.seq (.region [⟨some 110, .bin .lss (.tmp 109) (.tmp 108), none, []⟩] []) (.seq (.cond (.tmp 110) .skip (.exit 0)) (.seq (.block 1 (.seq (.region [⟨some 111, .idxL 18 (.tmp 107) (.tmp 109), none, []⟩,
  ⟨some 112, .load 18 true (.tmp 111), none, []⟩,
  ⟨some 19, .alloc [(.int .i64 (0)), (.int .i64 (0)), (.str ⟨#[]⟩), (.int .i64 (0)), (.int .i64 (0)), .nil, (.str ⟨#[]⟩), (.int .i64 (0)), .nil, (.int .i64 (0)), (.int .i64 (0)), (.str ⟨#[]⟩), (.int .i64 (0)), (.int .i64 (0)), .nil, (.str ⟨#[]⟩), (.int .i64 (0)), .nil], none, []⟩,
  ⟨none, .store 18 (.tmp 19) (.tmp 112), none, []⟩] []) (.seq (.region [⟨some 114, .mov (.tmp 0), none, []⟩,
  ⟨some 115, .idxA 2 9 (.tmp 19) (.const (.int .i64 (0))), none, []⟩,
  ⟨some 116, .load 9 true (.tmp 115), none, []⟩,
  ⟨some 117, .load 10 true (.tmp 13), none, []⟩,
  ⟨some 118, .call 28 [(.tmp 114), (.tmp 116), (.tmp 117), (.const (.int .i64 (0)))], none, []⟩,
  ⟨some 113, .mov (.tmp 118), none, []⟩,
  ⟨some 119, .ext (.tmp 113) 0, none, []⟩,
  ⟨some 120, .ext (.tmp 113) 1, none, []⟩,
  ⟨some 20, .mov (.tmp 119), none, []⟩,
  ⟨some 21, .mov (.tmp 120), none, []⟩] []) (.seq (.region [⟨some 122, .mov (.tmp 0), none, []⟩,
  ⟨some 123, .idxA 2 9 (.tmp 19) (.const (.int .i64 (1))), none, []⟩,
  ⟨some 124, .load 9 true (.tmp 123), none, []⟩,
  ⟨some 125, .load 10 true (.tmp 13), none, []⟩,
  ⟨some 126, .call 28 [(.tmp 122), (.tmp 124), (.tmp 125), (.const (.int .i64 (0)))], none, []⟩,
  ⟨some 121, .mov (.tmp 126), none, []⟩,
  ⟨some 127, .ext (.tmp 121) 0, none, []⟩,
  ⟨some 128, .ext (.tmp 121) 1, none, []⟩,
  ⟨some 22, .mov (.tmp 127), none, []⟩,
  ⟨some 23, .mov (.tmp 128), none, []⟩] []) (.seq (.region [⟨some 129, .mov (.tmp 21), none, []⟩,
  ⟨some 130, .bin .neq (.tmp 129) (.const (.int .i64 (0))), none, []⟩,
  ⟨some 131, .mov (.tmp 130), none, []⟩,
  ⟨some 132, .mov (.tmp 23), some (131, false), []⟩,
  ⟨some 133, .bin .neq (.tmp 132) (.const (.int .i64 (0))), some (131, false), []⟩,
  ⟨some 134, .pick (.tmp 131) (.const (.bool true)) (.tmp 133), none, []⟩,
  ⟨some 135, .mov (.tmp 134), none, []⟩,
  ⟨some 136, .mov (.tmp 20), some (135, false), []⟩,
  ⟨some 137, .mov (.tmp 22), some (135, false), []⟩,
  ⟨some 138, .call 14 [(.tmp 136), (.tmp 137)], some (135, false), []⟩,
  ⟨some 139, .not (.tmp 138), some (135, false), []⟩,
  ⟨some 140, .pick (.tmp 135) (.const (.bool true)) (.tmp 139), none, []⟩] []) (.cond (.tmp 140) (.seq (.region [⟨some 14, .mov (.const (.bool false)), none, []⟩] []) .ret) .skip)))))) (.region [⟨some 141, .bin .add (.tmp 109) (.const (.int .i64 (1))), none, []⟩,
  ⟨some 109, .mov (.tmp 141), none, []⟩] []))))))) (.seq (.region [⟨some 142, .call 12 [], none, []⟩,
  ⟨some 14, .mov (.tmp 142), none, []⟩] []) .ret))))))))
theorem l6 : (Try.f6.body.bind (lowC Try.prog 143 [6000003, 7000004, 6000004, 5000005, 5000007])) = some c6 := by kernel_rfl

end Go.MM
end
section
/- Meaning: what sets of fields do, one after the other. -/
namespace Go.MM
open Go Go.DL Go.Proofs

theorem get_put {x s w n : Nat} (hn : n < 2 ^ w) : getW (putW x s w n) s w = n := by
  refine Nat.eq_of_testBit_eq fun j => ?_
  rw [getW_bit, putW_bit hn]
  by_cases h : j < w
  · rw [if_neg (by omega), if_pos (by omega)]
    simp [h]
  · have : n.testBit j = false := Nat.testBit_lt_two_pow (Nat.lt_of_lt_of_le hn (Nat.pow_le_pow_right (by decide) (by omega)))
    simp [h, this]
theorem put_put {x s w m n : Nat} (hm : m < 2 ^ w) (hn : n < 2 ^ w) : putW (putW x s w m) s w n = putW x s w n := by
  refine Nat.eq_of_testBit_eq fun j => ?_
  rw [putW_bit hn, putW_bit hm, putW_bit hn]
  split
  · rfl
  · split
    · rfl
    · rfl
theorem getW_lt (x s w : Nat) : getW x s w < 2 ^ w := Nat.mod_lt _ (Nat.two_pow_pos _)
theorem put_get (x s w : Nat) : putW x s w (getW x s w) = x := (split_w x s w).symm
theorem get_put' {x s w n s' w' : Nat} (hn : n < 2 ^ w) (h : s + w ≤ s' ∨ s' + w' ≤ s) : getW (putW x s w n) s' w' = getW x s' w' := by
  refine Nat.eq_of_testBit_eq fun j => ?_
  rw [getW_bit, getW_bit, putW_bit hn]
  by_cases hj : j < w'
  · rcases h with h | h
    · rw [if_neg (by omega), if_neg (by omega)]
    · rw [if_pos (by omega)]
  · simp [hj]
theorem put_comm {x s w n s' w' m : Nat} (hn : n < 2 ^ w) (hm : m < 2 ^ w') (h : s + w ≤ s' ∨ s' + w' ≤ s) : putW (putW x s w n) s' w' m = putW (putW x s' w' m) s w n := by
  refine Nat.eq_of_testBit_eq fun j => ?_
  rw [putW_bit hm, putW_bit hn, putW_bit hn, putW_bit hm]
  rcases h with h | h
  · by_cases h1 : j < s'
    · rw [if_pos h1, if_pos h1]
    · rw [if_neg h1, if_neg h1]
      by_cases h2 : j < s' + w'
      · rw [if_pos h2, if_pos h2, if_neg (by omega), if_neg (by omega)]
      · rw [if_neg h2, if_neg h2]
  · by_cases h1 : j < s
    · rw [if_pos h1, if_pos h1]
    · rw [if_neg h1, if_neg h1]
      by_cases h2 : j < s + w
      · rw [if_pos h2, if_pos h2, if_neg (by omega), if_neg (by omega)]
      · rw [if_neg h2, if_neg h2]

theorem wd_set_same {h : List Int} {i n : Nat} (hi : i < h.length) : wd (h.set i (n : Int)) i = n := by simp [wd, hi]
theorem wd_set_other {h : List Int} {i j : Nat} {n : Int} (hij : i ≠ j) : wd (h.set i n) j = wd h j := by simp [wd, hij]

theorem getF_setF {f : Fd} (hf : FOk f) {h : List Int} (hl : h.length = 10) {n : Nat} (hn : n < 2 ^ f.w) : getF f (setF f h n) = n := by
  have := hf.i
  unfold getF setF
  rw [wd_set_same (by omega), get_put hn]
theorem setF_setF {f : Fd} (hf : FOk f) {h : List Int} (hl : h.length = 10) {m n : Nat} (hm : m < 2 ^ f.w) (hn : n < 2 ^ f.w) : setF f (setF f h m) n = setF f h n := by
  have := hf.i
  unfold setF
  rw [wd_set_same (by omega), put_put hm hn, List.set_set]
theorem setF_getF {f : Fd} (hf : FOk f) {h : List Int} (hh : HOk h) : setF f h (getF f h) = h := by
  have hi := hf.i
  unfold setF getF
  rw [put_get]
  have hlt : f.i < h.length := by rw [hh.len]; exact hi
  have e : ((wd h f.i : Nat) : Int) = h[f.i] := (hh.get hi).symm
  rw [e, List.set_getElem_self]

/-- Two fields have no bit in common. -/
def Apart (f g : Fd) : Prop := f.a + f.w ≤ g.a ∨ g.a + g.w ≤ f.a
theorem Apart.bits {f g : Fd} (hf : FOk f) (hg : FOk g) (h : Apart f g) (hi : f.i = g.i) : f.s + f.w ≤ g.s ∨ g.s + g.w ≤ f.s := by
  have := hf.w2; have := hg.w2; have := hf.a; have := hg.a
  unfold Apart at h
  unfold Fd.i at hi
  unfold Fd.s
  omega
theorem getF_setF' {f g : Fd} (hf : FOk f) (hg : FOk g) (ha : Apart f g) {h : List Int} (hl : h.length = 10) {n : Nat} (hn : n < 2 ^ f.w) : getF g (setF f h n) = getF g h := by
  have := hf.i
  unfold getF setF
  by_cases hi : f.i = g.i
  · rw [← hi, wd_set_same (by omega)]
    exact get_put' hn (ha.bits hf hg hi)
  · rw [wd_set_other hi]
theorem setF_comm {f g : Fd} (hf : FOk f) (hg : FOk g) (ha : Apart f g) {h : List Int} (hl : h.length = 10) {n m : Nat} (hn : n < 2 ^ f.w) (hm : m < 2 ^ g.w) : setF g (setF f h n) m = setF f (setF g h m) n := by
  have h1 := hf.i
  have h2 := hg.i
  unfold setF
  by_cases hi : f.i = g.i
  · rw [← hi, wd_set_same (by omega), wd_set_same (by omega), put_comm hn hm (ha.bits hf hg hi), List.set_set, List.set_set]
  · rw [wd_set_other hi, wd_set_other (Ne.symm hi), List.set_comm _ _ hi]

/-- Fields of different names have no bit in common. -/
theorem Checked.apart_of {l : List RF} (hc : Checked l) {s t : ByteArray} {F G : Fd} (hF : findF (l.map RF.fd) s = some F) (hG : findF (l.map RF.fd) t = some G) (hst : s ≠ t) : Apart F G := by
  have idx : ∀ {u : ByteArray} {H : Fd}, sameN u portN = false → findF (l.map RF.fd) u = some H → ∃ i, ∃ hi : i < l.length, H = l[i].fd ∧ l[i].name = u := fun {u H} hp hh => by
    unfold findF at hh
    rw [if_neg (by simp [hp])] at hh
    obtain ⟨hm, hn⟩ := List.mem_of_find?_eq_some hh, List.find?_some hh
    obtain ⟨g, hg, rfl⟩ := List.mem_map.1 hm
    obtain ⟨i, hi, rfl⟩ := List.getElem_of_mem hg
    exact ⟨i, hi, rfl, sameN_iff.1 hn⟩
  have port : ∀ {u : ByteArray} {H : Fd}, sameN u portN = true → findF (l.map RF.fd) u = some H → H = portF := fun {u H} hp hh => by
    unfold findF at hh
    rw [if_pos hp] at hh
    exact (Option.some.inj hh).symm
  have pl : ∀ i (hi : i < l.length), 16 ≤ l[i].a ∧ l[i].a ≤ 143 ∧ 1 ≤ l[i].w ∧ l[i].w ≤ 16 := fun i hi => by
    have := hc.place _ (List.getElem_mem hi)
    simp [placeB] at this
    omega
  cases hp : sameN s portN with
  | true =>
    cases hq : sameN t portN with
    | true => exact absurd ((sameN_iff.1 hp).trans (sameN_iff.1 hq).symm) hst
    | false =>
      obtain ⟨j, hj, rfl, _⟩ := idx hq hG
      obtain rfl := port hp hF
      have := pl j hj
      left
      simp only [portF, RF.fd]; omega
  | false =>
    obtain ⟨i, hi, rfl, ni⟩ := idx hp hF
    have p1 := pl i hi
    cases hq : sameN t portN with
    | true =>
      obtain rfl := port hq hG
      right
      simp only [portF, RF.fd]; omega
    | false =>
      obtain ⟨j, hj, rfl, nj⟩ := idx hq hG
      have p2 := pl j hj
      have hij : i ≠ j := fun e => by subst e; exact hst (ni.symm.trans nj)
      have com : commonB l[i] l[j] = false ∨ commonB l[j] l[i] = false := by
        rcases Nat.lt_or_gt_of_ne hij with h | h
        · exact .inl (hc.apart j i hj hi h)
        · exact .inr (hc.apart i j hi hj h)
      unfold Apart
      simp only [RF.fd]
      rcases com with h | h <;> simp [commonB] at h <;> omega
end Go.MM
end
section
/- Meaning: the statement that sets of fields do what they say. -/
namespace Go.MM
open Go Go.DL Go.Proofs
set_option maxRecDepth 100000
set_option maxHeartbeats 4000000

theorem r29 (f : ByteArray) (n : Int) : DCalls Try.prog 29 [.str f, I n] (.agg (cellsS (.mk 2 zP f n []))) := by
  refine leAgg (dcalls_low (rs := [.cell 4 38]) mixed Try.func29 l29 rfl rfl rfl (r := [.agg [I 2, I 0, nm0, I 0, I 0, .nil, .str f, I n, .nil]]) (Nat.le_of_ble_eq_true rfl) ?_) (.same _ (.same _ (.same _ (.same _ (.same _ (.none _ (.same _ (.same _ (.none _ .nil)))))))))
  repeat' ((conv => whnf); first | exact trivial | refine now_T ?_ | refine aE1 ?_ | refine aE0 ?_ | refine aN1 ?_ | refine aN0 ?_ | refine aD1 ?_ | refine aD0 ?_ | refine now_E (fun hq => ?_) (fun hq => ?_) | refine now_N (fun hq => ?_) (fun hq => ?_) | refine now_D (fun hq => ?_) (fun hq => ?_) | refine rb1 ?_ | refine rb0 ?_ | refine rbx ?_ | refine rix ?_ | refine aS ?_ | fail)
theorem r30 (f : ByteArray) (n : Int) : DCalls Try.prog 30 [.str f, I n] (.agg (cellsR (.mk 3 f n 0 []))) := by
  refine leAgg (dcalls_low (rs := [.cell 4 35]) mixed Try.func30 l30 rfl rfl rfl (r := [.agg [I 3, .str f, I n, I 0, .nil]]) (Nat.le_of_ble_eq_true rfl) ?_) (.same _ (.same _ (.same _ (.same _ (.none _ .nil)))))
  repeat' ((conv => whnf); first | exact trivial | refine now_T ?_ | refine aE1 ?_ | refine aE0 ?_ | refine aN1 ?_ | refine aN0 ?_ | refine aD1 ?_ | refine aD0 ?_ | refine now_E (fun hq => ?_) (fun hq => ?_) | refine now_N (fun hq => ?_) (fun hq => ?_) | refine now_D (fun hq => ?_) (fun hq => ?_) | refine rb1 ?_ | refine rb0 ?_ | refine rbx ?_ | refine rix ?_ | refine aS ?_ | fail)

/-- Two policies that are given, and give the same. -/
structure PairG (l : List Fd) (h : List Int) (x : Po × Po) : Prop where
  ok1 : OOk l x.1
  ok2 : OOk l x.2
  eq : Gives l 0 h x
def base3 (f : ByteArray) (n m : Nat) : List (Po × Po) := [(.seq (.set f n) (.filter (.eq f n)), .set f n), (.seq (.filter (.eq f n)) (.set f n), .filter (.eq f n)), (.seq (.set f m) (.set f n), .set f n)]
def more2 (f g : ByteArray) (n k : Nat) : List (Po × Po) := [(.seq (.set f n) (.set g k), .seq (.set g k) (.set f n)), (.seq (.set f n) (.filter (.eq g k)), .seq (.filter (.eq g k)) (.set f n))]
def more1 (f : ByteArray) (n m : Nat) : List (Po × Po) := [(.seq (.set f m) (.filter (.eq f n)), dropO)]

section
variable {l : List Fd} {h : List Int} {f g : ByteArray} {F G : Fd} {n m k : Nat}
theorem base3_ok (hl : LOk l) (hh : HOk h) (hF : findF l f = some F) (hn : n < 2 ^ F.w) (hm : m < 2 ^ F.w) : ∀ x ∈ base3 f n m, PairG l h x := by
  have fo := hl.find hF
  have e := fld_eq hF
  have on : OOk l (.set f n) := ⟨F, hF, hn⟩
  have om : OOk l (.set f m) := ⟨F, hF, hm⟩
  have ot : OOk l (.filter (.eq f n)) := ⟨F, hF, hn⟩
  intro x hx
  simp only [base3, List.mem_cons, List.not_mem_nil, or_false] at hx
  rcases hx with rfl | rfl | rfl
  · refine ⟨⟨on, ot⟩, on, [setF F h n], ?_, ?_⟩ <;> simp [gives, image, holds, small, mrg, e, getF_setF fo hh.len hn]
  · refine ⟨⟨ot, on⟩, ot, if getF F h = n then [h] else [], ?_, ?_⟩
    · by_cases c : getF F h = n
      · have : setF F h n = h := by rw [← c]; exact setF_getF fo hh
        simp [gives, image, holds, small, mrg, e, c, this]
      · simp [gives, image, holds, e, c]
    · simp [gives, holds, e]
  · refine ⟨⟨om, on⟩, on, [setF F h n], ?_, ?_⟩ <;> simp [gives, image, small, mrg, e, setF_setF fo hh.len hm hn]

theorem more2_ok (hl : LOk l) (hh : HOk h) (hF : findF l f = some F) (hG : findF l g = some G) (ha : Apart F G) (hn : n < 2 ^ F.w) (hk : k < 2 ^ G.w) : ∀ x ∈ more2 f g n k, PairG l h x := by
  have fo := hl.find hF
  have go := hl.find hG
  have e := fld_eq hF
  have e' := fld_eq hG
  have on : OOk l (.set f n) := ⟨F, hF, hn⟩
  have ok : OOk l (.set g k) := ⟨G, hG, hk⟩
  have ot : OOk l (.filter (.eq g k)) := ⟨G, hG, hk⟩
  intro x hx
  simp only [more2, List.mem_cons, List.not_mem_nil, or_false] at hx
  rcases hx with rfl | rfl
  · refine ⟨⟨on, ok⟩, ⟨ok, on⟩, [setF G (setF F h n) k], ?_, ?_⟩ <;> simp [gives, image, small, mrg, e, e', setF_comm fo go ha hh.len hn hk]
  · refine ⟨⟨on, ot⟩, ⟨ot, on⟩, if getF G h = k then [setF F h n] else [], ?_, ?_⟩
    · by_cases c : getF G h = k <;> simp [gives, image, holds, small, mrg, e, e', getF_setF' fo go ha hh.len hn, c]
    · by_cases c : getF G h = k <;> simp [gives, image, holds, small, mrg, e, e', c]

theorem more1_ok (hl : LOk l) (hh : HOk h) (hF : findF l f = some F) (hn : n < 2 ^ F.w) (hm : m < 2 ^ F.w) (hnm : n ≠ m) : ∀ x ∈ more1 f n m, PairG l h x := by
  have fo := hl.find hF
  have e := fld_eq hF
  intro x hx
  simp only [more1, List.mem_cons, List.not_mem_nil, or_false] at hx
  subst hx
  refine ⟨⟨⟨F, hF, hm⟩, ⟨F, hF, hn⟩⟩, trivial, [], ?_, ?_⟩
  · simp [gives, image, holds, small, mrg, e, getF_setF fo hh.len hm, Ne.symm hnm]
  · simp [gives, dropO, holds]
end

theorem t6 (l : List RF) (hl : l.length < 2 ^ 60) (hnl : ∀ f ∈ l, f.name.size < 2 ^ 62) (f g : ByteArray) (hf : f.size < 2 ^ 62) (hg : g.size < 2 ^ 62) (n m k : Int) (h : List Int) (hh : h.length = 10) :
    DCalls Try.prog 6 [encFs l, .str f, .str g, I n, I m, I k, hd h] (.bool true) := by
  refine dcalls_low (rs := [.tmp 14]) mixed Try.func6 l6 rfl rfl rfl (r := [.bool true]) (Nat.le_of_ble_eq_true rfl) ?_
  have sm : ∀ (f : ByteArray) (n : Int), f.size < 2 ^ 62 → Sm (.mk 2 zP f n []) := fun f n h => ⟨by simp only [RO.wt, wtSs, zP, RP.nodes, nodesPs]; omega, nm_zP, h, trivial⟩
  have c18 := t18 l hl hnl h hh 0 [.mk 2 zP f n [], .mk 2 zP f m [], .mk 2 zP g k []] (by simp) (fun y hy => by
    simp only [List.mem_cons, List.not_mem_nil, or_false] at hy
    rcases hy with rfl | rfl | rfl
    · exact ⟨(sm f n hf).wt, (sm f n hf).nm⟩
    · exact ⟨(sm f m hf).wt, (sm f m hf).nm⟩
    · exact ⟨(sm g k hg).wt, (sm g k hg).nm⟩)
  simp only [List.map_cons, List.map_nil, encS_cells] at c18
  have c12 := t12
  cases hR : rightB l h 0 [.mk 2 zP f n [], .mk 2 zP f m [], .mk 2 zP g k []] with
  | false =>
    rw [hR] at c18
    repeat' ((conv => whnf); first | exact trivial | refine k_call _ (r29 _ _) ?_ | refine k_call _ (c18) ?_ | refine k_call _ (c12) ?_ | refine now_T ?_ | refine aE1 ?_ | refine aE0 ?_ | refine aN1 ?_ | refine aN0 ?_ | refine aD1 ?_ | refine aD0 ?_ | refine now_E (fun hq => ?_) (fun hq => ?_) | refine now_N (fun hq => ?_) (fun hq => ?_) | refine now_D (fun hq => ?_) (fun hq => ?_) | refine rb1 ?_ | refine rb0 ?_ | refine rbx ?_ | refine rix ?_ | (refine And.intro (by first | (simp [hh]; done) | (exact ⟨⟨⟨trivial, rfl⟩, rfl⟩, rfl⟩; done) | fail) ?_) | refine aS ?_ | fail)
  | true =>
  rw [hR] at c18
  obtain ⟨ck, ho, _, _, hall⟩ := right_ok hh hR
  obtain ⟨q1, e1, o1⟩ := typed_po (hall (.mk 2 zP f n []) (by simp)).1
  obtain ⟨q2, e2, o2⟩ := typed_po (hall (.mk 2 zP f m []) (by simp)).1
  obtain ⟨q3, e3, o3⟩ := typed_po (hall (.mk 2 zP g k []) (by simp)).1
  cases q1 with
  | filter | union | seq | star => cases e1
  | set f1 n1 =>
  cases q2 with
  | filter | union | seq | star => cases e2
  | set f2 m1 =>
  cases q3 with
  | filter | union | seq | star => cases e3
  | set g3 k1 =>
  simp only [rawO, RO.mk.injEq, true_and, and_true] at e1 e2 e3
  obtain ⟨rfl, rfl⟩ := e1
  obtain ⟨rfl, rfl⟩ := e2
  obtain ⟨rfl, rfl⟩ := e3
  obtain ⟨F, hF, hn1⟩ := o1
  obtain ⟨F', hF', hm1⟩ := o2
  rw [hF] at hF'
  cases hF'
  obtain ⟨G, hG, hk1⟩ := o3
  have okL := ck.ok
  have hfd := ck.fds
  have hap : f ≠ g → Apart F G := fun hne => ck.apart_of hF hG hne
  generalize l.map RF.fd = L at *
  rw [hfd] at c18 ⊢
  have s29 : ∀ (f : ByteArray) (n : Nat), DCalls Try.prog 29 [.str f, I n] (eo (.set f n)) := fun f n => r29 f n
  have s30 : ∀ (f : ByteArray) (n : Nat), DCalls Try.prog 30 [.str f, I n] (ep (.eq f n)) := fun f n => r30 f n
  repeat' ((conv => whnf); first | exact trivial | refine k_call _ (s29 _ _) ?_ | refine k_call _ (c18) ?_ | refine now_T ?_ | refine aE1 ?_ | refine aE0 ?_ | refine aN1 ?_ | refine aN0 ?_ | refine aD1 ?_ | refine aD0 ?_ | refine now_E (fun hq => ?_) (fun hq => ?_) | refine now_N (fun hq => ?_) (fun hq => ?_) | refine now_D (fun hq => ?_) (fun hq => ?_) | refine rb1 ?_ | refine rb0 ?_ | refine rbx ?_ | refine rix ?_ | (refine And.intro (by first | (simp [hh]; done) | (exact ⟨⟨⟨trivial, rfl⟩, rfl⟩, rfl⟩; done) | fail) ?_) | refine aS ?_ | fail)
  refine wpC_cut (β := Unit) (fun _ => {sl := [(0, .t (fds L)), (1, .t (.str f)), (2, .t (.str g)), (3, .t (I n1)), (4, .t (I m1)), (5, .t (I k1)), (13, .ptr 13 0), (15, .ptr 15 0), (16, .ptr 16 0)], bx := [(13, .d 10 (h.map I)), (15, .d 9 (cellsS (rawO (.set f n1)))), (16, .d 9 (cellsS (rawO (.filter (.eq f n1)))))]}) (fun _ => True) ?_ ?_
  · repeat' ((conv => whnf); first | exact trivial | refine k_call _ (s29 f n1) ?_ | refine k_call _ (s30 f n1) ?_ | refine k_call _ (e24 (.eq f n1)) ?_ | refine now_T ?_ | refine aE1 ?_ | refine aE0 ?_ | refine aN1 ?_ | refine aN0 ?_ | refine aD1 ?_ | refine aD0 ?_ | refine now_E (fun hq => ?_) (fun hq => ?_) | refine now_N (fun hq => ?_) (fun hq => ?_) | refine now_D (fun hq => ?_) (fun hq => ?_) | refine rb1 ?_ | refine rb0 ?_ | refine rbx ?_ | refine rix ?_ | refine aS ?_ | fail)
    all_goals exact ⟨(), trivial, by (repeat' (first | exact trivial | exact LeV.same _ | exact LeB.same _ | exact rfl | exact fun _ _ _ => trivial | exact lI | exact LeV.nil _ _ _ | exact lB | refine leBd ?_ | refine leOwn ?_ | refine And.intro ?_ ?_)); done⟩
  rintro _ _
  repeat' ((conv => whnf); first | exact trivial | refine now_T ?_ | refine aE1 ?_ | refine aE0 ?_ | refine aN1 ?_ | refine aN0 ?_ | refine aD1 ?_ | refine aD0 ?_ | refine now_E (fun hq => ?_) (fun hq => ?_) | refine now_N (fun hq => ?_) (fun hq => ?_) | refine now_D (fun hq => ?_) (fun hq => ?_) | refine rb1 ?_ | refine rb0 ?_ | refine rbx ?_ | refine rix ?_ | refine aS ?_ | fail)
  refine wpC_cut (β := Unit) (fun _ => {sl := [(0, .t (fds L)), (1, .t (.str f)), (2, .t (.str g)), (3, .t (I n1)), (4, .t (I m1)), (5, .t (I k1)), (13, .ptr 13 0), (15, .ptr 15 0), (16, .ptr 16 0), (17, .own 63 41 18 ((base3 f n1 m1).map pairT))], bx := [(13, .d 10 (h.map I)), (15, .d 9 (cellsS (rawO (.set f n1)))), (16, .d 9 (cellsS (rawO (.filter (.eq f n1)))))]}) (fun _ => True) ?_ ?_
  · repeat' ((conv => whnf); first | exact trivial | refine k_call _ (s29 _ _) ?_ | refine k_call _ (e21 (.set f n1) (.filter (.eq f n1))) ?_ | refine k_call _ (e21 (.filter (.eq f n1)) (.set f n1)) ?_ | refine k_call _ (e21 (.set f m1) (.set f n1)) ?_ | refine now_T ?_ | refine aE1 ?_ | refine aE0 ?_ | refine aN1 ?_ | refine aN0 ?_ | refine aD1 ?_ | refine aD0 ?_ | refine now_E (fun hq => ?_) (fun hq => ?_) | refine now_N (fun hq => ?_) (fun hq => ?_) | refine now_D (fun hq => ?_) (fun hq => ?_) | refine rb1 ?_ | refine rb0 ?_ | refine rbx ?_ | refine rix ?_ | (refine And.intro (by first | (exact ⟨⟨trivial, rfl⟩, rfl⟩; done) | (exact ⟨⟨⟨trivial, rfl⟩, rfl⟩, rfl⟩; done) | fail) ?_) | refine aS ?_ | fail)
    all_goals exact ⟨(), trivial, by (repeat' (first | (exact leOwn rfl) | exact trivial | exact LeV.same _ | exact LeB.same _ | exact rfl | exact fun _ _ _ => trivial | exact lI | exact LeV.nil _ _ _ | exact lB | refine leBd ?_ | refine leOwn ?_ | refine And.intro ?_ ?_)); done⟩
  rintro _ _
  repeat' ((conv => whnf); first | exact trivial | refine now_T ?_ | refine aE1 ?_ | refine aE0 ?_ | refine aN1 ?_ | refine aN0 ?_ | refine aD1 ?_ | refine aD0 ?_ | refine now_E (fun hq => ?_) (fun hq => ?_) | refine now_N (fun hq => ?_) (fun hq => ?_) | refine now_D (fun hq => ?_) (fun hq => ?_) | refine rb1 ?_ | refine rb0 ?_ | refine rbx ?_ | refine rix ?_ | refine aS ?_ | fail)
  refine wpC_cut (β := Nat) (fun r => {sl := [(0, .t (fds L)), (1, .t (.str f)), (2, .t (.str g)), (3, .t (I n1)), (4, .t (I m1)), (5, .t (I k1)), (13, .ptr 13 0), (15, .ptr 15 0), (16, .ptr 16 0), (17, .own r 41 18 ((base3 f n1 m1 ++ (if (!sameN f g) then more2 f g n1 k1 else [])).map pairT))], bx := [(13, .d 10 (h.map I)), (15, .d 9 (cellsS (rawO (.set f n1)))), (16, .d 9 (cellsS (rawO (.filter (.eq f n1)))))]}) (fun _ => True) ?_ ?_
  · have hse := sameN_eq f g
    cases hfg : sameN f g with
    | true =>
      rw [hfg] at hse
      repeat' ((conv => whnf); first | exact trivial | (refine now_b false (by rw [hse]; rfl) ?_) | (exact ⟨63, trivial, by (repeat' (first | (exact leOwn rfl) | exact trivial | exact LeV.same _ | exact LeB.same _ | exact rfl | exact fun _ _ _ => trivial | exact lI | exact LeV.nil _ _ _ | exact lB | refine leBd ?_ | refine leOwn ?_ | refine And.intro ?_ ?_)); done⟩) | refine now_T ?_ | refine aE1 ?_ | refine aE0 ?_ | refine aN1 ?_ | refine aN0 ?_ | refine aD1 ?_ | refine aD0 ?_ | refine now_E (fun hq => ?_) (fun hq => ?_) | refine now_N (fun hq => ?_) (fun hq => ?_) | refine now_D (fun hq => ?_) (fun hq => ?_) | refine rb1 ?_ | refine rb0 ?_ | refine rbx ?_ | refine rix ?_ | refine aS ?_ | fail)
    | false =>
      rw [hfg] at hse
      repeat' ((conv => whnf); first | exact trivial | (refine now_b true (by rw [hse]; rfl) ?_) | refine k_call _ (s29 _ _) ?_ | refine k_call _ (s30 g k1) ?_ | refine k_call _ (e24 (.eq g k1)) ?_ | refine k_call _ (e21 (.set f n1) (.set g k1)) ?_ | refine k_call _ (e21 (.set g k1) (.set f n1)) ?_ | refine k_call _ (e21 (.set f n1) (.filter (.eq g k1))) ?_ | refine k_call _ (e21 (.filter (.eq g k1)) (.set f n1)) ?_ | (exact ⟨93, trivial, by (repeat' (first | (exact leOwn rfl) | exact trivial | exact LeV.same _ | exact LeB.same _ | exact rfl | exact fun _ _ _ => trivial | exact lI | exact LeV.nil _ _ _ | exact lB | refine leBd ?_ | refine leOwn ?_ | refine And.intro ?_ ?_)); done⟩) | refine now_T ?_ | refine aE1 ?_ | refine aE0 ?_ | refine aN1 ?_ | refine aN0 ?_ | refine aD1 ?_ | refine aD0 ?_ | refine now_E (fun hq => ?_) (fun hq => ?_) | refine now_N (fun hq => ?_) (fun hq => ?_) | refine now_D (fun hq => ?_) (fun hq => ?_) | refine rb1 ?_ | refine rb0 ?_ | refine rbx ?_ | refine rix ?_ | (refine And.intro (by first | (exact ⟨⟨trivial, rfl⟩, rfl⟩; done) | fail) ?_) | refine aS ?_ | fail)
  rintro r _
  repeat' ((conv => whnf); first | exact trivial | refine now_T ?_ | refine aE1 ?_ | refine aE0 ?_ | refine aN1 ?_ | refine aN0 ?_ | refine aD1 ?_ | refine aD0 ?_ | refine now_E (fun hq => ?_) (fun hq => ?_) | refine now_N (fun hq => ?_) (fun hq => ?_) | refine now_D (fun hq => ?_) (fun hq => ?_) | refine rb1 ?_ | refine rb0 ?_ | refine rbx ?_ | refine rix ?_ | refine aS ?_ | fail)
  refine wpC_cut (β := Nat) (fun r => {sl := [(0, .t (fds L)), (13, .ptr 13 0), (17, .own r 41 18 (((base3 f n1 m1 ++ (if (!sameN f g) then more2 f g n1 k1 else [])) ++ (if n1 ≠ m1 then more1 f n1 m1 else [])).map pairT))], bx := [(13, .d 10 (h.map I))]}) (fun _ => True) ?_ ?_
  · have hB : (base3 f n1 m1 ++ (if (!sameN f g) then more2 f g n1 k1 else [])).length ≤ 5 := by
      simp only [List.length_append, base3]
      split <;> simp [more2]
    generalize base3 f n1 m1 ++ (if (!sameN f g) then more2 f g n1 k1 else []) = B at *
    by_cases hnm : n1 = m1
    · rw [if_neg (by simp [hnm])]
      repeat' ((conv => whnf); first | exact trivial | (exact ⟨r, trivial, by (repeat' (first | (exact leOwn (by simp)) | exact trivial | exact LeV.same _ | exact LeB.same _ | exact rfl | exact fun _ _ _ => trivial | exact lI | exact LeV.nil _ _ _ | exact lB | refine leBd ?_ | refine leOwn ?_ | refine And.intro ?_ ?_)); done⟩) | refine now_T ?_ | refine aE1 ?_ | refine aE0 ?_ | refine aN1 ?_ | refine aN0 ?_ | refine aD1 ?_ | refine aD0 ?_ | refine now_E (fun hq => ?_) (fun hq => ?_) | refine now_N (fun hq => ?_) (fun hq => ?_) | refine now_D (fun hq => ?_) (fun hq => ?_) | refine rb1 ?_ | refine rb0 ?_ | refine rbx ?_ | refine rix ?_ | refine aS ?_ | fail)
    · rw [if_pos hnm]
      have hlen : ((B.map pairT).length + 1) * 240 ≤ 140737488355328 := by rw [List.length_map]; omega
      repeat' ((conv => whnf); first | exact trivial | refine k_call _ (s29 _ _) ?_ | refine k_call _ (e20) ?_ | refine k_call _ (e21 (.set f m1) (.filter (.eq f n1))) ?_ | (exact ⟨106, trivial, by (repeat' (first | (exact leOwn (by simp [more1]; rfl)) | exact trivial | exact LeV.same _ | exact LeB.same _ | exact rfl | exact fun _ _ _ => trivial | exact lI | exact LeV.nil _ _ _ | exact lB | refine leBd ?_ | refine leOwn ?_ | refine And.intro ?_ ?_)); done⟩) | refine now_T ?_ | refine aE1 ?_ | refine aE0 ?_ | refine aN1 ?_ | refine aN0 ?_ | refine aD1 ?_ | refine aD0 ?_ | refine now_E (fun hq => ?_) (fun hq => ?_) | refine now_N (fun hq => ?_) (fun hq => ?_) | refine now_D (fun hq => ?_) (fun hq => ?_) | refine rb1 ?_ | refine rb0 ?_ | refine rbx ?_ | refine rix ?_ | (refine And.intro (by first | (exact ⟨trivial, rfl⟩; done) | fail) ?_) | refine aS ?_ | fail)
  rintro r' _
  have hA : ∀ x ∈ (base3 f n1 m1 ++ (if (!sameN f g) then more2 f g n1 k1 else [])) ++ (if n1 ≠ m1 then more1 f n1 m1 else []), PairG L h x := fun x hx => by
    simp only [List.mem_append] at hx
    rcases hx with (hx | hx) | hx
    · exact base3_ok okL ho hF hn1 hm1 x hx
    · split at hx
      · rename_i hc
        exact more2_ok okL ho hF hG (hap (fun e => by rw [sameN_iff.2 e] at hc; cases hc)) hn1 hk1 x hx
      · cases hx
    · split at hx
      · rename_i hc
        exact more1_ok okL ho hF hn1 hm1 hc x hx
      · cases hx
  generalize hAA : (base3 f n1 m1 ++ (if (!sameN f g) then more2 f g n1 k1 else [])) ++ (if n1 ≠ m1 then more1 f n1 m1 else []) = A at *
  have hAl : A.length ≤ 6 := by
    rw [← hAA]
    simp only [List.length_append, base3]
    split <;> split <;> simp [more1, more2]
  clear hAA
  repeat' ((conv => whnf); first | exact trivial | refine now_T ?_ | refine aE1 ?_ | refine aE0 ?_ | refine aN1 ?_ | refine aN0 ?_ | refine aD1 ?_ | refine aD0 ?_ | refine now_E (fun hq => ?_) (fun hq => ?_) | refine now_N (fun hq => ?_) (fun hq => ?_) | refine now_D (fun hq => ?_) (fun hq => ?_) | refine rb1 ?_ | refine rb0 ?_ | refine rbx ?_ | refine rix ?_ | refine aS ?_ | fail)
  refine wpC_loop (α := Nat) (fun i => {sl := [(0, .t (fds L)), (13, .ptr 13 0), (107, .t (.slice 18 (A.map pairT))), (108, .t (I A.length)), (109, .t (I i))], bx := [(13, .d 10 (h.map I))]})
    (fun i => i ≤ A.length) (fun i => A.length - i) 0 (by omega) ?_ ?_
  · repeat' (first | (exact LeV.data _ _ _ _) | exact trivial | exact LeV.same _ | exact LeB.same _ | exact rfl | exact fun _ _ _ => trivial | exact lI | exact LeV.nil _ _ _ | exact lB | refine leBd ?_ | refine leOwn ?_ | refine And.intro ?_ ?_)
  rintro i hi
  rcases Nat.lt_or_ge i A.length with hlt | hge
  · have hx := hA _ (List.getElem_mem hlt)
    have hgv : (A.map pairT)[i]?.getD .nil = pairT A[i] := by simp [hlt]
    generalize A[i] = v at *
    obtain ⟨v1, v2⟩ := v
    obtain ⟨t1, t2, s, g1, g2⟩ := hx
    have k1 := t28 L okL 0 v1 t1 h ho
    have k2 := t28 L okL 0 v2 t2 h ho
    rw [← eo_eq, g1] at k1
    rw [← eo_eq, g2] at k2
    have so := gives_ok okL t1 ho g1
    have c14 := t14 s s so.ok.len so.ok.len (by have := so.len; omega)
    rw [beq_self_eq_true] at c14
    repeat' ((conv => whnf); first | exact trivial | (refine now_v (pairT (v1, v2)) (by first | (exact hgv; done) | fail) ?_) | (refine now_v (eo v1) (by first | (exact congrArg T.agg (pl1 (cellsS_len (rawO v1))); done) | fail) ?_) | (refine now_v (eo v2) (by first | (exact congrArg T.agg (pl2 (cellsS_len (rawO v1)) (cellsS_len (rawO v2))); done) | fail) ?_) | refine k_call _ (k1) ?_ | refine k_call _ (k2) ?_ | refine k_call _ (c14) ?_ | (exact ⟨i + 1, by omega, by omega, by (repeat' (first | exact trivial | exact LeV.same _ | exact LeB.same _ | exact rfl | exact fun _ _ _ => trivial | exact lI | exact LeV.nil _ _ _ | exact lB | refine leBd ?_ | refine leOwn ?_ | refine And.intro ?_ ?_)); done⟩) | refine now_T ?_ | refine aE1 ?_ | refine aE0 ?_ | refine aN1 ?_ | refine aN0 ?_ | refine aD1 ?_ | refine aD0 ?_ | refine now_E (fun hq => ?_) (fun hq => ?_) | refine now_N (fun hq => ?_) (fun hq => ?_) | refine now_D (fun hq => ?_) (fun hq => ?_) | refine rb1 ?_ | refine rb0 ?_ | refine rbx ?_ | refine rix ?_ | (refine And.intro (by first | (simp [T.cells, cellsS_len]; done) | (simp [hh]; done) | fail) ?_) | refine aS ?_ | fail)
  · have : i = A.length := by omega
    subst this
    repeat' ((conv => whnf); first | exact trivial | refine k_call _ (c12) ?_ | refine now_T ?_ | refine aE1 ?_ | refine aE0 ?_ | refine aN1 ?_ | refine aN0 ?_ | refine aD1 ?_ | refine aD0 ?_ | refine now_E (fun hq => ?_) (fun hq => ?_) | refine now_N (fun hq => ?_) (fun hq => ?_) | refine now_D (fun hq => ?_) (fun hq => ?_) | refine rb1 ?_ | refine rb0 ?_ | refine rbx ?_ | refine rix ?_ | refine aS ?_ | fail)
end Go.MM
end
