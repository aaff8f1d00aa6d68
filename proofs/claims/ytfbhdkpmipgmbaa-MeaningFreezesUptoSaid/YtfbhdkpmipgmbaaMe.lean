/- Joined by program: parts of a data level over the model, and of the program's functions over it. No statement here. -/
import Derived.Test.YtfbhdkpmipgmbaaProg
import Derived.Test.YtfbhdkpmipgmbaaDb
import Derived.KernelRfl
import Derived.Test.YtfbhdkpmipgmbaaMd
section
/- Lowered code of the program's functions: printed by program. No statement here. -/
namespace Go.MM
open Go Go.DL Go.Proofs
set_option maxRecDepth 100000

-- interlace/interlacelaw13.MeaningMergesSets
noncomputable def c3 : DCode := (.seq (.region [⟨some 5, .box 10 (.tmp 2), none, []⟩,
  ⟨some 6, .mov (.const (.bool false)), none, []⟩] []) (.seq (.seq (.region [⟨some 8, .mov (.tmp 0), none, []⟩,
  ⟨some 9, .call 10 [(.tmp 8), (.const (.int .i64 (100)))], none, []⟩,
  ⟨some 10, .not (.tmp 9), none, []⟩,
  ⟨some 11, .mov (.tmp 10), none, []⟩,
  ⟨some 12, .mov (.tmp 1), some (11, false), []⟩,
  ⟨some 13, .call 10 [(.tmp 12), (.const (.int .i64 (100)))], some (11, false), []⟩,
  ⟨some 14, .not (.tmp 13), some (11, false), []⟩,
  ⟨some 15, .pick (.tmp 11) (.const (.bool true)) (.tmp 14), none, []⟩,
  ⟨some 16, .mov (.tmp 15), none, []⟩,
  ⟨some 17, .load 10 true (.tmp 5), some (16, false), []⟩,
  ⟨some 18, .call 11 [(.tmp 17)], some (16, false), []⟩,
  ⟨some 19, .not (.tmp 18), some (16, false), []⟩,
  ⟨some 20, .pick (.tmp 16) (.const (.bool true)) (.tmp 19), none, []⟩] []) (.cond (.tmp 20) (.seq (.region [⟨some 21, .call 12 [], none, []⟩,
  ⟨some 6, .mov (.tmp 21), none, []⟩] []) .ret) .skip)) (.seq (.region [⟨some 22, .mov (.tmp 0), none, []⟩,
  ⟨some 23, .mov (.tmp 1), none, []⟩,
  ⟨some 24, .call 13 [(.tmp 22), (.tmp 23)], none, []⟩,
  ⟨some 7, .mov (.tmp 24), none, []⟩] []) (.seq (.region [⟨some 25, .call 12 [], none, []⟩,
  ⟨some 26, .mov (.tmp 25), none, []⟩,
  ⟨some 27, .mov (.tmp 7), some (26, true), []⟩,
  ⟨some 28, .mov (.tmp 0), some (26, true), []⟩,
  ⟨some 29, .mov (.tmp 1), some (26, true), []⟩,
  ⟨some 30, .call 15 [(.tmp 28), (.tmp 29)], some (26, true), []⟩,
  ⟨some 31, .call 14 [(.tmp 27), (.tmp 30)], some (26, true), []⟩,
  ⟨some 32, .pick (.tmp 26) (.tmp 31) (.const (.bool false)), none, []⟩,
  ⟨some 33, .mov (.tmp 32), none, []⟩,
  ⟨some 34, .mov (.tmp 0), some (33, true), []⟩,
  ⟨some 35, .load 10 true (.tmp 5), some (33, true), []⟩,
  ⟨some 36, .call 16 [(.tmp 34), (.tmp 35)], some (33, true), []⟩,
  ⟨some 37, .mov (.tmp 0), some (33, true), []⟩,
  ⟨some 38, .load 10 true (.tmp 5), some (33, true), []⟩,
  ⟨some 39, .call 17 [(.tmp 37), (.tmp 38)], some (33, true), []⟩,
  ⟨some 40, .eqB false (.tmp 36) (.tmp 39), some (33, true), []⟩,
  ⟨some 41, .pick (.tmp 33) (.tmp 40) (.const (.bool false)), none, []⟩,
  ⟨some 42, .mov (.tmp 41), none, []⟩,
  ⟨some 43, .mov (.tmp 7), some (42, true), []⟩,
  ⟨some 44, .load 10 true (.tmp 5), some (42, true), []⟩,
  ⟨some 45, .call 16 [(.tmp 43), (.tmp 44)], some (42, true), []⟩,
  ⟨some 46, .mov (.tmp 0), some (42, true), []⟩,
  ⟨some 47, .load 10 true (.tmp 5), some (42, true), []⟩,
  ⟨some 48, .call 16 [(.tmp 46), (.tmp 47)], some (42, true), []⟩,
  ⟨some 49, .mov (.tmp 48), some (42, true), []⟩,
  ⟨some 50, .mov (.tmp 1), some (49, false), []⟩,
  ⟨some 51, .load 10 true (.tmp 5), some (49, false), []⟩,
  ⟨some 52, .call 16 [(.tmp 50), (.tmp 51)], some (49, false), []⟩,
  ⟨some 53, .pick (.tmp 49) (.const (.bool true)) (.tmp 52), some (42, true), []⟩,
  ⟨some 54, .eqB false (.tmp 45) (.tmp 53), some (42, true), []⟩,
  ⟨some 55, .pick (.tmp 42) (.tmp 54) (.const (.bool false)), none, []⟩,
  ⟨some 6, .mov (.tmp 55), none, []⟩] []) .ret))))
theorem l3 : (Try.f3.body.bind (lowC Try.prog 56 [])) = some c3 := by kernel_rfl

end Go.MM
end
section
/- Meaning: the law 'merges sets'. -/
namespace Go.MM
open Go Go.DL Go.Proofs
set_option maxRecDepth 100000
set_option maxHeartbeats 8000000

theorem s10 (a : List (List Int)) (v : Bool) (ha : Len10 a) (hl : a.length < 2 ^ 63) (h : (setB a && decide ((a.length : Int) ≤ 100)) = v) : DCalls Try.prog 10 [heads a, I 100] (.bool v) := h ▸ t10 a 100 ha hl
theorem s11 (h : List Int) (v : Bool) (hh : h.length = 10) (e : rightH h = v) : DCalls Try.prog 11 [hd h] (.bool v) := e ▸ t11 h hh

theorem s16d (hs : List (List Int)) (h : List Int) (v : Bool) (hsr : Srt hs) (hw : Len10 hs) (hh : h.length = 10) (hl : hs.length < 2 ^ 40) (e : hs.contains h = v) : DCalls Try.prog 16 [heads hs, hd h] (.bool v) := e ▸ t16 hs h hsr hw hh hl
theorem s17d (hs : List (List Int)) (h : List Int) (v : Bool) (hw : Len10 hs) (hh : h.length = 10) (hl : hs.length < 2 ^ 40) (e : hs.contains h = v) : DCalls Try.prog 17 [heads hs, hd h] (.bool v) := e ▸ t17 hs h hw hh (by omega)

theorem setB_ok {a : List (List Int)} (ha : Len10 a) (h : (setB a && decide ((a.length : Int) ≤ 100)) = true) : SOk a := by
  rw [Bool.and_eq_true, decide_eq_true_eq] at h
  obtain ⟨h1, h2⟩ := h
  rw [setB_get] at h1
  refine ⟨?_, fun x hx => ?_, by omega⟩
  · refine List.pairwise_iff_getElem.2 fun i j hi hj hij => ?_
    have key : ∀ d (hd : i + 1 + d < a.length), cmpL a[i] a[i + 1 + d] < 0 := fun d => by
      induction d with
      | zero => exact fun hd => (h1 (i + 1) hd).2 (by omega)
      | succ d ih =>
        intro hd
        have h3 := ih (by omega)
        have h4 := (h1 (i + 1 + (d + 1)) hd).2 (by omega)
        exact cmpL_trans (by rw [ha _ (List.getElem_mem hi), ha _ (List.getElem_mem _)]) (by rw [ha _ (List.getElem_mem _), ha _ (List.getElem_mem _)]) h3 h4
    have := key (j - i - 1) (by omega)
    have e : i + 1 + (j - i - 1) = j := by omega
    simpa only [e] using this
  · obtain ⟨i, hi, rfl⟩ := List.getElem_of_mem hx
    exact ⟨ha _ hx, (h1 i hi).1⟩

theorem f3 (a b : List (List Int)) (h : List Int) (ha : Len10 a) (hb : Len10 b) (hh : h.length = 10) (la : a.length < 2 ^ 63) (lb : b.length < 2 ^ 63) :
    DCalls Try.prog 3 [heads a, heads b, hd h] (.bool true) := by
  refine dcalls_low (rs := [.tmp 6]) mixed Try.func3 l3 rfl rfl rfl (r := [.bool true]) (Nat.le_of_ble_eq_true rfl) ?_
  refine And.intro (by simp [hh]) ?_
  have A : ∀ v, (setB a && decide ((a.length : Int) ≤ 100)) = v → DCalls Try.prog 10 [heads a, I 100] (.bool v) := fun v e => s10 a v ha la e
  have B : ∀ v, (setB b && decide ((b.length : Int) ≤ 100)) = v → DCalls Try.prog 10 [heads b, I 100] (.bool v) := fun v e => s10 b v hb lb e
  rcases hA : (setB a && decide ((a.length : Int) ≤ 100)) with _ | _
  · refine k_call _ (A _ hA) ?_
    refine k_call _ t12 ?_
    exact ⟨rfl, trivial⟩
  refine k_call _ (A _ hA) ?_
  rcases hB : (setB b && decide ((b.length : Int) ≤ 100)) with _ | _
  · refine k_call _ (B _ hB) ?_
    refine k_call _ t12 ?_
    exact ⟨rfl, trivial⟩
  refine k_call _ (B _ hB) ?_
  rcases hR : rightH h with _ | _
  · refine k_call _ (s11 h _ hh hR) ?_
    refine k_call _ t12 ?_
    exact ⟨rfl, trivial⟩
  refine k_call _ (s11 h _ hh hR) ?_
  have sa : SOk a := setB_ok ha hA
  have sb : SOk b := setB_ok hb hB
  have na := sa.len
  have nb := sb.len
  have hm : Len10 (mrg a b) := fun x hx => ((mem_mrg ha hb).1 hx).elim (ha x) (hb x)
  have hs : Srt (mrg a b) := srt_mrg ha hb sa.srt sb.srt
  have hl : (mrg a b).length ≤ a.length + b.length := len_mrg a b
  have hl2 : (mrg a b).length < 2 ^ 40 := by have := sa.len; have := sb.len; omega
  refine k_call _ (t13d a b ha hb (by have := sa.len; have := sb.len; omega)) ?_
  refine k_call _ t12 ?_
  refine k_call _ (t15m a b sa sb) ?_
  refine k_call _ (s14 (mrg a b) hm (by omega)) ?_
  have hc : (mrg a b).contains h = (a.contains h || b.contains h) := by
    rw [Bool.eq_iff_iff]
    simp only [List.contains_iff_mem, Bool.or_eq_true]
    exact mem_mrg ha hb
  refine k_pick true (.t (.bool true)) rfl rfl ?_
  rcases ca : a.contains h with _ | _ <;> rcases cb : b.contains h with _ | _ <;> rw [ca, cb] at hc
  · refine k_call _ (s16d a h _ sa.srt ha hh (by omega) ca) ?_
    refine k_call _ (s17d a h _ ha hh (by omega) ca) ?_
    refine k_val true trivial rfl ?_
    refine k_pick true (.t (.bool true)) rfl rfl ?_
    refine k_call _ (s16d (mrg a b) h _ hs hm hh hl2 hc) ?_
    refine k_call _ (s16d a h _ sa.srt ha hh (by omega) ca) ?_
    refine k_call _ (s16d b h _ sb.srt hb hh (by omega) cb) ?_
    refine k_val true trivial rfl ?_
    exact ⟨rfl, trivial⟩
  · refine k_call _ (s16d a h _ sa.srt ha hh (by omega) ca) ?_
    refine k_call _ (s17d a h _ ha hh (by omega) ca) ?_
    refine k_val true trivial rfl ?_
    refine k_pick true (.t (.bool true)) rfl rfl ?_
    refine k_call _ (s16d (mrg a b) h _ hs hm hh hl2 hc) ?_
    refine k_call _ (s16d a h _ sa.srt ha hh (by omega) ca) ?_
    refine k_call _ (s16d b h _ sb.srt hb hh (by omega) cb) ?_
    refine k_val true trivial rfl ?_
    exact ⟨rfl, trivial⟩
  · refine k_call _ (s16d a h _ sa.srt ha hh (by omega) ca) ?_
    refine k_call _ (s17d a h _ ha hh (by omega) ca) ?_
    refine k_val true trivial rfl ?_
    refine k_pick true (.t (.bool true)) rfl rfl ?_
    refine k_call _ (s16d (mrg a b) h _ hs hm hh hl2 hc) ?_
    refine k_call _ (s16d a h _ sa.srt ha hh (by omega) ca) ?_
    refine k_val true trivial rfl ?_
    exact ⟨rfl, trivial⟩
  · refine k_call _ (s16d a h _ sa.srt ha hh (by omega) ca) ?_
    refine k_call _ (s17d a h _ ha hh (by omega) ca) ?_
    refine k_val true trivial rfl ?_
    refine k_pick true (.t (.bool true)) rfl rfl ?_
    refine k_call _ (s16d (mrg a b) h _ hs hm hh hl2 hc) ?_
    refine k_call _ (s16d a h _ sa.srt ha hh (by omega) ca) ?_
    refine k_val true trivial rfl ?_
    exact ⟨rfl, trivial⟩

end Go.MM
end
section
/- Meaning: what the arguments of the statements read as. -/
namespace Go.MM
open Go Go.DL Go.Proofs
set_option maxRecDepth 100000
set_option maxHeartbeats 4000000

/-- The types of the arguments. -/
def types : List TypeId := [3, 9, 22, 24, 32, 86, 33, 35, 36, 38]
theorem und33 : Try.prog.underlying 33 = some (.slice 35) := by kernel_rfl
theorem und36 : Try.prog.underlying 36 = some (.slice 38) := by kernel_rfl
theorem types_ok : closedB Try.prog types = true := by kernel_rfl

theorem cells3 : Try.prog.cellsOf 3 = 1 := by kernel_rfl
theorem cells24 : Try.prog.cellsOf 24 = 10 := by kernel_rfl

theorem hasInt {us : List T} (h : HasC Try.prog 3 us) : ∃ n, us = [I n] ∧ (Lit.int .i64 n).wf = true := by
  cases h with
  | int h n hw => rw [Try.underlying3] at h; cases h; exact ⟨n, rfl, hw⟩
  | bool h | str h | nil h | slice h | struct h | array h => rw [Try.underlying3] at h; cases h

theorem hasHead {us : List T} (h : HasC Try.prog 24 us) : ∃ x : List Int, us = x.map I ∧ x.length = 10 ∧ ∀ n ∈ x, (Lit.int .i64 n).wf = true := by
  cases h with
  | array h us hl hf =>
    rw [Try.underlying24] at h
    cases h
    rw [cells24] at hl
    have key : ∀ i, i < 10 → ∃ n, us[i]? = some (I n) ∧ (Lit.int .i64 n).wf = true := fun i hi => by
      obtain ⟨n, e, w⟩ := hasInt (hf i hi)
      rw [cells3, Nat.mul_one, List.take_one] at e
      refine ⟨n, ?_, w⟩
      have : (us.drop i).head? = us[i]? := by rw [List.head?_drop]
      rw [this] at e
      cases hx : us[i]? with
      | none => rw [hx] at e; cases e
      | some x => rw [hx] at e; cases e; rfl
    refine ⟨us.map fun t => match t with | .int _ n => n | _ => 0, ?_, by simpa using hl, fun n hn => ?_⟩
    · refine List.ext_getElem? fun i => ?_
      rcases Nat.lt_or_ge i 10 with hi | hi
      · obtain ⟨n, e, _⟩ := key i hi
        rw [e]
        simp [e]
      · rw [List.getElem?_eq_none (by omega), List.getElem?_eq_none (by simp; omega)]
    · obtain ⟨t, ht, rfl⟩ := List.mem_map.1 hn
      obtain ⟨i, hi⟩ := List.mem_iff_getElem?.1 ht
      obtain ⟨n, e, w⟩ := key i (by have := (List.getElem?_eq_some_iff.1 hi).1; omega)
      rw [e] at hi
      cases hi
      exact w
  | int h | bool h | str h | nil h | slice h | struct h => rw [Try.underlying24] at h; cases h

theorem mk24 (us : List T) : mkT Try.prog 24 us = .agg us := by unfold mkT; rw [Try.underlying24]

/-- A set of heads, as it is read: nil, or words. -/
theorem hasHeads {us : List T} (h : HasC Try.prog 22 us) : ∃ a : List (List Int), Len10 a ∧ a.length < 2 ^ 63 ∧ (∀ x ∈ a, ∀ n ∈ x, (Lit.int .i64 n).wf = true) ∧
    (mkT Try.prog 22 us = heads a ∨ (mkT Try.prog 22 us = .nil ∧ a = [])) := by
  have e : ∀ t, mkT Try.prog 22 [t] = t := fun t => by unfold mkT; rw [Try.underlying22]; rfl
  cases h with
  | nil h => exact ⟨[], by simp [Len10], by decide, by simp, .inr ⟨e _, rfl⟩⟩
  | slice h xs hx hl =>
    rw [Try.underlying22] at h
    cases h
    have h0 : ∀ x : List T, ∃ y : List Int, x ∈ xs → x = y.map I ∧ y.length = 10 ∧ ∀ n ∈ y, (Lit.int .i64 n).wf = true := fun x => by
      by_cases hm : x ∈ xs
      · obtain ⟨y, hy⟩ := hasHead (hx x hm)
        exact ⟨y, fun _ => hy⟩
      · exact ⟨[], fun h => absurd h hm⟩
    obtain ⟨f, hf⟩ := Classical.axiomOfChoice h0
    refine ⟨xs.map f, fun y hy => ?_, ?_, fun y hy => ?_, .inl ?_⟩
    · obtain ⟨x, hm, rfl⟩ := List.mem_map.1 hy
      exact (hf x hm).2.1
    · rw [List.length_map]
      exact Nat.lt_of_le_of_lt hl (by decide)
    · obtain ⟨x, hm, rfl⟩ := List.mem_map.1 hy
      exact (hf x hm).2.2
    · rw [e, cells24]
      unfold heads
      congr 1
      rw [List.map_map]
      refine List.map_congr_left fun x hm => ?_
      rw [mk24]
      unfold hd
      rw [Function.comp, ← (hf x hm).1]
  | int h | bool h | str h | array h | struct h => rw [Try.underlying22] at h; cases h

end Go.MM
end
