/- Joined by program: parts of a data level over the model, and of the program's functions over it. No statement here. -/
import Derived.Test.YtfbhdkpmipgmbaaProg
import Derived.Test.YtfbhdkpmipgmbaaDb
import Derived.KernelRfl
import Derived.Test.YtfbhdkpmipgmbaaMi
section
/- Lowered code of the program's functions: printed by program. No statement here. -/
namespace Go.MM
open Go Go.DL Go.Proofs
set_option maxRecDepth 100000

-- interlace/interlacelaw13.MeaningStarIsLeast
noncomputable def c8 : DCode := (.seq (.region [⟨some 7, .box 9 (.tmp 1), none, []⟩,
  ⟨some 8, .box 9 (.tmp 2), none, []⟩,
  ⟨some 9, .box 10 (.tmp 3), none, []⟩,
  ⟨some 12, .mov (.const (.bool false)), none, []⟩] []) (.seq (.seq (.region [⟨some 20, .mov (.tmp 0), none, []⟩,
  ⟨some 21, .load 10 true (.tmp 9), none, []⟩,
  ⟨some 22, .mov (.tmp 5), none, []⟩,
  ⟨some 23, .load 9 true (.tmp 7), none, []⟩,
  ⟨some 24, .load 9 true (.tmp 8), none, []⟩,
  ⟨some 25, .buildS 38 9 2 [(.int .i64 (0)), (.int .i64 (0)), (.str ⟨#[]⟩), (.int .i64 (0)), (.int .i64 (0)), .nil, (.str ⟨#[]⟩), (.int .i64 (0)), .nil] [(0, (.tmp 23)), (1, (.tmp 24))], none, []⟩,
  ⟨some 26, .call 18 [(.tmp 20), (.tmp 21), (.tmp 22), (.tmp 25)], none, []⟩,
  ⟨some 27, .not (.tmp 26), none, []⟩,
  ⟨some 28, .mov (.tmp 27), none, []⟩,
  ⟨some 29, .mov (.tmp 4), some (28, false), []⟩,
  ⟨some 30, .call 10 [(.tmp 29), (.const (.int .i64 (40)))], some (28, false), []⟩,
  ⟨some 31, .not (.tmp 30), some (28, false), []⟩,
  ⟨some 32, .pick (.tmp 28) (.const (.bool true)) (.tmp 31), none, []⟩,
  ⟨some 33, .mov (.tmp 32), none, []⟩,
  ⟨some 34, .load 9 true (.tmp 7), some (33, false), []⟩,
  ⟨some 35, .load 9 true (.tmp 8), some (33, false), []⟩,
  ⟨some 36, .call 19 [(.tmp 34), (.tmp 35)], some (33, false), []⟩,
  ⟨some 37, .call 26 [(.tmp 36)], some (33, false), []⟩,
  ⟨some 38, .call 26 [(.tmp 37)], some (33, false), []⟩,
  ⟨some 39, .call 38 [(.tmp 38)], some (33, false), []⟩,
  ⟨some 40, .not (.tmp 39), some (33, false), []⟩,
  ⟨some 41, .pick (.tmp 33) (.const (.bool true)) (.tmp 40), none, []⟩] []) (.cond (.tmp 41) (.seq (.region [⟨some 42, .call 12 [], none, []⟩,
  ⟨some 12, .mov (.tmp 42), none, []⟩] []) .ret) .skip)) (.seq (.region [⟨some 43, .load 9 true (.tmp 7), none, []⟩,
  ⟨some 44, .call 26 [(.tmp 43)], none, []⟩,
  ⟨some 13, .alloc [(.int .i64 (0)), (.int .i64 (0)), (.str ⟨#[]⟩), (.int .i64 (0)), (.int .i64 (0)), .nil, (.str ⟨#[]⟩), (.int .i64 (0)), .nil], none, []⟩,
  ⟨none, .store 9 (.tmp 13) (.tmp 44), none, []⟩] []) (.seq (.seq (.region [⟨some 45, .load 9 true (.tmp 13), none, []⟩,
  ⟨some 46, .call 22 [], none, []⟩,
  ⟨some 47, .load 9 true (.tmp 7), none, []⟩,
  ⟨some 48, .load 9 true (.tmp 13), none, []⟩,
  ⟨some 49, .call 21 [(.tmp 47), (.tmp 48)], none, []⟩,
  ⟨some 50, .call 19 [(.tmp 46), (.tmp 49)], none, []⟩,
  ⟨some 51, .build [(.int .i64 (0)), (.int .i64 (0)), (.str ⟨#[]⟩), (.int .i64 (0)), (.int .i64 (0)), .nil, (.str ⟨#[]⟩), (.int .i64 (0)), .nil, (.int .i64 (0)), (.int .i64 (0)), (.str ⟨#[]⟩), (.int .i64 (0)), (.int .i64 (0)), .nil, (.str ⟨#[]⟩), (.int .i64 (0)), .nil] [(0, 9, (.tmp 45)), (9, 9, (.tmp 50))], none, []⟩,
  ⟨some 52, .load 9 true (.tmp 13), none, []⟩,
  ⟨some 53, .call 22 [], none, []⟩,
  ⟨some 54, .load 9 true (.tmp 13), none, []⟩,
  ⟨some 55, .load 9 true (.tmp 7), none, []⟩,
  ⟨some 56, .call 21 [(.tmp 54), (.tmp 55)], none, []⟩,
  ⟨some 57, .call 19 [(.tmp 53), (.tmp 56)], none, []⟩,
  ⟨some 58, .build [(.int .i64 (0)), (.int .i64 (0)), (.str ⟨#[]⟩), (.int .i64 (0)), (.int .i64 (0)), .nil, (.str ⟨#[]⟩), (.int .i64 (0)), .nil, (.int .i64 (0)), (.int .i64 (0)), (.str ⟨#[]⟩), (.int .i64 (0)), (.int .i64 (0)), .nil, (.str ⟨#[]⟩), (.int .i64 (0)), .nil] [(0, 9, (.tmp 52)), (9, 9, (.tmp 57))], none, []⟩,
  ⟨some 59, .load 9 true (.tmp 13), none, []⟩,
  ⟨some 60, .load 9 true (.tmp 13), none, []⟩,
  ⟨some 61, .call 26 [(.tmp 60)], none, []⟩,
  ⟨some 62, .build [(.int .i64 (0)), (.int .i64 (0)), (.str ⟨#[]⟩), (.int .i64 (0)), (.int .i64 (0)), .nil, (.str ⟨#[]⟩), (.int .i64 (0)), .nil, (.int .i64 (0)), (.int .i64 (0)), (.str ⟨#[]⟩), (.int .i64 (0)), (.int .i64 (0)), .nil, (.str ⟨#[]⟩), (.int .i64 (0)), .nil] [(0, 9, (.tmp 59)), (9, 9, (.tmp 61))], none, []⟩,
  ⟨some 63, .load 9 true (.tmp 13), none, []⟩,
  ⟨some 64, .load 9 true (.tmp 13), none, []⟩,
  ⟨some 65, .load 9 true (.tmp 13), none, []⟩,
  ⟨some 66, .call 21 [(.tmp 64), (.tmp 65)], none, []⟩,
  ⟨some 67, .build [(.int .i64 (0)), (.int .i64 (0)), (.str ⟨#[]⟩), (.int .i64 (0)), (.int .i64 (0)), .nil, (.str ⟨#[]⟩), (.int .i64 (0)), .nil, (.int .i64 (0)), (.int .i64 (0)), (.str ⟨#[]⟩), (.int .i64 (0)), (.int .i64 (0)), .nil, (.str ⟨#[]⟩), (.int .i64 (0)), .nil] [(0, 9, (.tmp 63)), (9, 9, (.tmp 66))], none, []⟩,
  ⟨some 68, .load 9 true (.tmp 7), none, []⟩,
  ⟨some 69, .load 9 true (.tmp 8), none, []⟩,
  ⟨some 70, .call 19 [(.tmp 68), (.tmp 69)], none, []⟩,
  ⟨some 71, .call 26 [(.tmp 70)], none, []⟩,
  ⟨some 72, .load 9 true (.tmp 13), none, []⟩,
  ⟨some 73, .load 9 true (.tmp 8), none, []⟩,
  ⟨some 74, .load 9 true (.tmp 13), none, []⟩,
  ⟨some 75, .call 21 [(.tmp 73), (.tmp 74)], none, []⟩,
  ⟨some 76, .call 26 [(.tmp 75)], none, []⟩,
  ⟨some 77, .call 21 [(.tmp 72), (.tmp 76)], none, []⟩,
  ⟨some 78, .build [(.int .i64 (0)), (.int .i64 (0)), (.str ⟨#[]⟩), (.int .i64 (0)), (.int .i64 (0)), .nil, (.str ⟨#[]⟩), (.int .i64 (0)), .nil, (.int .i64 (0)), (.int .i64 (0)), (.str ⟨#[]⟩), (.int .i64 (0)), (.int .i64 (0)), .nil, (.str ⟨#[]⟩), (.int .i64 (0)), .nil] [(0, 9, (.tmp 71)), (9, 9, (.tmp 77))], none, []⟩,
  ⟨some 79, .buildT 18 5 [(.int .i64 (0)), (.int .i64 (0)), (.str ⟨#[]⟩), (.int .i64 (0)), (.int .i64 (0)), .nil, (.str ⟨#[]⟩), (.int .i64 (0)), .nil, (.int .i64 (0)), (.int .i64 (0)), (.str ⟨#[]⟩), (.int .i64 (0)), (.int .i64 (0)), .nil, (.str ⟨#[]⟩), (.int .i64 (0)), .nil] [(0, (.tmp 51)), (1, (.tmp 58)), (2, (.tmp 62)), (3, (.tmp 67)), (4, (.tmp 78))], none, []⟩,
  ⟨some 80, .len (.tmp 79), none, []⟩,
  ⟨some 81, .mov (.const (.int .i64 (0))), none, []⟩] []) (.block 0 (.loop (.seq (.region [⟨some 82, .bin .lss (.tmp 81) (.tmp 80), none, []⟩] []) (.seq (.cond (.tmp 82) .skip (.exit 0)) (.seq (.block 1 (.seq (.region [⟨some 83, .idxL 18 (.tmp 79) (.tmp 81), none, []⟩,
  ⟨some 84, .load 18 true (.tmp 83), none, []⟩,
  ⟨some 15, .alloc [(.int .i64 (0)), (.int .i64 (0)), (.str ⟨#[]⟩), (.int .i64 (0)), (.int .i64 (0)), .nil, (.str ⟨#[]⟩), (.int .i64 (0)), .nil, (.int .i64 (0)), (.int .i64 (0)), (.str ⟨#[]⟩), (.int .i64 (0)), (.int .i64 (0)), .nil, (.str ⟨#[]⟩), (.int .i64 (0)), .nil], none, []⟩,
  ⟨none, .store 18 (.tmp 15) (.tmp 84), none, []⟩] []) (.seq (.region [⟨some 85, .mov (.tmp 0), none, []⟩,
  ⟨some 86, .idxA 2 9 (.tmp 15) (.const (.int .i64 (0))), none, []⟩,
  ⟨some 87, .load 9 true (.tmp 86), none, []⟩,
  ⟨some 88, .idxA 2 9 (.tmp 15) (.const (.int .i64 (1))), none, []⟩,
  ⟨some 89, .load 9 true (.tmp 88), none, []⟩,
  ⟨some 90, .load 10 true (.tmp 9), none, []⟩,
  ⟨some 91, .mov (.tmp 5), none, []⟩,
  ⟨some 92, .call 23 [(.tmp 85), (.tmp 87), (.tmp 89), (.tmp 90), (.tmp 91)], none, []⟩,
  ⟨some 93, .not (.tmp 92), none, []⟩] []) (.cond (.tmp 93) (.seq (.region [⟨some 12, .mov (.const (.bool false)), none, []⟩] []) .ret) .skip)))) (.region [⟨some 94, .bin .add (.tmp 81) (.const (.int .i64 (1))), none, []⟩,
  ⟨some 81, .mov (.tmp 94), none, []⟩] []))))))) (.seq (.seq (.region [⟨some 95, .mov (.tmp 0), none, []⟩,
  ⟨some 96, .load 9 true (.tmp 13), none, []⟩,
  ⟨some 97, .load 9 true (.tmp 7), none, []⟩,
  ⟨some 98, .call 27 [(.tmp 95), (.tmp 96), (.tmp 97)], none, []⟩,
  ⟨some 99, .not (.tmp 98), none, []⟩] []) (.cond (.tmp 99) (.seq (.region [⟨some 100, .call 12 [], none, []⟩,
  ⟨some 12, .mov (.tmp 100), none, []⟩] []) .ret) .skip)) (.seq (.region [⟨some 102, .mov (.tmp 0), none, []⟩,
  ⟨some 103, .load 9 true (.tmp 13), none, []⟩,
  ⟨some 104, .load 10 true (.tmp 9), none, []⟩,
  ⟨some 105, .mov (.tmp 5), none, []⟩,
  ⟨some 106, .call 28 [(.tmp 102), (.tmp 103), (.tmp 104), (.tmp 105)], none, []⟩,
  ⟨some 101, .mov (.tmp 106), none, []⟩,
  ⟨some 107, .ext (.tmp 101) 0, none, []⟩,
  ⟨some 108, .ext (.tmp 101) 1, none, []⟩,
  ⟨some 16, .mov (.tmp 107), none, []⟩,
  ⟨some 17, .mov (.tmp 108), none, []⟩] []) (.seq (.region [⟨some 110, .mov (.tmp 0), none, []⟩,
  ⟨some 111, .load 9 true (.tmp 7), none, []⟩,
  ⟨some 112, .mov (.tmp 4), none, []⟩,
  ⟨some 113, .mov (.tmp 5), none, []⟩,
  ⟨some 114, .call 32 [(.tmp 110), (.tmp 111), (.tmp 112), (.tmp 113)], none, []⟩,
  ⟨some 109, .mov (.tmp 114), none, []⟩,
  ⟨some 115, .ext (.tmp 109) 0, none, []⟩,
  ⟨some 116, .ext (.tmp 109) 1, none, []⟩,
  ⟨some 18, .mov (.tmp 115), none, []⟩,
  ⟨some 19, .mov (.tmp 116), none, []⟩] []) (.seq (.seq (.region [⟨some 117, .mov (.tmp 17), none, []⟩,
  ⟨some 118, .bin .neq (.tmp 117) (.const (.int .i64 (0))), none, []⟩,
  ⟨some 119, .mov (.tmp 118), none, []⟩,
  ⟨some 120, .mov (.tmp 19), some (119, false), []⟩,
  ⟨some 121, .bin .neq (.tmp 120) (.const (.int .i64 (0))), some (119, false), []⟩,
  ⟨some 122, .pick (.tmp 119) (.const (.bool true)) (.tmp 121), none, []⟩,
  ⟨some 123, .mov (.tmp 122), none, []⟩,
  ⟨some 124, .mov (.tmp 4), some (123, false), []⟩,
  ⟨some 125, .load 10 true (.tmp 9), some (123, false), []⟩,
  ⟨some 126, .call 17 [(.tmp 124), (.tmp 125)], some (123, false), []⟩,
  ⟨some 127, .not (.tmp 126), some (123, false), []⟩,
  ⟨some 128, .pick (.tmp 123) (.const (.bool true)) (.tmp 127), none, []⟩,
  ⟨some 129, .mov (.tmp 128), none, []⟩,
  ⟨some 130, .mov (.tmp 4), some (129, false), []⟩,
  ⟨some 131, .mov (.tmp 18), some (129, false), []⟩,
  ⟨some 132, .call 15 [(.tmp 130), (.tmp 131)], some (129, false), []⟩,
  ⟨some 133, .len (.tmp 132), some (129, false), []⟩,
  ⟨some 134, .mov (.tmp 4), some (129, false), []⟩,
  ⟨some 135, .len (.tmp 134), some (129, false), []⟩,
  ⟨some 136, .bin .gtr (.tmp 133) (.tmp 135), some (129, false), []⟩,
  ⟨some 137, .pick (.tmp 129) (.const (.bool true)) (.tmp 136), none, []⟩] []) (.cond (.tmp 137) (.seq (.region [⟨some 138, .call 12 [], none, []⟩,
  ⟨some 12, .mov (.tmp 138), none, []⟩] []) .ret) .skip)) (.seq (.region [⟨some 139, .call 12 [], none, []⟩,
  ⟨some 140, .mov (.tmp 139), none, []⟩,
  ⟨some 141, .mov (.tmp 4), some (140, true), []⟩,
  ⟨some 142, .mov (.tmp 16), some (140, true), []⟩,
  ⟨some 143, .call 15 [(.tmp 141), (.tmp 142)], some (140, true), []⟩,
  ⟨some 144, .mov (.tmp 4), some (140, true), []⟩,
  ⟨some 145, .call 14 [(.tmp 143), (.tmp 144)], some (140, true), []⟩,
  ⟨some 146, .pick (.tmp 140) (.tmp 145) (.const (.bool false)), none, []⟩,
  ⟨some 12, .mov (.tmp 146), none, []⟩] []) .ret)))))))))
theorem l8 : (Try.f8.body.bind (lowC Try.prog 147 [])) = some c8 := by kernel_rfl

end Go.MM
end
section
/- Meaning: the statement that the star is least. -/
namespace Go.MM
open Go Go.DL Go.Proofs
set_option maxRecDepth 100000
set_option maxHeartbeats 16000000

theorem nodup_len {α : Type} [DecidableEq α] : ∀ {a m : List α}, a.Nodup → (∀ x ∈ a, x ∈ m) → a.length ≤ m.length
  | [], m, _, _ => by simp
  | x :: a, m, hn, hs => by
    have hx := hs x (by simp)
    rw [List.nodup_cons] at hn
    have := nodup_len (a := a) (m := m.erase x) hn.2 fun y hy => by
      have hne : y ≠ x := fun e => hn.1 (e ▸ hy)
      exact (List.mem_erase_of_ne hne).2 (hs y (by simp [hy]))
    have h1 := List.length_erase_of_mem hx
    have h2 : 0 < m.length := List.length_pos_of_mem hx
    simp only [List.length_cons]
    omega
theorem srt_nodup {a : List (List Int)} (h : Srt a) : a.Nodup := h.imp fun {x y} hxy e => by
  subst e
  have := cmpL_self x
  omega

theorem mrg_le {a b : List (List Int)} (ha : SOk a) (hb : SOk b) (hl : (mrg a b).length ≤ a.length) : ∀ z ∈ b, z ∈ a := fun z hz => by
  by_cases h : z ∈ a
  · exact h
  · have hn : (z :: a).Nodup := List.nodup_cons.2 ⟨h, srt_nodup ha.srt⟩
    have := nodup_len hn fun x hx => by
      rw [mem_mrg ha.ok.len hb.ok.len]
      rcases List.mem_cons.1 hx with rfl | hx
      · exact .inr hz
      · exact .inl hx
    simp only [List.length_cons] at this
    omega
theorem mrg_sub {a b : List (List Int)} (ha : SOk a) (hb : SOk b) (h : ∀ z ∈ b, z ∈ a) : mrg a b = a := by
  have hs := srt_mrg ha.ok.len hb.ok.len ha.srt hb.srt
  have ho := allOk_mrg ha.ok hb.ok
  have hm : ∀ z, z ∈ mrg a b ↔ z ∈ a := fun z => by
    rw [mem_mrg ha.ok.len hb.ok.len]
    exact ⟨fun hz => hz.elim id (h z), .inl⟩
  have hl : (mrg a b).length ≤ 256 := Nat.le_trans (nodup_len (srt_nodup hs) fun x hx => (hm x).1 hx) ha.len
  exact sok_ext ⟨hs, ho, hl⟩ ha hm

/-- What is said of the star. -/
def stars (p q : Po) : List (Po × Po) := [(.star p, .union idO (.seq p (.star p))), (.star p, .union idO (.seq (.star p) p)), (.star p, .star (.star p)), (.star p, .seq (.star p) (.star p)), (.star (.union p q), .seq (.star p) (.star (.seq q (.star p))))]

theorem stars_ok (l : List Fd) (tick : Int) (h : List Int) (p q : Po) (hp : Sm (rawO p)) (hq : Sm (rawO q)) (wp : wO p ≤ 2 ^ 20) (wq : wO q ≤ 2 ^ 20) : ∀ x ∈ stars p q, PairOk l tick h x := by
  have np := hp.nm
  have nq := hq.nm
  have un := @nm_union
  have sq := @nm_seq
  have st := @nm_star
  intro x hx
  simp only [stars, List.mem_cons, List.not_mem_nil, or_false] at hx
  have w : ∀ y : Po, wO y ≤ 2 ^ 30 → NmO y → Sm (rawO y) := fun y h1 h2 => ⟨by simp only [wO] at h1; omega, h2⟩
  have wu := wt_union
  have wsq := wt_seq
  have wst := wt_star
  have wi := wt_id
  have s1 : Sm (rawO (.star p)) := w _ (by rw [wst]; omega) (st np)
  rcases hx with rfl | rfl | rfl | rfl | rfl
  · refine ⟨s1, w _ (by rw [wu, wsq, wst, wi]; omega) (un nm_id (sq np (st np))), fun z => ?_⟩
    simp only [Den, idO, holds, true_and]
    constructor
    · intro hr
      rcases hr.head with rfl | ⟨c, h1, h2⟩
      · exact .inl rfl
      · exact .inr ⟨c, h1, h2⟩
    · rintro (rfl | ⟨y, h1, h2⟩)
      · exact .refl _
      · exact (Reach.one h1).trans h2
  · refine ⟨s1, w _ (by rw [wu, wsq, wst, wi]; omega) (un nm_id (sq (st np) np)), fun z => ?_⟩
    simp only [Den, idO, holds, true_and]
    constructor
    · intro hr
      cases hr with
      | refl => exact .inl rfl
      | step a b => exact .inr ⟨_, a, b⟩
    · rintro (rfl | ⟨y, h1, h2⟩)
      · exact .refl _
      · exact .step h1 h2
  · refine ⟨s1, w _ (by rw [wst, wst]; omega) (st (st np)), fun z => ?_⟩
    simp only [Den]
    exact ⟨fun hr => Reach.one hr, fun hr => by
      have := Reach.mono (R' := Den l tick p) (fun a b hab => hab) hr
      exact this⟩
  · refine ⟨s1, w _ (by rw [wsq, wst]; omega) (sq (st np) (st np)), fun z => ?_⟩
    simp only [Den]
    exact ⟨fun hr => ⟨z, hr, .refl z⟩, fun ⟨y, h1, h2⟩ => h1.trans h2⟩
  · refine ⟨w _ (by rw [wst, wu]; omega) (st (un np nq)), w _ (by rw [wsq, wst, wst, wsq, wst]; omega) (sq (st np) (st (sq nq (st np)))), fun z => ?_⟩
    simp only [Den]
    constructor
    · intro hr
      induction hr with
      | refl => exact ⟨h, .refl _, .refl _⟩
      | @step y z _ r ih =>
        obtain ⟨u, h1, h2⟩ := ih
        rcases r with r | r
        · -- a step of p behind
          cases h2 with
          | refl => exact ⟨z, .step h1 r, .refl _⟩
          | step a b =>
            obtain ⟨v, b1, b2⟩ := b
            exact ⟨u, h1, .step a ⟨v, b1, .step b2 r⟩⟩
        · exact ⟨u, h1, .step h2 ⟨z, r, .refl _⟩⟩
    · rintro ⟨u, h1, h2⟩
      have k1 : Reach (fun a b => Den l tick p a b ∨ Den l tick q a b) h u := Reach.mono (fun a b hab => Reach.one (.inl hab)) h1
      refine k1.trans (Reach.mono (fun a b hab => ?_) h2)
      obtain ⟨v, b1, b2⟩ := hab
      exact (Reach.one (.inr b1)).trans (Reach.mono (fun a b hab => Reach.one (.inl hab)) b2)

theorem list5' {a0 a1 a2 a3 a4 b0 b1 b2 b3 b4 : T} (h0 : a0 = b0) (h1 : a1 = b1) (h2 : a2 = b2) (h3 : a3 = b3) (h4 : a4 = b4) : [a0, a1, a2, a3, a4] = [b0, b1, b2, b3, b4] := by
  rw [h0, h1, h2, h3, h4]

theorem t8 (l : List RF) (hl : l.length < 2 ^ 60) (hn : ∀ f ∈ l, f.name.size < 2 ^ 62) (r1 r2 : RO) (hr1 : Sm r1) (hr2 : Sm r2) (w1 : r1.wt ≤ 2 ^ 20) (w2 : r2.wt ≤ 2 ^ 20) (h : List Int) (hh : h.length = 10) (hs : List (List Int)) (hw : Len10 hs) (hlen : hs.length < 2 ^ 63) (tick : Int) :
    DCalls Try.prog 8 [encFs l, .agg (cellsS r1), .agg (cellsS r2), hd h, heads hs, I tick] (.bool true) := by
  refine dcalls_low (rs := [.tmp 12]) mixed Try.func8 l8 rfl rfl rfl (r := [.bool true]) (Nat.le_of_ble_eq_true rfl) ?_
  have c18 := t18 l hl hn h hh tick [r1, r2] (by simp) (fun y hy => by
    simp only [List.mem_cons, List.not_mem_nil, or_false] at hy
    rcases hy with rfl | rfl
    · exact ⟨hr1.wt, hr1.nm⟩
    · exact ⟨hr2.wt, hr2.nm⟩)
  simp only [List.map_cons, List.map_nil, encS_cells] at c18
  have c10 := t10 hs 40 hw (by omega)
  have c12 := t12
  cases hR : rightB l h tick [r1, r2] with
  | false =>
    rw [hR] at c18
    repeat' ((conv => whnf); first | exact trivial | refine k_call _ (c18) ?_ | refine k_call _ (c12) ?_ | refine now_T ?_ | refine aE1 ?_ | refine aE0 ?_ | refine aN1 ?_ | refine aN0 ?_ | refine aD1 ?_ | refine aD0 ?_ | refine now_E (fun hq => ?_) (fun hq => ?_) | refine now_N (fun hq => ?_) (fun hq => ?_) | refine now_D (fun hq => ?_) (fun hq => ?_) | refine rb1 ?_ | refine rb0 ?_ | refine rbx ?_ | refine rix ?_ | (refine And.intro (by first | (exact cellsS_len _; done) | (simp [hh]; done) | (exact ⟨⟨trivial, cellsS_len _⟩, cellsS_len _⟩; done) | fail) ?_) | refine aS ?_ | fail)
  | true =>
  rw [hR] at c18
  cases hS : setB hs && decide ((hs.length : Int) ≤ 40) with
  | false =>
    rw [hS] at c10
    repeat' ((conv => whnf); first | exact trivial | refine k_call _ (c18) ?_ | refine k_call _ (c10) ?_ | refine k_call _ (c12) ?_ | refine now_T ?_ | refine aE1 ?_ | refine aE0 ?_ | refine aN1 ?_ | refine aN0 ?_ | refine aD1 ?_ | refine aD0 ?_ | refine now_E (fun hq => ?_) (fun hq => ?_) | refine now_N (fun hq => ?_) (fun hq => ?_) | refine now_D (fun hq => ?_) (fun hq => ?_) | refine rb1 ?_ | refine rb0 ?_ | refine rbx ?_ | refine rix ?_ | (refine And.intro (by first | (exact cellsS_len _; done) | (simp [hh]; done) | (exact ⟨⟨trivial, cellsS_len _⟩, cellsS_len _⟩; done) | fail) ?_) | refine aS ?_ | fail)
  | true =>
  rw [hS] at c10
  obtain ⟨ck, ho, _, _, hall⟩ := right_ok hh hR
  obtain ⟨p, rfl, op⟩ := typed_po (hall r1 (by simp)).1
  obtain ⟨q, rfl, oq⟩ := typed_po (hall r2 (by simp)).1
  have okL := ck.ok
  have hfd := ck.fds
  have so := set_ok 40 (by decide) hw hS
  generalize l.map RF.fd = L at *
  rw [hfd] at c18 ⊢
  have c38 := t38 (rawO (.star (.star (.union p q)))) (by have := wt_star (.star (.union p q)); have := wt_star (.union p q); have := wt_union p q; simp only [wO] at *; omega)
  cases hL : lightB (rawO (.star (.star (.union p q)))).stars (rawO (.star (.star (.union p q)))).puts with
  | false =>
    rw [hL] at c38
    repeat' ((conv => whnf); first | exact trivial | refine k_call _ (c18) ?_ | refine k_call _ (c10) ?_ | refine k_call _ (c12) ?_ | refine k_call _ (e19 _ _) ?_ | refine k_call _ (e26 _) ?_ | refine k_call _ (c38) ?_ | refine now_T ?_ | refine aE1 ?_ | refine aE0 ?_ | refine aN1 ?_ | refine aN0 ?_ | refine aD1 ?_ | refine aD0 ?_ | refine now_E (fun hq => ?_) (fun hq => ?_) | refine now_N (fun hq => ?_) (fun hq => ?_) | refine now_D (fun hq => ?_) (fun hq => ?_) | refine rb1 ?_ | refine rb0 ?_ | refine rbx ?_ | refine rix ?_ | (refine And.intro (by first | (exact cellsS_len _; done) | (simp [hh]; done) | (exact ⟨⟨trivial, cellsS_len _⟩, cellsS_len _⟩; done) | fail) ?_) | refine aS ?_ | fail)
  | true =>
  rw [hL] at c38
  have hst := stars_ok L tick h p q hr1 hr2 w1 w2
  repeat' ((conv => whnf); first | exact trivial | refine k_call _ (c18) ?_ | refine k_call _ (c10) ?_ | refine k_call _ (c38) ?_ | refine k_call _ (e22) ?_ | refine k_call _ (e21 p (.star p)) ?_ | refine k_call _ (e21 (.star p) p) ?_ | refine k_call _ (e21 (.star p) (.star p)) ?_ | refine k_call _ (e21 q (.star p)) ?_ | refine k_call _ (e21 (.star p) (.star (.seq q (.star p)))) ?_ | refine k_call _ (e26 (.star p)) ?_ | refine k_call _ (e19 _ _) ?_ | refine k_call _ (e26 _) ?_ | refine now_T ?_ | refine aE1 ?_ | refine aE0 ?_ | refine aN1 ?_ | refine aN0 ?_ | refine aD1 ?_ | refine aD0 ?_ | refine now_E (fun hq => ?_) (fun hq => ?_) | refine now_N (fun hq => ?_) (fun hq => ?_) | refine now_D (fun hq => ?_) (fun hq => ?_) | refine rb1 ?_ | refine rb0 ?_ | refine rbx ?_ | refine rix ?_ | (refine And.intro (by first | (exact cellsS_len _; done) | (simp [hh]; done) | (exact ⟨⟨trivial, cellsS_len _⟩, cellsS_len _⟩; done) | (simp [putL, cellsS_len]; done) | fail) ?_) | refine aS ?_ | fail)
  have hlen : (stars p q).length = 5 := rfl
  have hz : (z18).length = 18 := rfl
  have pc := fun (a b : Po) => congrArg T.agg (pair_cells (cellsS_len (rawO a)) (cellsS_len (rawO b)) z18 hz).symm
  refine wpC_loop (α := Nat) (fun i => {sl := [(0, .t (fds L)), (4, .t (heads hs)), (5, .t (I tick)), (7, .ptr 7 0), (9, .ptr 9 0), (13, .ptr 13 0), (79, .t (.slice 18 ((stars p q).map pairT))), (80, .t (I 5)), (81, .t (I i))], bx := [(7, .d 9 (cellsS (rawO p))), (9, .d 10 (h.map I)), (13, .d 9 (cellsS (rawO (.star p))))]})
    (fun i => i ≤ 5) (fun i => 5 - i) 0 (by omega) ?_ ?_
  · repeat' (first | (exact leT (congrArg (T.slice 18) (list5' (pc (.star p) (.union idO (.seq p (.star p)))) (pc (.star p) (.union idO (.seq (.star p) p))) (pc (.star p) (.star (.star p))) (pc (.star p) (.seq (.star p) (.star p))) (pc (.star (.union p q)) (.seq (.star p) (.star (.seq q (.star p)))))))) | exact trivial | exact LeV.same _ | exact LeB.same _ | exact rfl | exact fun _ _ _ => trivial | exact lI | exact LeV.nil _ _ _ | exact lB | refine leBd ?_ | refine leOwn ?_ | refine And.intro ?_ ?_)
  rintro i hi
  rcases Nat.lt_or_ge i 5 with hlt | hge
  · have hx := hst _ (List.getElem_mem (by rw [hlen]; exact hlt))
    generalize hA : stars p q = A at *
    have hg : (A.map pairT)[i]?.getD .nil = pairT (A[i]'(by rw [hlen]; exact hlt)) := by simp [show i < A.length by rw [hlen]; exact hlt]
    generalize A[i]'(by rw [hlen]; exact hlt) = x at *
    have c23 := t23 L okL x.1 x.2 hx.sm1 hx.sm2 h ho tick
    rw [agree_den okL ho hx.eq] at c23
    repeat' ((conv => whnf); first | exact trivial | (refine now_v (pairT x) (by first | (exact hg; done) | fail) ?_) | (refine now_v (eo x.1) (by first | (exact congrArg T.agg (pl1 (cellsS_len (rawO x.1))); done) | fail) ?_) | (refine now_v (eo x.2) (by first | (exact congrArg T.agg (pl2 (cellsS_len (rawO x.1)) (cellsS_len (rawO x.2))); done) | fail) ?_) | refine k_call _ (c23) ?_ | refine now_T ?_ | refine aE1 ?_ | refine aE0 ?_ | refine aN1 ?_ | refine aN0 ?_ | refine aD1 ?_ | refine aD0 ?_ | refine now_E (fun hq => ?_) (fun hq => ?_) | refine now_N (fun hq => ?_) (fun hq => ?_) | refine now_D (fun hq => ?_) (fun hq => ?_) | refine rb1 ?_ | refine rb0 ?_ | refine rbx ?_ | refine rix ?_ | (refine And.intro (by first | (simp [T.cells, cellsS_len]; done) | (simp [hh]; done) | fail) ?_) | refine aS ?_ | fail)
    exact ⟨i + 1, by omega, by omega, by (repeat' (first | exact trivial | exact LeV.same _ | exact LeB.same _ | exact rfl | exact fun _ _ _ => trivial | exact lI | exact LeV.nil _ _ _ | exact lB | refine leBd ?_ | refine leOwn ?_ | refine And.intro ?_ ?_)); done⟩
  have : i = 5 := by omega
  subst this
  have s1 : Sm (rawO (.star p)) := (hst (.star p, .star (.star p)) (by simp [stars])).sm1
  have c27 := t27 L okL (.star p) p s1 hr1
  cases hT : typedB L (.star p) p with
  | false =>
    rw [hT] at c27
    repeat' ((conv => whnf); first | exact trivial | refine k_call _ (c27) ?_ | refine k_call _ (c12) ?_ | refine now_T ?_ | refine aE1 ?_ | refine aE0 ?_ | refine aN1 ?_ | refine aN0 ?_ | refine aD1 ?_ | refine aD0 ?_ | refine now_E (fun hq => ?_) (fun hq => ?_) | refine now_N (fun hq => ?_) (fun hq => ?_) | refine now_D (fun hq => ?_) (fun hq => ?_) | refine rb1 ?_ | refine rb0 ?_ | refine rbx ?_ | refine rix ?_ | refine aS ?_ | fail)
  | true =>
  rw [hT] at c27
  have c28 := t28 L okL tick (.star p) (typedB_ok hT).1 h ho
  have c32 := t32 L okL tick p op hs so.ok (by have := so.len; omega)
  rw [← eo_eq] at c28 c32
  have d28 : ∀ s, gives L tick (.star p) h = some s → SOk s ∧ ∀ z, z ∈ s ↔ Reach (Den L tick p) h z := fun s e => ⟨gives_ok okL (typedB_ok hT).1 ho e, den okL (typedB_ok hT).1 ho e⟩
  have d32 : ∀ s, image (gives L tick p) hs [] = some s → SOk s ∧ ∀ y ∈ hs, ∀ z, Den L tick p y z → z ∈ s := fun s e => by
    refine ⟨image_ok (fun h s hh e => gives_ok okL op hh e) so.ok sok_nil e, fun y hy z hz => ?_⟩
    obtain ⟨m1, m2⟩ := image_mem (fun h s hh e => gives_ok okL op hh e) so.ok sok_nil e
    obtain ⟨t, ht⟩ := m2 y hy
    exact (m1 z).2 (.inr ⟨y, hy, t, ht, (den okL op (so.ok y hy) ht z).2 hz⟩)
  generalize gives L tick (.star p) h = G at *
  generalize image (gives L tick p) hs [] = M at *
  have c17 := t17 hs h hw ho.len (by have := so.len; omega)
  have ls := so.len
  rcases G with _ | all <;> rcases M with _ | next
  · repeat' ((conv => whnf); first | exact trivial | refine k_call _ (c27) ?_ | refine k_call _ (c28) ?_ | refine k_call _ (c32) ?_ | refine k_call _ (c12) ?_ | refine now_T ?_ | refine aE1 ?_ | refine aE0 ?_ | refine aN1 ?_ | refine aN0 ?_ | refine aD1 ?_ | refine aD0 ?_ | refine now_E (fun hq => ?_) (fun hq => ?_) | refine now_N (fun hq => ?_) (fun hq => ?_) | refine now_D (fun hq => ?_) (fun hq => ?_) | refine rb1 ?_ | refine rb0 ?_ | refine rbx ?_ | refine rix ?_ | (refine And.intro (by first | (simp [hh]; done) | fail) ?_) | refine aS ?_ | fail)
  · repeat' ((conv => whnf); first | exact trivial | refine k_call _ (c27) ?_ | refine k_call _ (c28) ?_ | refine k_call _ (c32) ?_ | refine k_call _ (c12) ?_ | refine now_T ?_ | refine aE1 ?_ | refine aE0 ?_ | refine aN1 ?_ | refine aN0 ?_ | refine aD1 ?_ | refine aD0 ?_ | refine now_E (fun hq => ?_) (fun hq => ?_) | refine now_N (fun hq => ?_) (fun hq => ?_) | refine now_D (fun hq => ?_) (fun hq => ?_) | refine rb1 ?_ | refine rb0 ?_ | refine rbx ?_ | refine rix ?_ | (refine And.intro (by first | (simp [hh]; done) | fail) ?_) | refine aS ?_ | fail)
  · repeat' ((conv => whnf); first | exact trivial | refine k_call _ (c27) ?_ | refine k_call _ (c28) ?_ | refine k_call _ (c32) ?_ | refine k_call _ (c12) ?_ | refine now_T ?_ | refine aE1 ?_ | refine aE0 ?_ | refine aN1 ?_ | refine aN0 ?_ | refine aD1 ?_ | refine aD0 ?_ | refine now_E (fun hq => ?_) (fun hq => ?_) | refine now_N (fun hq => ?_) (fun hq => ?_) | refine now_D (fun hq => ?_) (fun hq => ?_) | refine rb1 ?_ | refine rb0 ?_ | refine rbx ?_ | refine rix ?_ | (refine And.intro (by first | (simp [hh]; done) | fail) ?_) | refine aS ?_ | fail)
  obtain ⟨g1, g2⟩ := d28 all rfl
  obtain ⟨m1, m2⟩ := d32 next rfl
  have c15 := t15m hs next so m1
  have c15' := t15m hs all so g1
  cases hI : hs.contains h with
  | false =>
    rw [hI] at c17
    repeat' ((conv => whnf); first | exact trivial | refine k_call _ (c27) ?_ | refine k_call _ (c28) ?_ | refine k_call _ (c32) ?_ | refine k_call _ (c12) ?_ | refine k_call _ (c17) ?_ | refine now_T ?_ | refine aE1 ?_ | refine aE0 ?_ | refine aN1 ?_ | refine aN0 ?_ | refine aD1 ?_ | refine aD0 ?_ | refine now_E (fun hq => ?_) (fun hq => ?_) | refine now_N (fun hq => ?_) (fun hq => ?_) | refine now_D (fun hq => ?_) (fun hq => ?_) | refine rb1 ?_ | refine rb0 ?_ | refine rbx ?_ | refine rix ?_ | (refine And.intro (by first | (simp [hh]; done) | fail) ?_) | refine aS ?_ | fail)
  | true =>
  rw [hI] at c17
  have ll := len_mrg hs next
  by_cases hle : (mrg hs next).length ≤ hs.length
  · have sub := mrg_le so m1 hle
    have eq : mrg hs all = hs := mrg_sub so g1 fun z hz => reach_in (fun y hy z hz => sub z (m2 y hy z hz)) (List.contains_iff_mem.1 hI) ((g2 z).1 hz)
    rw [eq] at c15'
    have c14 := t14 hs hs hw hw (by omega)
    rw [beq_self_eq_true] at c14
    have hle' : ((mrg hs next).map hd).length ≤ (hs.map hd).length := by simpa using hle
    repeat' ((conv => whnf); first | exact trivial | refine k_call _ (c27) ?_ | refine k_call _ (c28) ?_ | refine k_call _ (c32) ?_ | refine k_call _ (c12) ?_ | refine k_call _ (c17) ?_ | refine k_call _ (c15) ?_ | refine k_call _ (c15') ?_ | refine k_call _ (c14) ?_ | refine now_T ?_ | refine aE1 ?_ | refine aE0 ?_ | refine aN1 ?_ | refine aN0 ?_ | refine aD1 ?_ | refine aD0 ?_ | refine now_E (fun hq => ?_) (fun hq => ?_) | refine now_N (fun hq => ?_) (fun hq => ?_) | refine now_D (fun hq => ?_) (fun hq => ?_) | refine rb1 ?_ | refine rb0 ?_ | refine rbx ?_ | refine rix ?_ | (refine And.intro (by first | (simp [hh]; done) | fail) ?_) | refine aS ?_ | fail)
  · have hle' : ¬ ((mrg hs next).map hd).length ≤ (hs.map hd).length := by simpa using hle
    repeat' ((conv => whnf); first | exact trivial | refine k_call _ (c27) ?_ | refine k_call _ (c28) ?_ | refine k_call _ (c32) ?_ | refine k_call _ (c12) ?_ | refine k_call _ (c17) ?_ | refine k_call _ (c15) ?_ | refine now_T ?_ | refine aE1 ?_ | refine aE0 ?_ | refine aN1 ?_ | refine aN0 ?_ | refine aD1 ?_ | refine aD0 ?_ | refine now_E (fun hq => ?_) (fun hq => ?_) | refine now_N (fun hq => ?_) (fun hq => ?_) | refine now_D (fun hq => ?_) (fun hq => ?_) | refine rb1 ?_ | refine rb0 ?_ | refine rbx ?_ | refine rix ?_ | (refine And.intro (by first | (simp [hh]; done) | fail) ?_) | refine aS ?_ | fail)
end Go.MM
end
