/- Joined by program: parts of a data level over the model, of the program's functions over it, and of the statement's proof. -/
import Derived.Test.YtedccjcfafejdaaGreatDoorGf
import Derived.Shelf.Lays8
import Derived.Test.YtedccjcfafejdaaGreatDoorProg
import Derived.Test.YtedccjcfafejdaaGreatDoorGc
import Derived.KernelRfl
import Derived.Shelf.Spec.SlicesGrow
import Derived.Shelf.SlLaysF0
import Derived.Shelf.SlGeneric
section
namespace Go.RC
open Go Go.DL Go.Proofs
set_option maxRecDepth 100000
set_option maxHeartbeats 4000000
abbrev ha : List Int := [7, 5, 0, 0, 0, 0, 0, 0, 0, 0]
abbrev hb : List Int := [7, 6, 0, 0, 0, 0, 0, 0, 0, 0]
theorem okHa : okH ha := ⟨rfl, by decide⟩
theorem okHb : okH hb := ⟨rfl, by decide⟩
abbrev S0' : List Int := [0, 0, 0, 0]
theorem isS0 : isS S0' := ⟨rfl, by simp [M32]⟩
def Sa : List Int := sAdd S0' (ofH ha)
def Sab : List Int := sAdd Sa (ofH hb)
theorem isSa : isS Sa := isS_add isS0 (ofH_isS _)
theorem isSab : isS Sab := isS_add isSa (ofH_isS _)
def es1 : List Ent := [((2, 7, 1), 1, Sa)]
def es2 : List Ent := [((2, 7, 1), 1, Sa), ((1, 2, 1), 1, Sa)]
def es3 : List Ent := [((2, 7, 1), 2, Sab), ((1, 2, 1), 1, Sa)]
theorem n1 : noteM (2, 7, 1) ha [] = (0, es1) := rfl
theorem n2 : noteM (1, 2, 1) ha es1 = (0, es2) := rfl
theorem n3 : noteM (2, 7, 1) hb es2 = (0, es3) := rfl
theorem okE0 : okE [] := fun e h => by cases h
theorem okE1 : okE es1 := fun e h => by
  simp only [es1, List.mem_singleton] at h; subst h; exact ⟨isSa, by decide, by decide⟩
theorem okE2 : okE es2 := fun e h => by
  simp only [es2, List.mem_cons, List.not_mem_nil, or_false] at h
  rcases h with rfl | rfl <;> exact ⟨isSa, by decide, by decide⟩
abbrev lg0 (rest : List V) : List V := lgC (.t (I 3)) (.t (I 0)) rest
theorem m1 (rest : List V) : MC Tryz.prog 9 [.ptr 1013 0, .t (I 2), .t (I 7), .t (I 1), .t (hd ha)] [(1013, .v (lg0 rest)), (1011, .m true sh3 [] none)] [5009, 5011, 5012] 1011 (.m true sh3 (esM es1) none) (I 0) := by
  have := mc_Note (.t (I 3)) (.t (I 0)) rest [] okE0 (by decide) 2 7 1 ha rfl
  rwa [n1] at this
theorem m2 (rest : List V) : MC Tryz.prog 9 [.ptr 1013 0, .t (I 1), .t (I 2), .t (I 1), .t (hd ha)] [(1013, .v (lg0 rest)), (1011, .m true sh3 (esM es1) none)] [5009, 5011, 5012] 1011 (.m true sh3 (esM es2) none) (I 0) := by
  have := mc_Note (.t (I 3)) (.t (I 0)) rest es1 okE1 (by decide) 1 2 1 ha rfl
  rwa [n2] at this
theorem m3 (rest : List V) : MC Tryz.prog 9 [.ptr 1013 0, .t (I 2), .t (I 7), .t (I 1), .t (hd hb)] [(1013, .v (lg0 rest)), (1011, .m true sh3 (esM es2) none)] [5009, 5011, 5012] 1011 (.m true sh3 (esM es3) none) (I 0) := by
  have := mc_Note (.t (I 3)) (.t (I 0)) rest es2 okE2 (by decide) 2 7 1 hb rfl
  rwa [n3] at this
theorem srt3 : srt [(2, 7, 1), (1, 2, 1)] = [(1, 2, 1), (2, 7, 1)] := (srt_eq (ks := [(2, 7, 1), (1, 2, 1)]) (zs := [(1, 2, 1), (2, 7, 1)]) (.swap _ _ _) (by simp [cmpN, orI, cmpI])).symm
abbrev pvV (pv : List Int) : List V := pv.map fun x => .t (Y x)
theorem sAdd0 {a : List Int} (h : isS a) : sAdd S0' a = a := by
  obtain ⟨hl, hx⟩ := h
  match a, hl, hx with
  | [a, b, c, d], _, hx =>
    have h1 := hx a (by simp)
    have h2 := hx b (by simp)
    have h3 := hx c (by simp)
    have h4 := hx d (by simp)
    show [(0 + a) % M32, (0 + b) % M32, (0 + c) % M32, (0 + d) % M32] = _
    unfold M32 at *
    rw [Int.zero_add, Int.zero_add, Int.zero_add, Int.zero_add, Int.emod_eq_of_lt h1.1 h1.2, Int.emod_eq_of_lt h2.1 h2.2, Int.emod_eq_of_lt h3.1 h3.2, Int.emod_eq_of_lt h4.1 h4.2]
theorem ex16 {l : List Int} (h : l.length = 16) : ∃ d0 d1 d2 d3 d4 d5 d6 d7 d8 d9 d10 d11 d12 d13 d14 d15, l = [d0, d1, d2, d3, d4, d5, d6, d7, d8, d9, d10, d11, d12, d13, d14, d15] := by
  match l, h with
  | [d0, d1, d2, d3, d4, d5, d6, d7, d8, d9, d10, d11, d12, d13, d14, d15], _ => exact ⟨d0, d1, d2, d3, d4, d5, d6, d7, d8, d9, d10, d11, d12, d13, d14, d15, rfl⟩
theorem four {l : List Int} (h : l.length = 4) : ∃ a b c d, l = [a, b, c, d] := by
  match l, h with
  | [a, b, c, d], _ => exact ⟨a, b, c, d, rfl⟩
theorem t_sanity : DCalls Tryz.prog 6 [] (.bool true) := by
  refine dcalls_low (rs := [.tmp 0]) mixed Tryz.func6 l6 rfl rfl rfl (r := [.bool true]) (Nat.le_of_ble_eq_true rfl) ?_
  obtain ⟨x0, x1, x2, x3, hx⟩ := four isSa.1
  obtain ⟨y0, y1, y2, y3, hy⟩ := four isSab.1
  have m3' := m3 (pvV zero16)
  have he3 : esM es3 = [(nk (2, 7, 1), tly 2 [y0, y1, y2, y3]), (nk (1, 2, 1), tly 1 [x0, x1, x2, x3])] := by simp only [es3, esM, hx, hy, List.map_cons, List.map_nil]
  rw [he3] at m3'
  have xi : ∀ y ∈ [x0, x1, x2, x3], 0 ≤ y ∧ y < M32 := fun y hy => (isSa.2 y (by rw [hx]; exact hy))
  have yi : ∀ z ∈ [y0, y1, y2, y3], 0 ≤ z ∧ z < M32 := fun y hh => (isSab.2 y (by rw [hy]; exact hh))
  have hL8 : ∀ x ∈ [[1, 2, 1, 1, x0, x1, x2, x3], [2, 7, 1, 2, y0, y1, y2, y3]], x.length = 8 ∧ ∀ y ∈ x, i64 y := fun x hh => by
    simp only [List.mem_cons, List.not_mem_nil, or_false] at hh
    rcases hh with rfl | rfl
    · refine ⟨rfl, fun y h => ?_⟩
      rcases List.mem_append.1 (show y ∈ [1, 2, 1, 1] ++ [x0, x1, x2, x3] from h) with h | h
      · simp only [List.mem_cons, List.not_mem_nil, or_false] at h
        unfold i64; omega
      · have := xi y h
        unfold M32 at this; unfold i64; omega
    · refine ⟨rfl, fun y h => ?_⟩
      rcases List.mem_append.1 (show y ∈ [2, 7, 1, 2] ++ [y0, y1, y2, y3] from h) with h | h
      · simp only [List.mem_cons, List.not_mem_nil, or_false] at h
        unfold i64; omega
      · have := yi y h
        unfold M32 at this; unfold i64; omega
  have hr1 : Rc.ok ⟨3, 0, [[1, 2, 1, 1, x0, x1, x2, x3], [2, 7, 1, 2, y0, y1, y2, y3]], zero16⟩ := ⟨⟨(show i64 3 by unfold i64; decide), (show i64 0 by unfold i64; decide), hL8, rfl, (show areB zero16 by unfold areB; decide)⟩, Nat.le_of_ble_eq_true rfl⟩
  obtain ⟨d0, d1, d2, d3, d4, d5, d6, d7, d8, d9, d10, d11, d12, d13, d14, d15, hD⟩ := ex16 (dgR_len 3 0 [[1, 2, 1, 1, x0, x1, x2, x3], [2, 7, 1, 2, y0, y1, y2, y3]] zero16)
  have hDb := dgR_areB 3 0 [[1, 2, 1, 1, x0, x1, x2, x3], [2, 7, 1, 2, y0, y1, y2, y3]] zero16
  rw [hD] at hDb
  have hr2 : Rc.ok ⟨3, 1, [], [d0, d1, d2, d3, d4, d5, d6, d7, d8, d9, d10, d11, d12, d13, d14, d15]⟩ := ⟨⟨(show i64 3 by unfold i64; decide), (show i64 1 by unfold i64; decide), fun x h => by simp at h, rfl, hDb⟩, Nat.le_of_ble_eq_true rfl⟩
  have hD1 := t_Digest 3 0 [[1, 2, 1, 1, x0, x1, x2, x3], [2, 7, 1, 2, y0, y1, y2, y3]] zero16 hr1.1 hr1.2
  rw [hD] at hD1
  have hD2 := t_Digest 3 1 [] [d0, d1, d2, d3, d4, d5, d6, d7, d8, d9, d10, d11, d12, d13, d14, d15] hr2.1 hr2.2
  have hD2l := dgR_len 3 1 [] [d0, d1, d2, d3, d4, d5, d6, d7, d8, d9, d10, d11, d12, d13, d14, d15]
  generalize dgR 3 1 [] [d0, d1, d2, d3, d4, d5, d6, d7, d8, d9, d10, d11, d12, d13, d14, d15] = D2 at hD2 hD2l
  have a1 := t_sAdd [4294967295, 0, 0, 5] [1, 2, 0, 5] ⟨rfl, by simp [M32]⟩ ⟨rfl, by simp [M32]⟩
  have a2 := t_sSub [0, 0, 0, 0] [1, 0, 0, 0] ⟨rfl, by simp [M32]⟩ ⟨rfl, by simp [M32]⟩
  repeat' ((conv => whnf); first | refine k_call _ (a1) ?_ | refine k_call _ (a2) ?_ | refine nb_ false rfl ?_ | (refine And.intro (by first | (exact ⟨⟨rfl, rfl, rfl, rfl, trivial⟩, ⟨rfl, rfl, rfl, rfl, trivial⟩⟩; done) | fail) ?_) | refine aS ?_ | fail)
  refine WC_inl mixed Tryz.func7 l7 rfl rfl (rs := [.tmp 2, .tmp 3]) rfl 1000 (Nat.le_of_ble_eq_true rfl) ?_
  repeat' ((conv => whnf); first | refine aD0 ?_ | refine aS ?_ | refine ⟨_, rfl, ?_⟩ | fail)
  refine WC_inl mixed Tryz.func7 l7 rfl rfl (rs := [.tmp 2, .tmp 3]) rfl 2000 (Nat.le_of_ble_eq_true rfl) ?_
  repeat' ((conv => whnf); first | refine aN0 ?_ | refine aD1 ?_ | refine aD0 ?_ | refine aS ?_ | refine ⟨_, rfl, ?_⟩ | fail)
  (conv => whnf)
  refine ⟨_, _, _, _, _, m1 (pvV zero16), ?_, ?_, by decide, ?_, ?_⟩
  · intro p hp
    simp only [List.mem_cons, List.not_mem_nil, or_false] at hp
    rcases hp with rfl | rfl <;> rfl
  · intro n hn
    simp only [List.mem_cons, List.not_mem_nil, or_false] at hn
    rcases hn with rfl | rfl | rfl <;> rfl
  · rfl
  repeat' ((conv => whnf); first | refine aS ?_ | fail)
  (conv => whnf)
  refine ⟨_, _, _, _, _, m2 (pvV zero16), ?_, ?_, by decide, ?_, ?_⟩
  · intro p hp
    simp only [List.mem_cons, List.not_mem_nil, or_false] at hp
    rcases hp with rfl | rfl <;> rfl
  · intro n hn
    simp only [List.mem_cons, List.not_mem_nil, or_false] at hn
    rcases hn with rfl | rfl | rfl <;> rfl
  · rfl
  repeat' ((conv => whnf); first | refine aS ?_ | fail)
  (conv => whnf)
  refine ⟨_, _, _, _, _, m3', ?_, ?_, by decide, ?_, ?_⟩
  · intro p hp
    simp only [List.mem_cons, List.not_mem_nil, or_false] at hp
    rcases hp with rfl | rfl <;> rfl
  · intro n hn
    simp only [List.mem_cons, List.not_mem_nil, or_false] at hn
    rcases hn with rfl | rfl | rfl <;> rfl
  · rfl
  repeat' ((conv => whnf); first | refine aS ?_ | fail)
  refine wpC_loopE 0 (α := Nat) (β := Unit) (fun k => {sl := [(2, .ptr 1013 0), (6, .ptr 6 0), (7, .ptr 7 0), (70, .t (.slice 1 [I 0, I 0, I 0])), (71, .t (I 3)), (72, .t (I k))], bx := [(6, .d 10 (ha.map I)), (7, .d 10 (hb.map I)), (1013, .v (lg0 (pvV zero16))), (1011, .m true sh3 [(nk (2, 7, 1), tly 2 [y0, y1, y2, y3]), (nk (1, 2, 1), tly 1 [x0, x1, x2, x3])] none)]})
    (fun k => k ≤ 3) (fun k => 3 - k) (fun _ => {sl := [(2, .ptr 1013 0), (6, .ptr 6 0), (7, .ptr 7 0)], bx := [(6, .d 10 (ha.map I)), (7, .d 10 (hb.map I)), (1013, .v (lg0 (pvV zero16))), (1011, .m true sh3 [(nk (2, 7, 1), tly 2 [y0, y1, y2, y3]), (nk (1, 2, 1), tly 1 [x0, x1, x2, x3])] none)]}) (fun _ => True) 0 (by omega) ?_ ?_ ?_
  · repeat' (first | exact trivial | exact LeV.same _ | exact LeB.same _ | exact rfl | exact fun _ _ _ => trivial | refine And.intro ?_ ?_)
  · rintro k hk
    rcases Nat.lt_or_ge k 3 with h | h
    · have hg : ([I 0, I 0, I 0] : List T)[k]?.getD .nil = I 0 := by
        match k, h with
        | 0, _ => rfl
        | 1, _ => rfl
        | 2, _ => rfl
      repeat' ((conv => whnf); first | (refine nv_ (I 0) (by first | (exact hg; done) | fail) ?_) | refine nT_ ?_ | refine aN0 ?_ | refine aD1 ?_ | (refine And.intro (by first | ((simp; omega); done) | fail) ?_) | refine aS ?_ | fail)
      exact ⟨k + 1, by omega, by omega, by repeat' (first | exact trivial | exact LeV.same _ | exact LeB.same _ | exact rfl | exact fun _ _ _ => trivial | exact lI | refine And.intro ?_ ?_)⟩
    · have : k = 3 := by omega
      subst this
      repeat' ((conv => whnf); first | refine aD0 ?_ | refine aS ?_ | fail)
      exact ⟨(), trivial, by repeat' (first | exact trivial | exact LeV.same _ | exact LeB.same _ | exact rfl | exact fun _ _ _ => trivial | refine And.intro ?_ ?_)⟩
  rintro - -
  refine wpC_cut (β := Unit) (fun _ => {sl := [(2, .ptr 1013 0), (6, .ptr 6 0), (7, .ptr 7 0), (10, .ptr 10 0), (11, .t (I 0))], bx := [(6, .d 10 (ha.map I)), (7, .d 10 (hb.map I)), (10, .d 19 (rcC 3 0 [[1, 2, 1, 1, x0, x1, x2, x3], [2, 7, 1, 2, y0, y1, y2, y3]] zero16)), (1013, .v (lgC (.t (I 3)) (.t (I 1)) (pvV [d0, d1, d2, d3, d4, d5, d6, d7, d8, d9, d10, d11, d12, d13, d14, d15]))), (1011, .m true sh3 [] none)]}) (fun _ => True) ?_ fun _ _ => ?_
  · skip
    refine WC_inlP mixed Tryz.func10 l10 rfl rfl (rs := [.cell 2 41, .tmp 3]) rfl 6000 (Nat.le_of_ble_eq_true rfl) ?_
    repeat' ((conv => whnf); first | refine aD0 ?_ | refine aS ?_ | fail)
    refine WC_inl mixed Tryz.func42 l42 rfl rfl (rs := [.tmp 2]) rfl 8000 (Nat.le_of_ble_eq_true rfl) ?_
    repeat' ((conv => whnf); first | refine aS ?_ | refine ⟨_, rfl, ?_⟩ | fail)
    have hNS := n_Sorted [(2, 7, 1), (1, 2, 1)] [tly 2 [y0, y1, y2, y3], tly 1 [x0, x1, x2, x3]] rfl (by decide)
    rw [srt3] at hNS
    refine WC_new rfl hNS ?_
    refine wpC_loopE 0 (α := Nat) (β := Unit) (fun k => {sl := [(0, .ptr 1013 0), (2, .ptr 6002 0), (4, .ptr 6004 0), (32, .t (.slice 3 ([(1, 2, 1), (2, 7, 1)].map nk))), (33, .t (I 2)), (34, .t (I k))], bx := [(6, .d 10 (ha.map I)), (7, .d 10 (hb.map I)), (1013, .v (lg0 (pvV zero16))), (1011, .m true sh3 [(nk (2, 7, 1), tly 2 [y0, y1, y2, y3]), (nk (1, 2, 1), tly 1 [x0, x1, x2, x3])] none), (6002, .d 19 z19), (6004, .v (.t (I 3) :: .t (I 0) :: .own 6058 71 8 (([[1, 2, 1, 1, x0, x1, x2, x3], [2, 7, 1, 2, y0, y1, y2, y3]].take k).map ln) :: pvV zero16))], gh := [(0, [(2, .ptr 1013 0), (6, .ptr 6 0), (7, .ptr 7 0)])], off := 6000})
      (fun k => k ≤ 2) (fun k => 2 - k) (fun _ => {sl := [(0, .ptr 1013 0), (2, .ptr 6002 0), (4, .ptr 6004 0)], bx := [(6, .d 10 (ha.map I)), (7, .d 10 (hb.map I)), (1013, .v (lg0 (pvV zero16))), (1011, .m true sh3 [(nk (2, 7, 1), tly 2 [y0, y1, y2, y3]), (nk (1, 2, 1), tly 1 [x0, x1, x2, x3])] none), (6002, .d 19 z19), (6004, .v (.t (I 3) :: .t (I 0) :: .t (linesT [[1, 2, 1, 1, x0, x1, x2, x3], [2, 7, 1, 2, y0, y1, y2, y3]]) :: pvV zero16))], gh := [(0, [(2, .ptr 1013 0), (6, .ptr 6 0), (7, .ptr 7 0)])], off := 6000}) (fun _ => True) 0 (by omega) ?_ ?_ ?_
    · refine ⟨⟨.same _, .same _, .same _, .same _, .same _, .same _, trivial⟩, ⟨.same _, .same _, .same _, .same _, .same _, .dv _ _ _ ⟨.same _, .same _, .nil _ _ _, .same _, .same _, .same _, .same _, .same _, .same _, .same _, .same _, .same _, .same _, .same _, .same _, .same _, .same _, .same _, .same _, trivial⟩, trivial⟩, ⟨⟨.same _, .same _, .same _, trivial⟩, trivial⟩, rfl, fun _ _ _ => trivial, rfl⟩
    · rintro k hk
      match k, hk with
      | 0, _ =>
        repeat' ((conv => whnf); first | refine nT_ ?_ | refine aD1 ?_ | (refine And.intro (by first | (exact ⟨rfl, rfl, rfl, rfl, trivial⟩; done) | fail) ?_) | refine aS ?_ | fail)
        exact ⟨1, by omega, by omega, ⟨⟨.same _, .same _, .same _, .same _, .same _, lI, trivial⟩, ⟨.same _, .same _, .same _, .same _, .same _, .same _, trivial⟩, ⟨⟨.same _, .same _, .same _, trivial⟩, trivial⟩, rfl, fun _ _ _ => trivial, rfl⟩⟩
      | 1, _ =>
        repeat' ((conv => whnf); first | refine nT_ ?_ | refine aD1 ?_ | (refine And.intro (by first | (exact ⟨rfl, rfl, rfl, rfl, trivial⟩; done) | fail) ?_) | refine aS ?_ | fail)
        exact ⟨2, by omega, by omega, ⟨⟨.same _, .same _, .same _, .same _, .same _, lI, trivial⟩, ⟨.same _, .same _, .same _, .same _, .same _, .same _, trivial⟩, ⟨⟨.same _, .same _, .same _, trivial⟩, trivial⟩, rfl, fun _ _ _ => trivial, rfl⟩⟩
      | 2, _ =>
        repeat' ((conv => whnf); first | refine aD0 ?_ | refine aS ?_ | fail)
        exact ⟨(), trivial, ⟨⟨.same _, .same _, .same _, trivial⟩, ⟨.same _, .same _, .same _, .same _, .same _, .v _ _ ⟨.same _, .same _, .data _ _ _ _, .same _, .same _, .same _, .same _, .same _, .same _, .same _, .same _, .same _, .same _, .same _, .same _, .same _, .same _, .same _, .same _, trivial⟩, trivial⟩, ⟨⟨.same _, .same _, .same _, trivial⟩, trivial⟩, rfl, fun _ _ _ => trivial, rfl⟩⟩
      | k + 3, h => omega
    rintro - -
    repeat' ((conv => whnf); first | refine k_call _ (hD1) ?_ | refine aS ?_ | fail)
    refine ⟨[.t _, .t (I 0)], ⟨⟨rfl, trivial⟩, rfl, trivial⟩, ?_⟩
    repeat' ((conv => whnf); first | refine aS ?_ | fail)
    exact ⟨(), trivial, ⟨⟨.same _, .same _, .same _, .same _, .same _, trivial⟩, ⟨.same _, .same _, .same _, .same _, .same _, trivial⟩, trivial, rfl, fun _ _ _ => trivial, rfl⟩⟩
  refine wpC_cut (β := Unit) (fun _ => {sl := [(6, .ptr 6 0), (7, .ptr 7 0), (10, .ptr 10 0), (11, .t (I 0)), (12, .ptr 12 0), (13, .t (I 0))], bx := [(6, .d 10 (ha.map I)), (7, .d 10 (hb.map I)), (10, .d 19 (rcC 3 0 [[1, 2, 1, 1, x0, x1, x2, x3], [2, 7, 1, 2, y0, y1, y2, y3]] zero16)), (12, .d 19 (rcC 3 1 [] [d0, d1, d2, d3, d4, d5, d6, d7, d8, d9, d10, d11, d12, d13, d14, d15]))]}) (fun _ => True) ?_ fun _ _ => ?_
  · skip
    refine WC_inlP mixed Tryz.func10 l10 rfl rfl (rs := [.cell 2 41, .tmp 3]) rfl 9000 (Nat.le_of_ble_eq_true rfl) ?_
    repeat' ((conv => whnf); first | refine now_D0 (by decide) ?_ | refine aS ?_ | fail)
    refine WC_inl mixed Tryz.func42 l42 rfl rfl (rs := [.tmp 2]) rfl 11000 (Nat.le_of_ble_eq_true rfl) ?_
    repeat' ((conv => whnf); first | refine aS ?_ | refine ⟨_, rfl, ?_⟩ | fail)
    have hNS := n_Sorted [] [] rfl (by decide)
    rw [show srt [] = [] by simp [srt]] at hNS
    refine WC_new rfl hNS ?_
    refine wpC_loopE 0 (α := Unit) (β := Unit) (fun _ => {sl := [(0, .ptr 1013 0), (2, .ptr 9002 0), (4, .ptr 9004 0), (33, .t (I 0)), (34, .t (I 0))], bx := [(6, .d 10 (ha.map I)), (7, .d 10 (hb.map I)), (10, .d 19 (rcC 3 0 [[1, 2, 1, 1, x0, x1, x2, x3], [2, 7, 1, 2, y0, y1, y2, y3]] zero16)), (1013, .v (lgC (.t (I 3)) (.t (I 1)) (pvV [d0, d1, d2, d3, d4, d5, d6, d7, d8, d9, d10, d11, d12, d13, d14, d15]))), (1011, .m true sh3 [] none), (9002, .d 19 z19), (9004, .d 19 (I 3 :: I 1 :: .nil :: [d0, d1, d2, d3, d4, d5, d6, d7, d8, d9, d10, d11, d12, d13, d14, d15].map Y))], gh := [(0, [(2, .ptr 1013 0), (6, .ptr 6 0), (7, .ptr 7 0), (10, .ptr 10 0), (11, .t (I 0))])], off := 9000})
      (fun _ => True) (fun _ => 0) (fun _ => {sl := [(0, .ptr 1013 0), (2, .ptr 9002 0), (4, .ptr 9004 0)], bx := [(6, .d 10 (ha.map I)), (7, .d 10 (hb.map I)), (10, .d 19 (rcC 3 0 [[1, 2, 1, 1, x0, x1, x2, x3], [2, 7, 1, 2, y0, y1, y2, y3]] zero16)), (1013, .v (lgC (.t (I 3)) (.t (I 1)) (pvV [d0, d1, d2, d3, d4, d5, d6, d7, d8, d9, d10, d11, d12, d13, d14, d15]))), (1011, .m true sh3 [] none), (9002, .d 19 z19), (9004, .v (.t (I 3) :: .t (I 1) :: .t (linesT []) :: pvV [d0, d1, d2, d3, d4, d5, d6, d7, d8, d9, d10, d11, d12, d13, d14, d15]))], gh := [(0, [(2, .ptr 1013 0), (6, .ptr 6 0), (7, .ptr 7 0), (10, .ptr 10 0), (11, .t (I 0))])], off := 9000}) (fun _ => True) () trivial ?_ ?_ ?_
    · exact ⟨⟨.same _, .same _, .same _, .same _, .same _, trivial⟩, ⟨.same _, .same _, .same _, .same _, .same _, .same _, .same _, trivial⟩, ⟨⟨.same _, .same _, .same _, .same _, .same _, trivial⟩, trivial⟩, rfl, fun _ _ _ => trivial, rfl⟩
    · rintro - -
      repeat' ((conv => whnf); first | refine aD0 ?_ | refine aS ?_ | fail)
      exact ⟨(), trivial, ⟨⟨.same _, .same _, .same _, trivial⟩, ⟨.same _, .same _, .same _, .same _, .same _, .same _, .dv _ _ _ ⟨.same _, .same _, .empty _, .same _, .same _, .same _, .same _, .same _, .same _, .same _, .same _, .same _, .same _, .same _, .same _, .same _, .same _, .same _, .same _, trivial⟩, trivial⟩, ⟨⟨.same _, .same _, .same _, .same _, .same _, trivial⟩, trivial⟩, rfl, fun _ _ _ => trivial, rfl⟩⟩
    rintro - -
    repeat' ((conv => whnf); first | refine k_call _ (hD2) ?_ | (refine And.intro (by first | (exact ⟨(List.length_map _).trans hD2l, Nat.le_of_ble_eq_true rfl⟩; done) | fail) ?_) | refine aS ?_ | fail)
    refine ⟨[.t _, .t (I 0)], ⟨⟨rfl, trivial⟩, rfl, trivial⟩, ?_⟩
    repeat' ((conv => whnf); first | refine aS ?_ | fail)
    exact ⟨(), trivial, ⟨⟨.same _, .same _, .same _, .same _, .same _, .same _, trivial⟩, ⟨.same _, .same _, .same _, .same _, trivial⟩, trivial, rfl, fun _ _ _ => trivial, rfl⟩⟩
  have k0 : okLn [1, 2, 1, 1, x0, x1, x2, x3] = true := by rw [okLn8, (isSb_ok rfl).2 ⟨rfl, xi⟩]; rfl
  have k1 : okLn [2, 7, 1, 2, y0, y1, y2, y3] = true := by rw [okLn8, (isSb_ok rfl).2 ⟨rfl, yi⟩]; rfl
  have kf : okFrom none [[1, 2, 1, 1, x0, x1, x2, x3], [2, 7, 1, 2, y0, y1, y2, y3]] = true := by
    show ((okLn _ && true) && ((okLn _ && decide (cmpN (1, 2, 1) (2, 7, 1) < 0)) && true)) = true
    rw [k0, k1]; rfl
  have c1 : chk 3 0 [[1, 2, 1, 1, x0, x1, x2, x3], [2, 7, 1, 2, y0, y1, y2, y3]] = 0 := by
    unfold chk
    rw [if_neg (by simp), if_neg (by omega), if_pos kf]
  have c2 : chk 3 1 [] = 0 := rfl
  have v1 : ver 3 0 zero16 [⟨3, 0, [[1, 2, 1, 1, x0, x1, x2, x3], [2, 7, 1, 2, y0, y1, y2, y3]], zero16⟩, ⟨3, 1, [], [d0, d1, d2, d3, d4, d5, d6, d7, d8, d9, d10, d11, d12, d13, d14, d15]⟩] = (2, 0) := by
    show (if chk 3 0 [[1, 2, 1, 1, x0, x1, x2, x3], [2, 7, 1, 2, y0, y1, y2, y3]] ≠ 0 then ((0 : Int), chk 3 0 [[1, 2, 1, 1, x0, x1, x2, x3], [2, 7, 1, 2, y0, y1, y2, y3]]) else if (3 : Int) ≠ 3 then (0, 1) else if (0 : Int) ≠ 0 then (0, 25) else if zero16 ≠ zero16 then (0, 7) else ver 3 1 (dgR 3 0 [[1, 2, 1, 1, x0, x1, x2, x3], [2, 7, 1, 2, y0, y1, y2, y3]] zero16) [⟨3, 1, [], [d0, d1, d2, d3, d4, d5, d6, d7, d8, d9, d10, d11, d12, d13, d14, d15]⟩]) = _
    rw [c1, if_neg (by simp), if_neg (by simp), if_neg (by simp), if_neg (by simp), hD]
    show (if chk 3 1 [] ≠ 0 then ((1 : Int), chk 3 1 []) else if (3 : Int) ≠ 3 then (1, 1) else if (1 : Int) ≠ 1 then (1, 25) else if [d0, d1, d2, d3, d4, d5, d6, d7, d8, d9, d10, d11, d12, d13, d14, d15] ≠ [d0, d1, d2, d3, d4, d5, d6, d7, d8, d9, d10, d11, d12, d13, d14, d15] then (1, 7) else (2, 0)) = _
    rw [c2, if_neg (by simp), if_neg (by simp), if_neg (by simp), if_neg (by simp)]
  have v2 : ver 3 0 zero16 [⟨3, 1, [], [d0, d1, d2, d3, d4, d5, d6, d7, d8, d9, d10, d11, d12, d13, d14, d15]⟩] = (0, 25) := rfl
  have hV1 := t_Verify 3 [⟨3, 0, [[1, 2, 1, 1, x0, x1, x2, x3], [2, 7, 1, 2, y0, y1, y2, y3]], zero16⟩, ⟨3, 1, [], [d0, d1, d2, d3, d4, d5, d6, d7, d8, d9, d10, d11, d12, d13, d14, d15]⟩] (Nat.le_of_ble_eq_true rfl) (fun r hr => by
    simp only [List.mem_cons, List.not_mem_nil, or_false] at hr
    rcases hr with rfl | rfl
    · exact hr1
    · exact hr2)
  rw [v1] at hV1
  have hV2 := t_Verify 3 [⟨3, 1, [], [d0, d1, d2, d3, d4, d5, d6, d7, d8, d9, d10, d11, d12, d13, d14, d15]⟩] (Nat.le_of_ble_eq_true rfl) (fun r hr => by
    simp only [List.mem_cons, List.not_mem_nil, or_false] at hr
    rw [hr]
    exact hr2)
  rw [v2] at hV2
  have hF := t_Find 3 0 [[1, 2, 1, 1, x0, x1, x2, x3], [2, 7, 1, 2, y0, y1, y2, y3]] zero16 2 7 1 (Nat.le_of_ble_eq_true rfl) (fun x h => (hL8 x h).1) rfl
  have hF2 : fnd [[1, 2, 1, 1, x0, x1, x2, x3], [2, 7, 1, 2, y0, y1, y2, y3]] 2 7 1 = .tup [ln [2, 7, 1, 2, y0, y1, y2, y3], .bool true] := rfl
  rw [hF2] at hF
  have hCk := t_Check 3 0 [[1, 2, 1, 1, x0, x1, x2, x3], [2, 7, 1, 2, y0, y1, y2, y3]] zero16 (Nat.le_of_ble_eq_true rfl) (fun x h => (hL8 x h).1) rfl
  rw [c1] at hCk
  have q1 : DCalls Tryz.prog 29 [ln [0, 0, 0, 5, 0, 0, 0, 0], ln [0, 0, 0, 3, 0, 0, 0, 0]] (verT (2, 0)) := t_Compare _ _ rfl rfl (by unfold i64; decide) (by unfold i64; decide) (by decide) (by decide)
  have q2 : DCalls Tryz.prog 29 [ln [0, 0, 0, 3, 0, 0, 0, 0], ln [0, 0, 0, 5, 0, 0, 0, 0]] (verT (0, 26)) := t_Compare _ _ rfl rfl (by unfold i64; decide) (by unfold i64; decide) (by decide) (by decide)
  have q3 : DCalls Tryz.prog 29 [ln [0, 0, 0, 5, 1, 0, 0, 0], ln [0, 0, 0, 5, 0, 0, 0, 0]] (verT (0, 26)) := t_Compare _ _ rfl rfl (by unfold i64; decide) (by unfold i64; decide) (by decide) (by decide)
  have o1 := t_OfH ha okHa
  have o2 := t_OfH hb okHb
  have o3 := t_sAdd _ _ (ofH_isS ha) (ofH_isS hb)
  rw [show sAdd (ofH ha) (ofH hb) = [y0, y1, y2, y3] by rw [← hy]; unfold Sab Sa; rw [sAdd0 (ofH_isS ha)]] at o3
  refine wpC_cut (β := Unit) (fun _ => {sl := [(6, .ptr 6 0), (7, .ptr 7 0), (10, .ptr 10 0), (11, .t (I 0)), (12, .ptr 12 0), (13, .t (I 0)), (14, .t (I 2)), (15, .t (I 0))], bx := [(6, .d 10 (ha.map I)), (7, .d 10 (hb.map I)), (10, .d 19 (rcC 3 0 [[1, 2, 1, 1, x0, x1, x2, x3], [2, 7, 1, 2, y0, y1, y2, y3]] zero16)), (12, .d 19 (rcC 3 1 [] [d0, d1, d2, d3, d4, d5, d6, d7, d8, d9, d10, d11, d12, d13, d14, d15]))]}) (fun _ => True) ?_ fun _ _ => ?_
  · repeat' ((conv => whnf); first | refine k_call _ (hV1) ?_ | refine aS ?_ | fail)
    exact ⟨(), trivial, ⟨⟨.same _, .same _, .same _, .same _, .same _, .same _, .same _, .same _, trivial⟩, ⟨.same _, .same _, .same _, .same _, trivial⟩, trivial, rfl, fun _ _ _ => trivial, rfl⟩⟩
  refine wpC_cut (β := Unit) (fun _ => {sl := [(6, .ptr 6 0), (7, .ptr 7 0), (10, .ptr 10 0), (11, .t (I 0)), (12, .ptr 12 0), (13, .t (I 0)), (14, .t (I 2)), (15, .t (I 0)), (16, .t (I 0)), (17, .t (I 25))], bx := [(6, .d 10 (ha.map I)), (7, .d 10 (hb.map I)), (10, .d 19 (rcC 3 0 [[1, 2, 1, 1, x0, x1, x2, x3], [2, 7, 1, 2, y0, y1, y2, y3]] zero16)), (12, .d 19 (rcC 3 1 [] [d0, d1, d2, d3, d4, d5, d6, d7, d8, d9, d10, d11, d12, d13, d14, d15]))]}) (fun _ => True) ?_ fun _ _ => ?_
  · repeat' ((conv => whnf); first | refine k_call _ (hV2) ?_ | refine aS ?_ | fail)
    exact ⟨(), trivial, ⟨⟨.same _, .same _, .same _, .same _, .same _, .same _, .same _, .same _, .same _, .same _, trivial⟩, ⟨.same _, .same _, .same _, .same _, trivial⟩, trivial, rfl, fun _ _ _ => trivial, rfl⟩⟩
  refine wpC_cut (β := Unit) (fun _ => {sl := [(6, .ptr 6 0), (7, .ptr 7 0), (10, .ptr 10 0), (11, .t (I 0)), (12, .ptr 12 0), (13, .t (I 0)), (14, .t (I 2)), (15, .t (I 0)), (16, .t (I 0)), (17, .t (I 25)), (18, .ptr 18 0), (19, .t (.bool true))], bx := [(6, .d 10 (ha.map I)), (7, .d 10 (hb.map I)), (10, .d 19 (rcC 3 0 [[1, 2, 1, 1, x0, x1, x2, x3], [2, 7, 1, 2, y0, y1, y2, y3]] zero16)), (12, .d 19 (rcC 3 1 [] [d0, d1, d2, d3, d4, d5, d6, d7, d8, d9, d10, d11, d12, d13, d14, d15])), (18, .d 8 ([2, 7, 1, 2, y0, y1, y2, y3].map I))]}) (fun _ => True) ?_ fun _ _ => ?_
  · repeat' ((conv => whnf); first | refine k_call _ (hF) ?_ | refine aS ?_ | fail)
    exact ⟨(), trivial, ⟨⟨.same _, .same _, .same _, .same _, .same _, .same _, .same _, .same _, .same _, .same _, .same _, .same _, trivial⟩, ⟨.same _, .same _, .same _, .same _, .same _, trivial⟩, trivial, rfl, fun _ _ _ => trivial, rfl⟩⟩
  repeat' ((conv => whnf); first | refine k_call _ (q1) ?_ | refine k_call _ (q2) ?_ | refine aS ?_ | fail)
  refine wpC_cut (β := Unit) (fun _ => {sl := [(6, .ptr 6 0), (7, .ptr 7 0), (10, .ptr 10 0), (11, .t (I 0)), (12, .ptr 12 0), (13, .t (I 0)), (14, .t (I 2)), (15, .t (I 0)), (16, .t (I 0)), (17, .t (I 25)), (18, .ptr 18 0), (19, .t (.bool true)), (20, .t (I 2)), (21, .t (I 0)), (23, .t (I 26)), (25, .t (I 26))], bx := [(6, .d 10 (ha.map I)), (7, .d 10 (hb.map I)), (10, .d 19 (rcC 3 0 [[1, 2, 1, 1, x0, x1, x2, x3], [2, 7, 1, 2, y0, y1, y2, y3]] zero16)), (12, .d 19 (rcC 3 1 [] [d0, d1, d2, d3, d4, d5, d6, d7, d8, d9, d10, d11, d12, d13, d14, d15])), (18, .d 8 ([2, 7, 1, 2, y0, y1, y2, y3].map I))]}) (fun _ => True) ?_ fun _ _ => ?_
  · repeat' ((conv => whnf); first | refine k_call _ (q3) ?_ | refine aS ?_ | fail)
    exact ⟨(), trivial, ⟨⟨.same _, .same _, .same _, .same _, .same _, .same _, .same _, .same _, .same _, .same _, .same _, .same _, .same _, .same _, .same _, .same _, trivial⟩, ⟨.same _, .same _, .same _, .same _, .same _, trivial⟩, trivial, rfl, fun _ _ _ => trivial, rfl⟩⟩
  refine wpC_cut (β := Unit) (fun _ => {sl := [(6, .ptr 6 0), (7, .ptr 7 0), (14, .t (I 2)), (15, .t (I 0)), (16, .t (I 0)), (17, .t (I 25)), (18, .ptr 18 0), (19, .t (.bool true)), (20, .t (I 2)), (21, .t (I 0)), (23, .t (I 26)), (25, .t (I 26)), (26, .t (.bool true))], bx := [(6, .d 10 (ha.map I)), (7, .d 10 (hb.map I)), (18, .d 8 ([2, 7, 1, 2, y0, y1, y2, y3].map I))]}) (fun _ => True) ?_ fun _ _ => ?_
  · have eD : eqL ([d0, d1, d2, d3, d4, d5, d6, d7, d8, d9, d10, d11, d12, d13, d14, d15].map Y) ([d0, d1, d2, d3, d4, d5, d6, d7, d8, d9, d10, d11, d12, d13, d14, d15].map Y) = true := eqY (by simp)
    repeat' ((conv => whnf); first | refine k_call _ (hCk) ?_ | refine k_call _ (hD1) ?_ | refine nb_ true eD ?_ | refine nT_ ?_ | refine aE1 ?_ | (refine And.intro (by first | (exact ⟨fits16 (a := [d0, d1, d2, d3, d4, d5, d6, d7, d8, d9, d10, d11, d12, d13, d14, d15]) rfl, fits16 (a := [d0, d1, d2, d3, d4, d5, d6, d7, d8, d9, d10, d11, d12, d13, d14, d15]) rfl⟩; done) | fail) ?_) | refine aS ?_ | fail)
    exact ⟨(), trivial, ⟨⟨.same _, .same _, .same _, .same _, .same _, .same _, .same _, .same _, .same _, .same _, .same _, .same _, .same _, trivial⟩, ⟨.same _, .same _, .same _, trivial⟩, trivial, rfl, fun _ _ _ => trivial, rfl⟩⟩
  have eY : eqL ([y0, y1, y2, y3].map I) ([y0, y1, y2, y3].map I) = true := eqI (by simp)
  repeat' ((conv => whnf); first | exact trivial | refine k_call _ (o1) ?_ | refine k_call _ (o2) ?_ | refine k_call _ (o3) ?_ | refine nb_ true eY ?_ | refine nT_ ?_ | refine aE1 ?_ | refine rb1 ?_ | (refine And.intro (by first | (exact ⟨fits4 (a := [y0, y1, y2, y3]) rfl, fits4 (a := [y0, y1, y2, y3]) rfl⟩; done) | fail) ?_) | refine aS ?_ | fail)
end Go.RC
end
section
namespace Go.RC
open Go Go.DL Go.Proofs
set_option maxRecDepth 100000
set_option maxHeartbeats 2000000
end Go.RC
end
section
namespace Go.RC
open Go Go.DL Go.Proofs
set_option maxRecDepth 100000
set_option maxHeartbeats 1000000
end Go.RC
end
section
namespace Go.RC
open Go Go.DL Go.Proofs
set_option maxRecDepth 100000
set_option maxHeartbeats 2000000
def lineE (es : List Ent) (k : N3) : List Int := [k.1, k.2.1, k.2.2, ((getM k es).getD (0, S0')).1] ++ ((getM k es).getD (0, S0')).2
def linesE (es : List Ent) : List (List Int) := (srt (es.map (·.1))).map (lineE es)
theorem esM_fst (es : List Ent) : (esM es).map (·.1) = (es.map (·.1)).map nk := by simp [esM, List.map_map]
theorem esM_snd (es : List Ent) : (esM es).map (·.2) = es.map fun e => tly e.2.1 e.2.2 := by simp [esM, List.map_map]
theorem n_SortedE (es : List Ent) (hl : es.length < 2 ^ 40) : NCalls Tryz.prog 41 [.clos 83 [.cptr [.mapd true sh3 ((esM es).map (·.1)) ((esM es).map (·.2))] 0], .clos 43 []] (.slice 3 ((srt (es.map (·.1))).map nk)) := by
  rw [esM_fst, esM_snd]
  exact n_Sorted (es.map (·.1)) (es.map fun e => tly e.2.1 e.2.2) (by simp) (by simpa using hl)
theorem getM_some {k : N3} : ∀ {es : List Ent}, k ∈ es.map (·.1) → ∃ v, getM k es = some v
  | [], h => by simp at h
  | e :: es, h => by
    rw [getM_cons]
    by_cases hk : k = e.1
    · exact ⟨e.2, if_pos hk⟩
    · rw [if_neg hk]
      refine getM_some ?_
      rw [List.map_cons, List.mem_cons] at h
      rcases h with h | h
      · exact absurd h hk
      · exact h
def okX (es : List Ent) : Prop := okE es ∧ ∀ e ∈ es, rightN e.1.1 e.1.2.1 e.1.2.2 = true
theorem okX_get {es : List Ent} (h : okX es) {k : N3} (hk : k ∈ srt (es.map (·.1))) : ∃ c t0 t1 t2 t3, getM k es = some (c, [t0, t1, t2, t3]) ∧ isS [t0, t1, t2, t3] ∧ 0 ≤ c ∧ c ≤ 1073741824 ∧ rightN k.1 k.2.1 k.2.2 = true := by
  obtain ⟨⟨c, s⟩, hv⟩ := getM_some ((srt_perm _).mem_iff.1 hk)
  have hm := getM_mem hv
  obtain ⟨h1, h2, h3⟩ := h.1 _ hm
  obtain ⟨t0, t1, t2, t3, rfl⟩ := four h1.1
  exact ⟨c, t0, t1, t2, t3, hv, h1, h2, h3, h.2 _ hm⟩
theorem rightN_i64 {a b c : Int} (h : rightN a b c = true) : i64 a ∧ i64 b ∧ i64 c := by
  unfold rightN at h
  simp only [Bool.and_eq_true, decide_eq_true_eq] at h
  unfold i64; omega
theorem linesE_8 {es : List Ent} (h : okX es) : ∀ x ∈ linesE es, x.length = 8 ∧ (∀ y ∈ x, i64 y) ∧ 0 ≤ x.getD 3 0 ∧ x.getD 3 0 ≤ 1073741824 ∧ isS (x.drop 4) := fun x hx => by
  obtain ⟨k, hk, rfl⟩ := List.mem_map.1 hx
  obtain ⟨c, t0, t1, t2, t3, hv, hs, h0, h1, hr⟩ := okX_get h hk
  obtain ⟨i1, i2, i3⟩ := rightN_i64 hr
  have e : lineE es k = [k.1, k.2.1, k.2.2, c, t0, t1, t2, t3] := by unfold lineE; rw [hv]; rfl
  rw [e]
  refine ⟨rfl, fun y hy => ?_, h0, h1, hs⟩
  rcases List.mem_append.1 (show y ∈ [k.1, k.2.1, k.2.2, c] ++ [t0, t1, t2, t3] from hy) with hy | hy
  · simp only [List.mem_cons, List.not_mem_nil, or_false] at hy
    rcases hy with rfl | rfl | rfl | rfl
    · exact i1
    · exact i2
    · exact i3
    · unfold i64; omega
  · have := hs.2 y hy
    unfold M32 at this; unfold i64; omega
theorem linesE_len (es : List Ent) : (linesE es).length = es.length := by unfold linesE; rw [List.length_map, (srt_perm _).length_eq, List.length_map]
theorem okR_linesE {n i : Int} {es : List Ent} {pv : List Int} (hn : i64 n) (hi : i64 i) (h : okX es) (hp : pv.length = 16) (hb : areB pv) : okR n i (linesE es) pv := ⟨hn, hi, fun x hx => ⟨(linesE_8 h x hx).1, (linesE_8 h x hx).2.1⟩, hp, hb⟩
end Go.RC
end
section
namespace Go.Proofs
open Go.Shelf
def Tryz.laysGrow86_ren : Go.Shelf.Ren := ⟨fun | 4 => 86 | n => n, fun | 22 => 33 | 25 => 41 | 3 => 3 | 4 => 4 | 9 => 9 | 20 => 20 | 0 => 0 | n => n, fun | n => n⟩
theorem Tryz.laysGrow86 : Go.Proofs.Lays8.n4 Tryz.prog Tryz.laysGrow86_ren := {
  mixed := by kernel_rfl
  f4 := ⟨Tryz.f86.name, by decide, Tryz.func86.trans (congrArg some (by kernel_rfl))⟩
  t0 := Tryz.underlying0
  a0 := Tryz.isAgg0
  z0 := Tryz.sizeOf0
  v0 := Tryz.zeroValue0
  t3 := Tryz.underlying3
  a3 := Tryz.isAgg3
  z3 := Tryz.sizeOf3
  v3 := Tryz.zeroValue3
  t4 := Tryz.underlying4
  a4 := Tryz.isAgg4
  z4 := Tryz.sizeOf4
  v4 := Tryz.zeroValue4
  t9 := Tryz.underlying9
  a9 := Tryz.isAgg9
  z9 := Tryz.sizeOf9
  v9 := Tryz.zeroValue9
  t20 := Tryz.underlying20
  a20 := Tryz.isAgg20
  z20 := Tryz.sizeOf20
  v20 := Tryz.zeroValue20
  t22 := Tryz.underlying33
  a22 := Tryz.isAgg33
  z22 := Tryz.sizeOf33
  v22 := Tryz.zeroValue33 }
end Go.Proofs
end
section
namespace Go.RC
open Go Go.DL Go.Proofs
set_option maxRecDepth 100000
noncomputable def c47 : DCode := (.seq (.region [oo 2 (.mov (.const .nil))] []) (.seq (.region [oo 3 (.mov (Kc 0))] []) (.seq (.seq (.region [mv 9 0,oo 10 (.len (tm 9)),oo 11 (.mov (Kc 0))] []) (.block 0 (.loop (.seq (.region [oo 12 (.bin .lss (tm 11) (tm 10))] []) (.seq (.cond (tm 12) .skip (.exit 0)) (.seq (.block 1 (.seq (.region [oo 13 (.idxL 1 (tm 9) (tm 11)),oo 14 (.load 1 false (tm 13)),mv 5 14] []) (.seq (.region [mv 15 3,mv 16 5,oo 17 (.len (tm 16)),oo 18 (.bin .add (tm 15) (tm 17)),mv 3 18] []) (.seq (.region [mv 19 3,oo 20 (.bin .lss (tm 19) (Kc 0))] []) (.cond (tm 20) (.region [oo 21 (.bad),o0 (.bad)] []) .skip))))) (.region [oo 22 (.bin .add (tm 11) (Kc 1)),mv 11 22] []))))))) (.seq (.region [mv 23 3,oo 24 (.inl 86 [(.const .nil), (tm 23)]),mv 6 24] []) (.seq (.seq (.region [mv 25 0,oo 26 (.len (tm 25)),oo 27 (.mov (Kc 0))] []) (.block 2 (.loop (.seq (.region [oo 28 (.bin .lss (tm 27) (tm 26))] []) (.seq (.cond (tm 28) .skip (.exit 2)) (.seq (.block 3 (.seq (.region [oo 29 (.idxL 1 (tm 25) (tm 27)),oo 30 (.load 1 false (tm 29)),mv 8 30] []) (.region [mv 31 6,mv 32 8,oo 33 (.append 33 41 19 56 (tm 31) (tm 32)),mv 6 33] []))) (.region [oo 34 (.bin .add (tm 27) (Kc 1)),mv 27 34] []))))))) (.seq (.region [mv 35 6,mv 2 35] []) .ret))))))
theorem l47 : (Tryz.f47.body.bind (lowC Tryz.prog 36 [86])) = some c47 := by kernel_rfl
noncomputable def c50 : DCode := (.seq (.region [oo 1 (.box 1 (tm 0)),oo 2 (.mov (.const .nilfn))] []) (.seq (.region [oo 3 (.mkfn 90 [(tm 1)]),mv 2 3] []) .ret))
theorem l50 : (Tryz.f50.body.bind (lowC Tryz.prog 4 [])) = some c50 := by kernel_rfl
noncomputable def c52 : DCode := (.seq (.region [oo 1 (.box 1 (tm 0)),oo 2 (.mov (.const .nilfn))] []) (.seq (.region [oo 3 (.mkfn 91 [(tm 1)]),mv 2 3] []) .ret))
theorem l52 : (Tryz.f52.body.bind (lowC Tryz.prog 4 [])) = some c52 := by kernel_rfl
noncomputable def c91 : DCode := (.seq (.region [oo 4 (.load 1 false (tm 1)),oo 5 (.mrng (tm 4))] []) (.block 0 (.loop (.seq (.region [oo 6 (.mnext (tm 5)),oo 7 (.ext (tm 6) 0)] []) (.seq (.cond (tm 7) .skip (.exit 0)) (.block 1 (.seq (.region [oo 8 (.ment (tm 5)),oo 9 (.ext (tm 8) 0),oo 3 (.alloc [(Zi 0), (Zi 0)]),o0 (.store 2 (tm 3) (tm 9))] []) (.seq (.sem 14 (rg0 3 Tryz.f91.body)) (.cond (tm 13) .ret .skip)))))))))
theorem l91 : (Tryz.f91.body.bind (lowC Tryz.prog 14 [1000003])) = some c91 := by kernel_rfl
noncomputable def c90 : DCode := (.seq (.region [oo 4 (.load 1 false (tm 1)),oo 5 (.mrng (tm 4))] []) (.block 0 (.loop (.seq (.region [oo 6 (.mnext (tm 5)),oo 7 (.ext (tm 6) 0)] []) (.seq (.cond (tm 7) .skip (.exit 0)) (.block 1 (.seq (.region [oo 8 (.ment (tm 5)),oo 9 (.ext (tm 8) 0),oo 3 (.alloc [(Zi 0), (Zi 0)]),o0 (.store 2 (tm 3) (tm 9))] []) (.seq (.sem 14 (rg0 3 Tryz.f90.body)) (.cond (tm 13) .ret .skip)))))))))
theorem l90 : (Tryz.f90.body.bind (lowC Tryz.prog 14 [1000003])) = some c90 := by kernel_rfl
noncomputable def c88 : DCode := (.seq (.region [oo 2 (.mov (.const .nil))] []) (.seq (.region [mv 3 0,oo 4 (.inl 138 [(.const .nil), (tm 3)]),mv 2 4] []) .ret))
theorem l88 : (Tryz.f88.body.bind (lowC Tryz.prog 5 [138])) = some c88 := by kernel_rfl
noncomputable def c49 : DCode := (.seq (.region [oo 4 (.mov (.const .nil))] []) (.seq (.region [mv 6 0,oo 7 (.inl 88 [(tm 6)]),mv 5 7] []) (.seq (.region [mv 8 5,mv 9 1,oo 10 (.inl 89 [(tm 8), (tm 9)])] []) (.seq (.region [mv 11 5,mv 4 11] []) .ret))))
theorem l49 : (Tryz.f49.body.bind (lowC Tryz.prog 12 [88, 89])) = some c49 := by kernel_rfl
noncomputable def c51 : DCode := (.seq (.region [oo 2 (.box 2 (tm 0)),oo 3 (.box 2 (tm 1)),oo 4 (.mov (Kc 0))] []) (.seq (.region [oo 5 (.offA 0 (tm 2)),oo 6 (.load 1 false (tm 5)),oo 7 (.offA 0 (tm 3)),oo 8 (.load 1 false (tm 7)),oo 9 (.call 85 [(tm 6), (tm 8)]),oo 10 (.offA 1 (tm 2)),oo 11 (.load 1 false (tm 10)),oo 12 (.offA 1 (tm 3)),oo 13 (.load 1 false (tm 12)),oo 14 (.call 85 [(tm 11), (tm 13)]),oo 15 (.buildT 1 2 [(Zi 0)] [(0, (tm 9)), (1, (tm 14))]),oo 16 (.call 84 [(tm 15)]),mv 4 16] []) .ret))
theorem l51 : (Tryz.f51.body.bind (lowC Tryz.prog 17 [])) = some c51 := by kernel_rfl
end Go.RC
end
section
namespace Go.DL
open Go.RowKit Go.Shelf Go.Proofs
section
variable [Glb] {P : Program} {ρ : Ren}
theorem fcalls_grow (L : Lays8.n4 P ρ) {i0 : TypeInfo} {z : Value} (hi0 : P.info? (ρ.t 25) = some i0) (hz0 : i0.zero = some z) (hs0 : 0 < i0.size) (hzs : z.cells.size = i0.size) (n : Nat) (hbig : n * i0.bytes ≤ 140737488355328) (h62 : n ≤ 4611686018427387904) (hc : Callable P (ρ.f 4)) :
    FCalls P (ρ.f 4) [.nil, .int .i64 n] (ρ.t 25) i0.size [] [] := by
  refine ⟨hc, fun S w vs _ _ hlen hrep => ?_⟩
  have hsz : vs.length = 2 := hlen
  match vs, hsz with
  | [a, b], _ =>
    have ha := hrep 0 a .nil rfl rfl
    have hb := hrep 1 b (.int .i64 n) rfl rfl
    cases ha
    cases hb
    have noLen : ∀ (i : Nat) (u : Value) (t : T), ([] : List Value)[i]? = some u → ([] : List T)[i]? = some t → t.flat = true ∧ Rep (fun _ _ => False) w u t := fun i u t hu => by simp at hu
    by_cases h0 : n = 0
    · subst h0
      refine (Any8.slices_Grow_room L none 0 0 0 w (Nat.le_refl _) (by omega) (by omega) (by omega)).mono ?_
      rintro e w' ⟨rfl, rfl⟩
      exact ⟨.slice none 0 0, [], rfl, Below.refl _ _, ⟨⟨[], ⟨by simp, .inl ⟨rfl, rfl⟩⟩, rfl, fun i x t hx => by simp at hx⟩, by simp, by simp, by simp⟩, rfl, fun i u t hu => by simp at hu⟩
    · refine (Any8.slices_Grow_grow L i0 z hi0 hz0 hs0 none 0 0 n [] w (Nat.le_refl _) (by omega) (by simpa using hbig) (by omega) (by simp) (fun _ => rfl) (fun a h => by cases h)).mono ?_
      rintro e w' ⟨rfl, rfl⟩
      have hge := grownCap_ge w (0 + n) 0 (ρ.t 25)
      have hml := grownCap_le_maxLen w (0 + n) 0 (ρ.t 25) (by unfold maxLen; omega)
      refine ⟨_, [], rfl, ((Below.refl _ _).drew).alloc (Nat.le_refl _) _, ⟨⟨[], ⟨by simp, .inr ⟨_, _, _, rfl, Nat.le_refl _, heap_alloc_new w.drew _, Nat.zero_le _, hml, ?_, by simp⟩⟩, rfl, fun i x t hx => by simp at hx⟩, by simp, by simp, by simp⟩, rfl, fun i u t hu => by simp at hu⟩
      rw [Array.size_append, Array.size_append, size_zeroCells, size_zeroCells, hzs, show ([] : List Value).toArray.size = 0 from rfl, Nat.zero_add, ← Nat.add_mul]
      congr 1
      omega
end
end Go.DL
end
section
namespace Go.RC
open Go Go.DL Go.Proofs
set_option maxRecDepth 100000
set_option maxHeartbeats 2000000
theorem infoR : (Tryz.prog.info? 41).map (fun i => (i.zero.map (fun z => z.cells.size), i.size, i.bytes)) = some (some 19, 19, 56) := by kernel_rfl
theorem f_Grow (n : Nat) (h : n < 2 ^ 40) : FCalls Tryz.prog 86 [.nil, I n] 41 19 [] [] := by
  have hi := infoR
  cases hj : Tryz.prog.info? 41 with
  | none => rw [hj] at hi; cases hi
  | some j =>
    rw [hj] at hi
    simp only [Option.map_some, Option.some.injEq, Prod.mk.injEq] at hi
    obtain ⟨h1, h2, h3⟩ := hi
    cases hz : j.zero with
    | none => rw [hz] at h1; cases h1
    | some z =>
      rw [hz] at h1
      have h1 : z.cells.size = 19 := by simpa using h1
      have := fcalls_grow Tryz.laysGrow86 (i0 := j) (z := z) hj hz (by omega) (by omega) n (by rw [h3]; omega) (by omega) (callable_of Tryz.func86 rfl rfl)
      rw [h2] at this
      exact this
def lensN (ls : List (List Rc)) : Nat := (ls.map List.length).sum
theorem lensN_take {ls : List (List Rc)} {k : Nat} (h : k < ls.length) : lensN (ls.take (k + 1)) = lensN (ls.take k) + ls[k].length := by
  unfold lensN
  rw [List.take_succ_eq_append_getElem h, List.map_append, List.sum_append]; simp
theorem lensN_le (ls : List (List Rc)) (k : Nat) : lensN (ls.take k) ≤ lensN ls := by
  conv => rhs; rw [← List.take_append_drop k ls]
  unfold lensN
  rw [List.map_append, List.sum_append]; omega
theorem lensN_flat (ls : List (List Rc)) : ls.flatten.length = lensN ls := by unfold lensN; rw [List.length_flatten]
theorem eltL {ls : List (List Rc)} {j : Nat} {l : List Rc} (h : ls[j]? = some l) : ((ls.map rcs)[j]?.getD .nil) = rcs l := by
  rw [List.getElem?_map, h]; rfl
theorem t_Concat (ls : List (List Rc)) (hl : ls.length < 2 ^ 20) (hn : lensN ls < 2 ^ 30) : DCalls Tryz.prog 47 [.slice 1 (ls.map rcs)] (rcs ls.flatten) := by
  refine dcalls_low (rs := [.tmp 2]) mixed Tryz.func47 l47 rfl rfl rfl (r := [rcs _]) (Nat.le_of_ble_eq_true rfl) ?_
  skip
  refine wpC_loopE 0 (α := Nat) (β := Unit) (fun k => {sl := [(0, .t (.slice 1 (ls.map rcs))), (2, .t .nil), (3, .t (I (lensN (ls.take k)))), (9, .t (.slice 1 (ls.map rcs))), (10, .t (I ls.length)), (11, .t (I k))], bx := []})
    (fun k => k ≤ ls.length) (fun k => ls.length - k) (fun _ => {sl := [(0, .t (.slice 1 (ls.map rcs))), (2, .t .nil), (3, .t (I (lensN ls)))], bx := []}) (fun _ => True) 0 (by omega) ?_ ?_ ?_
  · repeat' (first | ((refine leI ?_; simp; done)) | exact trivial | exact LeV.same _ | exact rfl | exact fun _ _ _ => trivial | refine And.intro ?_ ?_)
  · rintro k hk
    rcases Nat.lt_or_ge k ls.length with h2 | h2
    · have hke : ls[k]? = some ls[k] := List.getElem?_eq_getElem h2
      have hst := lensN_take h2
      have hle := lensN_le ls k
      have hle2 := lensN_le ls (k + 1)
      generalize ls[k] = l at hke hst
      have hib : 0 ≤ (k : Int) ∧ (k : Int) < ((ls.map rcs).length : Int) := by rw [List.length_map]; omega
      have hel : (ls.map rcs)[((k : Int)).toNat]?.getD .nil = rcs l := eltL (by rw [Int.toNat_natCast]; exact hke)
      have hw : IntKind.i64.wrap ((lensN (ls.take k) : Int) + (((l.map rc).length : Nat) : Int)) = (lensN (ls.take (k + 1)) : Int) := by
        rw [List.length_map, hst, wrap_id (by omega) (by omega)]; push_cast; rfl
      have hw2 := hw.symm
      have hneg : ¬ IntKind.i64.wrap ((lensN (ls.take k) : Int) + (((l.map rc).length : Nat) : Int)) < 0 := by rw [hw]; omega
      repeat' ((conv => whnf); first | refine now_D1 (by omega) ?_ | (refine nv_ (rcs l) (by first | (exact hel; done) | fail) ?_) | refine now_D0 hneg ?_ | refine nT_ ?_ | (refine And.intro (by first | (exact hib; done) | fail) ?_) | refine aS ?_ | fail)
      exact ⟨k + 1, by omega, by omega, by repeat' (first | (exact leI hw2) | exact trivial | exact LeV.same _ | exact rfl | exact fun _ _ _ => trivial | exact lI | refine And.intro ?_ ?_)⟩
    · have : k = ls.length := by omega
      subst this
      repeat' ((conv => whnf); first | refine now_D0 (by omega) ?_ | refine aS ?_ | fail)
      exact ⟨(), trivial, by repeat' (first | ((refine leI ?_; rw [List.take_length])) | exact trivial | exact LeV.same _ | exact rfl | exact fun _ _ _ => trivial | refine And.intro ?_ ?_)⟩
  rintro - -
  have hG := f_Grow (lensN ls) (by omega)
  repeat' ((conv => whnf); first | refine WC_own rfl hG ?_ | fail)
  refine wpC_loopE 2 (α := Nat × Nat) (β := Nat) (fun q => {sl := [(2, .t .nil), (6, .own q.1 41 19 ((ls.take q.2).flatten.map rc)), (25, .t (.slice 1 (ls.map rcs))), (26, .t (I ls.length)), (27, .t (I q.2))], bx := []})
    (fun q => q.2 ≤ ls.length ∧ (q.1 = 24 ∨ q.1 = 33)) (fun q => ls.length - q.2) (fun q => {sl := [(2, .t .nil), (6, .own q 41 19 (ls.flatten.map rc))], bx := []}) (fun q => q = 24 ∨ q = 33) (24, 0) (by simp) ?_ ?_ ?_
  · repeat' (first | ((refine leI ?_; simp; done)) | exact trivial | exact LeV.same _ | exact rfl | exact fun _ _ _ => trivial | refine And.intro ?_ ?_)
  · rintro ⟨q, k⟩ ⟨hk, hq⟩
    dsimp only at hk hq
    rcases Nat.lt_or_ge k ls.length with h2 | h2
    · have hke : ls[k]? = some ls[k] := List.getElem?_eq_getElem h2
      have hst := lensN_take h2
      have hfl : (ls.take (k + 1)).flatten = (ls.take k).flatten ++ ls[k] := by rw [List.take_succ_eq_append_getElem h2, List.flatten_append]; simp
      have hle := lensN_le ls (k + 1)
      have hfn := lensN_flat (ls.take k)
      generalize ls[k] = l at hke hst hfl
      have hib : 0 ≤ (k : Int) ∧ (k : Int) < ((ls.map rcs).length : Int) := by rw [List.length_map]; omega
      have hel : (ls.map rcs)[((k : Int)).toNat]?.getD .nil = rcs l := eltL (by rw [Int.toNat_natCast]; exact hke)
      have hroom : (((ls.take k).flatten.map rc).length + (l.map rc).length) * 56 ≤ 140737488355328 := by simp only [List.length_map]; omega
      rcases hq with rfl | rfl
      all_goals repeat' ((conv => whnf); first | refine now_D1 (by omega) ?_ | (refine nv_ (rcs l) (by first | (exact hel; done) | fail) ?_) | refine nT_ ?_ | (refine And.intro (by first | (exact hib; done) | (exact hroom; done) | fail) ?_) | refine aS ?_ | fail)
      all_goals refine ⟨(33, k + 1), ⟨by dsimp only; omega, .inr rfl⟩, by dsimp only; omega, ?_⟩
      all_goals repeat' (first | ((refine leOwn ?_; rw [hfl, List.map_append])) | exact trivial | exact LeV.same _ | exact rfl | exact fun _ _ _ => trivial | exact lI | refine And.intro ?_ ?_)
    · have : k = ls.length := by omega
      subst this
      repeat' ((conv => whnf); first | refine now_D0 (by omega) ?_ | refine aS ?_ | fail)
      exact ⟨q, hq, by repeat' (first | ((refine leOwn ?_; rw [List.take_length])) | exact trivial | exact LeV.same _ | exact rfl | exact fun _ _ _ => trivial | refine And.intro ?_ ?_)⟩
  rintro q hq
  repeat' ((conv => whnf); first | exact trivial | refine aS ?_ | fail)
end Go.RC
end
section
namespace Go.RC
open Go Go.DL Go.Proofs
set_option maxRecDepth 100000
set_option maxHeartbeats 1000000
abbrev S2 := Int × Int
abbrev sk (k : S2) : T := .agg [I k.1, I k.2]
abbrev sh2 : List Sh := [.int .i64, .int .i64]
abbrev mpS (ks : List S2) (vs : List T) : T := .mapd true sh2 (ks.map sk) vs
noncomputable abbrev fAS : Option Code := Tryz.f138.body
theorem bAS : fAS = some (.seq (.region 0 (ropsOf 0 fAS) false) (.seq (.seq (.region 1 (ropsOf 1 fAS) false)
    (.block 0 (.rangeFunc (.tmp 6) #[7] (.region 2 (ropsOf 2 fAS) false) (.block 1 (.region 3 (ropsOf 3 fAS) false))))) (.seq (.region 4 (ropsOf 4 fAS) false) .ret))) := by kernel_rfl
abbrev isAS2 : List DI := [⟨some 5, .alloc [I 0, I 0], none, []⟩, ⟨none, .store 2 (.tmp 5) (.tmp 7), none, [0, 0]⟩]
abbrev isAS3 : List DI := [⟨some 8, .load 1 false (.tmp 2), none, []⟩, ⟨some 9, .load 2 true (.tmp 5), none, []⟩, ⟨some 10, .buildS 103 2 1 [I 0, I 0] [(0, .tmp 9)], none, [1]⟩,
  ⟨some 11, .append 50 103 2 16 (.tmp 8) (.tmp 10), none, [0, 2]⟩, ⟨none, .store 1 (.tmp 2) (.tmp 11), none, [3, 3, 0, 1, 2, 3]⟩]
theorem bAS_0 : lowIs Tryz.prog 13 [] (ropsOf 0 fAS) (ropsOf 0 fAS).toList = some [⟨some 2, .box 1 (.tmp 0), none, []⟩, ⟨some 4, .mov (.const .nil), none, []⟩] := by kernel_rfl
theorem bAS_1 : lowIs Tryz.prog 13 [] (ropsOf 1 fAS) (ropsOf 1 fAS).toList = some [⟨some 6, .mov (.tmp 1), none, []⟩] := by kernel_rfl
theorem bAS_2 : lowIs Tryz.prog 13 [] (ropsOf 2 fAS) (ropsOf 2 fAS).toList = some isAS2 := by kernel_rfl
theorem bAS_3 : lowIs Tryz.prog 13 [] (ropsOf 3 fAS) (ropsOf 3 fAS).toList = some isAS3 := by kernel_rfl
theorem bAS_4 : lowIs Tryz.prog 13 [] (ropsOf 4 fAS) (ropsOf 4 fAS).toList = some [⟨some 12, .load 1 false (.tmp 2), none, []⟩, ⟨some 4, .mov (.tmp 12), none, [0, 0]⟩] := by kernel_rfl
noncomputable abbrev itAS (l d : Nat) (f : FuncId) (tmps : Array Value) : Base → World → Prop := iterCx l (readyRec f tmps 7 (.region 2 (ropsOf 2 fAS) false) (.block 1 (.region 3 (ropsOf 3 fAS) false)) d)
def permOfS (ks : List S2) (xs : List T) : Prop := ∃ js : List Nat, js.Perm (List.range ks.length) ∧ xs = js.map fun j => sk (ks.getD j (0, 0))
abbrev outS (ks : List S2) (ix : List Nat) : List T := ix.map fun j => sk (ks.getD j (0, 0))
abbrev esS (ks : List S2) (vs : List T) : List (T × T) := (ks.map sk).zip vs
theorem esS_get {ks : List S2} {vs : List T} {j : Nat} {e : T × T} (h : (esS ks vs)[j]? = some e) : e.1 = sk (ks.getD j (0, 0)) ∧ j < ks.length := by
  rw [List.getElem?_zip_eq_some] at h
  obtain ⟨h1, _⟩ := h
  rw [List.getElem?_map, Option.map_eq_some_iff] at h1
  obtain ⟨k, hk, hk2⟩ := h1
  refine ⟨?_, (List.getElem?_eq_some_iff.1 hk).1⟩
  rw [List.getD_eq_getElem?_getD, hk, ← hk2]; rfl
abbrev WS (l : Nat) (C : Base → World → Prop) (ks : List S2) (vs : List T) (ix : List Nat) (sl : List (Nat × V)) (bx : List (Nat × BX)) : Wk :=
  { sl := (0, .raw (.func (.yield l) #[] #[])) :: (5, .ptr 2005 0) :: sl, bx := (2, .v [.own 3011 103 2 (outS ks ix)]) :: (2005, .itd (esS ks vs) ix) :: bx, gh := [(0, [(2, .ptr 2 0)])], off := 2000, cx := C }
theorem sk_flat (js : List Nat) (ks : List S2) : ∀ t ∈ (js.map fun j => sk (ks.getD j (0, 0))).flatMap T.cells, t.flat = true := fun t ht => by
  simp only [List.mem_flatMap, List.mem_map] at ht
  obtain ⟨x, ⟨j, _, rfl⟩, hx⟩ := ht
  simp only [T.cells, List.mem_cons, List.not_mem_nil, or_false] at hx
  rcases hx with rfl | rfl <;> rfl
end Go.RC
end
section
namespace Go.RC
open Go Go.DL Go.Proofs
set_option maxRecDepth 100000
set_option maxHeartbeats 1000000
noncomputable abbrev fKR : Option Code := Tryz.f91.body
noncomputable abbrev yKR : Array Oper := ropsOf 3 fKR
theorem bKR : rg0 3 fKR = .region 3 yKR false := by kernel_rfl
theorem bKR_1 : lowK Tryz.prog 14 yKR [0, 1] = some [⟨some 10, .mov (.tmp 0), none, []⟩, ⟨some 11, .load 2 true (.tmp 3), none, []⟩] := by kernel_rfl
theorem bKR_2 : lowK Tryz.prog 14 yKR [3] = some [⟨some 13, .not (.tmp 12), none, [2]⟩] := by kernel_rfl
theorem bKR_o : ∃ o ats, yKR[2]? = some o ∧ o.guard = none ∧ o.op = .call { callee := .value (.tmp 10), args := #[.tmp 11], argTypes := ats } ∧ o.dst = some 12 := by
  refine ⟨((ropsOf 3 fKR)[2]?).getD default, (match (((ropsOf 3 fKR)[2]?).getD default).op with | .call c => c.argTypes | _ => #[]), by kernel_rfl, by kernel_rfl, by kernel_rfl, by kernel_rfl⟩
theorem cKR_wp (l d : Nat) (f : FuncId) (tmps : Array Value) (ht : tmps.size = 13) (ks : List S2) (vs : List T) (hvs : vs.length = ks.length) (hl : ks.length < 2 ^ 40) (st0 : St)
    (h0 : st0 = ({sl := [(2, .ptr 2 0), (6, .fn 91 [.t (.cptr [mpS ks vs] 0)])], bx := [(2, .v [.own 3011 103 2 []])]} : Wk).mk') :
    wpC Tryz.prog c91 (st0.iter l (readyRec f tmps 7 (.region 2 (ropsOf 2 fAS) false) (.block 1 (.region 3 (ropsOf 3 fAS) false)) d) [.t (.cptr [mpS ks vs] 0)] 2000)
      (PostI st0 fun st => st.sl 2 = .ptr 2 0 ∧ (∃ xs, permOfS ks xs ∧ st.bx 2 = some (.v [.own 3011 103 2 xs])) ∧ ∀ S w, st.cx S w) := by
  subst h0
  have hes : (esS ks vs).length = ks.length := by simp [hvs]
  repeat' ((conv => whnf); first | refine nT_ ?_ | refine aS ?_ | fail)
  refine wpC_loopE 0 (α := List Nat) (β := List Nat) (fun ix => WS l (itAS l d f tmps) ks vs ix [] []) (fun ix => ix.Nodup ∧ ∀ j ∈ ix, j < ks.length) (fun ix => ks.length - ix.length)
    (fun ix => WS l (itAS l d f tmps) ks vs ix [] []) (fun ix => ix.Perm (List.range ks.length)) [] ⟨List.nodup_nil, by simp⟩ ?_ ?_ ?_
  · exact ⟨⟨.same _, .same _, trivial⟩, ⟨.same _, .same _, trivial⟩, ⟨⟨.same _, trivial⟩, trivial⟩, rfl, fun _ _ h => h, rfl⟩
  · rintro ix ⟨hnd, hix⟩
    refine And.intro (fun j hj => by rw [hes]; exact hix j hj) (And.intro ?_ ?_)
    · intro j e he hj
      obtain ⟨he1, hjl⟩ := esS_get he
      have hent := ent_last _ ix j e he
      have hje : (ix ++ [j]).getLast?.getD 0 < (esS ks vs).length := by rw [List.getLast?_concat, hes]; exact hjl
      obtain ⟨e1, e2⟩ := e
      dsimp only at he1 hent
      subst he1
      have hixl : ix.length ≤ ks.length := by
        have := hnd.length_le_of_subset (l₂ := List.range ks.length) (fun j hj => List.mem_range.2 (hix j hj))
        simpa using this
      have hnd' : (ix ++ [j]).Nodup := by
        rw [List.nodup_append]
        exact ⟨hnd, by simp, fun a ha b hb => by rw [List.mem_singleton.1 hb]; exact fun e => hj (e ▸ ha)⟩
      have hix' : ∀ i ∈ ix ++ [j], i < ks.length := fun i hi => by
        rcases List.mem_append.1 hi with h | h
        · exact hix i h
        · rw [List.mem_singleton.1 h]; exact hjl
      have hixl' : (ix ++ [j]).length ≤ ks.length := by
        have := hnd'.length_le_of_subset (l₂ := List.range ks.length) (fun j hj => List.mem_range.2 (hix' j hj))
        simpa using this
      repeat' ((conv => whnf); first | refine nv_ (.tup [sk (ks.getD j (0, 0)), e2]) hent ?_ | (refine And.intro (by first | (exact ⟨by simp, hje⟩; done) | fail) ?_) | refine aS ?_ | fail)
      obtain ⟨o, ats, o1, o2, o3, o4⟩ := bKR_o
      have hsem : ∀ (st : St) (Q : DExit → St → Prop), SemC Tryz.prog 14 (.region 3 yKR false) st Q → SemC Tryz.prog 14 (rg0 3 fKR) st Q := fun st Q h => by rw [bKR]; exact h
      refine hsem _ _ ?_
      refine yield_sem (P := Tryz.prog) (k1 := [0, 1]) (k := 2) (k2 := [3]) (by kernel_rfl) bKR_1 rfl bKR_2 rfl o1 o2 o3 o4 (by decide) (p := 7) ht (by decide) bAS_2 rfl bAS_3 rfl 3000 (l := l) (fn := f) (dd := d) (id1 := 2) (id2 := 3) (bl := 1) ?_
      refine ⟨fun _ _ h => h, rfl, ?_⟩
      repeat' ((conv => whnf); first | (refine And.intro (by first | (exact fun _ _ => trivial; done) | (exact ⟨rfl, Nat.le_of_ble_eq_true rfl⟩; done) | ((simp; omega); done) | (exact .inl rfl; done) | fail) ?_) | refine aS ?_ | fail)
      refine ⟨ix ++ [j], ⟨hnd', hix'⟩, by rw [List.length_append]; simp at hixl' ⊢; omega, ?_⟩
      refine ⟨⟨.same _, .same _, trivial⟩, ⟨?_, .same _, trivial⟩, ⟨⟨.same _, trivial⟩, trivial⟩, rfl, fun _ _ h => h, rfl⟩
      refine .v _ _ ⟨leOwn ?_, trivial⟩
      simp [outS, putL]
    · intro hall
      skip
      refine ⟨ix, range_perm hnd hix (fun j hj => hall j (by rw [hes]; exact hj)), ?_⟩
      exact ⟨⟨.same _, .same _, trivial⟩, ⟨.same _, .same _, trivial⟩, ⟨⟨.same _, trivial⟩, trivial⟩, rfl, fun _ _ h => h, rfl⟩
  rintro ix hp
  repeat' ((conv => whnf); first | refine aS ?_ | fail)
  exact ⟨⟨_, ⟨ix, hp, rfl⟩, rfl⟩, fun _ _ => trivial⟩
abbrev keysR (ks : List S2) (vs : List T) : T := .clos 91 [.cptr [mpS ks vs] 0]
theorem f_AppendSeqR (ks : List S2) (vs : List T) (hvs : vs.length = ks.length) (hl : ks.length < 2 ^ 40) : FCallsR Tryz.prog 138 [.nil, keysR ks vs] 103 2 (permOfS ks) := by
  refine fcallsR_mark Tryz.func138 bAS rfl (Nat.le_of_ble_eq_true rfl) ?_
  intro S w a0 hsr hdf
  let K0 : St → Prop := fun st => wpIs Tryz.prog [⟨some 6, .mov (.tmp 1), none, []⟩] st fun st =>
    weak { sl := [(2, .ptr 2 0), (6, .t (keysR ks vs))], bx := [(2, .d 1 [.nil])] } st
  have hK0 : wpIs Tryz.prog [⟨some 2, .box 1 (.tmp 0), none, []⟩, ⟨some 4, .mov (.const .nil), none, []⟩] (initSt [.nil, keysR ks vs]) K0 := by
    repeat' ((conv => whnf); first | refine aS ?_ | fail)
    exact ⟨⟨.same _, .same _, trivial⟩, ⟨.same _, trivial⟩, trivial, rfl, fun _ _ _ => trivial, rfl⟩
  refine wp_seq (region_wp (X := []) (N := 13) hsr bAS_0 (fun a1 w1 h1 => ?_) hK0)
  obtain ⟨E1, s1, rfl, k1, k2, k3⟩ := h1
  refine wp_seq (wp_seq (region_wp (X := []) k1 bAS_1 (fun a2 w2 h2 => ?_) k3))
  obtain ⟨E2, s2, rfl, k4, k5, k6⟩ := h2
  obtain ⟨E3, e3, k7⟩ := k4.weak k6
  rw [← e3]
  have k8 := k7.reread (k := 6) (k7.sl 6).clos_fn
  obtain ⟨E4, e4, k10⟩ := SR.weak (a := a2) (s := {sl := [(2, .ptr 2 0), (6, .fn 91 [.t (.cptr [mpS ks vs] 0)])], bx := [(2, .v [.own 3011 103 2 []])]}) k8 ⟨⟨.same _, .same _, trivial⟩, ⟨.dv _ _ _ ⟨.nil _ _ _, trivial⟩, trivial⟩, trivial, rfl, fun _ _ _ => trivial, rfl⟩
  rw [← e4]
  refine wp_block ?_
  refine range_wp mixed k10 (fun _ _ => trivial) (y := .tmp 6) rfl (gf := 91) (caps := [.t (.cptr [mpS ks vs] 0)]) rfl Tryz.func91 l91 rfl rfl rfl (Nat.le_of_ble_eq_true rfl) 2000
    (K := fun st => st.sl 2 = .ptr 2 0 ∧ (∃ xs, permOfS ks xs ∧ st.bx 2 = some (.v [.own 3011 103 2 xs])) ∧ ∀ S w, st.cx S w) (fun l d f tmps ht => ?_) (fun a5 w5 h5 => ?_)
  · exact cKR_wp l d f tmps ht ks vs hvs hl _ rfl
  · obtain ⟨S0', E5, s5, D, rfl, q1, q2, q3, q4, q5, q6, r1, ⟨xs, hxs, r2⟩, r3⟩ := h5
    have q6' : a5.defers = [{ target := .collected D, args := #[] }] := by rw [q6, k5, k2, hdf]
    show Code.wp _ _ _ _ _
    refine wp_seq (region_wp (X := []) q1 bAS_4 (K := fun st => (∀ S w, st.cx S w) ∧ st.sl 4 = .own 3011 103 2 xs) (fun a6 w6 h6 => ?_) ?_)
    · obtain ⟨E6, s6, rfl, p1, p2, p3, p4⟩ := h6
      obtain ⟨js, hjs, rfl⟩ := hxs
      refine wp_ret ⟨.inr rfl, S0', E6, s6, D, rfl, p1, q2, q3, q4, q5, by rw [p2, q6'], p3, _, _, ⟨js, hjs, rfl⟩, sk_flat js ks, ?_, .inl ⟨3011, rfl⟩⟩
      have : resV s6 Tryz.f138.results.toList = some [s6.sl 4] := by
        rw [show Tryz.f138.results.toList = [.tmp 4] from rfl]; rfl
      rw [this, p4]
    · obtain ⟨sl5, bx5, gh5, off5, cx5⟩ := s5
      dsimp only at r1 r2 r3
      obtain ⟨g, rfl⟩ : ∃ g, sl5 = upd g 2 (.ptr 2 0) := ⟨sl5, (upd_same_id r1).symm⟩
      obtain ⟨b, rfl⟩ : ∃ b, bx5 = upd b 2 (some (.v [.own 3011 103 2 xs])) := ⟨bx5, (upd_same_id r2).symm⟩
      exact ⟨r3, rfl⟩
theorem f_CollectR (ks : List S2) (vs : List T) (hvs : vs.length = ks.length) (hl : ks.length < 2 ^ 40) : FCallsR Tryz.prog 88 [keysR ks vs] 103 2 (permOfS ks) := by
  refine fcallsR_low (rs := [.tmp 2]) mixed Tryz.func88 l88 rfl rfl rfl (Nat.le_of_ble_eq_true rfl) ?_
  repeat' ((conv => whnf); first | refine WC_ownR (ts := [.nil, keysR ks vs]) rfl (f_AppendSeqR ks vs hvs hl) (fun xs hx => ?_) | fail)
  obtain ⟨js, hjs, rfl⟩ := hx
  exact ⟨_, _, ⟨js, hjs, rfl⟩, sk_flat js ks, rfl, .inl ⟨_, rfl⟩⟩
end Go.RC
end
section
namespace Go.RC
open Go Go.DL Go.Proofs
set_option maxRecDepth 100000
set_option maxHeartbeats 1000000
noncomputable abbrev fKB : Option Code := Tryz.f90.body
noncomputable abbrev yKB : Array Oper := ropsOf 3 fKB
theorem bKB : rg0 3 fKB = .region 3 yKB false := by kernel_rfl
theorem bKB_1 : lowK Tryz.prog 14 yKB [0, 1] = some [⟨some 10, .mov (.tmp 0), none, []⟩, ⟨some 11, .load 2 true (.tmp 3), none, []⟩] := by kernel_rfl
theorem bKB_2 : lowK Tryz.prog 14 yKB [3] = some [⟨some 13, .not (.tmp 12), none, [2]⟩] := by kernel_rfl
theorem bKB_o : ∃ o ats, yKB[2]? = some o ∧ o.guard = none ∧ o.op = .call { callee := .value (.tmp 10), args := #[.tmp 11], argTypes := ats } ∧ o.dst = some 12 := by
  refine ⟨((ropsOf 3 fKB)[2]?).getD default, (match (((ropsOf 3 fKB)[2]?).getD default).op with | .call c => c.argTypes | _ => #[]), by kernel_rfl, by kernel_rfl, by kernel_rfl, by kernel_rfl⟩
theorem cKB_wp (l d : Nat) (f : FuncId) (tmps : Array Value) (ht : tmps.size = 13) (ks : List S2) (vs : List T) (hvs : vs.length = ks.length) (hl : ks.length < 2 ^ 40) (st0 : St)
    (h0 : st0 = ({sl := [(2, .ptr 2 0), (6, .fn 90 [.t (.cptr [mpS ks vs] 0)])], bx := [(2, .v [.own 3011 103 2 []])]} : Wk).mk') :
    wpC Tryz.prog c90 (st0.iter l (readyRec f tmps 7 (.region 2 (ropsOf 2 fAS) false) (.block 1 (.region 3 (ropsOf 3 fAS) false)) d) [.t (.cptr [mpS ks vs] 0)] 2000)
      (PostI st0 fun st => st.sl 2 = .ptr 2 0 ∧ (∃ xs, permOfS ks xs ∧ st.bx 2 = some (.v [.own 3011 103 2 xs])) ∧ ∀ S w, st.cx S w) := by
  subst h0
  have hes : (esS ks vs).length = ks.length := by simp [hvs]
  repeat' ((conv => whnf); first | refine nT_ ?_ | refine aS ?_ | fail)
  refine wpC_loopE 0 (α := List Nat) (β := List Nat) (fun ix => WS l (itAS l d f tmps) ks vs ix [] []) (fun ix => ix.Nodup ∧ ∀ j ∈ ix, j < ks.length) (fun ix => ks.length - ix.length)
    (fun ix => WS l (itAS l d f tmps) ks vs ix [] []) (fun ix => ix.Perm (List.range ks.length)) [] ⟨List.nodup_nil, by simp⟩ ?_ ?_ ?_
  · exact ⟨⟨.same _, .same _, trivial⟩, ⟨.same _, .same _, trivial⟩, ⟨⟨.same _, trivial⟩, trivial⟩, rfl, fun _ _ h => h, rfl⟩
  · rintro ix ⟨hnd, hix⟩
    refine And.intro (fun j hj => by rw [hes]; exact hix j hj) (And.intro ?_ ?_)
    · intro j e he hj
      obtain ⟨he1, hjl⟩ := esS_get he
      have hent := ent_last _ ix j e he
      have hje : (ix ++ [j]).getLast?.getD 0 < (esS ks vs).length := by rw [List.getLast?_concat, hes]; exact hjl
      obtain ⟨e1, e2⟩ := e
      dsimp only at he1 hent
      subst he1
      have hixl : ix.length ≤ ks.length := by
        have := hnd.length_le_of_subset (l₂ := List.range ks.length) (fun j hj => List.mem_range.2 (hix j hj))
        simpa using this
      have hnd' : (ix ++ [j]).Nodup := by
        rw [List.nodup_append]
        exact ⟨hnd, by simp, fun a ha b hb => by rw [List.mem_singleton.1 hb]; exact fun e => hj (e ▸ ha)⟩
      have hix' : ∀ i ∈ ix ++ [j], i < ks.length := fun i hi => by
        rcases List.mem_append.1 hi with h | h
        · exact hix i h
        · rw [List.mem_singleton.1 h]; exact hjl
      have hixl' : (ix ++ [j]).length ≤ ks.length := by
        have := hnd'.length_le_of_subset (l₂ := List.range ks.length) (fun j hj => List.mem_range.2 (hix' j hj))
        simpa using this
      repeat' ((conv => whnf); first | refine nv_ (.tup [sk (ks.getD j (0, 0)), e2]) hent ?_ | (refine And.intro (by first | (exact ⟨by simp, hje⟩; done) | fail) ?_) | refine aS ?_ | fail)
      obtain ⟨o, ats, o1, o2, o3, o4⟩ := bKB_o
      have hsem : ∀ (st : St) (Q : DExit → St → Prop), SemC Tryz.prog 14 (.region 3 yKB false) st Q → SemC Tryz.prog 14 (rg0 3 fKB) st Q := fun st Q h => by rw [bKB]; exact h
      refine hsem _ _ ?_
      refine yield_sem (P := Tryz.prog) (k1 := [0, 1]) (k := 2) (k2 := [3]) (by kernel_rfl) bKB_1 rfl bKB_2 rfl o1 o2 o3 o4 (by decide) (p := 7) ht (by decide) bAS_2 rfl bAS_3 rfl 3000 (l := l) (fn := f) (dd := d) (id1 := 2) (id2 := 3) (bl := 1) ?_
      refine ⟨fun _ _ h => h, rfl, ?_⟩
      repeat' ((conv => whnf); first | (refine And.intro (by first | (exact fun _ _ => trivial; done) | (exact ⟨rfl, Nat.le_of_ble_eq_true rfl⟩; done) | ((simp; omega); done) | (exact .inl rfl; done) | fail) ?_) | refine aS ?_ | fail)
      refine ⟨ix ++ [j], ⟨hnd', hix'⟩, by rw [List.length_append]; simp at hixl' ⊢; omega, ?_⟩
      refine ⟨⟨.same _, .same _, trivial⟩, ⟨?_, .same _, trivial⟩, ⟨⟨.same _, trivial⟩, trivial⟩, rfl, fun _ _ h => h, rfl⟩
      refine .v _ _ ⟨leOwn ?_, trivial⟩
      simp [outS, putL]
    · intro hall
      skip
      refine ⟨ix, range_perm hnd hix (fun j hj => hall j (by rw [hes]; exact hj)), ?_⟩
      exact ⟨⟨.same _, .same _, trivial⟩, ⟨.same _, .same _, trivial⟩, ⟨⟨.same _, trivial⟩, trivial⟩, rfl, fun _ _ h => h, rfl⟩
  rintro ix hp
  repeat' ((conv => whnf); first | refine aS ?_ | fail)
  exact ⟨⟨_, ⟨ix, hp, rfl⟩, rfl⟩, fun _ _ => trivial⟩
abbrev keysB (ks : List S2) (vs : List T) : T := .clos 90 [.cptr [mpS ks vs] 0]
theorem f_AppendSeqB (ks : List S2) (vs : List T) (hvs : vs.length = ks.length) (hl : ks.length < 2 ^ 40) : FCallsR Tryz.prog 138 [.nil, keysB ks vs] 103 2 (permOfS ks) := by
  refine fcallsR_mark Tryz.func138 bAS rfl (Nat.le_of_ble_eq_true rfl) ?_
  intro S w a0 hsr hdf
  let K0 : St → Prop := fun st => wpIs Tryz.prog [⟨some 6, .mov (.tmp 1), none, []⟩] st fun st =>
    weak { sl := [(2, .ptr 2 0), (6, .t (keysB ks vs))], bx := [(2, .d 1 [.nil])] } st
  have hK0 : wpIs Tryz.prog [⟨some 2, .box 1 (.tmp 0), none, []⟩, ⟨some 4, .mov (.const .nil), none, []⟩] (initSt [.nil, keysB ks vs]) K0 := by
    repeat' ((conv => whnf); first | refine aS ?_ | fail)
    exact ⟨⟨.same _, .same _, trivial⟩, ⟨.same _, trivial⟩, trivial, rfl, fun _ _ _ => trivial, rfl⟩
  refine wp_seq (region_wp (X := []) (N := 13) hsr bAS_0 (fun a1 w1 h1 => ?_) hK0)
  obtain ⟨E1, s1, rfl, k1, k2, k3⟩ := h1
  refine wp_seq (wp_seq (region_wp (X := []) k1 bAS_1 (fun a2 w2 h2 => ?_) k3))
  obtain ⟨E2, s2, rfl, k4, k5, k6⟩ := h2
  obtain ⟨E3, e3, k7⟩ := k4.weak k6
  rw [← e3]
  have k8 := k7.reread (k := 6) (k7.sl 6).clos_fn
  obtain ⟨E4, e4, k10⟩ := SR.weak (a := a2) (s := {sl := [(2, .ptr 2 0), (6, .fn 90 [.t (.cptr [mpS ks vs] 0)])], bx := [(2, .v [.own 3011 103 2 []])]}) k8 ⟨⟨.same _, .same _, trivial⟩, ⟨.dv _ _ _ ⟨.nil _ _ _, trivial⟩, trivial⟩, trivial, rfl, fun _ _ _ => trivial, rfl⟩
  rw [← e4]
  refine wp_block ?_
  refine range_wp mixed k10 (fun _ _ => trivial) (y := .tmp 6) rfl (gf := 90) (caps := [.t (.cptr [mpS ks vs] 0)]) rfl Tryz.func90 l90 rfl rfl rfl (Nat.le_of_ble_eq_true rfl) 2000
    (K := fun st => st.sl 2 = .ptr 2 0 ∧ (∃ xs, permOfS ks xs ∧ st.bx 2 = some (.v [.own 3011 103 2 xs])) ∧ ∀ S w, st.cx S w) (fun l d f tmps ht => ?_) (fun a5 w5 h5 => ?_)
  · exact cKB_wp l d f tmps ht ks vs hvs hl _ rfl
  · obtain ⟨S0', E5, s5, D, rfl, q1, q2, q3, q4, q5, q6, r1, ⟨xs, hxs, r2⟩, r3⟩ := h5
    have q6' : a5.defers = [{ target := .collected D, args := #[] }] := by rw [q6, k5, k2, hdf]
    show Code.wp _ _ _ _ _
    refine wp_seq (region_wp (X := []) q1 bAS_4 (K := fun st => (∀ S w, st.cx S w) ∧ st.sl 4 = .own 3011 103 2 xs) (fun a6 w6 h6 => ?_) ?_)
    · obtain ⟨E6, s6, rfl, p1, p2, p3, p4⟩ := h6
      obtain ⟨js, hjs, rfl⟩ := hxs
      refine wp_ret ⟨.inr rfl, S0', E6, s6, D, rfl, p1, q2, q3, q4, q5, by rw [p2, q6'], p3, _, _, ⟨js, hjs, rfl⟩, sk_flat js ks, ?_, .inl ⟨3011, rfl⟩⟩
      have : resV s6 Tryz.f138.results.toList = some [s6.sl 4] := by
        rw [show Tryz.f138.results.toList = [.tmp 4] from rfl]; rfl
      rw [this, p4]
    · obtain ⟨sl5, bx5, gh5, off5, cx5⟩ := s5
      dsimp only at r1 r2 r3
      obtain ⟨g, rfl⟩ : ∃ g, sl5 = upd g 2 (.ptr 2 0) := ⟨sl5, (upd_same_id r1).symm⟩
      obtain ⟨b, rfl⟩ : ∃ b, bx5 = upd b 2 (some (.v [.own 3011 103 2 xs])) := ⟨bx5, (upd_same_id r2).symm⟩
      exact ⟨r3, rfl⟩
theorem f_CollectB (ks : List S2) (vs : List T) (hvs : vs.length = ks.length) (hl : ks.length < 2 ^ 40) : FCallsR Tryz.prog 88 [keysB ks vs] 103 2 (permOfS ks) := by
  refine fcallsR_low (rs := [.tmp 2]) mixed Tryz.func88 l88 rfl rfl rfl (Nat.le_of_ble_eq_true rfl) ?_
  repeat' ((conv => whnf); first | refine WC_ownR (ts := [.nil, keysB ks vs]) rfl (f_AppendSeqB ks vs hvs hl) (fun xs hx => ?_) | fail)
  obtain ⟨js, hjs, rfl⟩ := hx
  exact ⟨_, _, ⟨js, hjs, rfl⟩, sk_flat js ks, rfl, .inl ⟨_, rfl⟩⟩
end Go.RC
end
section
namespace Go.Proofs
open Go.Shelf
def Tryz.laysSort89_ren : Go.Shelf.Ren := ⟨fun | 6 => 89 | 15 => 136 | 14 => 139 | 28 => 161 | 29 => 162 | 20 => 163 | 21 => 164 | 22 => 165 | 23 => 166 | 24 => 167 | 25 => 168 | 26 => 169 | 27 => 170 | 46 => 189 | 47 => 185 | 48 => 186 | 49 => 190 | 50 => 191 | 57 => 194 | n => n, fun | 22 => 50 | 24 => 103 | 25 => 109 | 3 => 3 | 39 => 133 | 0 => 0 | 53 => 176 | 55 => 179 | 4 => 4 | 46 => 202 | 45 => 201 | 50 => 206 | 5 => 5 | 9 => 9 | 66 => 228 | 70 => 232 | 76 => 237 | 77 => 238 | n => n, fun | n => n⟩
theorem Tryz.laysSort89 : Go.Proofs.SlLaysF0.n6 Tryz.prog Tryz.laysSort89_ren := {
  mixed := by kernel_rfl
  f6 := ⟨Tryz.f89.name, by decide, Tryz.func89.trans (congrArg some (by kernel_rfl))⟩
  f14 := ⟨Tryz.f139.name, by decide, Tryz.func139.trans (congrArg some (by kernel_rfl))⟩
  f15 := Tryz.func136.trans (congrArg some (by kernel_rfl))
  f20 := ⟨Tryz.f163.name, by decide, Tryz.func163.trans (congrArg some (by kernel_rfl))⟩
  f21 := ⟨Tryz.f164.name, by decide, Tryz.func164.trans (congrArg some (by kernel_rfl))⟩
  f22 := ⟨Tryz.f165.name, by decide, Tryz.func165.trans (congrArg some (by kernel_rfl))⟩
  f23 := ⟨Tryz.f166.name, by decide, Tryz.func166.trans (congrArg some (by kernel_rfl))⟩
  f24 := ⟨Tryz.f167.name, by decide, Tryz.func167.trans (congrArg some (by kernel_rfl))⟩
  f25 := ⟨Tryz.f168.name, by decide, Tryz.func168.trans (congrArg some (by kernel_rfl))⟩
  f26 := ⟨Tryz.f169.name, by decide, Tryz.func169.trans (congrArg some (by kernel_rfl))⟩
  f27 := ⟨Tryz.f170.name, by decide, Tryz.func170.trans (congrArg some (by kernel_rfl))⟩
  f28 := Tryz.func161.trans (congrArg some (by kernel_rfl))
  f29 := Tryz.func162.trans (congrArg some (by kernel_rfl))
  f46 := ⟨Tryz.f189.name, by decide, Tryz.func189.trans (congrArg some (by kernel_rfl))⟩
  f47 := Tryz.func185.trans (congrArg some (by kernel_rfl))
  f48 := Tryz.func186.trans (congrArg some (by kernel_rfl))
  f49 := ⟨Tryz.f190.name, by decide, Tryz.func190.trans (congrArg some (by kernel_rfl))⟩
  f50 := ⟨Tryz.f191.name, by decide, Tryz.func191.trans (congrArg some (by kernel_rfl))⟩
  f57 := ⟨Tryz.f194.name, by decide, Tryz.func194.trans (congrArg some (by kernel_rfl))⟩
  t0 := Tryz.underlying0
  a0 := Tryz.isAgg0
  z0 := Tryz.sizeOf0
  v0 := Tryz.zeroValue0
  t3 := Tryz.underlying3
  a3 := Tryz.isAgg3
  z3 := Tryz.sizeOf3
  v3 := Tryz.zeroValue3
  t4 := Tryz.underlying4
  a4 := Tryz.isAgg4
  z4 := Tryz.sizeOf4
  v4 := Tryz.zeroValue4
  t5 := Tryz.underlying5
  a5 := Tryz.isAgg5
  z5 := Tryz.sizeOf5
  v5 := Tryz.zeroValue5
  t9 := Tryz.underlying9
  a9 := Tryz.isAgg9
  z9 := Tryz.sizeOf9
  v9 := Tryz.zeroValue9
  t22 := Tryz.underlying50
  a22 := Tryz.isAgg50
  z22 := Tryz.sizeOf50
  v22 := Tryz.zeroValue50
  t25 := Tryz.underlying109
  a25 := Tryz.isAgg109
  z25 := Tryz.sizeOf109
  v25 := Tryz.zeroValue109
  t39 := Tryz.underlying133
  a39 := Tryz.isAgg133
  z39 := Tryz.sizeOf133
  v39 := Tryz.zeroValue133
  t45 := Tryz.underlying201
  a45 := Tryz.isAgg201
  z45 := Tryz.sizeOf201
  v45 := Tryz.zeroValue201
  t46 := Tryz.underlying202
  a46 := Tryz.isAgg202
  z46 := Tryz.sizeOf202
  v46 := Tryz.zeroValue202
  t50 := Tryz.underlying206
  a50 := Tryz.isAgg206
  z50 := Tryz.sizeOf206
  v50 := Tryz.zeroValue206
  t53 := Tryz.underlying176
  a53 := Tryz.isAgg176
  z53 := Tryz.sizeOf176
  v53 := Tryz.zeroValue176
  t55 := Tryz.underlying179
  a55 := Tryz.isAgg179
  z55 := Tryz.sizeOf179
  v55 := Tryz.zeroValue179
  t66 := Tryz.underlying228
  a66 := Tryz.isAgg228
  z66 := Tryz.sizeOf228
  v66 := Tryz.zeroValue228
  t70 := Tryz.underlying232
  a70 := Tryz.isAgg232
  z70 := Tryz.sizeOf232
  v70 := Tryz.zeroValue232
  t76 := Tryz.underlying237
  a76 := Tryz.isAgg237
  z76 := Tryz.sizeOf237
  v76 := Tryz.zeroValue237
  t77 := Tryz.underlying238
  a77 := Tryz.isAgg238
  z77 := Tryz.sizeOf238
  v77 := Tryz.zeroValue238 }
end Go.Proofs
end
section
namespace Go.RC
open Go Go.DL Go.Proofs
set_option maxRecDepth 100000
set_option maxHeartbeats 1000000
def cmpS (a b : S2) : Int := orI [cmpI a.1 b.1, cmpI a.2 b.2]
theorem cmpS_lt (a b : S2) : (cmpS a b < 0) ↔ (a.1 < b.1 ∨ a.1 = b.1 ∧ a.2 < b.2) := by
  unfold cmpS orI cmpI
  repeat' split
  all_goals (try simp only [orI] at *)
  all_goals omega
theorem t_Or2 (x y : Int) : DCalls Tryz.prog 84 [.slice 1 [I x, I y]] (I (orI [x, y])) := by
  refine dcalls_low (rs := [.tmp 2]) mixed Tryz.func84 l84 rfl rfl rfl (r := [I _]) (Nat.le_of_ble_eq_true rfl) ?_
  skip
  refine wpC_loopE 0 (α := Nat) (β := Unit) (fun i => {sl := [(3, .t (I 0)), (6, .t (.slice 1 [I x, I y])), (7, .t (I 2)), (8, .t (I i))], bx := []})
    (fun i => i ≤ 2 ∧ orI ([x, y].drop i) = orI [x, y]) (fun i => 2 - i) (fun _ => {sl := [(3, .t (I 0))], bx := []}) (fun _ => orI [x, y] = 0) 0 ⟨by omega, rfl⟩ ?_ ?_ ?_
  · repeat' (first | exact trivial | exact LeV.same _ | exact rfl | exact fun _ _ _ => trivial | refine And.intro ?_ ?_)
  · rintro i ⟨hi, ho⟩
    have step : ∀ w l, orI (w :: l) = orI [x, y] → (w ≠ 0 → w = orI [x, y]) ∧ (w = 0 → orI l = orI [x, y]) := fun w l h => by
      unfold orI at h
      refine ⟨fun hw => ?_, fun hw => ?_⟩
      · rw [if_pos hw] at h; exact h
      · rw [if_neg (by simpa using hw)] at h; exact h
    match i, hi with
    | 0, _ =>
      obtain ⟨s1, s2⟩ := step x [y] ho
      repeat' ((conv => whnf); first | exact trivial | refine nT_ ?_ | refine aD1 ?_ | refine nN_ (fun hq => ?_) (fun hq => ?_) | refine rix ?_ | refine aS ?_ | fail)
      exact ⟨1, ⟨by omega, s2 hq⟩, by omega, by repeat' (first | exact trivial | exact LeV.same _ | exact rfl | exact fun _ _ _ => trivial | refine And.intro ?_ ?_)⟩
    | 1, _ =>
      obtain ⟨s1, s2⟩ := step y [] ho
      repeat' ((conv => whnf); first | exact trivial | refine nT_ ?_ | refine aD1 ?_ | refine nN_ (fun hq => ?_) (fun hq => ?_) | refine rix ?_ | refine aS ?_ | fail)
      exact ⟨2, ⟨by omega, s2 hq⟩, by omega, by repeat' (first | exact trivial | exact LeV.same _ | exact rfl | exact fun _ _ _ => trivial | refine And.intro ?_ ?_)⟩
    | 2, _ =>
      repeat' ((conv => whnf); first | refine aD0 ?_ | refine aS ?_ | fail)
      exact ⟨(), ho.symm, by repeat' (first | exact trivial | exact LeV.same _ | exact rfl | exact fun _ _ _ => trivial | refine And.intro ?_ ?_)⟩
    | i + 3, h => omega
  rintro - hr
  repeat' ((conv => whnf); first | exact trivial | refine rix ?_ | fail)
theorem t_spots (a b : S2) : DCalls Tryz.prog 51 [sk a, sk b] (I (cmpS a b)) := by
  refine dcalls_low (rs := [.tmp 4]) mixed Tryz.func51 l51 rfl rfl rfl (r := [I _]) (Nat.le_of_ble_eq_true rfl) ?_
  unfold cmpS
  repeat' ((conv => whnf); first | exact trivial | refine k_call _ (t_cmp _ _) ?_ | refine k_call _ (t_Or2 _ _) ?_ | refine nT_ ?_ | refine rix ?_ | refine aS ?_ | fail)
theorem sortsS : SortsK Tryz.prog 89 2 :=
  SortsK.of Tryz.laysSort89 2 (fun w => Tryz.isAgg103 w) (fun w => Tryz.sizeOf103 w) (callable_of Tryz.func89 rfl rfl)
def cfS : T → T → Int
  | .agg [.int _ a, .int _ b], .agg [.int _ a', .int _ b'] => cmpS (a, b) (a', b')
  | _, _ => 0
def unS : T → S2
  | .agg [.int _ a, .int _ b] => (a, b)
  | _ => (0, 0)
theorem cmpS_irr (a : S2) : ¬ cmpS a a < 0 := by rw [cmpS_lt]; omega
theorem cmpS_tr {a b c : S2} (h : cmpS a b < 0) (k : cmpS b c < 0) : cmpS a c < 0 := by rw [cmpS_lt] at *; omega
theorem cmpS_ntr {a b c : S2} (h : ¬ cmpS a b < 0) (k : ¬ cmpS b c < 0) : ¬ cmpS a c < 0 := by rw [cmpS_lt] at *; omega
theorem cmpS_anti {a b : S2} (h : ¬ cmpS a b < 0) (k : ¬ cmpS b a < 0) : a = b := by
  obtain ⟨a1, a2⟩ := a
  obtain ⟨b1, b2⟩ := b
  rw [cmpS_lt] at *
  simp only at h k
  simp only [Prod.mk.injEq]
  omega
def srtS (ks : List S2) : List S2 := ks.mergeSort fun a b => !decide (cmpS b a < 0)
theorem srtS_perm (ks : List S2) : (srtS ks).Perm ks := List.mergeSort_perm _ _
theorem srtS_sorted (ks : List S2) : (srtS ks).Pairwise fun a b => ¬ cmpS b a < 0 := by
  have := List.pairwise_mergeSort (le := fun a b : S2 => !decide (cmpS b a < 0)) (fun a b c h k => by
    simp only [Bool.not_eq_true', decide_eq_false_iff_not] at *
    exact cmpS_ntr k h) (fun a b => by
    simp only [Bool.or_eq_true, Bool.not_eq_true', decide_eq_false_iff_not]
    rw [cmpS_lt, cmpS_lt]; omega) ks
  exact this.imp (fun h => by simpa using h)
theorem srtS_eq {ks zs : List S2} (hp : zs.Perm ks) (hs : zs.Pairwise fun a b => ¬ cmpS b a < 0) : zs = srtS ks :=
  List.Perm.eq_of_pairwise (fun a b _ _ h k => cmpS_anti k h) hs (srtS_sorted ks) (hp.trans (srtS_perm ks).symm)
theorem permOfS_zs {ks : List S2} {xs : List T} (h : permOfS ks xs) : ∃ zs : List S2, zs.Perm ks ∧ xs = zs.map sk := by
  obtain ⟨js, hp, rfl⟩ := h
  refine ⟨js.map fun j => ks.getD j (0, 0), ?_, by simp⟩
  have h1 : ((List.range ks.length).map fun j => ks.getD j (0, 0)) = ks := by
    apply List.ext_getElem?
    intro i
    rw [List.getElem?_map]
    by_cases h : i < ks.length
    · simp [h]
    · simp [h]
  have := hp.map (fun j => ks.getD j (0, 0))
  rwa [h1] at this
theorem perm_sk {zs : List S2} {ys : List T} (h : ys.Perm (zs.map sk)) : ∃ zs' : List S2, zs'.Perm zs ∧ ys = zs'.map sk := by
  refine ⟨ys.map unS, ?_, ?_⟩
  · have := h.map unS
    rw [List.map_map] at this
    rwa [show unS ∘ sk = id from rfl, List.map_id] at this
  · rw [List.map_map]
    have : ys.map (sk ∘ unS) = ys.map id := List.map_congr_left fun y hy => by
      obtain ⟨z, _, rfl⟩ := List.mem_map.1 (h.mem_iff.1 hy)
      rfl
    rw [this, List.map_id]
theorem chunk_sk : ∀ (zs : List S2) (n : Nat), zs.length = n → chunk 2 n ((zs.map sk).flatMap T.cells) = zs.map sk
  | [], 0, _ => rfl
  | z :: zs, n + 1, h => by
    show sk z :: chunk 2 n ((zs.map sk).flatMap T.cells) = _
    rw [chunk_sk zs n (by simpa using h)]
    rfl
  | z :: zs, 0, h => by simp at h
  | [], n + 1, h => by simp at h
theorem flat_sk : ∀ (zs : List S2), ((zs.map sk).flatMap T.cells).length = zs.length * 2
  | [] => rfl
  | z :: zs => by
    rw [List.map_cons, List.flatMap_cons, List.length_append, flat_sk zs, List.length_cons]
    show 2 + _ = _
    omega
theorem isnew_srtS_nil {bx : Nat → Option BX} : IsNew bx (.t .nil) (.slice 2 ((srtS []).map sk)) := by
  rw [show srtS [] = [] by simp [srtS]]
  exact .nil 2
theorem n_SortedR (ks : List S2) (vs : List T) (hvs : vs.length = ks.length) (hl : ks.length < 2 ^ 40) : NCalls Tryz.prog 49 [keysR ks vs, .clos 51 []] (.slice 2 ((srtS ks).map sk)) := by
  refine ncalls_low (rs := [.tmp 4]) mixed Tryz.func49 l49 rfl rfl rfl (Nat.le_of_ble_eq_true rfl) ?_
  repeat' ((conv => whnf); first | refine WC_viewR (ts := [keysR ks vs]) rfl (f_CollectR ks vs hvs hl) rfl (fun h0 => ?_) (fun xs hx hc => ?_) | fail)
  · obtain ⟨zs, hp, h0⟩ := permOfS_zs h0
    have : zs = [] := by
      cases zs with
      | nil => rfl
      | cons z zs => cases h0
    subst this
    have : ks = [] := List.nil_perm.1 hp
    subst this
    repeat' ((conv => whnf); first | refine WC_sort_nil sortsS ?_ | fail)
    exact ⟨.t .nil, rfl, isnew_srtS_nil⟩
  · obtain ⟨zs, hp, rfl⟩ := permOfS_zs hx
    have hzl : zs.length < 2 ^ 40 := by rw [hp.length_eq]; exact hl
    have hch : chunk 2 (zs.map sk).length (((zs.map sk).flatMap T.cells).drop 0) = zs.map sk := chunk_sk zs _ (by simp)
    repeat' ((conv => whnf); first | (refine WC_sort (n := 7) (off := 0) (len := (zs.map sk).length) (k := 2) (m := (zs.map sk).length * 2) (ts := (zs.map sk).flatMap T.cells) sortsS rfl (by omega) (by decide) (by simp; omega) (.inl rfl) (callable_of Tryz.func51 rfl rfl) cfS ?_ ?_ ?_ ?_ (fun ys hy hps => ?_)) | fail)
    · rw [hch]
      intro x hx y hy
      obtain ⟨a, _, rfl⟩ := List.mem_map.1 hx
      obtain ⟨b, _, rfl⟩ := List.mem_map.1 hy
      exact t_spots a b
    · rw [hch]
      intro x hx
      obtain ⟨a, _, rfl⟩ := List.mem_map.1 hx
      exact cmpS_irr a
    · rw [hch]
      intro x hx y hy z hz
      obtain ⟨a, _, rfl⟩ := List.mem_map.1 hx
      obtain ⟨b, _, rfl⟩ := List.mem_map.1 hy
      obtain ⟨c, _, rfl⟩ := List.mem_map.1 hz
      exact cmpS_tr
    · rw [hch]
      intro x hx y hy z hz
      obtain ⟨a, _, rfl⟩ := List.mem_map.1 hx
      obtain ⟨b, _, rfl⟩ := List.mem_map.1 hy
      obtain ⟨c, _, rfl⟩ := List.mem_map.1 hz
      exact cmpS_ntr
    · rw [hch] at hy
      obtain ⟨us, hu, rfl⟩ := perm_sk hy
      have hus : us = srtS ks := srtS_eq (hu.trans hp) ((List.pairwise_map.1 hps).imp fun h => h)
      subst hus
      have hul : (srtS ks).length = zs.length := hu.length_eq
      skip
      have hln : (zs.map sk).length = (srtS ks).length := by rw [List.length_map]; exact hul.symm
      have hpu : putL ((zs.map sk).flatMap T.cells) 0 ((zs.map sk).length * 2) (((srtS ks).map sk).flatMap T.cells) = ((srtS ks).map sk).flatMap T.cells := putL_all (by rw [flat_sk, List.length_map])
      refine ⟨.view 7 0 (zs.map sk).length 2, rfl, .view 7 0 (zs.map sk).length 2 ((zs.map sk).length * 2) (putL ((zs.map sk).flatMap T.cells) 0 ((zs.map sk).length * 2) (((srtS ks).map sk).flatMap T.cells)) _ [7] rfl ?_ ?_⟩
      · rw [hpu]
        intro t ht
        simp only [List.mem_flatMap, List.mem_map] at ht
        obtain ⟨x, ⟨z, _, rfl⟩, hx⟩ := ht
        simp only [T.cells, List.mem_cons, List.not_mem_nil, or_false] at hx
        rcases hx with rfl | rfl <;> rfl
      · show (cond (Nat.blt 0 2 && Nat.ble (0 + (zs.map sk).length * 2) ((zs.map sk).length * 2)) (some (T.slice 2 (chunk 2 (zs.map sk).length ((putL ((zs.map sk).flatMap T.cells) 0 ((zs.map sk).length * 2) (((srtS ks).map sk).flatMap T.cells)).drop 0)), [7])) none) = _
        rw [hpu, Nat.zero_add, List.drop_zero, hln, chunk_sk _ _ rfl]
        have : Nat.ble ((srtS ks).length * 2) ((srtS ks).length * 2) = true := Nat.ble_eq_true_of_le (Nat.le_refl _)
        rw [this]
        rfl
theorem n_SortedB (ks : List S2) (vs : List T) (hvs : vs.length = ks.length) (hl : ks.length < 2 ^ 40) : NCalls Tryz.prog 49 [keysB ks vs, .clos 51 []] (.slice 2 ((srtS ks).map sk)) := by
  refine ncalls_low (rs := [.tmp 4]) mixed Tryz.func49 l49 rfl rfl rfl (Nat.le_of_ble_eq_true rfl) ?_
  repeat' ((conv => whnf); first | refine WC_viewR (ts := [keysB ks vs]) rfl (f_CollectB ks vs hvs hl) rfl (fun h0 => ?_) (fun xs hx hc => ?_) | fail)
  · obtain ⟨zs, hp, h0⟩ := permOfS_zs h0
    have : zs = [] := by
      cases zs with
      | nil => rfl
      | cons z zs => cases h0
    subst this
    have : ks = [] := List.nil_perm.1 hp
    subst this
    repeat' ((conv => whnf); first | refine WC_sort_nil sortsS ?_ | fail)
    exact ⟨.t .nil, rfl, isnew_srtS_nil⟩
  · obtain ⟨zs, hp, rfl⟩ := permOfS_zs hx
    have hzl : zs.length < 2 ^ 40 := by rw [hp.length_eq]; exact hl
    have hch : chunk 2 (zs.map sk).length (((zs.map sk).flatMap T.cells).drop 0) = zs.map sk := chunk_sk zs _ (by simp)
    repeat' ((conv => whnf); first | (refine WC_sort (n := 7) (off := 0) (len := (zs.map sk).length) (k := 2) (m := (zs.map sk).length * 2) (ts := (zs.map sk).flatMap T.cells) sortsS rfl (by omega) (by decide) (by simp; omega) (.inl rfl) (callable_of Tryz.func51 rfl rfl) cfS ?_ ?_ ?_ ?_ (fun ys hy hps => ?_)) | fail)
    · rw [hch]
      intro x hx y hy
      obtain ⟨a, _, rfl⟩ := List.mem_map.1 hx
      obtain ⟨b, _, rfl⟩ := List.mem_map.1 hy
      exact t_spots a b
    · rw [hch]
      intro x hx
      obtain ⟨a, _, rfl⟩ := List.mem_map.1 hx
      exact cmpS_irr a
    · rw [hch]
      intro x hx y hy z hz
      obtain ⟨a, _, rfl⟩ := List.mem_map.1 hx
      obtain ⟨b, _, rfl⟩ := List.mem_map.1 hy
      obtain ⟨c, _, rfl⟩ := List.mem_map.1 hz
      exact cmpS_tr
    · rw [hch]
      intro x hx y hy z hz
      obtain ⟨a, _, rfl⟩ := List.mem_map.1 hx
      obtain ⟨b, _, rfl⟩ := List.mem_map.1 hy
      obtain ⟨c, _, rfl⟩ := List.mem_map.1 hz
      exact cmpS_ntr
    · rw [hch] at hy
      obtain ⟨us, hu, rfl⟩ := perm_sk hy
      have hus : us = srtS ks := srtS_eq (hu.trans hp) ((List.pairwise_map.1 hps).imp fun h => h)
      subst hus
      have hul : (srtS ks).length = zs.length := hu.length_eq
      skip
      have hln : (zs.map sk).length = (srtS ks).length := by rw [List.length_map]; exact hul.symm
      have hpu : putL ((zs.map sk).flatMap T.cells) 0 ((zs.map sk).length * 2) (((srtS ks).map sk).flatMap T.cells) = ((srtS ks).map sk).flatMap T.cells := putL_all (by rw [flat_sk, List.length_map])
      refine ⟨.view 7 0 (zs.map sk).length 2, rfl, .view 7 0 (zs.map sk).length 2 ((zs.map sk).length * 2) (putL ((zs.map sk).flatMap T.cells) 0 ((zs.map sk).length * 2) (((srtS ks).map sk).flatMap T.cells)) _ [7] rfl ?_ ?_⟩
      · rw [hpu]
        intro t ht
        simp only [List.mem_flatMap, List.mem_map] at ht
        obtain ⟨x, ⟨z, _, rfl⟩, hx⟩ := ht
        simp only [T.cells, List.mem_cons, List.not_mem_nil, or_false] at hx
        rcases hx with rfl | rfl <;> rfl
      · show (cond (Nat.blt 0 2 && Nat.ble (0 + (zs.map sk).length * 2) ((zs.map sk).length * 2)) (some (T.slice 2 (chunk 2 (zs.map sk).length ((putL ((zs.map sk).flatMap T.cells) 0 ((zs.map sk).length * 2) (((srtS ks).map sk).flatMap T.cells)).drop 0)), [7])) none) = _
        rw [hpu, Nat.zero_add, List.drop_zero, hln, chunk_sk _ _ rfl]
        have : Nat.ble ((srtS ks).length * 2) ((srtS ks).length * 2) = true := Nat.ble_eq_true_of_le (Nat.le_refl _)
        rw [this]
        rfl
end Go.RC
end
section
namespace Go.RC
open Go Go.DL Go.Proofs
set_option maxRecDepth 100000
set_option maxHeartbeats 2000000
abbrev sp (r : Rc) : S2 := (r.n, r.i)
def atS (F : List Rc) (s : S2) : Option Rc := F.find? fun x => decide (s = sp x)
def putK (s : S2) : List S2 → List S2
  | [] => [s]
  | k :: K => if s = k then s :: K else k :: putK s K
def mg1 (a : List Rc × List S2) (r : Rc) : List Rc × List S2 :=
  if chkR r ≠ 0 then a else match atS a.1 (sp r) with
    | none => (a.1 ++ [r], a.2)
    | some o => if samL o r = true then a else (a.1, putK (sp r) a.2)
abbrev esF (F : List Rc) : List (T × T) := F.map fun r => (sk (sp r), rc r)
abbrev esQ (K : List S2) : List (T × T) := K.map fun s => (sk s, T.bool true)
theorem putK_cons (s k : S2) (K : List S2) : putK s (k :: K) = if s = k then s :: K else k :: putK s K := rfl
theorem eqL_sk (x y : S2) : eqL (sk x).cells (sk y).cells = decide (x = y) := by
  obtain ⟨a, b⟩ := x
  obtain ⟨a', b'⟩ := y
  show (a == a' && (b == b' && true)) = _
  by_cases h1 : a = a' <;> by_cases h2 : b = b' <;> simp [h1, h2]
theorem mfind_esF (s : S2) : ∀ F : List Rc, mfind (sk s).cells (esF F) = (atS F s).map rc
  | [] => rfl
  | r :: F => by
    show cond (eqL (sk s).cells (sk (sp r)).cells) (some (rc r)) (mfind (sk s).cells (esF F)) = _
    rw [eqL_sk, mfind_esF s F]
    unfold atS
    rw [List.find?_cons]
    cases h : decide (s = sp r) <;> rfl
theorem mput_esF {r : Rc} : ∀ {F : List Rc}, atS F (sp r) = none → mput (sk (sp r)) (rc r) (esF F) = esF (F ++ [r])
  | [], _ => rfl
  | x :: F, h => by
    unfold atS at h
    rw [List.find?_cons] at h
    show cond (eqL (sk (sp r)).cells (sk (sp x)).cells) ((sk (sp r), rc r) :: esF F) ((sk (sp x), rc x) :: mput (sk (sp r)) (rc r) (esF F)) = _
    rw [eqL_sk]
    cases hd : decide (sp r = sp x) with
    | true => rw [hd] at h; cases h
    | false =>
      rw [hd] at h
      show (sk (sp x), rc x) :: mput (sk (sp r)) (rc r) (esF F) = _
      rw [mput_esF (F := F) h]
      rfl
theorem mput_esQ (s : S2) : ∀ K : List S2, mput (sk s) (.bool true) (esQ K) = esQ (putK s K)
  | [] => rfl
  | k :: K => by
    show cond (eqL (sk s).cells (sk k).cells) ((sk s, .bool true) :: esQ K) ((sk k, .bool true) :: mput (sk s) (.bool true) (esQ K)) = _
    rw [eqL_sk, mput_esQ s K, putK_cons]
    by_cases h : s = k
    · rw [if_pos h, decide_eq_true h]; rfl
    · rw [if_neg h, decide_eq_false h]; rfl
theorem atS_mem {F : List Rc} {s : S2} {r : Rc} (h : atS F s = some r) : r ∈ F ∧ sp r = s := by
  refine ⟨List.mem_of_find?_eq_some h, ?_⟩
  have := List.find?_some h
  simpa using (of_decide_eq_true this).symm
theorem putK_len (s : S2) : ∀ K : List S2, (putK s K).length ≤ K.length + 1
  | [] => by simp [putK]
  | k :: K => by
    rw [putK_cons]
    have := putK_len s K
    split <;> simp <;> omega
def okF (F : List Rc) : Prop := ∀ r ∈ F, r.ok ∧ chkR r = 0
theorem mg1_ok {a : List Rc × List S2} {r : Rc} (h : okF a.1) (hr : r.ok) : okF (mg1 a r).1 ∧ (mg1 a r).1.length ≤ a.1.length + 1 ∧ (mg1 a r).2.length ≤ a.2.length + 1 := by
  unfold mg1
  by_cases c : chkR r ≠ 0
  · rw [if_pos c]; exact ⟨h, by omega, by omega⟩
  rw [if_neg c]
  cases hx : atS a.1 (sp r) with
  | none =>
    refine ⟨fun x hx => ?_, by simp, by simp⟩
    rcases List.mem_append.1 hx with hx | hx
    · exact h x hx
    · rw [List.mem_singleton.1 hx]; exact ⟨hr, by simpa using c⟩
  | some o =>
    show okF (if samL o r = true then a else (a.1, putK (sp r) a.2)).1 ∧ _
    dsimp only
    by_cases hs : samL o r = true
    · rw [if_pos hs]; exact ⟨h, by omega, by omega⟩
    · rw [if_neg hs]; exact ⟨h, by simp, putK_len _ _⟩
def mgF (l : List Rc) : List Rc × List S2 := l.foldl mg1 ([], [])
theorem esF_fst (F : List Rc) : (esF F).map (·.1) = (F.map sp).map sk := by simp [esF, List.map_map]
theorem esQ_fst (K : List S2) : (esQ K).map (·.1) = K.map sk := by simp [esQ, List.map_map]
theorem n_SortedF (F : List Rc) (hl : F.length < 2 ^ 40) : NCalls Tryz.prog 49 [.clos 91 [.cptr [.mapd true sh2 ((esF F).map (·.1)) ((esF F).map (·.2))] 0], .clos 51 []] (.slice 2 ((srtS (F.map sp)).map sk)) := by
  rw [esF_fst]
  exact n_SortedR (F.map sp) _ (by simp) (by simpa using hl)
theorem n_SortedQ (K : List S2) (hl : K.length < 2 ^ 40) : NCalls Tryz.prog 49 [.clos 90 [.cptr [.mapd true sh2 ((esQ K).map (·.1)) ((esQ K).map (·.2))] 0], .clos 51 []] (.slice 2 ((srtS K).map sk)) := by
  rw [esQ_fst]
  exact n_SortedB K _ (by simp) hl
def rcOf (F : List Rc) (s : S2) : Rc := (atS F s).getD ⟨0, 0, [], zero16⟩
def rcsF (F : List Rc) : List Rc := (srtS (F.map sp)).map (rcOf F)
theorem rcOf_mem {F : List Rc} {s : S2} (h : s ∈ F.map sp) : atS F s = some (rcOf F s) ∧ rcOf F s ∈ F ∧ sp (rcOf F s) = s := by
  have : ∃ r, atS F s = some r := by
    obtain ⟨r, hr, rfl⟩ := List.mem_map.1 h
    unfold atS
    cases hf : F.find? (fun x => decide (sp r = sp x)) with
    | some x => exact ⟨x, rfl⟩
    | none => have := List.find?_eq_none.1 hf r hr; simp at this
  obtain ⟨r, hr⟩ := this
  have e : rcOf F s = r := by unfold rcOf; rw [hr]; rfl
  rw [e]
  exact ⟨hr, atS_mem hr⟩
def frm : Option Rc → Rc → Int
  | none, _ => 0
  | some p, r => if p.n = r.n then p.i + 1 else 0
def gap1 (p : Option Rc) (r : Rc) : List S2 := (List.range (r.i - frm p r).toNat).map fun (j : Nat) => ((r.n, frm p r + (j : Int)) : S2)
def brk (F : List Rc) (r : Rc) : Bool := match atS F (r.n, r.i - 1) with
  | some x => !decide (x.dg = r.pv) || (r.i == 0 && !decide (r.pv = zero16))
  | none => r.i == 0 && !decide (r.pv = zero16)
def gaps : Option Rc → List Rc → List S2
  | _, [] => []
  | p, r :: l => gap1 p r ++ gaps (some r) l
def brks (F : List Rc) (l : List Rc) : List S2 := (l.filter (brk F)).map sp
abbrev spsT (l : List S2) : T := .slice 2 (l.map sk)
def mrg (l : List Rc) : T := .agg [rcs (rcsF (mgF l).1), spsT (srtS (mgF l).2), spsT (gaps none (rcsF (mgF l).1)), spsT (brks (mgF l).1 (rcsF (mgF l).1))]
theorem gaps_snoc : ∀ {l : List Rc} {p : Option Rc} {r : Rc}, gaps p (l ++ [r]) = gaps p l ++ gap1 (match l.getLast? with | some x => some x | none => p) r
  | [], p, r => by simp [gaps]
  | [x], p, r => by simp [gaps]
  | x :: y :: l, p, r => by
    show gap1 p x ++ gaps (some x) ((y :: l) ++ [r]) = (gap1 p x ++ gaps (some x) (y :: l)) ++ _
    rw [gaps_snoc (l := y :: l) (p := some x)]
    rw [List.getLast?_cons_cons, List.append_assoc]
    cases h : (y :: l).getLast? with
    | none => simp at h
    | some z => rfl
theorem chk_bounds {r : Rc} (h : chkR r = 0) : 0 ≤ r.n ∧ r.n < 200 ∧ 0 ≤ r.i ∧ r.i ≤ 1048576 := by
  unfold chkR chk at h
  by_cases c1 : r.ls.length > 1000
  · rw [if_pos c1] at h; simp at h
  rw [if_neg c1] at h
  by_cases c2 : r.n < 0 ∨ r.n ≥ 200 ∨ r.i < 0 ∨ r.i > 1048576
  · rw [if_pos c2] at h; simp at h
  omega
theorem frm_bounds {p : Option Rc} {r : Rc} (h : ∀ x, p = some x → chkR x = 0) : 0 ≤ frm p r ∧ frm p r ≤ 1048577 := by
  cases p with
  | none => simp [frm]
  | some x =>
    have := chk_bounds (h x rfl)
    unfold frm
    dsimp only
    split <;> omega
theorem gap1_len {p : Option Rc} {r : Rc} (hp : ∀ x, p = some x → chkR x = 0) (h : chkR r = 0) : (gap1 p r).length ≤ 1048576 := by
  have := chk_bounds h
  have := frm_bounds (r := r) hp
  unfold gap1
  rw [List.length_map, List.length_range]; omega
theorem gaps_len : ∀ {l : List Rc} {p : Option Rc}, (∀ x, p = some x → chkR x = 0) → (∀ x ∈ l, chkR x = 0) → (gaps p l).length ≤ 1048576 * l.length
  | [], _, _, _ => by simp [gaps]
  | r :: l, p, hp, h => by
    have h1 := gap1_len hp (h r (by simp))
    have h2 := gaps_len (l := l) (p := some r) (fun x hx => by cases hx; exact h r (by simp)) (fun x hx => h x (by simp [hx]))
    unfold gaps
    rw [List.length_append, List.length_cons]; omega
theorem brks_len (F l : List Rc) : (brks F l).length ≤ l.length := by unfold brks; rw [List.length_map]; exact List.length_filter_le _ _
def lst (l : List Rc) : S2 := match l.getLast? with
  | some x => sp x
  | none => (0, 0)
theorem lst_snoc (l : List Rc) (r : Rc) : lst (l ++ [r]) = sp r := by unfold lst; simp
theorem brks_snoc (F l : List Rc) (r : Rc) : brks F (l ++ [r]) = brks F l ++ (if brk F r = true then [sp r] else []) := by
  unfold brks
  rw [List.filter_append, List.map_append]
  congr 1
  cases h : brk F r <;> simp [h]
theorem gaps_take {l : List Rc} {k : Nat} (h : k < l.length) : gaps none (l.take (k + 1)) = gaps none (l.take k) ++ gap1 (l.take k).getLast? l[k] := by
  rw [List.take_succ_eq_append_getElem h, gaps_snoc]
  cases (l.take k).getLast? <;> rfl
theorem gap1_take {p : Option Rc} {r : Rc} {j : Nat} (h : j < (r.i - frm p r).toNat) : (gap1 p r).take (j + 1) = (gap1 p r).take j ++ [(r.n, frm p r + (j : Int))] := by
  have hg : (gap1 p r)[j]? = some (r.n, frm p r + (j : Int)) := by
    unfold gap1
    rw [List.getElem?_map, List.getElem?_range h]; rfl
  rw [List.take_add_one, hg]; rfl
end Go.RC
end
section
namespace Go.RC
open Go Go.DL Go.Proofs
set_option maxRecDepth 100000
set_option maxHeartbeats 4000000
end Go.RC
end
section
namespace Go.RC
open Go Go.DL Go.Proofs
set_option maxRecDepth 100000
set_option maxHeartbeats 4000000
theorem tw_take {α : Type} {p : α → Bool} (l : List α) : l.takeWhile p = l.take (l.takeWhile p).length ∧ l.dropWhile p = l.drop (l.takeWhile p).length := by
  have h := List.takeWhile_append_dropWhile (p := p) (l := l)
  constructor
  · conv => rhs; rw [← h]
    rw [List.take_left' (by rw [h])]
  · conv => rhs; rw [← h]
    rw [List.drop_left' (by rw [h])]
abbrev befR (r : Rc) (x : Rc) : Bool := decide (cmpS (sp x) (sp r) < 0)
def insR (r : Rc) (l : List Rc) : List Rc := l.take (l.takeWhile (befR r)).length ++ [r] ++ l.drop (l.takeWhile (befR r)).length
abbrev befS (s : S2) (x : S2) : Bool := decide (cmpS x s < 0)
def insS (s : S2) (l : List S2) : List S2 := if l[(l.takeWhile (befS s)).length]? = some s then l else l.take (l.takeWhile (befS s)).length ++ [s] ++ l.drop (l.takeWhile (befS s)).length
end Go.RC
end
section
namespace Go.RC
open Go Go.DL Go.Proofs
set_option maxRecDepth 100000
noncomputable def c15 : DCode := (.seq (.region [oo 2 (.alloc [.nil, .nil, .nil, .nil])] []) (.seq (.region [oo 19 (.mkmap true [.int .i64, .int .i64]),mv 3 19] []) (.seq (.region [oo 20 (.mkmap true [.int .i64, .int .i64]),mv 4 20] []) (.seq (.seq (.region [mv 21 0,oo 22 (.call 47 [(tm 21)]),oo 23 (.len (tm 22)),oo 24 (.mov (Kc 0))] []) (.block 0 (.loop (.seq (.region [oo 25 (.bin .lss (tm 24) (tm 23))] []) (.seq (.cond (tm 25) .skip (.exit 0)) (.seq (.block 1 (.seq (.cut (.region [oo 26 (.idxL 19 (tm 22) (tm 24)),oo 27 (.load 19 true (tm 26)),oo 6 (.alloc [(Zi 0), (Zi 0), .nil, (Ui 0), (Ui 0), (Ui 0), (Ui 0), (Ui 0), (Ui 0), (Ui 0), (Ui 0), (Ui 0), (Ui 0), (Ui 0), (Ui 0), (Ui 0), (Ui 0), (Ui 0), (Ui 0)]),o0 (.store 19 (tm 6) (tm 27))] [])) (.seq (.seq (.region [oo 28 (.load 19 true (tm 6)),oo 29 (.call 13 [(tm 28)]),oo 30 (.bin .neq (tm 29) (Kc 0))] []) (.cond (tm 30) (.exit 1) .skip)) (.seq (.cut (.region [oo 31 (.offA 0 (tm 6)),oo 32 (.load 1 false (tm 31)),oo 33 (.offA 1 (tm 6)),oo 34 (.load 1 false (tm 33)),oo 35 (.build [(Zi 0), (Zi 0)] [(0, 1, (tm 32)), (1, 1, (tm 34))]),oo 7 (.alloc [(Zi 0), (Zi 0)]),o0 (.store 2 (tm 7) (tm 35))] [])) (.seq (.cut (.region [mv 37 3,oo 38 (.load 2 true (tm 7)),oo 39 (.mlook true [.int .i64, .int .i64] (.agg [(Zi 0), (Zi 0), .nil, (Ui 0), (Ui 0), (Ui 0), (Ui 0), (Ui 0), (Ui 0), (Ui 0), (Ui 0), (Ui 0), (Ui 0), (Ui 0), (Ui 0), (Ui 0), (Ui 0), (Ui 0), (Ui 0)]) true (tm 37) (tm 38)),mv 36 39,oo 40 (.ext (tm 36) 0),oo 41 (.ext (tm 36) 1),oo 8 (.alloc [(Zi 0), (Zi 0), .nil, (Ui 0), (Ui 0), (Ui 0), (Ui 0), (Ui 0), (Ui 0), (Ui 0), (Ui 0), (Ui 0), (Ui 0), (Ui 0), (Ui 0), (Ui 0), (Ui 0), (Ui 0), (Ui 0)]),o0 (.store 19 (tm 8) (tm 40)),mv 9 41] [])) (.seq (.region [mv 42 9,oo 43 (.not (tm 42))] []) (.cond (tm 43) (.cut (.region [mv 44 3,oo 45 (.load 2 true (tm 7)),oo 46 (.load 19 true (tm 6)),o0 (.mput true [.int .i64, .int .i64] (tm 44) (tm 45) (tm 46))] [])) (.seq (.region [oo 47 (.load 19 true (tm 8)),oo 48 (.load 19 true (tm 6)),oo 49 (.call 48 [(tm 47), (tm 48)]),oo 50 (.not (tm 49))] []) (.cond (tm 50) (.region [mv 51 4,oo 52 (.load 2 true (tm 7)),o0 (.mput true [.int .i64, .int .i64] (tm 51) (tm 52) (.const (.bool true)))] []) .skip))))))))) (.region [oo 53 (.bin .add (tm 24) (Kc 1)),mv 24 53] []))))))) (.seq (.region [oo 10 (.alloc [.nil, .nil, .nil, .nil])] []) (.seq (.cut (.region [mv 54 4,oo 55 (.inl 50 [(tm 54)]),oo 56 (.inl 49 [(tm 55), (.const (.clos 51 []))]),oo 57 (.offA 1 (tm 10)),o0 (.store 1 (tm 57) (tm 56))] [])) (.seq (.region [oo 11 (.alloc [(Zi 0), (Zi 0)])] []) (.seq (.seq (.cut (.region [mv 58 3,oo 59 (.inl 52 [(tm 58)]),oo 60 (.inl 49 [(tm 59), (.const (.clos 51 []))]),oo 61 (.len (tm 60)),oo 62 (.mov (Kc 0))] [])) (.block 2 (.loop (.seq (.region [oo 63 (.bin .lss (tm 62) (tm 61))] []) (.seq (.cond (tm 63) .skip (.exit 2)) (.seq (.block 3 (.seq (.cut (.region [mv 64 62,oo 65 (.idxL 2 (tm 60) (tm 62)),oo 66 (.load 2 true (tm 65)),oo 13 (.alloc [(Zi 0), (Zi 0)]),mv 12 64,o0 (.store 2 (tm 13) (tm 66))] [])) (.seq (.cut (.region [mv 67 3,oo 68 (.load 2 true (tm 13)),oo 69 (.mlook true [.int .i64, .int .i64] (.agg [(Zi 0), (Zi 0), .nil, (Ui 0), (Ui 0), (Ui 0), (Ui 0), (Ui 0), (Ui 0), (Ui 0), (Ui 0), (Ui 0), (Ui 0), (Ui 0), (Ui 0), (Ui 0), (Ui 0), (Ui 0), (Ui 0)]) false (tm 67) (tm 68)),oo 14 (.alloc [(Zi 0), (Zi 0), .nil, (Ui 0), (Ui 0), (Ui 0), (Ui 0), (Ui 0), (Ui 0), (Ui 0), (Ui 0), (Ui 0), (Ui 0), (Ui 0), (Ui 0), (Ui 0), (Ui 0), (Ui 0), (Ui 0)]),o0 (.store 19 (tm 14) (tm 69))] [])) (.seq (.cut (.region [oo 70 (.offA 0 (tm 10)),oo 71 (.load 1 false (tm 70)),oo 72 (.load 19 true (tm 14)),oo 73 (.buildF 19 1 [(Zi 0), (Zi 0), .nil, (Ui 0), (Ui 0), (Ui 0), (Ui 0), (Ui 0), (Ui 0), (Ui 0), (Ui 0), (Ui 0), (Ui 0), (Ui 0), (Ui 0), (Ui 0), (Ui 0), (Ui 0), (Ui 0)] [(0, (tm 72))]),oo 74 (.append 33 41 19 56 (tm 71) (tm 73)),oo 75 (.offA 0 (tm 10)),o0 (.store 1 (tm 75) (tm 74))] [])) (.seq (.region [oo 15 (.mov (Kc 0))] []) (.seq (.cut (.seq (.region [mv 76 12,oo 77 (.bin .gtr (tm 76) (Kc 0)),mv 78 77,oT 79 78 (.offA 0 (tm 11)),oT 80 78 (.load 1 false (tm 79)),oT 81 78 (.offA 0 (tm 13)),oT 82 78 (.load 1 false (tm 81)),oT 83 78 (.bin .eql (tm 80) (tm 82)),oo 84 (.pick (tm 78) (tm 83) (.const (.bool false)))] []) (.cond (tm 84) (.region [oo 85 (.offA 1 (tm 11)),oo 86 (.load 1 false (tm 85)),oo 87 (.bin .add (tm 86) (Kc 1)),mv 15 87] []) .skip))) (.seq (.seq (.region [mv 88 15,mv 16 88] []) (.block 4 (.loop (.seq (.seq (.region [mv 89 16,oo 90 (.offA 1 (tm 13)),oo 91 (.load 1 false (tm 90)),oo 92 (.bin .lss (tm 89) (tm 91))] []) (.cond (tm 92) .skip (.exit 4))) (.seq (.block 5 (.region [oo 95 (.offA 2 (tm 10)),oo 96 (.load 1 false (tm 95)),oo 97 (.offA 0 (tm 13)),oo 98 (.load 1 false (tm 97)),mv 99 16,oo 100 (.build [(Zi 0), (Zi 0)] [(0, 1, (tm 98)), (1, 1, (tm 99))]),oo 101 (.buildF 2 1 [(Zi 0), (Zi 0)] [(0, (tm 100))]),oo 102 (.append 50 103 2 16 (tm 96) (tm 101)),oo 103 (.offA 2 (tm 10)),o0 (.store 1 (tm 103) (tm 102))] [])) (.region [mv 93 16,oo 94 (.bin .add (tm 93) (Kc 1)),mv 16 94] [])))))) (.seq (.cut (.region [mv 105 3,oo 106 (.offA 0 (tm 13)),oo 107 (.load 1 false (tm 106)),oo 108 (.offA 1 (tm 13)),oo 109 (.load 1 false (tm 108)),oo 110 (.bin .sub (tm 109) (Kc 1)),oo 111 (.build [(Zi 0), (Zi 0)] [(0, 1, (tm 107)), (1, 1, (tm 110))]),oo 112 (.mlook true [.int .i64, .int .i64] (.agg [(Zi 0), (Zi 0), .nil, (Ui 0), (Ui 0), (Ui 0), (Ui 0), (Ui 0), (Ui 0), (Ui 0), (Ui 0), (Ui 0), (Ui 0), (Ui 0), (Ui 0), (Ui 0), (Ui 0), (Ui 0), (Ui 0)]) true (tm 105) (tm 111)),mv 104 112,oo 113 (.ext (tm 104) 0),oo 114 (.ext (tm 104) 1),oo 17 (.alloc [(Zi 0), (Zi 0), .nil, (Ui 0), (Ui 0), (Ui 0), (Ui 0), (Ui 0), (Ui 0), (Ui 0), (Ui 0), (Ui 0), (Ui 0), (Ui 0), (Ui 0), (Ui 0), (Ui 0), (Ui 0), (Ui 0)]),o0 (.store 19 (tm 17) (tm 113)),mv 18 114] [])) (.seq (.seq (.cut (.region [mv 115 18,mv 116 115,oT 117 116 (.load 19 true (tm 17)),oT 118 116 (.call 30 [(tm 117)]),oT 119 116 (.offA 3 (tm 14)),oT 120 116 (.load 16 true (tm 119)),oT 121 116 (.eqv true [.int .u8, .int .u8, .int .u8, .int .u8, .int .u8, .int .u8, .int .u8, .int .u8, .int .u8, .int .u8, .int .u8, .int .u8, .int .u8, .int .u8, .int .u8, .int .u8] (tm 118) (tm 120)),oo 122 (.pick (tm 116) (tm 121) (.const (.bool false))),mv 123 122,oF 124 123 (.offA 1 (tm 13)),oF 125 123 (.load 1 false (tm 124)),oF 126 123 (.bin .eql (tm 125) (Kc 0)),mF 127 126 123,oT 128 127 (.offA 3 (tm 14)),oT 129 127 (.load 16 true (tm 128)),oT 130 127 (.build [(Ui 0), (Ui 0), (Ui 0), (Ui 0), (Ui 0), (Ui 0), (Ui 0), (Ui 0), (Ui 0), (Ui 0), (Ui 0), (Ui 0), (Ui 0), (Ui 0), (Ui 0), (Ui 0)] []),oT 131 127 (.eqv true [.int .u8, .int .u8, .int .u8, .int .u8, .int .u8, .int .u8, .int .u8, .int .u8, .int .u8, .int .u8, .int .u8, .int .u8, .int .u8, .int .u8, .int .u8, .int .u8] (tm 129) (tm 130)),oF 132 123 (.pick (tm 127) (tm 131) (.const (.bool false))),oo 133 (.pick (tm 123) (.const (.bool true)) (tm 132))] [])) (.cond (tm 133) (.cut (.region [oo 134 (.offA 3 (tm 10)),oo 135 (.load 1 false (tm 134)),oo 136 (.load 2 true (tm 13)),oo 137 (.buildF 2 1 [(Zi 0), (Zi 0)] [(0, (tm 136))]),oo 138 (.append 50 103 2 16 (tm 135) (tm 137)),oo 139 (.offA 3 (tm 10)),o0 (.store 1 (tm 139) (tm 138))] [])) .skip)) (.region [oo 140 (.load 2 true (tm 13)),o0 (.store 2 (tm 11) (tm 140))] [])))))))))) (.region [oo 141 (.bin .add (tm 62) (Kc 1)),mv 62 141] []))))))) (.seq (.region [oo 142 (.load 4 true (tm 10)),o0 (.store 4 (tm 2) (tm 142))] []) .ret)))))))))
theorem l15 : (Tryz.f15.body.bind (lowC Tryz.prog 143 [49, 50, 52, 6000005, 6000007, 6000008, 6000010, 6000015, 6000017, 6000019, 6000020, 6000021, 5000023, 6000029, 6000030, 6000031, 8000073, 8000101, 8000137])) = some c15 := by kernel_rfl
end Go.RC
end
section
namespace Go.RC
open Go Go.DL Go.Proofs
set_option maxRecDepth 100000
set_option maxHeartbeats 20000000
theorem leBm {ks : List Nat} {bx : Nat → Option BX} {ag : Bool} {sh : List Sh} {es es' : List (T × T)} (h : es = es') : LeB ks bx (.m ag sh es none) (some (.m ag sh es' none)) := by rw [h]; exact .same _
abbrev nil4 : List T := [.nil, .nil, .nil, .nil]
theorem fold_drop {l : List Rc} {k : Nat} (h : k < l.length) (a : List Rc × List S2) : (l.drop k).foldl mg1 a = (l.drop (k + 1)).foldl mg1 (mg1 a l[k]) := by
  rw [List.drop_eq_getElem_cons h]; rfl
theorem t_Merge (ls : List (List Rc)) (hl : ls.length < 2 ^ 20) (hn : lensN ls < 2 ^ 18) (ho : ∀ l ∈ ls, ∀ r ∈ l, r.ok) : DCalls Tryz.prog 15 [.slice 1 (ls.map rcs)] (mrg ls.flatten) := by
  have hC := t_Concat ls hl (by omega)
  have hfl := lensN_flat ls
  have hao : ∀ r ∈ ls.flatten, r.ok := fun r hr => by
    obtain ⟨l, h1, h2⟩ := List.mem_flatten.1 hr
    exact ho l h1 r h2
  generalize ls.flatten = all at *
  refine dcalls_low (rs := [.cell 2 52]) mixed Tryz.func15 l15 rfl rfl rfl (r := [.agg _]) (Nat.le_of_ble_eq_true rfl) ?_
  repeat' ((conv => whnf); first | refine k_call _ (hC) ?_ | fail)
  refine wpC_loopE 0 (α := Nat × List Rc × List S2) (β := Unit) (fun q => {sl := [(2, .ptr 2 0), (3, .mp 19), (4, .mp 20), (22, .t (rcs all)), (23, .t (I all.length)), (24, .t (I q.1))], bx := [(2, .d 4 nil4), (19, .m true sh2 (esF q.2.1) none), (20, .m true sh2 (esQ q.2.2) none)]})
    (fun q => q.1 ≤ all.length ∧ okF q.2.1 ∧ q.2.1.length ≤ q.1 ∧ q.2.2.length ≤ q.1 ∧ (all.drop q.1).foldl mg1 q.2 = mgF all) (fun q => all.length - q.1)
    (fun _ => {sl := [(2, .ptr 2 0), (3, .mp 19), (4, .mp 20)], bx := [(2, .d 4 nil4), (19, .m true sh2 (esF (mgF all).1) none), (20, .m true sh2 (esQ (mgF all).2) none)]}) (fun _ => okF (mgF all).1 ∧ (mgF all).1.length ≤ all.length ∧ (mgF all).2.length ≤ all.length) (0, [], []) ⟨by simp, fun r h => by simp at h, by simp, by simp, rfl⟩ ?_ ?_ ?_
  · repeat' (first | ((refine leI ?_; simp; done)) | exact trivial | exact LeV.same _ | exact LeB.same _ | exact rfl | exact fun _ _ _ => trivial | refine And.intro ?_ ?_)
  · rintro ⟨k, F, K⟩ ⟨hk, hF, hFl, hKl, hfo⟩
    dsimp only at hk hF hFl hKl hfo
    rcases Nat.lt_or_ge k all.length with h2 | h2
    · rw [fold_drop h2] at hfo
      have hro := hao all[k] (List.getElem_mem h2)
      have hke : all[k]? = some all[k] := List.getElem?_eq_getElem h2
      have hm := mg1_ok (a := (F, K)) hF hro
      generalize all[k] = r at hfo hro hke hm
      obtain ⟨n, i, l, pv⟩ := r
      have hlen : (rcC n i l pv).length = 19 := rc_len hro
      have hib : 0 ≤ (k : Int) ∧ (k : Int) < ((all.map rc).length : Int) := by rw [List.length_map]; omega
      have hel : (all.map rc)[((k : Int)).toNat]?.getD .nil = rcT n i l pv := eltRc (r := ⟨n, i, l, pv⟩) (by rw [Int.toNat_natCast]; exact hke)
      repeat' ((conv => whnf); first | refine now_D1 (by omega) ?_ | refine aS ?_ | fail)
      refine wpC_cut (β := Unit) (fun _ => {sl := [(2, .ptr 2 0), (3, .mp 19), (4, .mp 20), (6, .ptr 6 0), (22, .t (rcs all)), (23, .t (I all.length)), (24, .t (I k))], bx := [(2, .d 4 nil4), (6, .d 19 (rcC n i l pv)), (19, .m true sh2 (esF F) none), (20, .m true sh2 (esQ K) none)]}) (fun _ => True) ?_ fun _ _ => ?_
      · repeat' ((conv => whnf); first | (refine nv_ (rcT n i l pv) (by first | (exact hel; done) | fail) ?_) | refine nT_ ?_ | (refine And.intro (by first | (exact hib; done) | (exact hlen; done) | (exact ⟨hlen, Nat.le_of_ble_eq_true rfl⟩; done) | fail) ?_) | fail)
        exact ⟨(), trivial, by repeat' (first | ((refine leBd ?_; exact (putL_all (n := 19) rfl).symm)) | exact trivial | exact LeV.same _ | exact LeB.same _ | exact rfl | exact fun _ _ _ => trivial | refine And.intro ?_ ?_)⟩
      have hCk := t_Check n i l pv (by have := hro.2; dsimp only at this; omega) hro.1.l8 hro.1.hp
      by_cases c0 : chk n i l = 0
      case neg =>
        have hst : mg1 (F, K) ⟨n, i, l, pv⟩ = (F, K) := by unfold mg1; rw [if_pos (show chkR ⟨n, i, l, pv⟩ ≠ 0 from c0)]
        rw [hst] at hfo
        repeat' ((conv => whnf); first | refine k_call _ (hCk) ?_ | refine now_N1 c0 ?_ | refine aS ?_ | fail)
        exact ⟨(k + 1, F, K), ⟨by dsimp only; omega, hF, by dsimp only; omega, by dsimp only; omega, hfo⟩, by dsimp only; omega, by repeat' (first | exact trivial | exact LeV.same _ | exact LeB.same _ | exact rfl | exact fun _ _ _ => trivial | exact lI | refine And.intro ?_ ?_)⟩
      have hst : mg1 (F, K) ⟨n, i, l, pv⟩ = match atS F (n, i) with
        | none => (F ++ [⟨n, i, l, pv⟩], K)
        | some o => if samL o ⟨n, i, l, pv⟩ = true then (F, K) else (F, putK (n, i) K) := by unfold mg1; rw [if_neg (show ¬ chkR ⟨n, i, l, pv⟩ ≠ 0 from fun h => h c0)]; try rfl
      rw [hst] at hfo hm
      have hmf := mfind_esF (n, i) F
      repeat' ((conv => whnf); first | refine k_call _ (hCk) ?_ | refine now_N0 c0 ?_ | refine aS ?_ | fail)
      refine wpC_cut (β := Unit) (fun _ => {sl := [(2, .ptr 2 0), (3, .mp 19), (4, .mp 20), (6, .ptr 6 0), (7, .ptr 7 0), (22, .t (rcs all)), (23, .t (I all.length)), (24, .t (I k))], bx := [(2, .d 4 nil4), (6, .d 19 (rcC n i l pv)), (7, .d 2 [I n, I i]), (19, .m true sh2 (esF F) none), (20, .m true sh2 (esQ K) none)]}) (fun _ => True) ?_ fun _ _ => ?_
      · repeat' ((conv => whnf); first | refine nT_ ?_ | refine aS ?_ | fail)
        exact ⟨(), trivial, by repeat' (first | exact trivial | exact LeV.same _ | exact LeB.same _ | exact rfl | exact fun _ _ _ => trivial | refine And.intro ?_ ?_)⟩
      have hkey : keyOk true sh2 (sk (n, i)) := ⟨rfl, rfl, rfl, trivial⟩
      cases hat : atS F (n, i) with
      | none =>
        rw [hat] at hmf hfo hm
        have hpu := mput_esF (r := ⟨n, i, l, pv⟩) hat
        refine wpC_cut (β := Unit) (fun _ => {sl := [(2, .ptr 2 0), (3, .mp 19), (4, .mp 20), (6, .ptr 6 0), (7, .ptr 7 0), (9, .t (.bool false)), (22, .t (rcs all)), (23, .t (I all.length)), (24, .t (I k))], bx := [(2, .d 4 nil4), (6, .d 19 (rcC n i l pv)), (7, .d 2 [I n, I i]), (19, .m true sh2 (esF F) none), (20, .m true sh2 (esQ K) none)]}) (fun _ => True) ?_ fun _ _ => ?_
        · repeat' ((conv => whnf); first | (refine nv_ (.tup [.agg z19, .bool false]) (by show mres _ _ (mfind (sk (n, i)).cells (esF F)) = _; rw [hmf]; rfl) ?_) | (refine And.intro (by first | (exact hkey; done) | fail) ?_) | refine aS ?_ | fail)
          exact ⟨(), trivial, by repeat' (first | exact trivial | exact LeV.same _ | exact LeB.same _ | exact rfl | exact fun _ _ _ => trivial | refine And.intro ?_ ?_)⟩
        skip
        refine wpC_cut (β := Unit) (fun _ => {sl := [(2, .ptr 2 0), (3, .mp 19), (4, .mp 20), (22, .t (rcs all)), (23, .t (I all.length)), (24, .t (I k))], bx := [(2, .d 4 nil4), (19, .m true sh2 (esF (F ++ [⟨n, i, l, pv⟩])) none), (20, .m true sh2 (esQ K) none)]}) (fun _ => True) ?_ fun _ _ => ?_
        · repeat' ((conv => whnf); first | (refine And.intro (by first | (exact hkey; done) | (exact hlen; done) | fail) ?_) | fail)
          exact ⟨(), trivial, by repeat' (first | (exact leBm hpu.symm) | exact trivial | exact LeV.same _ | exact LeB.same _ | exact rfl | exact fun _ _ _ => trivial | refine And.intro ?_ ?_)⟩
        skip
        exact ⟨(k + 1, F ++ [⟨n, i, l, pv⟩], K), ⟨by dsimp only; omega, hm.1, by simp; omega, by dsimp only; omega, hfo⟩, by dsimp only; omega, by repeat' (first | exact trivial | exact LeV.same _ | exact LeB.same _ | exact rfl | exact fun _ _ _ => trivial | exact lI | refine And.intro ?_ ?_)⟩
      | some o =>
        obtain ⟨hoF, hos⟩ := atS_mem hat
        have hoo := (hF o hoF).1
        obtain ⟨n', i', l', pv'⟩ := o
        rw [hat] at hmf hfo hm
        have hlen' : (rcC n' i' l' pv').length = 19 := rc_len hoo
        have hS := t_Same n' i' l' pv' n i l pv hoo.1.l8 hro.1.l8 (by have := hoo.2; dsimp only at this; omega) hoo.1.hp hro.1.hp
        have hf : sameB n' i' l' pv' n i l pv = samL ⟨n', i', l', pv'⟩ ⟨n, i, l, pv⟩ := rfl
        rw [hf] at hS
        refine wpC_cut (β := Unit) (fun _ => {sl := [(2, .ptr 2 0), (3, .mp 19), (4, .mp 20), (6, .ptr 6 0), (7, .ptr 7 0), (8, .ptr 8 0), (9, .t (.bool true)), (22, .t (rcs all)), (23, .t (I all.length)), (24, .t (I k))], bx := [(2, .d 4 nil4), (6, .d 19 (rcC n i l pv)), (7, .d 2 [I n, I i]), (8, .d 19 (rcC n' i' l' pv')), (19, .m true sh2 (esF F) none), (20, .m true sh2 (esQ K) none)]}) (fun _ => True) ?_ fun _ _ => ?_
        · repeat' ((conv => whnf); first | (refine nv_ (.tup [rcT n' i' l' pv', .bool true]) (by show mres _ _ (mfind (sk (n, i)).cells (esF F)) = _; rw [hmf]; rfl) ?_) | (refine And.intro (by first | (exact hkey; done) | (exact ⟨hlen', Nat.le_of_ble_eq_true rfl⟩; done) | fail) ?_) | fail)
          exact ⟨(), trivial, by repeat' (first | ((refine leBd ?_; exact (putL_all (n := 19) rfl).symm)) | exact trivial | exact LeV.same _ | exact LeB.same _ | exact rfl | exact fun _ _ _ => trivial | refine And.intro ?_ ?_)⟩
        cases hs : samL ⟨n', i', l', pv'⟩ ⟨n, i, l, pv⟩ with
        | true =>
          rw [hs] at hS
          have hfo : (all.drop (k + 1)).foldl mg1 (if samL ⟨n', i', l', pv'⟩ ⟨n, i, l, pv⟩ = true then (F, K) else (F, putK (n, i) K)) = mgF all := hfo
          rw [hs, if_pos rfl] at hfo
          repeat' ((conv => whnf); first | refine k_call _ (hS) ?_ | fail)
          exact ⟨(k + 1, F, K), ⟨by dsimp only; omega, hF, by dsimp only; omega, by dsimp only; omega, hfo⟩, by dsimp only; omega, by repeat' (first | exact trivial | exact LeV.same _ | exact LeB.same _ | exact rfl | exact fun _ _ _ => trivial | exact lI | refine And.intro ?_ ?_)⟩
        | false =>
          rw [hs] at hS
          have hfo : (all.drop (k + 1)).foldl mg1 (if samL ⟨n', i', l', pv'⟩ ⟨n, i, l, pv⟩ = true then (F, K) else (F, putK (n, i) K)) = mgF all := hfo
          rw [hs, if_neg (by simp)] at hfo
          have hpq := mput_esQ (n, i) K
          have hkl := putK_len (n, i) K
          repeat' ((conv => whnf); first | refine k_call _ (hS) ?_ | (refine And.intro (by first | (exact hlen; done) | (exact hlen'; done) | (exact hkey; done) | fail) ?_) | fail)
          exact ⟨(k + 1, F, putK (n, i) K), ⟨by dsimp only; omega, hF, by dsimp only; omega, by dsimp only; omega, hfo⟩, by dsimp only; omega, by repeat' (first | (exact leBm hpq.symm) | exact trivial | exact LeV.same _ | exact LeB.same _ | exact rfl | exact fun _ _ _ => trivial | exact lI | refine And.intro ?_ ?_)⟩
    · have : k = all.length := by omega
      subst this
      rw [List.drop_length] at hfo
      have hfo : (F, K) = mgF all := hfo
      rw [← hfo]
      repeat' ((conv => whnf); first | refine now_D0 (by omega) ?_ | refine aS ?_ | fail)
      exact ⟨(), ⟨hF, hFl, hKl⟩, by repeat' (first | exact trivial | exact LeV.same _ | exact LeB.same _ | exact rfl | exact fun _ _ _ => trivial | refine And.intro ?_ ?_)⟩
  rintro - ⟨hF, hFl, hKl⟩
  generalize mgF all = M at *
  obtain ⟨F, K⟩ := M
  dsimp only at hF hFl hKl
  -- the forks
  have hQ := n_SortedQ K (by omega)
  have hN := n_SortedF F (by omega)
  skip
  refine wpC_cut (β := Unit) (fun _ => {sl := [(2, .ptr 2 0), (3, .mp 19), (10, .ptr 10 0)], bx := [(2, .d 4 nil4), (10, .d 4 [.nil, spsT (srtS K), .nil, .nil]), (19, .m true sh2 (esF F) none)]}) (fun _ => True) ?_ fun _ _ => ?_
  · skip
    refine WC_inl mixed Tryz.func50 l50 rfl rfl (rs := [.tmp 2]) rfl 3000 (Nat.le_of_ble_eq_true rfl) ?_
    repeat' ((conv => whnf); first | refine aS ?_ | refine ⟨_, rfl, ?_⟩ | fail)
    refine WC_new rfl hQ ?_
    repeat' ((conv => whnf); first | refine aS ?_ | fail)
    exact ⟨(), trivial, by repeat' (first | exact trivial | exact LeV.same _ | exact LeB.same _ | exact rfl | exact fun _ _ _ => trivial | refine And.intro ?_ ?_)⟩
  skip
  refine wpC_cut (β := Unit) (fun _ => {sl := [(2, .ptr 2 0), (3, .mp 19), (10, .ptr 10 0), (11, .ptr 11 0), (60, .t (.slice 2 ((srtS (F.map sp)).map sk))), (61, .t (I (srtS (F.map sp)).length)), (62, .t (I 0))], bx := [(2, .d 4 nil4), (10, .d 4 [.nil, spsT (srtS K), .nil, .nil]), (11, .d 2 [I 0, I 0]), (19, .m true sh2 (esF F) none)]}) (fun _ => True) ?_ fun _ _ => ?_
  · skip
    refine WC_inl mixed Tryz.func52 l52 rfl rfl (rs := [.tmp 2]) rfl 4000 (Nat.le_of_ble_eq_true rfl) ?_
    repeat' ((conv => whnf); first | refine aS ?_ | refine ⟨_, rfl, ?_⟩ | fail)
    refine WC_new rfl hN ?_
    skip
    exact ⟨(), trivial, by repeat' (first | ((refine leI ?_; simp; done)) | exact trivial | exact LeV.same _ | exact LeB.same _ | exact rfl | exact fun _ _ _ => trivial | refine And.intro ?_ ?_)⟩
  have hks : (rcsF F).length = (srtS (F.map sp)).length := by unfold rcsF; rw [List.length_map]
  have hkl : (srtS (F.map sp)).length < 2 ^ 18 := by rw [(srtS_perm _).length_eq, List.length_map]; omega
  have hmem : ∀ s ∈ srtS (F.map sp), atS F s = some (rcOf F s) ∧ rcOf F s ∈ F ∧ sp (rcOf F s) = s := fun s hs => rcOf_mem ((srtS_perm _).mem_iff.1 hs)
  have hall : ∀ r ∈ rcsF F, r.ok ∧ chkR r = 0 := fun r hr => by
    obtain ⟨s, hs, rfl⟩ := List.mem_map.1 hr
    exact hF _ (hmem s hs).2.1
  refine wpC_loopE 2 (α := Nat) (β := Unit) (fun k => {sl := [(2, .ptr 2 0), (3, .mp 19), (10, .ptr 10 0), (11, .ptr 11 0), (60, .t (.slice 2 ((srtS (F.map sp)).map sk))), (61, .t (I (srtS (F.map sp)).length)), (62, .t (I k))], bx := [(2, .d 4 nil4), (10, .v [.own 74 41 19 (((rcsF F).take k).map rc), .t (spsT (srtS K)), .own 102 103 2 ((gaps none ((rcsF F).take k)).map sk), .own 138 103 2 ((brks F ((rcsF F).take k)).map sk)]), (11, .d 2 [I (lst ((rcsF F).take k)).1, I (lst ((rcsF F).take k)).2]), (19, .m true sh2 (esF F) none)]})
    (fun k => k ≤ (srtS (F.map sp)).length) (fun k => (srtS (F.map sp)).length - k)
    (fun _ => {sl := [(2, .ptr 2 0), (10, .ptr 10 0)], bx := [(2, .d 4 nil4), (10, .v [.t (rcs (rcsF F)), .t (spsT (srtS K)), .t (spsT (gaps none (rcsF F))), .t (spsT (brks F (rcsF F)))])]}) (fun _ => True) 0 (by omega) ?_ ?_ ?_
  · repeat' (first | (refine LeB.dv _ _ _ ?_) | exact trivial | exact LeV.same _ | exact LeB.same _ | exact rfl | exact fun _ _ _ => trivial | exact LeV.nil _ _ _ | refine And.intro ?_ ?_)
  · rintro k hk
    rcases Nat.lt_or_ge k (srtS (F.map sp)).length with h2 | h2
    · have hke : (srtS (F.map sp))[k]? = some (srtS (F.map sp))[k] := List.getElem?_eq_getElem h2
      obtain ⟨hat, hrF, hsp⟩ := hmem _ (List.getElem_mem h2)
      have h2' : k < (rcsF F).length := by omega
      have hrk : (rcsF F)[k] = rcOf F (srtS (F.map sp))[k] := by
        have e : (rcsF F)[k]? = some (rcOf F (srtS (F.map sp))[k]) := by unfold rcsF; rw [List.getElem?_map, hke]; rfl
        exact Option.some.inj ((List.getElem?_eq_getElem h2').symm.trans e)
      have hR1 : (rcsF F).take (k + 1) = (rcsF F).take k ++ [(rcsF F)[k]] := List.take_succ_eq_append_getElem h2'
      have hG1 := gaps_take h2'
      have hB1 := brks_snoc F ((rcsF F).take k) (rcsF F)[k]
      have hL1 := lst_snoc ((rcsF F).take k) (rcsF F)[k]
      rw [← hR1] at hB1 hL1
      have htk : ∀ x ∈ (rcsF F).take k, x.ok ∧ chkR x = 0 := fun x hx => hall x (List.mem_of_mem_take hx)
      have hpl : ∀ x, ((rcsF F).take k).getLast? = some x → x.ok ∧ chkR x = 0 := fun x hx => htk x (List.mem_of_getLast? hx)
      have hRl : ((rcsF F).take k).length = k := by rw [List.length_take]; omega
      have hlk : lst ((rcsF F).take k) = match ((rcsF F).take k).getLast? with | some x => sp x | none => (0, 0) := rfl
      have hpn : ((rcsF F).take k).getLast? = none ↔ k = 0 := by rw [List.getLast?_eq_none_iff, ← List.length_eq_zero_iff, hRl]
      have hGl := gaps_len (l := (rcsF F).take k) (p := none) (fun x h => by cases h) (fun x hx => (htk x hx).2)
      have hBl := brks_len F ((rcsF F).take k)
      rw [hRl] at hGl hBl
      rw [hrk] at hR1 hG1 hB1 hL1
      have hro := hF _ hrF
      generalize rcOf F (srtS (F.map sp))[k] = r at *
      rw [← hsp] at hke hat
      obtain ⟨a, b, l, pv⟩ := r
      obtain ⟨hr1, hr2⟩ := hro
      have hlen : (rcC a b l pv).length = 19 := rc_len hr1
      obtain ⟨n0, n1, i0, i1⟩ := chk_bounds hr2
      dsimp only at n0 n1 i0 i1
      have hfb := frm_bounds (r := ⟨a, b, l, pv⟩) (fun x hx => (hpl x hx).2)
      have hg1 := gap1_len (r := ⟨a, b, l, pv⟩) (fun x hx => (hpl x hx).2) hr2
      generalize ((rcsF F).take k).getLast? = prev at *
      generalize hRk1 : (rcsF F).take (k + 1) = Rk1 at *
      generalize hGk1 : gaps none Rk1 = Gk1 at *
      generalize hBk1 : brks F Rk1 = Bk1 at *
      generalize hLk1 : lst Rk1 = lk1 at *
      generalize hGk : gaps none ((rcsF F).take k) = Gk at *
      generalize hBk : brks F ((rcsF F).take k) = Bk at *
      generalize hLk : lst ((rcsF F).take k) = lk at *
      generalize (rcsF F).take k = Rk at *
      have hib : 0 ≤ (k : Int) ∧ (k : Int) < (((srtS (F.map sp)).map sk).length : Int) := by rw [List.length_map]; omega
      have hel : ((srtS (F.map sp)).map sk)[((k : Int)).toNat]?.getD .nil = sk (a, b) := by rw [Int.toNat_natCast, List.getElem?_map, hke]; rfl
      repeat' ((conv => whnf); first | refine now_D1 (by omega) ?_ | refine aS ?_ | fail)
      refine wpC_cut (β := Unit) (fun _ => {sl := [(2, .ptr 2 0), (3, .mp 19), (10, .ptr 10 0), (11, .ptr 11 0), (60, .t (.slice 2 ((srtS (F.map sp)).map sk))), (61, .t (I (srtS (F.map sp)).length)), (62, .t (I k)), (12, .t (I k)), (13, .ptr 13 0)], bx := [(2, .d 4 nil4), (10, .v [.own 74 41 19 ((Rk).map rc), .t (spsT (srtS K)), .own 102 103 2 ((Gk).map sk), .own 138 103 2 ((Bk).map sk)]), (11, .d 2 [I lk.1, I lk.2]), (13, .d 2 [I a, I b]), (19, .m true sh2 (esF F) none)]}) (fun _ => True) ?_ fun _ _ => ?_
      · repeat' ((conv => whnf); first | (refine nv_ (sk (a, b)) (by first | (exact hel; done) | fail) ?_) | refine nT_ ?_ | (refine And.intro (by first | (exact hib; done) | fail) ?_) | refine aS ?_ | fail)
        exact ⟨(), trivial, by repeat' (first | exact trivial | exact LeV.same _ | exact LeB.same _ | exact rfl | exact fun _ _ _ => trivial | refine And.intro ?_ ?_)⟩
      have hkey : keyOk true sh2 (sk (a, b)) := ⟨rfl, rfl, rfl, trivial⟩
      have hmf := mfind_esF (a, b) F
      rw [show atS F (a, b) = _ from hat] at hmf
      refine wpC_cut (β := Unit) (fun _ => {sl := [(2, .ptr 2 0), (3, .mp 19), (10, .ptr 10 0), (11, .ptr 11 0), (60, .t (.slice 2 ((srtS (F.map sp)).map sk))), (61, .t (I (srtS (F.map sp)).length)), (62, .t (I k)), (12, .t (I k)), (13, .ptr 13 0), (14, .ptr 14 0)], bx := [(2, .d 4 nil4), (10, .v [.own 74 41 19 ((Rk).map rc), .t (spsT (srtS K)), .own 102 103 2 ((Gk).map sk), .own 138 103 2 ((Bk).map sk)]), (11, .d 2 [I lk.1, I lk.2]), (13, .d 2 [I a, I b]), (14, .d 19 (rcC a b l pv)), (19, .m true sh2 (esF F) none)]}) (fun _ => True) ?_ fun _ _ => ?_
      · repeat' ((conv => whnf); first | (refine nv_ (rcT a b l pv) (by show mres _ _ (mfind (sk (a, b)).cells (esF F)) = _; rw [hmf]; rfl) ?_) | (refine And.intro (by first | (exact hkey; done) | (exact ⟨hlen, Nat.le_of_ble_eq_true rfl⟩; done) | fail) ?_) | fail)
        exact ⟨(), trivial, by repeat' (first | ((refine leBd ?_; exact (putL_all (n := 19) rfl).symm)) | exact trivial | exact LeV.same _ | exact LeB.same _ | exact rfl | exact fun _ _ _ => trivial | refine And.intro ?_ ?_)⟩
      refine wpC_cut (β := Unit) (fun _ => {sl := [(2, .ptr 2 0), (3, .mp 19), (10, .ptr 10 0), (11, .ptr 11 0), (60, .t (.slice 2 ((srtS (F.map sp)).map sk))), (61, .t (I (srtS (F.map sp)).length)), (62, .t (I k)), (12, .t (I k)), (13, .ptr 13 0), (14, .ptr 14 0)], bx := [(2, .d 4 nil4), (10, .v [.own 74 41 19 ((Rk1).map rc), .t (spsT (srtS K)), .own 102 103 2 ((Gk).map sk), .own 138 103 2 ((Bk).map sk)]), (11, .d 2 [I lk.1, I lk.2]), (13, .d 2 [I a, I b]), (14, .d 19 (rcC a b l pv)), (19, .m true sh2 (esF F) none)]}) (fun _ => True) ?_ fun _ _ => ?_
      · repeat' ((conv => whnf); first | (refine And.intro (by first | (exact hlen; done) | (exact ⟨trivial, hlen⟩; done) | ((simp; omega); done) | fail) ?_) | refine aS ?_ | fail)
        exact ⟨(), trivial, by repeat' (first | (refine LeB.v _ _ ?_) | ((refine leOwn ?_; rw [hR1, List.map_append]; rfl)) | exact trivial | exact LeV.same _ | exact LeB.same _ | exact rfl | exact fun _ _ _ => trivial | refine And.intro ?_ ?_)⟩
      skip
      refine wpC_cut (β := Unit) (fun _ => {sl := [(2, .ptr 2 0), (3, .mp 19), (10, .ptr 10 0), (11, .ptr 11 0), (60, .t (.slice 2 ((srtS (F.map sp)).map sk))), (61, .t (I (srtS (F.map sp)).length)), (62, .t (I k)), (12, .t (I k)), (13, .ptr 13 0), (14, .ptr 14 0), (15, .t (I (frm prev ⟨a, b, l, pv⟩)))], bx := [(2, .d 4 nil4), (10, .v [.own 74 41 19 ((Rk1).map rc), .t (spsT (srtS K)), .own 102 103 2 ((Gk).map sk), .own 138 103 2 ((Bk).map sk)]), (11, .d 2 [I lk.1, I lk.2]), (13, .d 2 [I a, I b]), (14, .d 19 (rcC a b l pv)), (19, .m true sh2 (esF F) none)]}) (fun _ => True) ?_ fun _ _ => ?_
      · cases prev with
        | none =>
          have k0 : k = 0 := hpn.1 rfl
          repeat' ((conv => whnf); first | refine now_D0 (by omega) ?_ | refine aS ?_ | fail)
          exact ⟨(), trivial, by repeat' (first | exact trivial | exact LeV.same _ | exact LeB.same _ | exact rfl | exact fun _ _ _ => trivial | refine And.intro ?_ ?_)⟩
        | some q =>
          have k0 : ¬ k = 0 := fun h => by have := hpn.2 h; cases this
          have hlk : lk = (q.n, q.i) := hlk
          subst hlk
          obtain ⟨-, q1, q2, q3⟩ := chk_bounds (hpl q rfl).2
          by_cases hqa : q.n = a
          · have hfr : frm (some q) ⟨a, b, l, pv⟩ = IntKind.i64.wrap (q.i + 1) := by
              rw [wrap_id (by omega) (by omega)]; unfold frm; exact if_pos hqa
            repeat' ((conv => whnf); first | refine now_D1 (by omega) ?_ | refine nT_ ?_ | refine aS ?_ | fail)
            exact ⟨(), trivial, by repeat' (first | (exact leI hfr) | exact trivial | exact LeV.same _ | exact LeB.same _ | exact rfl | exact fun _ _ _ => trivial | refine And.intro ?_ ?_)⟩
          · have hfr : frm (some q) ⟨a, b, l, pv⟩ = 0 := by unfold frm; exact if_neg hqa
            repeat' ((conv => whnf); first | refine now_D1 (by omega) ?_ | refine now_E0 hqa ?_ | refine nT_ ?_ | refine aS ?_ | fail)
            exact ⟨(), trivial, by repeat' (first | (exact leI hfr) | exact trivial | exact LeV.same _ | exact LeB.same _ | exact rfl | exact fun _ _ _ => trivial | refine And.intro ?_ ?_)⟩
      generalize hfr : frm prev ⟨a, b, l, pv⟩ = fr at *
      have hgl : (gap1 prev ⟨a, b, l, pv⟩).length = (b - fr).toNat := by unfold gap1; rw [List.length_map, List.length_range, hfr]
      have hgt : ∀ j, j < (b - fr).toNat → (gap1 prev ⟨a, b, l, pv⟩).take (j + 1) = (gap1 prev ⟨a, b, l, pv⟩).take j ++ [(a, fr + (j : Int))] := fun j hj => by
        have := gap1_take (p := prev) (r := ⟨a, b, l, pv⟩) (j := j) (by rw [hfr]; exact hj)
        rw [this, hfr]
      generalize gap1 prev ⟨a, b, l, pv⟩ = gp at *
      skip
      refine wpC_loopE 4 (α := Nat) (β := Unit) (fun j => {sl := [(2, .ptr 2 0), (3, .mp 19), (10, .ptr 10 0), (11, .ptr 11 0), (60, .t (.slice 2 ((srtS (F.map sp)).map sk))), (61, .t (I (srtS (F.map sp)).length)), (62, .t (I k)), (12, .t (I k)), (13, .ptr 13 0), (14, .ptr 14 0), (16, .t (I (fr + (j : Int))))], bx := [(2, .d 4 nil4), (10, .v [.own 74 41 19 ((Rk1).map rc), .t (spsT (srtS K)), .own 102 103 2 ((Gk ++ gp.take j).map sk), .own 138 103 2 ((Bk).map sk)]), (11, .d 2 [I lk.1, I lk.2]), (13, .d 2 [I a, I b]), (14, .d 19 (rcC a b l pv)), (19, .m true sh2 (esF F) none)]})
        (fun j => j ≤ (b - fr).toNat) (fun j => (b - fr).toNat - j) (fun _ => {sl := [(2, .ptr 2 0), (3, .mp 19), (10, .ptr 10 0), (11, .ptr 11 0), (60, .t (.slice 2 ((srtS (F.map sp)).map sk))), (61, .t (I (srtS (F.map sp)).length)), (62, .t (I k)), (12, .t (I k)), (13, .ptr 13 0), (14, .ptr 14 0)], bx := [(2, .d 4 nil4), (10, .v [.own 74 41 19 ((Rk1).map rc), .t (spsT (srtS K)), .own 102 103 2 ((Gk1).map sk), .own 138 103 2 ((Bk).map sk)]), (11, .d 2 [I lk.1, I lk.2]), (13, .d 2 [I a, I b]), (14, .d 19 (rcC a b l pv)), (19, .m true sh2 (esF F) none)]}) (fun _ => True) 0 (by omega) ?_ ?_ ?_
      · repeat' (first | (refine LeB.v _ _ ?_) | ((refine leOwn ?_; rw [List.take_zero, List.append_nil])) | exact trivial | exact LeV.same _ | exact LeB.same _ | exact rfl | exact fun _ _ _ => trivial | exact lI | refine And.intro ?_ ?_)
      · rintro j hj
        rcases Nat.lt_or_ge j (b - fr).toNat with h3 | h3
        · have hgj := hgt j h3
          have hw : fr + ((j + 1 : Nat) : Int) = IntKind.i64.wrap (fr + (j : Int) + 1) := by rw [wrap_id (by omega) (by omega)]; push_cast; omega
          have hgm : (Gk ++ gp.take (j + 1)).map sk = (Gk ++ gp.take j).map sk ++ [sk (a, fr + (j : Int))] := by rw [hgj, ← List.append_assoc, List.map_append]; rfl
          have htl : (gp.take j).length ≤ 1048576 := by rw [List.length_take]; omega
          have hroom : (((Gk ++ gp.take j).map sk).length + 1) * 16 ≤ 140737488355328 := by rw [List.length_map, List.length_append]; omega
          repeat' ((conv => whnf); first | refine now_D1 (by omega) ?_ | refine nT_ ?_ | (refine And.intro (by first | (exact hroom; done) | fail) ?_) | refine aS ?_ | fail)
          exact ⟨j + 1, by omega, by omega, by repeat' (first | (refine LeB.v _ _ ?_) | (exact leI hw) | ((refine leOwn ?_; exact hgm)) | exact trivial | exact LeV.same _ | exact LeB.same _ | exact rfl | exact fun _ _ _ => trivial | refine And.intro ?_ ?_)⟩
        · have : j = (b - fr).toNat := by omega
          subst this
          have hgm : Gk1.map sk = (Gk ++ gp.take (b - fr).toNat).map sk := by rw [List.take_of_length_le (by omega), hG1]
          repeat' ((conv => whnf); first | refine now_D0 (by omega) ?_ | refine nT_ ?_ | refine aS ?_ | fail)
          exact ⟨(), trivial, by repeat' (first | (refine LeB.v _ _ ?_) | ((refine leOwn ?_; exact hgm)) | exact trivial | exact LeV.same _ | exact LeB.same _ | exact rfl | exact fun _ _ _ => trivial | refine And.intro ?_ ?_)⟩
      rintro - -
      have hmf2 := mfind_esF (a, b - 1) F
      have hwb : IntKind.i64.wrap (b - 1) = b - 1 := wrap_id (by omega) (by omega)
      have hbk : brk F ⟨a, b, l, pv⟩ = match atS F (a, b - 1) with
        | some x => !decide (x.dg = pv) || (b == 0 && !decide (pv = zero16))
        | none => b == 0 && !decide (pv = zero16) := rfl
      have hkey2 : keyOk true sh2 (.agg [I a, I (IntKind.i64.wrap (b - 1))]) := ⟨rfl, rfl, rfl, trivial⟩
      have hz : (!eqL (pv.map Y) (zero16.map Y)) = !decide (pv = zero16) := congrArg (!·) (eqL_map pv zero16)
      have hf16 := fits16 hr1.1.hp
      have hf0 : fits [.int .u8, .int .u8, .int .u8, .int .u8, .int .u8, .int .u8, .int .u8, .int .u8, .int .u8, .int .u8, .int .u8, .int .u8, .int .u8, .int .u8, .int .u8, .int .u8] (zero16.map Y) := fits16 rfl
      refine wpC_cut (β := Option Rc) (fun o => {sl := [(2, .ptr 2 0), (3, .mp 19), (10, .ptr 10 0), (11, .ptr 11 0), (60, .t (.slice 2 ((srtS (F.map sp)).map sk))), (61, .t (I (srtS (F.map sp)).length)), (62, .t (I k)), (12, .t (I k)), (13, .ptr 13 0), (14, .ptr 14 0), (17, .ptr 17 0), (18, .t (.bool o.isSome))], bx := [(2, .d 4 nil4), (10, .v [.own 74 41 19 ((Rk1).map rc), .t (spsT (srtS K)), .own 102 103 2 ((Gk1).map sk), .own 138 103 2 ((Bk).map sk)]), (11, .d 2 [I lk.1, I lk.2]), (13, .d 2 [I a, I b]), (14, .d 19 (rcC a b l pv)), (17, .d 19 (match o with | some x => rcC x.n x.i x.ls x.pv | none => z19)), (19, .m true sh2 (esF F) none)]}) (fun o => o = atS F (a, b - 1)) ?_ fun o ho2 => ?_
      · cases ho2 : atS F (a, b - 1) with
        | none =>
          rw [ho2] at hmf2
          repeat' ((conv => whnf); first | (refine nv_ (.tup [.agg z19, .bool false]) (by show mres _ _ (mfind (T.cells (.agg [I a, I (IntKind.i64.wrap (b - 1))])) (esF F)) = _; rw [hwb]; exact congrArg (mres _ _) hmf2) ?_) | refine nT_ ?_ | (refine And.intro (by first | (exact hkey2; done) | fail) ?_) | refine aS ?_ | fail)
          exact ⟨none, rfl, by repeat' (first | exact trivial | exact LeV.same _ | exact LeB.same _ | exact rfl | exact fun _ _ _ => trivial | refine And.intro ?_ ?_)⟩
        | some x =>
          rw [ho2] at hmf2
          obtain ⟨hxF, hxs⟩ := atS_mem ho2
          have hxo := (hF x hxF).1
          obtain ⟨n', i', l', pv'⟩ := x
          have hlen' : (rcC n' i' l' pv').length = 19 := rc_len hxo
          repeat' ((conv => whnf); first | (refine nv_ (.tup [rcT n' i' l' pv', .bool true]) (by show mres _ _ (mfind (T.cells (.agg [I a, I (IntKind.i64.wrap (b - 1))])) (esF F)) = _; rw [hwb]; exact congrArg (mres _ _) hmf2) ?_) | refine nT_ ?_ | (refine And.intro (by first | (exact hkey2; done) | (exact ⟨hlen', Nat.le_of_ble_eq_true rfl⟩; done) | fail) ?_) | refine aS ?_ | fail)
          exact ⟨some ⟨n', i', l', pv'⟩, rfl, by repeat' (first | ((refine leBd ?_; exact (putL_all (n := 19) rfl).symm)) | exact trivial | exact LeV.same _ | exact LeB.same _ | exact rfl | exact fun _ _ _ => trivial | refine And.intro ?_ ?_)⟩
      refine wpC_cut (β := Unit) (fun _ => {sl := [(2, .ptr 2 0), (3, .mp 19), (10, .ptr 10 0), (11, .ptr 11 0), (60, .t (.slice 2 ((srtS (F.map sp)).map sk))), (61, .t (I (srtS (F.map sp)).length)), (62, .t (I k)), (12, .t (I k)), (13, .ptr 13 0), (133, .t (.bool (brk F ⟨a, b, l, pv⟩)))], bx := [(2, .d 4 nil4), (10, .v [.own 74 41 19 ((Rk1).map rc), .t (spsT (srtS K)), .own 102 103 2 ((Gk1).map sk), .own 138 103 2 ((Bk).map sk)]), (11, .d 2 [I lk.1, I lk.2]), (13, .d 2 [I a, I b]), (19, .m true sh2 (esF F) none)]}) (fun _ => True) ?_ fun _ _ => ?_
      · rw [← ho2] at hbk
        cases o with
        | none =>
          by_cases b0 : b = 0
          · have hbk' : brk F ⟨a, b, l, pv⟩ = !decide (pv = zero16) := by rw [hbk, b0]; simp
            repeat' ((conv => whnf); first | refine now_E1 b0 ?_ | (refine nv_ (dg16 pv) (by first | (exact aggPv hr1.1.hp; done) | fail) ?_) | refine nb_ _ hz ?_ | refine nT_ ?_ | (refine And.intro (by first | (exact ⟨hf16, hf0⟩; done) | fail) ?_) | refine aS ?_ | fail)
            exact ⟨(), trivial, by repeat' (first | (exact leB hbk') | exact trivial | exact LeV.same _ | exact LeB.same _ | exact rfl | exact fun _ _ _ => trivial | refine And.intro ?_ ?_)⟩
          · have hbk' : brk F ⟨a, b, l, pv⟩ = false := by rw [hbk]; simp [b0]
            repeat' ((conv => whnf); first | refine now_E0 b0 ?_ | refine nT_ ?_ | refine aS ?_ | fail)
            exact ⟨(), trivial, by repeat' (first | (exact leB hbk') | exact trivial | exact LeV.same _ | exact LeB.same _ | exact rfl | exact fun _ _ _ => trivial | refine And.intro ?_ ?_)⟩
        | some x =>
          obtain ⟨hxF, hxs⟩ := atS_mem ho2.symm
          obtain ⟨hxo, hxc⟩ := hF x hxF
          obtain ⟨-, -, x0, -⟩ := chk_bounds hxc
          have hxi : x.i = b - 1 := congrArg Prod.snd hxs
          have b0 : b ≠ 0 := by omega
          obtain ⟨n', i', l', pv'⟩ := x
          have hlen' : (rcC n' i' l' pv').length = 19 := rc_len hxo
          have hDg := t_Digest n' i' l' pv' hxo.1 hxo.2
          have hDl := dgR_len n' i' l' pv'
          have hbk : brk F ⟨a, b, l, pv⟩ = (!decide (dgR n' i' l' pv' = pv) || (b == 0 && !decide (pv = zero16))) := hbk
          generalize dgR n' i' l' pv' = dg at *
          have hz2 : (!eqL (dg.map Y) (pv.map Y)) = !decide (dg = pv) := congrArg (!·) (eqL_map dg pv)
          have hfd := fits16 hDl
          cases hd : decide (dg = pv) with
          | true =>
            have hbk' : brk F ⟨a, b, l, pv⟩ = false := by rw [hbk, hd]; simp [b0]
            rw [hd] at hz2
            repeat' ((conv => whnf); first | refine k_call _ (hDg) ?_ | (refine nv_ (dg16 pv) (by first | (exact aggPv hr1.1.hp; done) | fail) ?_) | refine nb_ _ hz2 ?_ | refine now_E0 b0 ?_ | refine nT_ ?_ | (refine And.intro (by first | (exact hlen'; done) | (exact ⟨hfd, hf16⟩; done) | fail) ?_) | refine aS ?_ | fail)
            exact ⟨(), trivial, by repeat' (first | (exact leB hbk') | exact trivial | exact LeV.same _ | exact LeB.same _ | exact rfl | exact fun _ _ _ => trivial | refine And.intro ?_ ?_)⟩
          | false =>
            have hbk' : brk F ⟨a, b, l, pv⟩ = true := by rw [hbk, hd]; rfl
            rw [hd] at hz2
            repeat' ((conv => whnf); first | refine k_call _ (hDg) ?_ | (refine nv_ (dg16 pv) (by first | (exact aggPv hr1.1.hp; done) | fail) ?_) | refine nb_ _ hz2 ?_ | (refine And.intro (by first | (exact hlen'; done) | (exact ⟨hfd, hf16⟩; done) | fail) ?_) | refine aS ?_ | fail)
            exact ⟨(), trivial, by repeat' (first | (exact leB hbk') | exact trivial | exact LeV.same _ | exact LeB.same _ | exact rfl | exact fun _ _ _ => trivial | refine And.intro ?_ ?_)⟩
      cases hbr : brk F ⟨a, b, l, pv⟩ with
      | true =>
        rw [hbr, if_pos rfl] at hB1
        have hbm : Bk1.map sk = Bk.map sk ++ [sk (a, b)] := by rw [hB1, List.map_append]; rfl
        have hroom : ((Bk.map sk).length + 1) * 16 ≤ 140737488355328 := by rw [List.length_map]; omega
        skip
        refine wpC_cut (β := Unit) (fun _ => {sl := [(2, .ptr 2 0), (3, .mp 19), (10, .ptr 10 0), (11, .ptr 11 0), (60, .t (.slice 2 ((srtS (F.map sp)).map sk))), (61, .t (I (srtS (F.map sp)).length)), (62, .t (I k)), (13, .ptr 13 0)], bx := [(2, .d 4 nil4), (10, .v [.own 74 41 19 ((Rk1).map rc), .t (spsT (srtS K)), .own 102 103 2 ((Gk1).map sk), .own 138 103 2 ((Bk1).map sk)]), (11, .d 2 [I lk.1, I lk.2]), (13, .d 2 [I a, I b]), (19, .m true sh2 (esF F) none)]}) (fun _ => True) ?_ fun _ _ => ?_
        · repeat' ((conv => whnf); first | (refine And.intro (by first | (exact hroom; done) | fail) ?_) | refine aS ?_ | fail)
          exact ⟨(), trivial, by repeat' (first | (refine LeB.v _ _ ?_) | ((refine leOwn ?_; exact hbm)) | exact trivial | exact LeV.same _ | exact LeB.same _ | exact rfl | exact fun _ _ _ => trivial | refine And.intro ?_ ?_)⟩
        repeat' ((conv => whnf); first | refine aS ?_ | fail)
        refine ⟨k + 1, by omega, by omega, ?_⟩
        repeat' (first | (refine LeB.v _ _ ?_) | ((refine leOwn ?_; rw [hRk1]; done)) | ((refine leOwn ?_; rw [hRk1, hGk1])) | ((refine leOwn ?_; rw [hRk1, hBk1])) | ((refine leBd ?_; rw [hRk1, hLk1, hL1])) | exact trivial | exact LeV.same _ | exact LeB.same _ | exact rfl | exact fun _ _ _ => trivial | exact lI | refine And.intro ?_ ?_)
      | false =>
        rw [hbr, if_neg (by simp), List.append_nil] at hB1
        repeat' ((conv => whnf); first | refine aS ?_ | fail)
        refine ⟨k + 1, by omega, by omega, ?_⟩
        repeat' (first | (refine LeB.v _ _ ?_) | ((refine leOwn ?_; rw [hRk1]; done)) | ((refine leOwn ?_; rw [hRk1, hGk1])) | ((refine leOwn ?_; rw [hRk1, hBk1, hB1])) | ((refine leBd ?_; rw [hRk1, hLk1, hL1])) | exact trivial | exact LeV.same _ | exact LeB.same _ | exact rfl | exact fun _ _ _ => trivial | exact lI | refine And.intro ?_ ?_)
    · have : k = (srtS (F.map sp)).length := by omega
      subst this
      repeat' ((conv => whnf); first | refine now_D0 (by omega) ?_ | refine aS ?_ | fail)
      have hT : (rcsF F).take (srtS (F.map sp)).length = rcsF F := List.take_of_length_le (by omega)
      rw [hT]
      exact ⟨(), trivial, by repeat' (first | (refine LeB.v _ _ ?_) | (exact LeV.data _ _ _ _) | exact trivial | exact LeV.same _ | exact LeB.same _ | exact rfl | exact fun _ _ _ => trivial | refine And.intro ?_ ?_)⟩
  rintro - -
  repeat' ((conv => whnf); first | exact trivial | refine aS ?_ | fail)
end Go.RC
end
section
namespace Go.RC
open Go Go.DL Go.Proofs
set_option maxRecDepth 100000
end Go.RC
end
section
namespace Go.RC
open Go Go.DL Go.Proofs
set_option maxRecDepth 100000
set_option maxHeartbeats 20000000
def rf1 (a : List Rc × List S2) (r : Rc) : List Rc × List S2 :=
  if chkR r ≠ 0 then a else match atS a.1 (sp r) with
    | none => (insR r a.1, a.2)
    | some o => if samL o r = true then a else (a.1, insS (sp r) a.2)
end Go.RC
end
section
namespace Go.RC
open Go Go.DL Go.Proofs
set_option maxRecDepth 100000
set_option maxHeartbeats 1000000
def ins0 (s : S2) (l : List S2) : List S2 := l.takeWhile (befS s) ++ [s] ++ l.dropWhile (befS s)
abbrev leS (a b : S2) : Prop := ¬ cmpS b a < 0
theorem ins0_cons (s x : S2) (l : List S2) : ins0 s (x :: l) = if befS s x = true then x :: ins0 s l else s :: x :: l := by
  unfold ins0
  rw [List.takeWhile_cons, List.dropWhile_cons]
  by_cases h : befS s x = true
  · rw [if_pos h, if_pos h, if_pos h]; rfl
  · rw [if_neg h, if_neg h, if_neg h]; rfl
theorem ins0_perm (s : S2) : ∀ l : List S2, (ins0 s l).Perm (s :: l)
  | [] => .refl _
  | x :: l => by
    rw [ins0_cons]
    by_cases h : befS s x = true
    · rw [if_pos h]; exact ((ins0_perm s l).cons x).trans (List.Perm.swap s x l)
    · rw [if_neg h]
theorem ins0_sorted (s : S2) : ∀ {l : List S2}, l.Pairwise leS → (ins0 s l).Pairwise leS
  | [], _ => by simp [ins0]
  | x :: l, h => by
    obtain ⟨h1, h2⟩ := List.pairwise_cons.1 h
    rw [ins0_cons]
    by_cases hb : befS s x = true
    · rw [if_pos hb]
      refine List.pairwise_cons.2 ⟨fun y hy => ?_, ins0_sorted s h2⟩
      have hb : cmpS x s < 0 := of_decide_eq_true hb
      rcases List.mem_cons.1 ((ins0_perm s l).mem_iff.1 hy) with e | e
      · subst e; exact fun k => cmpS_irr x (cmpS_tr hb k)
      · exact h1 y e
    · rw [if_neg hb]
      have hb : ¬ cmpS x s < 0 := fun k => hb (decide_eq_true k)
      refine List.pairwise_cons.2 ⟨fun y hy => ?_, h⟩
      rcases List.mem_cons.1 hy with e | e
      · subst e; exact hb
      · exact cmpS_ntr (h1 y e) hb
theorem at_ins (s : S2) : ∀ {l : List S2}, l.Pairwise leS → (l[(l.takeWhile (befS s)).length]? = some s ↔ s ∈ l)
  | [], _ => by simp
  | x :: l, h => by
    obtain ⟨h1, h2⟩ := List.pairwise_cons.1 h
    rw [List.takeWhile_cons]
    by_cases hb : befS s x = true
    · rw [if_pos hb, List.length_cons, List.getElem?_cons_succ, at_ins s h2, List.mem_cons]
      have hb : cmpS x s < 0 := of_decide_eq_true hb
      refine ⟨Or.inr, fun k => k.resolve_left fun e => ?_⟩
      subst e; exact cmpS_irr s hb
    · rw [if_neg hb, List.length_nil, List.getElem?_cons_zero, List.mem_cons]
      have hb : ¬ cmpS x s < 0 := fun k => hb (decide_eq_true k)
      refine ⟨fun e => Or.inl (Option.some.inj e).symm, fun k => ?_⟩
      rcases k with e | e
      · rw [e]
      · rw [cmpS_anti hb (h1 s e)]
theorem insS_eq {s : S2} {l : List S2} (h : l.Pairwise leS) : insS s l = if s ∈ l then l else ins0 s l := by
  unfold insS
  obtain ⟨e1, e2⟩ := tw_take (p := befS s) l
  by_cases hs : s ∈ l
  · rw [if_pos ((at_ins s h).2 hs), if_pos hs]
  · rw [if_neg (fun k => hs ((at_ins s h).1 k)), if_neg hs, ← e1, ← e2]; rfl
theorem insR_sp (r : Rc) (l : List Rc) : (insR r l).map sp = ins0 (sp r) (l.map sp) := by
  unfold insR ins0
  obtain ⟨e1, e2⟩ := tw_take (p := befR r) l
  rw [← e1, ← e2, List.map_append, List.map_append, List.takeWhile_map, List.dropWhile_map]
  rfl
theorem putK_mem {s : S2} : ∀ {K : List S2}, s ∈ K → putK s K = K
  | k :: K, h => by
    rw [putK_cons]
    by_cases e : s = k
    · rw [if_pos e, e]
    · rw [if_neg e, putK_mem ((List.mem_cons.1 h).resolve_left e)]
theorem putK_new {s : S2} : ∀ {K : List S2}, s ∉ K → putK s K = K ++ [s]
  | [], _ => rfl
  | k :: K, h => by
    rw [putK_cons, if_neg (fun e => h (by rw [e]; exact List.mem_cons_self)), putK_new (fun e => h (List.mem_cons_of_mem _ e))]; rfl
theorem insS_srt (s : S2) (K : List S2) : insS s (srtS K) = srtS (putK s K) := by
  rw [insS_eq (srtS_sorted K)]
  by_cases h : s ∈ K
  · rw [if_pos ((srtS_perm K).mem_iff.2 h), putK_mem h]
  · rw [if_neg (fun k => h ((srtS_perm K).mem_iff.1 k)), putK_new h]
    refine srtS_eq ?_ (ins0_sorted s (srtS_sorted K))
    exact ((ins0_perm s _).trans ((srtS_perm K).cons s)).trans (List.perm_append_comm (l₁ := [s]) (l₂ := K))
structure Both (a b : List Rc × List S2) : Prop where
  nd : (a.1.map sp).Nodup
  sp : b.1.map sp = srtS (a.1.map sp)
  mem : b.1.Perm a.1
  q : b.2 = srtS a.2
theorem nd_eq {F : List Rc} (h : (F.map sp).Nodup) {x y : Rc} (hx : x ∈ F) (hy : y ∈ F) (e : sp x = sp y) : x = y := by
  induction F with
  | nil => cases hx
  | cons z F ih =>
    obtain ⟨h1, h2⟩ := List.nodup_cons.1 (show (sp z :: F.map sp).Nodup from h)
    rcases List.mem_cons.1 hx with hx | hx <;> rcases List.mem_cons.1 hy with hy | hy
    · rw [hx, hy]
    · exact absurd (List.mem_map.2 ⟨y, hy, by rw [← e, hx]⟩) h1
    · exact absurd (List.mem_map.2 ⟨x, hx, by rw [e, hy]⟩) h1
    · exact ih h2 hx hy
theorem atS_of {F : List Rc} (h : (F.map sp).Nodup) {x : Rc} (hx : x ∈ F) : atS F (sp x) = some x := by
  obtain ⟨h1, h2, h3⟩ := rcOf_mem (List.mem_map_of_mem (f := sp) hx)
  rw [h1, nd_eq h h2 hx h3]
theorem atS_none {F : List Rc} {s : S2} (h : atS F s = none) : s ∉ F.map sp := fun k => by
  obtain ⟨h1, -⟩ := rcOf_mem k
  rw [h] at h1; cases h1
theorem atS_perm {F R : List Rc} (h : (F.map sp).Nodup) (hp : R.Perm F) (s : S2) : atS R s = atS F s := by
  cases hf : atS F s with
  | none =>
    cases hr : atS R s with
    | none => rfl
    | some x =>
      obtain ⟨h1, h2⟩ := atS_mem hr
      exact absurd (List.mem_map.2 ⟨x, hp.mem_iff.1 h1, h2⟩) (atS_none hf)
  | some x =>
    obtain ⟨h1, h2⟩ := atS_mem hf
    have hn : (R.map sp).Nodup := (hp.map sp).nodup_iff.2 h
    rw [← h2]; exact atS_of hn (hp.mem_iff.2 h1)
theorem Both.rcs {a b : List Rc × List S2} (h : Both a b) : b.1 = rcsF a.1 := by
  unfold rcsF
  rw [← h.sp, List.map_map]
  have : b.1.map (rcOf a.1 ∘ Go.RC.sp) = b.1.map id := List.map_congr_left fun x hx => by
    have := atS_of h.nd (h.mem.mem_iff.1 hx)
    show rcOf a.1 (Go.RC.sp x) = x
    unfold rcOf; rw [this]; rfl
  rw [this, List.map_id]
theorem Both.step {a b : List Rc × List S2} (h : Both a b) (r : Rc) : Both (mg1 a r) (rf1 b r) := by
  unfold mg1 rf1
  by_cases c : chkR r ≠ 0
  · rw [if_pos c, if_pos c]; exact h
  rw [if_neg c, if_neg c, atS_perm h.nd h.mem]
  cases hat : atS a.1 (Go.RC.sp r) with
  | none =>
    have hno := atS_none hat
    refine ⟨?_, ?_, ?_, h.q⟩
    · show ((a.1 ++ [r]).map Go.RC.sp).Nodup
      rw [List.map_append]
      refine List.nodup_append.2 ⟨h.nd, by simp, fun x hx y hy e => ?_⟩
      rw [List.map_singleton, List.mem_singleton] at hy
      exact hno (by rw [← hy, ← e]; exact hx)
    · show (insR r b.1).map Go.RC.sp = srtS ((a.1 ++ [r]).map Go.RC.sp)
      rw [insR_sp, h.sp]
      refine srtS_eq ?_ (ins0_sorted _ (srtS_sorted _))
      rw [List.map_append]
      exact ((ins0_perm _ _).trans ((srtS_perm _).cons _)).trans (List.perm_append_comm (l₁ := [Go.RC.sp r]))
    · show (insR r b.1).Perm (a.1 ++ [r])
      unfold insR
      have e : b.1.take (b.1.takeWhile (befR r)).length ++ [r] ++ b.1.drop (b.1.takeWhile (befR r)).length |>.Perm (r :: b.1) := by
        rw [List.append_assoc]
        refine List.perm_middle.trans ?_
        show (r :: (b.1.take (b.1.takeWhile (befR r)).length ++ b.1.drop (b.1.takeWhile (befR r)).length)).Perm (r :: b.1)
        rw [List.take_append_drop]
      exact (e.trans (h.mem.cons r)).trans (List.perm_append_comm (l₁ := [r]))
  | some o =>
    dsimp only
    by_cases hs : samL o r = true
    · rw [if_pos hs, if_pos hs]; exact h
    · rw [if_neg hs, if_neg hs]
      exact ⟨h.nd, h.sp, h.mem, by show insS _ b.2 = _; rw [h.q, insS_srt]⟩
end Go.RC
end
section
namespace Go.RC
open Go Go.DL Go.Proofs
set_option maxRecDepth 100000
set_option maxHeartbeats 1000000
end Go.RC
end
section
namespace Go.RC
open Go Go.DL Go.Proofs
set_option maxRecDepth 100000
set_option maxHeartbeats 2000000
def okL (es : List Ent) : Prop := okX es ∧ (∀ e ∈ es, 1 ≤ e.2.1) ∧ (es.map (·.1)).Nodup
theorem okL_nil : okL [] := ⟨⟨fun e h => by simp at h, fun e h => by simp at h⟩, fun e h => by simp at h, by simp⟩
def posL : List (List Int) → List Int → Nat
  | [], _ => 0
  | y :: l, x => if cmpN (nmOf y) (nmOf x) < 0 then posL l x + 1 else 0
def insL (ls : List (List Int)) (x : List Int) : List (List Int) := ls.take (posL ls x) ++ x :: ls.drop (posL ls x)
def noteL (s p f : Int) (h : List Int) (ls : List (List Int)) : Int × List (List Int) :=
  if rightN s p f && rightH h then
    if ixP (isN s p f) ls 0 < 0 then if ls.length ≥ 1000 then (2, ls) else (0, insL ls ([s, p, f, 1] ++ ofH h))
    else if (ls.getD (ixP (isN s p f) ls 0).toNat []).getD 3 0 ≥ 1073741824 then (2, ls)
    else (0, ls.set (ixP (isN s p f) ls 0).toNat ([s, p, f, (ls.getD (ixP (isN s p f) ls 0).toNat []).getD 3 0 + 1] ++ sAdd ((ls.getD (ixP (isN s p f) ls 0).toNat []).drop 4) (ofH h)))
  else (1, ls)
theorem getM_none {k : N3} : ∀ {es : List Ent}, getM k es = none ↔ k ∉ es.map (·.1)
  | [] => by simp [getM]
  | e :: es => by
    rw [getM_cons, List.map_cons, List.mem_cons]
    by_cases h : k = e.1
    · rw [if_pos h]; simp [h]
    · rw [if_neg h, getM_none (es := es)]; simp [h]
theorem putM_new {k : N3} {v : Int × List Int} : ∀ {es : List Ent}, getM k es = none → putM k v es = es ++ [(k, v)]
  | [], _ => rfl
  | e :: es, h => by
    rw [getM_cons] at h
    by_cases c : k = e.1
    · rw [if_pos c] at h; cases h
    · rw [if_neg c] at h
      rw [putM_cons, if_neg c, putM_new h]; rfl
theorem putM_keys {k : N3} {v w : Int × List Int} : ∀ {es : List Ent}, getM k es = some w → (putM k v es).map (·.1) = es.map (·.1)
  | [], h => by cases h
  | e :: es, h => by
    rw [getM_cons] at h
    by_cases c : k = e.1
    · rw [putM_cons, if_pos c, List.map_cons, List.map_cons]
      simp [c]
    · rw [if_neg c] at h
      rw [putM_cons, if_neg c, List.map_cons, List.map_cons, putM_keys h]
theorem getM_put {k k' : N3} {v : Int × List Int} : ∀ {es : List Ent}, getM k' (putM k v es) = if k' = k then some v else getM k' es
  | [] => by show (if k' = k then some v else none) = _; rfl
  | e :: es => by
    rw [putM_cons]
    by_cases c : k = e.1
    · rw [if_pos c, getM_cons, getM_cons]
      dsimp only
      by_cases d : k' = k
      · rw [if_pos d, if_pos d]
      · rw [if_neg d, if_neg d, if_neg (by rw [← c]; exact d)]
    · rw [if_neg c, getM_cons, getM_cons, getM_put (es := es)]
      by_cases d : k' = e.1
      · rw [if_pos d, if_pos d, if_neg (by rw [d]; exact fun h => c h.symm)]
      · rw [if_neg d, if_neg d]
theorem putM_mem {k : N3} {v : Int × List Int} : ∀ {es : List Ent} {e : Ent}, e ∈ putM k v es → e = (k, v) ∨ e ∈ es
  | [], e, h => Or.inl (List.mem_singleton.1 h)
  | x :: es, e, h => by
    rw [putM_cons] at h
    by_cases c : k = x.1
    · rw [if_pos c] at h
      rcases List.mem_cons.1 h with h | h
      · exact Or.inl h
      · exact Or.inr (List.mem_cons_of_mem _ h)
    · rw [if_neg c] at h
      rcases List.mem_cons.1 h with h | h
      · exact Or.inr (by rw [h]; simp)
      · exact (putM_mem h).imp id (List.mem_cons_of_mem _)
theorem putM_len {k : N3} {v : Int × List Int} : ∀ {es : List Ent}, (putM k v es).length ≤ es.length + 1
  | [] => by simp [putM]
  | x :: es => by
    rw [putM_cons]
    have := putM_len (k := k) (v := v) (es := es)
    split <;> simp <;> omega
theorem nm_lineE (es : List Ent) (k : N3) : nmOf (lineE es k) = k := rfl
theorem isN_lineE (es : List Ent) (k : N3) (s p f : Int) : isN s p f (lineE es k) = decide (k = (s, p, f)) := by
  obtain ⟨a, b, c⟩ := k
  show (a == s && (b == p && c == f)) = _
  by_cases h1 : a = s <;> by_cases h2 : b = p <;> by_cases h3 : c = f <;> simp [h1, h2, h3]
theorem lineE_put (es : List Ent) (k k' : N3) (v : Int × List Int) : lineE (putM k v es) k' = if k' = k then [k.1, k.2.1, k.2.2, v.1] ++ v.2 else lineE es k' := by
  unfold lineE
  rw [getM_put]
  by_cases h : k' = k
  · rw [if_pos h, if_pos h, h]; rfl
  · rw [if_neg h, if_neg h]
theorem srt_strict {ks : List N3} (h : ks.Nodup) : (srt ks).Pairwise fun a b => cmpN a b < 0 := by
  have h1 := srt_sorted ks
  have h2 : (srt ks).Nodup := (srt_perm ks).nodup_iff.2 h
  refine (h1.and h2).imp fun {a b} h => ?_
  by_cases k : cmpN a b < 0
  · exact k
  · exact absurd (cmpN_anti k h.1) h.2
theorem find_lines (es : List Ent) (s p f : Int) : (getM (s, p, f) es = none ∧ ixP (isN s p f) (linesE es) 0 = -1) ∨
    (∃ v j, getM (s, p, f) es = some v ∧ ixP (isN s p f) (linesE es) 0 = (j : Nat) ∧ (srt (es.map (·.1)))[j]? = some (s, p, f) ∧ (linesE es)[j]? = some ([s, p, f, v.1] ++ v.2)) := by
  rcases ixP_find (isN s p f) (linesE es) 0 (Int.le_refl 0) with ⟨h1, h2⟩ | ⟨j, x, h1, h2, h3, h4⟩
  · refine Or.inl ⟨getM_none.2 fun hk => ?_, h1⟩
    have hm := (srt_perm (es.map (·.1))).mem_iff.2 hk
    have := List.find?_eq_none.1 h2 _ (List.mem_map_of_mem hm)
    rw [isN_lineE] at this
    simp at this
  · have hx := List.find?_some h4
    unfold linesE at h2
    rw [List.getElem?_map] at h2
    cases hk : (srt (es.map (·.1)))[j]? with
    | none => rw [hk] at h2; cases h2
    | some k =>
      rw [hk] at h2
      have e : lineE es k = x := Option.some.inj h2
      rw [← e, isN_lineE] at hx
      have ek : k = (s, p, f) := of_decide_eq_true hx
      subst ek
      obtain ⟨v, hv⟩ := getM_some ((srt_perm _).mem_iff.1 (List.mem_of_getElem? hk))
      refine Or.inr ⟨v, j, hv, by rw [h1]; omega, hk, ?_⟩
      unfold linesE
      rw [List.getElem?_map, hk]
      show some (lineE es (s, p, f)) = _
      unfold lineE
      rw [hv]; rfl
def insN (k : N3) : List N3 → List N3
  | [] => [k]
  | y :: l => if cmpN y k < 0 then y :: insN k l else k :: y :: l
theorem insN_cons (k y : N3) (l : List N3) : insN k (y :: l) = if cmpN y k < 0 then y :: insN k l else k :: y :: l := rfl
theorem insN_perm (k : N3) : ∀ l : List N3, (insN k l).Perm (l ++ [k])
  | [] => .refl _
  | y :: l => by
    rw [insN_cons]
    split
    · exact (insN_perm k l).cons y
    · exact (List.perm_append_singleton k (y :: l)).symm
theorem insN_sorted {k : N3} : ∀ {l : List N3}, (l.Pairwise fun a b => ¬ cmpN b a < 0) → (insN k l).Pairwise fun a b => ¬ cmpN b a < 0
  | [], _ => by simp [insN]
  | y :: l, h => by
    obtain ⟨h1, h2⟩ := List.pairwise_cons.1 h
    rw [insN_cons]
    split
    · rename_i c
      refine List.pairwise_cons.2 ⟨fun z hz => ?_, insN_sorted h2⟩
      rcases List.mem_append.1 ((insN_perm k l).mem_iff.1 hz) with hz | hz
      · exact h1 z hz
      · rw [List.mem_singleton.1 hz]
        rw [cmpN_lt] at c ⊢; omega
    · rename_i c
      refine List.pairwise_cons.2 ⟨fun z hz => ?_, h⟩
      rcases List.mem_cons.1 hz with hz | hz
      · rw [hz]; exact c
      · exact cmpN_ntr (h1 z hz) c
theorem insL_map {g g' : N3 → List Int} {k : N3} (hg : ∀ y, nmOf (g y) = y) (hk : nmOf (g' k) = k) : ∀ {l : List N3}, (∀ y ∈ l, g' y = g y) → insL (l.map g) (g' k) = (insN k l).map g'
  | [], _ => rfl
  | y :: l, h => by
    have ih := insL_map (l := l) hg hk fun z hz => h z (List.mem_cons_of_mem _ hz)
    rw [insN_cons]
    unfold insL at ih ⊢
    rw [List.map_cons]
    unfold posL
    rw [hg y, hk]
    split
    · rw [List.take_succ_cons, List.drop_succ_cons, List.cons_append, ih, List.map_cons, h y (by simp)]
    · show g' k :: g y :: l.map g = _
      rw [List.map_cons, List.map_cons, h y (by simp)]
      congr 2
      exact (List.map_congr_left fun z hz => (h z (List.mem_cons_of_mem _ hz)).symm)
theorem lines_new {es : List Ent} {k : N3} {v : Int × List Int} (hn : getM k es = none) : linesE (putM k v es) = insL (linesE es) ([k.1, k.2.1, k.2.2, v.1] ++ v.2) := by
  have hk := getM_none.1 hn
  have e1 : lineE (putM k v es) k = [k.1, k.2.1, k.2.2, v.1] ++ v.2 := by rw [lineE_put, if_pos rfl]
  rw [← e1]
  have hs : srt ((putM k v es).map (·.1)) = insN k (srt (es.map (·.1))) := by
    refine (srt_eq ?_ (insN_sorted (srt_sorted _))).symm
    rw [putM_new hn, List.map_append]
    exact (insN_perm k _).trans ((srt_perm _).append_right _)
  show (srt ((putM k v es).map (·.1))).map (lineE (putM k v es)) = insL ((srt (es.map (·.1))).map (lineE es)) (lineE (putM k v es) k)
  rw [hs]
  refine (insL_map (g := lineE es) (g' := lineE (putM k v es)) (nm_lineE es) (nm_lineE _ k) fun y hy => ?_).symm
  rw [lineE_put, if_neg]
  rintro rfl
  exact hk ((srt_perm _).mem_iff.1 hy)
theorem lines_set {es : List Ent} {k : N3} {v w : Int × List Int} {j : Nat} (hw : getM k es = some w) (hj : (srt (es.map (·.1)))[j]? = some k) (hd : (es.map (·.1)).Nodup) : linesE (putM k v es) = (linesE es).set j ([k.1, k.2.1, k.2.2, v.1] ++ v.2) := by
  have hks := putM_keys (v := v) hw
  have hnd : (srt (es.map (·.1))).Nodup := (srt_perm _).nodup_iff.2 hd
  unfold linesE
  rw [hks]
  generalize srt (es.map (·.1)) = ks at hj hnd
  have hjl : j < ks.length := (List.getElem?_eq_some_iff.1 hj).1
  apply List.ext_getElem?
  intro i
  rw [List.getElem?_set, List.getElem?_map, List.getElem?_map, List.length_map]
  by_cases c : j = i
  · subst c
    rw [if_pos rfl, if_pos hjl, hj]
    show some (lineE _ k) = _
    rw [lineE_put, if_pos rfl]
  · rw [if_neg c]
    cases hy : ks[i]? with
    | none => rfl
    | some y =>
      show some (lineE _ y) = some (lineE _ y)
      rw [lineE_put, if_neg]
      rintro rfl
      have hil : i < ks.length := (List.getElem?_eq_some_iff.1 hy).1
      exact c ((List.getElem?_inj hjl hnd).1 (hj.trans hy.symm))
theorem note_lines {es : List Ent} (ok : okL es) (s p f : Int) (h : List Int) : noteL s p f h (linesE es) = ((noteM (s, p, f) h es).1, linesE (noteM (s, p, f) h es).2) ∧ okL (noteM (s, p, f) h es).2 ∧ (noteM (s, p, f) h es).2.length ≤ es.length + 1 := by
  obtain ⟨⟨ok1, ok2⟩, ok3, ok4⟩ := ok
  have okk : okL es := ⟨⟨ok1, ok2⟩, ok3, ok4⟩
  unfold noteL noteM
  dsimp only
  by_cases c0 : (rightN s p f && rightH h) = true
  case neg =>
    rw [if_neg c0, if_neg c0]
    exact ⟨rfl, okk, by simp⟩
  rw [if_pos c0, if_pos c0]
  have hr : rightN s p f = true := by
    revert c0; cases rightN s p f <;> simp
  have keep : ∀ (v : Int × List Int), isS v.2 → 1 ≤ v.1 → v.1 ≤ 1073741824 → ((putM (s, p, f) v es).map (·.1)).Nodup → okL (putM (s, p, f) v es) := fun v h1 h2 h3 h4 => by
    refine ⟨⟨fun e he => ?_, fun e he => ?_⟩, fun e he => ?_, h4⟩ <;> rcases putM_mem he with rfl | he
    · exact ⟨h1, by dsimp only; omega, h3⟩
    · exact ok1 e he
    · exact hr
    · exact ok2 e he
    · exact h2
    · exact ok3 e he
  rcases find_lines es s p f with ⟨h1, h2⟩ | ⟨v, j, h1, h2, h3, h4⟩
  · rw [h1, h2, if_pos (by decide), linesE_len]
    dsimp only
    by_cases c1 : es.length ≥ 1000
    · rw [if_pos c1, if_pos c1]; exact ⟨rfl, okk, by simp⟩
    · rw [if_neg c1, if_neg c1]
      have hs : sAdd [0, 0, 0, 0] (ofH h) = ofH h := sAdd0 (ofH_isS h)
      rw [hs]
      refine ⟨by rw [lines_new h1], keep _ (ofH_isS h) (by simp) (by simp) ?_, putM_len⟩
      rw [putM_new h1, List.map_append]
      exact List.nodup_append.2 ⟨ok4, by simp, fun a ha b hb => by
        rw [List.mem_singleton.1 hb]
        rintro rfl
        exact getM_none.1 h1 ha⟩
  · rw [h1, h2, if_neg (by omega), Int.toNat_natCast]
    have e : (linesE es).getD j [] = [s, p, f, v.1] ++ v.2 := by rw [List.getD_eq_getElem?_getD, h4]; rfl
    rw [e]
    dsimp only
    have e3 : ([s, p, f, v.1] ++ v.2).getD 3 0 = v.1 := rfl
    have e4 : ([s, p, f, v.1] ++ v.2).drop 4 = v.2 := rfl
    rw [e3, e4]
    obtain ⟨b1, b2, b3⟩ := ok1 _ (getM_mem h1)
    have b4 := ok3 _ (getM_mem h1)
    dsimp only at b1 b2 b3 b4
    by_cases c1 : v.1 ≥ 1073741824
    · rw [if_pos c1, if_pos c1]; exact ⟨rfl, okk, by simp⟩
    · rw [if_neg c1, if_neg c1]
      exact ⟨by rw [lines_set h1 h3 ok4], keep _ (isS_add b1 (ofH_isS h)) (by dsimp only; omega) (by dsimp only; omega) (by rw [putM_keys h1]; exact ok4), putM_len⟩
theorem okFrom_lines {g : N3 → List Int} (hg : ∀ y, nmOf (g y) = y) : ∀ {l : List N3} {q : Option (List Int)}, (l.Pairwise fun a b => cmpN a b < 0) → (∀ y ∈ l, okLn (g y) = true) → (∀ x y, q = some x → y ∈ l → cmpN (nmOf x) y < 0) → okFrom q (l.map g) = true
  | [], _, _, _, _ => rfl
  | y :: l, q, h1, h2, h3 => by
    obtain ⟨k1, k2⟩ := List.pairwise_cons.1 h1
    rw [List.map_cons]
    unfold okFrom
    have ih := okFrom_lines hg (l := l) (q := some (g y)) k2 (fun z hz => h2 z (List.mem_cons_of_mem _ hz)) fun x z hx hz => by
      cases hx
      rw [hg y]; exact k1 z hz
    rw [ih, Bool.and_true]
    unfold okAt
    rw [h2 y (by simp)]
    cases q with
    | none => rfl
    | some x => simp [hg y, h3 x y rfl (by simp)]
theorem chk_lines {es : List Ent} (ok : okL es) (hl : es.length ≤ 1000) {n i : Int} (n0 : 0 ≤ n) (n1 : n < 200) (i0 : 0 ≤ i) (i1 : i ≤ 1048576) : chk n i (linesE es) = 0 := by
  unfold chk
  rw [linesE_len, if_neg (by omega), if_neg (by omega), if_pos]
  refine okFrom_lines (nm_lineE es) (srt_strict ok.2.2) (fun k hk => ?_) (fun x y hx => by cases hx)
  obtain ⟨c, t0, t1, t2, t3, hv, hs, h0, h1, hr⟩ := okX_get ok.1 hk
  have h2 := ok.2.1 _ (getM_mem hv)
  dsimp only at h2
  have e : lineE es k = [k.1, k.2.1, k.2.2, c, t0, t1, t2, t3] := by unfold lineE; rw [hv]; rfl
  rw [e, okLn8, hr, (isSb_ok rfl).2 hs]
  simp [h1, h2]
def lastD (pv : List Int) (l : List Rc) : List Int := l.foldl (fun _ r => r.dg) pv
theorem lastD_snoc (pv : List Int) (l : List Rc) (r : Rc) : lastD pv (l ++ [r]) = r.dg := by unfold lastD; rw [List.foldl_append]; rfl
theorem ver_snoc {node : Int} {r : Rc} : ∀ {l : List Rc} {k : Nat} {pv : List Int}, ver node k pv l = (((k + l.length : Nat) : Int), 0) → chkR r = 0 → r.n = node → r.i = ((k + l.length : Nat) : Int) → r.pv = lastD pv l → ver node k pv (l ++ [r]) = (((k + (l ++ [r]).length : Nat) : Int), 0)
  | [], k, pv, _, h1, h2, h3, h4 => by
    show (if chkR r ≠ 0 then ((k : Int), chkR r) else if r.n ≠ node then ((k : Int), 1) else if r.i ≠ k then ((k : Int), 25) else if r.pv ≠ pv then ((k : Int), 7) else (((k + 1 : Nat) : Int), 0)) = _
    rw [if_neg (by simp [h1]), if_neg (by simp [h2]), if_neg (by rw [h3]; simp), if_neg (by rw [h4]; simp [lastD])]
    rfl
  | x :: l, k, pv, h0, h1, h2, h3, h4 => by
    have e : ∀ m, ver node k pv (x :: m) = if chkR x ≠ 0 then ((k : Int), chkR x) else if x.n ≠ node then ((k : Int), 1) else if x.i ≠ k then ((k : Int), 25) else if x.pv ≠ pv then ((k : Int), 7) else ver node (k + 1) x.dg m := fun _ => rfl
    rw [e] at h0
    rw [List.cons_append, e]
    have hz : ∀ {a b : Int} {n : Nat}, b ≠ 0 → (a, b) ≠ ((n : Int), (0 : Int)) := fun h k => h (Prod.mk.inj k).2
    by_cases c1 : chkR x ≠ 0
    · rw [if_pos c1] at h0; exact absurd h0 (hz c1)
    rw [if_neg c1] at h0 ⊢
    by_cases c2 : x.n ≠ node
    · rw [if_pos c2] at h0; exact absurd h0 (hz (by decide))
    rw [if_neg c2] at h0 ⊢
    by_cases c3 : x.i ≠ k
    · rw [if_pos c3] at h0; exact absurd h0 (hz (by decide))
    rw [if_neg c3] at h0 ⊢
    by_cases c4 : x.pv ≠ pv
    · rw [if_pos c4] at h0; exact absurd h0 (hz (by decide))
    rw [if_neg c4] at h0 ⊢
    have hl : k + (x :: l).length = k + 1 + l.length := by rw [List.length_cons]; omega
    rw [hl] at h0 h3
    rw [ver_snoc (l := l) (k := k + 1) (pv := x.dg) h0 h1 h2 h3 h4]
    congr 2
    simp; omega
structure Chn (node : Int) (l : List Rc) : Prop where
  ok : ∀ r ∈ l, r.ok
  c0 : ∀ r ∈ l, chkR r = 0
  n : ∀ r ∈ l, r.n = node
  i : ∀ (j : Nat) (r : Rc), l[j]? = some r → r.i = j
  p : ∀ (j : Nat) (r : Rc), l[j]? = some r → r.pv = lastD zero16 (l.take j)
  v : ver node 0 zero16 l = ((l.length : Int), 0)
theorem Chn.nil (node : Int) : Chn node [] := ⟨fun r h => by simp at h, fun r h => by simp at h, fun r h => by simp at h, fun j r h => by simp at h, fun j r h => by simp at h, rfl⟩
theorem Chn.snoc {node : Int} {l : List Rc} {r : Rc} (h : Chn node l) (ho : r.ok) (h1 : chkR r = 0) (h2 : r.n = node) (h3 : r.i = l.length) (h4 : r.pv = lastD zero16 l) : Chn node (l ++ [r]) := by
  have mem : ∀ x ∈ l ++ [r], x ∈ l ∨ x = r := fun x hx => (List.mem_append.1 hx).imp id List.mem_singleton.1
  have get : ∀ (j : Nat) (x : Rc), (l ++ [r])[j]? = some x → (l[j]? = some x ∧ j < l.length) ∨ (j = l.length ∧ x = r) := fun j x hx => by
    rcases Nat.lt_or_ge j l.length with c | c
    · rw [List.getElem?_append_left c] at hx; exact Or.inl ⟨hx, c⟩
    · rw [List.getElem?_append_right c] at hx
      cases hj : j - l.length with
      | zero => rw [hj] at hx; exact Or.inr ⟨by omega, (Option.some.inj hx).symm⟩
      | succ m => rw [hj] at hx; simp at hx
  refine ⟨fun x hx => ?_, fun x hx => ?_, fun x hx => ?_, fun j x hx => ?_, fun j x hx => ?_, ?_⟩
  · rcases mem x hx with k | rfl
    · exact h.ok x k
    · exact ho
  · rcases mem x hx with k | rfl
    · exact h.c0 x k
    · exact h1
  · rcases mem x hx with k | rfl
    · exact h.n x k
    · exact h2
  · rcases get j x hx with ⟨k, -⟩ | ⟨rfl, rfl⟩
    · exact h.i j x k
    · exact h3
  · rcases get j x hx with ⟨k, c⟩ | ⟨rfl, rfl⟩
    · rw [List.take_append_of_le_length (by omega)]; exact h.p j x k
    · rw [List.take_append_of_le_length (Nat.le_refl _), List.take_length]; exact h4
  · have := ver_snoc (k := 0) (by rw [Nat.zero_add]; exact h.v) h1 h2 (by rw [Nat.zero_add]; exact h3) h4
    rw [Nat.zero_add] at this; exact this
theorem Chn.inj {node : Int} {l : List Rc} (h : Chn node l) {x y : Rc} (hx : x ∈ l) (hy : y ∈ l) (e : x.i = y.i) : x = y := by
  obtain ⟨j, hj, rfl⟩ := List.getElem_of_mem hx
  obtain ⟨k, hk, rfl⟩ := List.getElem_of_mem hy
  have h1 := h.i j _ (List.getElem?_eq_getElem hj)
  have h2 := h.i k _ (List.getElem?_eq_getElem hk)
  have : j = k := by omega
  subst this; rfl
theorem Chn.sp_inj {node : Int} {l : List Rc} (h : Chn node l) {x y : Rc} (hx : x ∈ l) (hy : y ∈ l) (e : sp x = sp y) : x = y := h.inj hx hy (Prod.mk.inj e).2
theorem Chn.mg {node : Int} : ∀ {a b l : List Rc}, Chn node l → a ++ b = l → b.foldl mg1 (a, []) = (l, [])
  | a, [], l, _, e => by rw [List.append_nil] at e; rw [e]; rfl
  | a, r :: b, l, h, e => by
    have hr : r ∈ l := by rw [← e]; simp
    have hn : atS a (sp r) = none := by
      unfold atS
      rw [List.find?_eq_none]
      intro x hx
      simp only [decide_eq_true_eq]
      intro hs
      have hxl : x ∈ l := by rw [← e]; simp [hx]
      have hxr := h.sp_inj hr hxl hs
      obtain ⟨j, hj, hjx⟩ := List.getElem_of_mem hx
      have e1 : l[j]? = some x := by rw [← e, List.getElem?_append_left hj, List.getElem?_eq_getElem hj, hjx]
      have e2 : l[a.length]? = some r := by rw [← e, List.getElem?_append_right (Nat.le_refl _)]; simp
      have h1 := h.i _ _ e1
      have h2 := h.i _ _ e2
      rw [hxr] at h2
      omega
    have hm : mg1 (a, []) r = (a ++ [r], []) := by
      unfold mg1
      rw [if_neg (by simp [h.c0 r hr])]
      dsimp only
      rw [hn]
    rw [List.foldl_cons, hm]
    exact Chn.mg h (by rw [← e]; simp)
theorem Chn.mgFE {node : Int} {l : List Rc} (h : Chn node l) : mgF l = (l, []) := Chn.mg (a := []) h rfl
theorem Chn.sorted {node : Int} {l : List Rc} (h : Chn node l) : srtS (l.map sp) = l.map sp := by
  refine (srtS_eq (.refl _) ?_).symm
  rw [List.pairwise_map, List.pairwise_iff_getElem]
  intro j k hj hk hjk
  have h1 := h.i j _ (List.getElem?_eq_getElem hj)
  have h2 := h.i k _ (List.getElem?_eq_getElem hk)
  have h3 := h.n _ (List.getElem_mem hj)
  have h4 := h.n _ (List.getElem_mem hk)
  rw [cmpS_lt]
  dsimp only
  omega
theorem Chn.rcsFE {node : Int} {l : List Rc} (h : Chn node l) : rcsF l = l := by
  unfold rcsF
  rw [h.sorted, List.map_map]
  have : l.map (rcOf l ∘ sp) = l.map id := List.map_congr_left fun r hr => by
    obtain ⟨-, h2, h3⟩ := rcOf_mem (F := l) (List.mem_map_of_mem (f := sp) hr)
    exact h.sp_inj h2 hr h3
  rw [this, List.map_id]
theorem Chn.at_ {node : Int} {l : List Rc} (h : Chn node l) {j : Nat} {r : Rc} (hj : l[j]? = some r) : atS l (r.n, r.i) = some r := by
  have hr := List.mem_of_getElem? hj
  obtain ⟨h1, h2, h3⟩ := rcOf_mem (F := l) (List.mem_map_of_mem (f := sp) hr)
  rw [h.sp_inj h2 hr h3] at h1
  exact h1
theorem Chn.gapsE {node : Int} : ∀ {a b l : List Rc}, Chn node l → a ++ b = l → gaps a.getLast? b = []
  | a, [], l, _, _ => rfl
  | a, r :: b, l, h, e => by
    have hr : l[a.length]? = some r := by rw [← e, List.getElem?_append_right (Nat.le_refl _)]; simp
    have hi := h.i _ _ hr
    have hrl := List.mem_of_getElem? hr
    have ih := Chn.gapsE (a := a ++ [r]) (b := b) h (by rw [← e]; simp)
    rw [List.getLast?_append] at ih
    show gap1 a.getLast? r ++ gaps (some r) b = []
    have ih : gaps (some r) b = [] := by simpa using ih
    rw [ih, List.append_nil]
    have hf : frm a.getLast? r = r.i := by
      cases hq : a.getLast? with
      | none =>
        have : a = [] := List.getLast?_eq_none_iff.1 hq
        subst this
        rw [hi]; rfl
      | some x =>
        rw [List.getLast?_eq_getElem?] at hq
        have hx : l[a.length - 1]? = some x := by rw [← e, List.getElem?_append_left (List.getElem?_eq_some_iff.1 hq).1]; exact hq
        have hal : 0 < a.length := by have := (List.getElem?_eq_some_iff.1 hq).1; omega
        have hxi := h.i _ _ hx
        unfold frm
        dsimp only
        rw [if_pos (by rw [h.n x (List.mem_of_getElem? hx), h.n r hrl])]
        omega
    unfold gap1
    rw [hf]; simp
theorem Chn.brksE {node : Int} {l : List Rc} (h : Chn node l) : brks l l = [] := by
  unfold brks
  rw [List.map_eq_nil_iff, List.filter_eq_nil_iff]
  intro r hr
  obtain ⟨j, hj, e⟩ := List.getElem_of_mem hr
  have hj' : l[j]? = some r := by rw [List.getElem?_eq_getElem hj, e]
  have hi := h.i j r hj'
  have hp := h.p j r hj'
  unfold brk
  cases j with
  | zero =>
    have hp : r.pv = zero16 := hp
    have hn : atS l (r.n, r.i - 1) = none := by
      cases hx : atS l (r.n, r.i - 1) with
      | none => rfl
      | some x =>
        obtain ⟨x1, x2⟩ := atS_mem hx
        obtain ⟨k, hk, e⟩ := List.getElem_of_mem x1
        have := h.i k x (by rw [List.getElem?_eq_getElem hk, e])
        have h2 : x.i = r.i - 1 := (Prod.mk.inj x2).2
        omega
    rw [hn, hp]; simp
  | succ j =>
    have hx : l[j]? = some l[j] := List.getElem?_eq_getElem (by omega)
    have hxi := h.i _ _ hx
    have hat := h.at_ hx
    have hs : ((l[j]).n, (l[j]).i) = (r.n, r.i - 1) := by
      rw [h.n r hr, h.n _ (List.getElem_mem (by omega)), hxi, hi]
      congr 1; omega
    rw [hs] at hat
    rw [hat]
    rw [List.take_succ_eq_append_getElem (by omega), lastD_snoc] at hp
    have : (r.i == 0) = false := by rw [hi]; simp; omega
    rw [this, hp]; simp
theorem Chn.mrgE {node : Int} {l : List Rc} (h : Chn node l) : mrg l = .agg [rcs l, spsT [], spsT [], spsT []] := by
  unfold mrg
  have e : srtS [] = [] := by simp [srtS]
  rw [h.mgFE]
  dsimp only
  rw [h.rcsFE, h.brksE, e, show gaps none l = [] from Chn.gapsE (a := []) h rfl]
end Go.RC
end
section
namespace Go.RC
open Go Go.DL Go.Proofs
set_option maxRecDepth 100000
noncomputable def c8 : DCode := (.seq (.cut (.region [oo 5 (.box 19 (tm 0)),oo 9 (.box 10 (tm 4)),oo 10 (.alloc [(Zi 0), (Zi 0), .nil, (Ui 0), (Ui 0), (Ui 0), (Ui 0), (Ui 0), (Ui 0), (Ui 0), (Ui 0), (Ui 0), (Ui 0), (Ui 0), (Ui 0), (Ui 0), (Ui 0), (Ui 0), (Ui 0)]),oo 11 (.mov (Kc 0))] [])) (.seq (.region [mv 17 1,mv 18 2,mv 19 3,oo 20 (.call 32 [(tm 17), (tm 18), (tm 19)]),mv 12 20] []) (.seq (.cut (.region [oo 21 (.load 10 true (tm 9)),oo 22 (.call 33 [(tm 21)]),mv 13 22] [])) (.seq (.seq (.region [mv 23 12,oo 24 (.not (tm 23)),mv 25 24,mF 26 13 25,oF 27 25 (.not (tm 26)),oo 28 (.pick (tm 25) (.const (.bool true)) (tm 27))] []) (.cond (tm 28) (.seq (.region [oo 29 (.load 19 true (tm 5)),o0 (.store 19 (tm 10) (tm 29)),oo 11 (.mov (Kc 1))] []) .ret) .skip)) (.seq (.cut (.region [oo 30 (.offA 2 (tm 5)),oo 31 (.load 1 false (tm 30)),mv 32 1,mv 33 2,mv 34 3,oo 35 (.call 34 [(tm 31), (tm 32), (tm 33), (tm 34)]),mv 14 35] [])) (.seq (.seq (.region [mv 36 14,oo 37 (.bin .lss (tm 36) (Kc 0))] []) (.cond (tm 37) (.seq (.seq (.region [oo 38 (.offA 2 (tm 5)),oo 39 (.load 1 false (tm 38)),oo 40 (.len (tm 39)),oo 41 (.bin .geq (tm 40) (Kc 1000))] []) (.cond (tm 41) (.seq (.region [oo 42 (.load 19 true (tm 5)),o0 (.store 19 (tm 10) (tm 42)),oo 11 (.mov (Kc 2))] []) .ret) .skip)) (.seq (.cut (.region [mv 43 1,mv 44 2,mv 45 3,oo 46 (.load 10 true (tm 9)),oo 47 (.call 35 [(tm 46)]),oo 48 (.build [(Zi 0), (Zi 0), (Zi 0), (Zi 0), (Zi 0), (Zi 0), (Zi 0), (Zi 0)] [(0, 1, (tm 43)), (1, 1, (tm 44)), (2, 1, (tm 45)), (3, 1, (Kc 1)), (4, 4, (tm 47))]),oo 15 (.alloc [(Zi 0), (Zi 0), (Zi 0), (Zi 0), (Zi 0), (Zi 0), (Zi 0), (Zi 0)]),o0 (.store 8 (tm 15) (tm 48))] [])) (.seq (.region [oo 14 (.mov (Kc 0))] []) (.seq (.block 0 (.loop (.seq (.seq (.region [mv 49 14,oo 50 (.offA 2 (tm 5)),oo 51 (.load 1 false (tm 50)),oo 52 (.len (tm 51)),oo 53 (.bin .lss (tm 49) (tm 52)),mv 54 53,oT 55 54 (.offA 2 (tm 5)),oT 56 54 (.load 1 false (tm 55)),mT 57 14 54,oT 58 54 (.idxL 8 (tm 56) (tm 57)),oT 59 54 (.load 8 true (tm 58)),oT 60 54 (.load 8 true (tm 15)),oT 61 54 (.call 36 [(tm 59), (tm 60)]),oo 62 (.pick (tm 54) (tm 61) (.const (.bool false)))] []) (.cond (tm 62) .skip (.exit 0))) (.block 1 (.region [mv 63 14,oo 64 (.bin .add (tm 63) (Kc 1)),mv 14 64] []))))) (.seq (.cut (.region [oo 16 (.mov (.const .nil))] [])) (.seq (.cut (.region [mv 65 16,oo 66 (.offA 2 (tm 5)),oo 67 (.load 1 false (tm 66)),mv 68 14,oo 69 (.slice 8 (tm 67) none (some (tm 68))),oo 70 (.append 28 71 8 64 (tm 65) (tm 69)),mv 16 70] [])) (.seq (.cut (.region [mv 71 16,oo 72 (.load 8 true (tm 15)),oo 73 (.buildF 8 1 [(Zi 0), (Zi 0), (Zi 0), (Zi 0), (Zi 0), (Zi 0), (Zi 0), (Zi 0)] [(0, (tm 72))]),oo 74 (.append 28 71 8 64 (tm 71) (tm 73)),mv 16 74] [])) (.seq (.cut (.region [mv 75 16,oo 76 (.offA 2 (tm 5)),oo 77 (.load 1 false (tm 76)),mv 78 14,oo 79 (.slice 8 (tm 77) (some (tm 78)) none),oo 80 (.append 28 71 8 64 (tm 75) (tm 79)),oo 81 (.offA 2 (tm 5)),o0 (.store 1 (tm 81) (tm 80))] [])) (.seq (.region [oo 82 (.load 19 true (tm 5)),o0 (.store 19 (tm 10) (tm 82)),oo 11 (.mov (Kc 0))] []) .ret))))))))) .skip)) (.seq (.seq (.region [oo 83 (.offA 2 (tm 5)),oo 84 (.load 1 false (tm 83)),mv 85 14,oo 86 (.idxL 8 (tm 84) (tm 85)),oo 87 (.offA 3 (tm 86)),oo 88 (.load 1 false (tm 87)),oo 89 (.bin .geq (tm 88) (Kc 1073741824))] []) (.cond (tm 89) (.seq (.region [oo 90 (.load 19 true (tm 5)),o0 (.store 19 (tm 10) (tm 90)),oo 11 (.mov (Kc 2))] []) .ret) .skip)) (.seq (.cut (.region [oo 91 (.buildF 8 0 [(Zi 0), (Zi 0), (Zi 0), (Zi 0), (Zi 0), (Zi 0), (Zi 0), (Zi 0)] []),oo 92 (.offA 2 (tm 5)),oo 93 (.load 1 false (tm 92)),oo 94 (.appV 8 64 (tm 91) (tm 93)),oo 95 (.offA 2 (tm 5)),o0 (.store 1 (tm 95) (tm 94))] [])) (.seq (.cut (.region [oo 96 (.offA 2 (tm 5)),oo 97 (.load 1 false (tm 96)),mv 98 14,oo 99 (.offA 2 (tm 5)),oo 100 (.load 1 false (tm 99)),mv 101 14,oo 102 (.idxL 8 (tm 100) (tm 101)),oo 103 (.offA 3 (tm 102)),oo 104 (.load 1 false (tm 103)),oo 105 (.bin .add (tm 104) (Kc 1)),oo 106 (.idxL 8 (tm 97) (tm 98)),oo 107 (.offA 3 (tm 106)),o0 (.store 1 (tm 107) (tm 105))] [])) (.seq (.cut (.region [oo 108 (.offA 2 (tm 5)),oo 109 (.load 1 false (tm 108)),mv 110 14,oo 111 (.offA 2 (tm 5)),oo 112 (.load 1 false (tm 111)),mv 113 14,oo 114 (.idxL 8 (tm 112) (tm 113)),oo 115 (.offA 4 (tm 114)),oo 116 (.load 4 true (tm 115)),oo 117 (.load 10 true (tm 9)),oo 118 (.call 35 [(tm 117)]),oo 119 (.call 37 [(tm 116), (tm 118)]),oo 120 (.idxL 8 (tm 109) (tm 110)),oo 121 (.offA 4 (tm 120)),o0 (.store 4 (tm 121) (tm 119))] [])) (.seq (.region [oo 122 (.load 19 true (tm 5)),o0 (.store 19 (tm 10) (tm 122)),oo 11 (.mov (Kc 0))] []) .ret)))))))))))
theorem l8 : (Tryz.f8.body.bind (lowC Tryz.prog 123 [8000091, 9000091, 6000000, 6000002, 6000005, 6000009, 6000013, 6000014, 6000015, 6000016, 6000020, 6000021, 6000022, 8000073])) = some c8 := by kernel_rfl
noncomputable def c11 : DCode := (.seq (.region [oo 1 (.box 19 (tm 0)),oo 2 (.alloc [(Zi 0), (Zi 0), .nil, (Ui 0), (Ui 0), (Ui 0), (Ui 0), (Ui 0), (Ui 0), (Ui 0), (Ui 0), (Ui 0), (Ui 0), (Ui 0), (Ui 0), (Ui 0), (Ui 0), (Ui 0), (Ui 0)]),oo 3 (.alloc [(Zi 0), (Zi 0), .nil, (Ui 0), (Ui 0), (Ui 0), (Ui 0), (Ui 0), (Ui 0), (Ui 0), (Ui 0), (Ui 0), (Ui 0), (Ui 0), (Ui 0), (Ui 0), (Ui 0), (Ui 0), (Ui 0)]),oo 4 (.mov (Kc 0))] []) (.seq (.seq (.region [oo 6 (.offA 1 (tm 1)),oo 7 (.load 1 false (tm 6)),oo 8 (.bin .gtr (tm 7) (Kc 1048576))] []) (.cond (tm 8) (.seq (.region [oo 9 (.load 19 true (tm 1)),oo 10 (.build [(Zi 0), (Zi 0), .nil, (Ui 0), (Ui 0), (Ui 0), (Ui 0), (Ui 0), (Ui 0), (Ui 0), (Ui 0), (Ui 0), (Ui 0), (Ui 0), (Ui 0), (Ui 0), (Ui 0), (Ui 0), (Ui 0)] []),o0 (.store 19 (tm 2) (tm 9)),o0 (.store 19 (tm 3) (tm 10)),oo 4 (.mov (Kc 2))] []) .ret) .skip)) (.seq (.region [oo 11 (.offA 0 (tm 1)),oo 12 (.load 1 false (tm 11)),oo 13 (.offA 1 (tm 1)),oo 14 (.load 1 false (tm 13)),oo 15 (.offA 2 (tm 1)),oo 16 (.load 1 false (tm 15)),oo 17 (.offA 3 (tm 1)),oo 18 (.load 16 true (tm 17)),oo 19 (.build [(Zi 0), (Zi 0), .nil, (Ui 0), (Ui 0), (Ui 0), (Ui 0), (Ui 0), (Ui 0), (Ui 0), (Ui 0), (Ui 0), (Ui 0), (Ui 0), (Ui 0), (Ui 0), (Ui 0), (Ui 0), (Ui 0)] [(0, 1, (tm 12)), (1, 1, (tm 14)), (2, 1, (tm 16)), (3, 16, (tm 18))]),oo 5 (.alloc [(Zi 0), (Zi 0), .nil, (Ui 0), (Ui 0), (Ui 0), (Ui 0), (Ui 0), (Ui 0), (Ui 0), (Ui 0), (Ui 0), (Ui 0), (Ui 0), (Ui 0), (Ui 0), (Ui 0), (Ui 0), (Ui 0)]),o0 (.store 19 (tm 5) (tm 19))] []) (.seq (.region [oo 20 (.offA 0 (tm 1)),oo 21 (.load 1 false (tm 20)),oo 22 (.offA 1 (tm 1)),oo 23 (.load 1 false (tm 22)),oo 24 (.bin .add (tm 23) (Kc 1)),oo 25 (.load 19 true (tm 5)),oo 26 (.call 44 [(tm 25)]),oo 27 (.build [(Zi 0), (Zi 0), .nil, (Ui 0), (Ui 0), (Ui 0), (Ui 0), (Ui 0), (Ui 0), (Ui 0), (Ui 0), (Ui 0), (Ui 0), (Ui 0), (Ui 0), (Ui 0), (Ui 0), (Ui 0), (Ui 0)] [(0, 1, (tm 21)), (1, 1, (tm 24)), (3, 16, (tm 26))]),oo 28 (.load 19 true (tm 5)),o0 (.store 19 (tm 2) (tm 27)),o0 (.store 19 (tm 3) (tm 28)),oo 4 (.mov (Kc 0))] [[], [], [], [], [], [], [], [], [], [8], [], []]) .ret))))
theorem l11 : (Tryz.f11.body.bind (lowC Tryz.prog 29 [])) = some c11 := by kernel_rfl
noncomputable def c3 : DCode := (.seq (.region [oo 4 (.mov (.const (.bool false)))] []) (.seq (.seq (.region [mv 21 1,oo 22 (.len (tm 21)),oo 23 (.bin .gtr (tm 22) (Kc 60))] []) (.cond (tm 23) (.seq (.region [oo 24 (.call 6 []),mv 4 24] []) .ret) .skip)) (.seq (.cut (.region [mv 26 0,oo 27 (.inl 7 [(tm 26)]),mv 25 27,oo 28 (.ext (tm 25) 0),oo 29 (.ext (tm 25) 1),mv 5 28,mv 6 29] [])) (.seq (.seq (.region [mv 30 0,oo 31 (.bin .lss (tm 30) (Kc 0)),mv 32 31,mF 33 0 32,oF 34 32 (.bin .geq (tm 33) (Kc 200)),oo 35 (.pick (tm 32) (.const (.bool true)) (tm 34))] []) (.cond (tm 35) (.seq (.region [oo 36 (.call 6 []),mv 37 36,mT 38 5 37,oT 39 37 (.isnil 0 false (tm 38)),oo 40 (.pick (tm 37) (tm 39) (.const (.bool false))),mv 41 40,mT 42 6 41,oT 43 41 (.bin .eql (tm 42) (Kc 1)),oo 44 (.pick (tm 41) (tm 43) (.const (.bool false))),mv 4 44] []) .ret) .skip)) (.seq (.seq (.region [mv 45 5,oo 46 (.isnil 0 false (tm 45)),mv 47 46,mF 48 6 47,oF 49 47 (.bin .neq (tm 48) (Kc 0)),oo 50 (.pick (tm 47) (.const (.bool true)) (tm 49))] []) (.cond (tm 50) (.seq (.region [oo 4 (.mov (.const (.bool false)))] []) .ret) .skip)) (.seq (.cut (.region [mv 51 0,oo 52 (.build [(Zi 0), (Zi 0), .nil, (Ui 0), (Ui 0), (Ui 0), (Ui 0), (Ui 0), (Ui 0), (Ui 0), (Ui 0), (Ui 0), (Ui 0), (Ui 0), (Ui 0), (Ui 0), (Ui 0), (Ui 0), (Ui 0)] [(0, 1, (tm 51))]),oo 7 (.alloc [(Zi 0), (Zi 0), .nil, (Ui 0), (Ui 0), (Ui 0), (Ui 0), (Ui 0), (Ui 0), (Ui 0), (Ui 0), (Ui 0), (Ui 0), (Ui 0), (Ui 0), (Ui 0), (Ui 0), (Ui 0), (Ui 0)]),o0 (.store 19 (tm 7) (tm 52))] [])) (.seq (.region [oo 8 (.mov (.const .nil))] []) (.seq (.seq (.region [mv 53 1,oo 54 (.len (tm 53)),oo 55 (.mov (Kc 0))] []) (.block 0 (.loop (.seq (.region [oo 56 (.bin .lss (tm 55) (tm 54))] []) (.seq (.cond (tm 56) .skip (.exit 0)) (.seq (.block 1 (.seq (.cut (.region [oo 57 (.idxL 14 (tm 53) (tm 55)),oo 58 (.load 14 true (tm 57)),oo 10 (.alloc [(.bool false), (Zi 0), (Zi 0), (Zi 0), (Zi 0), (Zi 0), (Zi 0), (Zi 0), (Zi 0), (Zi 0), (Zi 0), (Zi 0), (Zi 0), (Zi 0)]),o0 (.store 14 (tm 10) (tm 58))] [])) (.seq (.seq (.region [oo 59 (.offA 0 (tm 10)),oo 60 (.load 1 false (tm 59)),oo 61 (.not (tm 60))] []) (.cond (tm 61) (.seq (.cut (.region [oo 63 (.load 19 true (tm 7)),oo 64 (.offA 1 (tm 10)),oo 65 (.load 1 false (tm 64)),oo 66 (.offA 2 (tm 10)),oo 67 (.load 1 false (tm 66)),oo 68 (.offA 3 (tm 10)),oo 69 (.load 1 false (tm 68)),oo 70 (.offA 4 (tm 10)),oo 71 (.load 10 true (tm 70)),oo 72 (.call 8 [(tm 63), (tm 65), (tm 67), (tm 69), (tm 71)]),mv 62 72,oo 73 (.ext (tm 62) 0),oo 74 (.ext (tm 62) 1),oo 11 (.alloc [(Zi 0), (Zi 0), .nil, (Ui 0), (Ui 0), (Ui 0), (Ui 0), (Ui 0), (Ui 0), (Ui 0), (Ui 0), (Ui 0), (Ui 0), (Ui 0), (Ui 0), (Ui 0), (Ui 0), (Ui 0), (Ui 0)]),o0 (.store 19 (tm 11) (tm 73)),mv 12 74] [])) (.seq (.cut (.region [oo 75 (.load 19 true (tm 11)),o0 (.store 19 (tm 7) (tm 75))] [])) (.seq (.seq (.cut (.region [mv 76 5,oo 77 (.offA 1 (tm 10)),oo 78 (.load 1 false (tm 77)),oo 79 (.offA 2 (tm 10)),oo 80 (.load 1 false (tm 79)),oo 81 (.offA 3 (tm 10)),oo 82 (.load 1 false (tm 81)),oo 83 (.offA 4 (tm 10)),oo 84 (.load 10 true (tm 83)),oo 85 (.inl 9 [(tm 76), (tm 78), (tm 80), (tm 82), (tm 84)]),mv 86 12,oo 87 (.bin .neq (tm 85) (tm 86))] [])) (.cond (tm 87) (.seq (.region [oo 4 (.mov (.const (.bool false)))] []) .ret) .skip)) (.exit 1)))) .skip)) (.seq (.cut (.region [mv 89 5,oo 90 (.inl 10 [(tm 89)]),mv 88 90,oo 91 (.ext (tm 88) 0),oo 92 (.ext (tm 88) 1),oo 13 (.alloc [(Zi 0), (Zi 0), .nil, (Ui 0), (Ui 0), (Ui 0), (Ui 0), (Ui 0), (Ui 0), (Ui 0), (Ui 0), (Ui 0), (Ui 0), (Ui 0), (Ui 0), (Ui 0), (Ui 0), (Ui 0), (Ui 0)]),o0 (.store 19 (tm 13) (tm 91)),mv 14 92] [])) (.seq (.cut (.region [oo 94 (.load 19 true (tm 7)),oo 95 (.call 11 [(tm 94)]),mv 93 95,oo 96 (.ext (tm 93) 0),oo 97 (.ext (tm 93) 1),oo 98 (.ext (tm 93) 2),oo 15 (.alloc [(Zi 0), (Zi 0), .nil, (Ui 0), (Ui 0), (Ui 0), (Ui 0), (Ui 0), (Ui 0), (Ui 0), (Ui 0), (Ui 0), (Ui 0), (Ui 0), (Ui 0), (Ui 0), (Ui 0), (Ui 0), (Ui 0)]),oo 16 (.alloc [(Zi 0), (Zi 0), .nil, (Ui 0), (Ui 0), (Ui 0), (Ui 0), (Ui 0), (Ui 0), (Ui 0), (Ui 0), (Ui 0), (Ui 0), (Ui 0), (Ui 0), (Ui 0), (Ui 0), (Ui 0), (Ui 0)]),o0 (.store 19 (tm 15) (tm 96)),o0 (.store 19 (tm 16) (tm 97)),mv 17 98] [])) (.seq (.cut (.region [oo 99 (.load 19 true (tm 15)),o0 (.store 19 (tm 7) (tm 99))] [])) (.seq (.cut (.seq (.region [oo 100 (.load 19 true (tm 13)),oo 101 (.load 19 true (tm 16)),oo 102 (.call 12 [(tm 100), (tm 101)]),oo 103 (.not (tm 102)),mv 104 103,mF 105 14 104,mF 106 17 104,oF 107 104 (.bin .neq (tm 105) (tm 106)),oo 108 (.pick (tm 104) (.const (.bool true)) (tm 107)),mv 109 108,oF 110 109 (.load 19 true (tm 13)),oF 111 109 (.call 13 [(tm 110)]),oF 112 109 (.bin .neq (tm 111) (Kc 0)),oo 113 (.pick (tm 109) (.const (.bool true)) (tm 112))] []) (.cond (tm 113) (.seq (.region [oo 4 (.mov (.const (.bool false)))] []) .ret) .skip))) (.cut (.region [mv 114 8,oo 115 (.load 19 true (tm 13)),oo 116 (.buildF 19 1 [(Zi 0), (Zi 0), .nil, (Ui 0), (Ui 0), (Ui 0), (Ui 0), (Ui 0), (Ui 0), (Ui 0), (Ui 0), (Ui 0), (Ui 0), (Ui 0), (Ui 0), (Ui 0), (Ui 0), (Ui 0), (Ui 0)] [(0, (tm 115))]),oo 117 (.append 33 41 19 56 (tm 114) (tm 116)),mv 8 117] []))))))))) (.region [oo 118 (.bin .add (tm 55) (Kc 1)),mv 55 118] []))))))) (.seq (.cut (.region [mv 120 0,mv 121 8,oo 122 (.call 14 [(tm 120), (tm 121)]),mv 119 122,oo 123 (.ext (tm 119) 0),oo 124 (.ext (tm 119) 1),mv 18 123,mv 19 124] [])) (.seq (.cut (.region [mv 125 8,oo 126 (.buildS 33 1 1 [.nil] [(0, (tm 125))]),oo 127 (.call 15 [(tm 126)]),oo 20 (.alloc [.nil, .nil, .nil, .nil]),o0 (.store 4 (tm 20) (tm 127))] [])) (.seq (.region [oo 128 (.call 6 []),mv 129 128,mT 130 18 129,mT 131 8 129,oT 132 129 (.len (tm 131)),oT 133 129 (.bin .eql (tm 130) (tm 132)),oo 134 (.pick (tm 129) (tm 133) (.const (.bool false))),mv 135 134,mT 136 19 135,oT 137 135 (.bin .eql (tm 136) (Kc 0)),oo 138 (.pick (tm 135) (tm 137) (.const (.bool false))),mv 139 138,oT 140 139 (.offA 0 (tm 20)),oT 141 139 (.load 1 false (tm 140)),mT 142 8 139,oT 143 139 (.call 16 [(tm 141), (tm 142)]),oo 144 (.pick (tm 139) (tm 143) (.const (.bool false))),mv 145 144,oT 146 145 (.offA 1 (tm 20)),oT 147 145 (.load 1 false (tm 146)),oT 148 145 (.len (tm 147)),oT 149 145 (.offA 2 (tm 20)),oT 150 145 (.load 1 false (tm 149)),oT 151 145 (.len (tm 150)),oT 152 145 (.bin .add (tm 148) (tm 151)),oT 153 145 (.offA 3 (tm 20)),oT 154 145 (.load 1 false (tm 153)),oT 155 145 (.len (tm 154)),oT 156 145 (.bin .add (tm 152) (tm 155)),oT 157 145 (.bin .eql (tm 156) (Kc 0)),oo 158 (.pick (tm 145) (tm 157) (.const (.bool false))),mv 4 158] []) .ret)))))))))))
theorem l3 : (Tryz.f3.body.bind (lowC Tryz.prog 159 [7, 9, 10, 6000003, 6000008, 6000012, 6000014, 6000015, 6000016, 6000018, 6000019, 6000020, 6000023, 6000025, 6000026, 5000021, 8000116])) = some c3 := by kernel_rfl
end Go.RC
end
section
namespace Go.RC
open Go Go.DL Go.Proofs
set_option maxRecDepth 100000
set_option maxHeartbeats 10000000
theorem leViewL {ks : List Nat} {bx : Nat → Option BX} {a b s n m : Nat} (h : n = m) : LeV ks bx (.view a b n s) (.view a b m s) := by rw [h]; exact .same _
theorem leBdL {ks : List Nat} {bx : Nat → Option BX} {n m : Nat} {ts us : List T} (h : n = m) (k : ts = us) : LeB ks bx (.d n ts) (some (.d m us)) := by rw [h, k]; exact .same _
theorem conv_viewL {bx : Nat → Option BX} {b off len size m : Nat} {ts : List T} (h : bx b = some (.d m ts)) (hs : 0 < size) (hm : off + len * size ≤ m) : conv bx (.view b off len size) = some (.slice size (chunk size len (ts.drop off)), [b]) := by
  show (match bx b with
    | some (.d m ts) => cond (Nat.blt 0 size && Nat.ble (off + len * size) m) (some (T.slice size (chunk size len (ts.drop off)), [b])) none
    | _ => none) = _
  rw [h]
  have h1 : Nat.blt 0 size = true := Nat.ble_eq_true_of_le hs
  have h2 : Nat.ble (off + len * size) m = true := Nat.ble_eq_true_of_le hm
  simp only [h1, h2, Bool.and_self, cond_true]
theorem leDat {ks : List Nat} {bx : Nat → Option BX} {r : Nat} {e : TypeId} {n : Nat} {xs ys : List T} (h : ys = xs) : LeV ks bx (.t (.slice n ys)) (.own r e n xs) := by rw [h]; exact LeV.data _ _ _ _
abbrev flL (ls : List (List Int)) : List T := (ls.map ln).flatMap T.cells
theorem flL_len : ∀ {ls : List (List Int)}, (∀ x ∈ ls, x.length = 8) → (flL ls).length = ls.length * 8
  | [], _ => rfl
  | x :: ls, h => by
    show (x.map I ++ flL ls).length = _
    rw [List.length_append, List.length_map, h x (by simp), flL_len fun y hy => h y (by simp [hy]), List.length_cons]; omega
theorem chunk_ln : ∀ (ls : List (List Int)), (∀ x ∈ ls, x.length = 8) → chunk 8 ls.length (flL ls) = ls.map ln
  | [], _ => rfl
  | x :: ls, h => by
    have h0 : (x.map I).length = 8 := by rw [List.length_map]; exact h x (by simp)
    show chunk 8 (ls.length + 1) (x.map I ++ flL ls) = ln x :: ls.map ln
    rw [chunk, List.take_left' h0, List.drop_left' h0, chunk_ln ls fun y hy => h y (by simp [hy])]
    rfl
theorem drop_fl {x : List Int} {ls : List (List Int)} (h : x.length = 8) (k o : Nat) : (flL (x :: ls)).drop ((k + 1) * 8 + o) = (flL ls).drop (k * 8 + o) := by
  show (x.map I ++ flL ls).drop _ = _
  have e : (k + 1) * 8 + o = (x.map I).length + (k * 8 + o) := by rw [List.length_map, h]; omega
  rw [e, List.drop_length_add_append]
theorem at_fl {a b c d e f g i : Int} : ∀ {ls : List (List Int)} {k : Nat}, (∀ x ∈ ls, x.length = 8) → ls[k]? = some [a, b, c, d, e, f, g, i] → ∀ o, o ≤ 8 → ((flL ls).drop (k * 8 + o)).take (8 - o) = ([a, b, c, d, e, f, g, i].map I).drop o
  | [], k, _, h => by simp at h
  | x :: ls, 0, _, h => fun o ho => by
    cases h
    show ((([a, b, c, d, e, f, g, i] : List Int).map I ++ flL ls).drop (0 * 8 + o)).take (8 - o) = _
    rw [Nat.zero_mul, Nat.zero_add, List.drop_append_of_le_length (by simpa using ho)]
    exact List.take_left' (by simp)
  | x :: ls, k + 1, h8, h => fun o ho => by
    rw [drop_fl (h8 x (by simp))]
    exact at_fl (fun y hy => h8 y (by simp [hy])) (by simpa using h) o ho
theorem put_fl {a b c d e f g i : Int} {o n : Nat} {cs : List T} {y : List Int} (hy : ∀ r : List T, putL ([I a, I b, I c, I d, I e, I f, I g, I i] ++ r) o n cs = y.map I ++ r) :
    ∀ {ls : List (List Int)} {k : Nat}, (∀ x ∈ ls, x.length = 8) → ls[k]? = some [a, b, c, d, e, f, g, i] → putL (flL ls) (k * 8 + o) n cs = flL (ls.set k y)
  | [], k, _, h => by simp at h
  | x :: ls, 0, _, h => by
    cases h
    show putL (([a, b, c, d, e, f, g, i] : List Int).map I ++ flL ls) (0 * 8 + o) n cs = y.map I ++ flL ls
    rw [Nat.zero_mul, Nat.zero_add]
    exact hy _
  | x :: ls, k + 1, h8, h => by
    have ih := put_fl hy (ls := ls) (k := k) (fun z hz => h8 z (by simp [hz])) (by simpa using h)
    have h0 : (x.map I).length = 8 := by rw [List.length_map]; exact h8 x (by simp)
    show putL (x.map I ++ flL ls) ((k + 1) * 8 + o) n cs = x.map I ++ flL (ls.set k y)
    rw [← ih]
    unfold putL
    have e1 : (k + 1) * 8 + o = (x.map I).length + (k * 8 + o) := by rw [h0]; omega
    rw [e1, List.take_length_add_append, Nat.add_assoc, List.drop_length_add_append, List.append_assoc]
theorem posL_drop {ls : List (List Int)} {x : List Int} {k : Nat} (h : k < ls.length) : posL (ls.drop k) x = if cmpN (nmOf ls[k]) (nmOf x) < 0 then posL (ls.drop (k + 1)) x + 1 else 0 := by
  rw [List.drop_eq_getElem_cons h]; rfl
theorem posL_le : ∀ (ls : List (List Int)) (x : List Int), posL ls x ≤ ls.length
  | [], _ => Nat.le_refl _
  | y :: l, x => by
    have := posL_le l x
    unfold posL
    rw [List.length_cons]
    split <;> omega
theorem insL_len (ls : List (List Int)) (x : List Int) : (insL ls x).length = ls.length + 1 := by
  have := posL_le ls x
  unfold insL
  rw [List.length_append, List.length_cons, List.length_take, List.length_drop]; omega
def okLs (ls : List (List Int)) : Prop := ∀ x ∈ ls, x.length = 8 ∧ 0 ≤ x.getD 3 0 ∧ x.getD 3 0 ≤ 1073741824 ∧ isS (x.drop 4)
theorem okLs8 {ls : List (List Int)} (h : okLs ls) : ∀ x ∈ ls, x.length = 8 := fun x hx => (h x hx).1
theorem t_refNote (n i : Int) (ls : List (List Int)) (pv : List Int) (s p f : Int) (h : List Int) (hl : ls.length < 2 ^ 20) (ho : okLs ls) (hp : pv.length = 16) (hh : h.length = 10) :
    DCalls Tryz.prog 8 [rcT n i ls pv, I s, I p, I f, hd h] (.tup [rcT n i (noteL s p f h ls).2 pv, I (noteL s p f h ls).1]) := by
  obtain ⟨p0, p1, p2, p3, p4, p5, p6, p7, p8, p9, p10, p11, p12, p13, p14, p15, rfl⟩ := ex16 hp
  obtain ⟨e, ls2, hr⟩ : ∃ e ls2, noteL s p f h ls = (e, ls2) := ⟨_, _, rfl⟩
  rw [hr]
  refine dcalls_low (rs := [.cell 10 32, .tmp 11]) mixed Tryz.func8 l8 rfl rfl rfl (r := [.agg _, .int .i64 e]) (Nat.le_of_ble_eq_true rfl) ?_
  have h8 := okLs8 ho
  have hk := t_key s p f
  have hR := t_RightHead h hh
  have hA := t_at ls s p f (by omega) h8
  refine wpC_cut (β := Unit) (fun _ => {sl := [(1, .t (I s)), (2, .t (I p)), (3, .t (I f)), (5, .ptr 5 0), (10, .ptr 10 0), (9, .ptr 9 0)], bx := [(5, .d 19 (rcC n i ls [p0, p1, p2, p3, p4, p5, p6, p7, p8, p9, p10, p11, p12, p13, p14, p15])), (10, .d 19 z19), (9, .d 10 (h.map I))]}) (fun _ => True) ?_ fun _ _ => ?_
  · repeat' ((conv => whnf); first | (refine And.intro (by first | (exact (List.length_map _).trans hh; done) | fail) ?_) | refine aS ?_ | fail)
    exact ⟨(), trivial, by repeat' (first | exact trivial | exact LeV.same _ | exact LeB.same _ | exact rfl | exact fun _ _ _ => trivial | refine And.intro ?_ ?_)⟩
  repeat' ((conv => whnf); first | refine k_call _ (hk) ?_ | fail)
  refine wpC_cut (β := Unit) (fun _ => {sl := [(1, .t (I s)), (2, .t (I p)), (3, .t (I f)), (5, .ptr 5 0), (10, .ptr 10 0), (9, .ptr 9 0), (12, .t (.bool (rightN s p f))), (13, .t (.bool (rightH h)))], bx := [(5, .d 19 (rcC n i ls [p0, p1, p2, p3, p4, p5, p6, p7, p8, p9, p10, p11, p12, p13, p14, p15])), (10, .d 19 z19), (9, .d 10 (h.map I))]}) (fun _ => True) ?_ fun _ _ => ?_
  · repeat' ((conv => whnf); first | refine k_call _ (hR) ?_ | fail)
    exact ⟨(), trivial, by repeat' (first | exact trivial | exact LeV.same _ | exact LeB.same _ | exact rfl | exact fun _ _ _ => trivial | refine And.intro ?_ ?_)⟩
  unfold noteL at hr
  cases c1 : rightN s p f with
  | false =>
    rw [c1, if_neg (show ¬ (false && rightH h) = true by simp)] at hr
    obtain ⟨rfl, rfl⟩ := Prod.mk.inj hr
    repeat' ((conv => whnf); first | exact trivial | refine rix ?_ | refine aS ?_ | fail)
  | true =>
    cases c2 : rightH h with
    | false =>
      rw [c1, c2, if_neg (show ¬ (true && false) = true by simp)] at hr
      obtain ⟨rfl, rfl⟩ := Prod.mk.inj hr
      repeat' ((conv => whnf); first | exact trivial | refine rix ?_ | refine aS ?_ | fail)
    | true =>
      rw [c1, c2, if_pos (show (true && true) = true from rfl)] at hr
      have hok := (rightH_ok hh).1 c2
      have hO := t_refOfH h hok
      have hS := ofH_isS h
      generalize ofH h = oh at hO hS hr
      obtain ⟨o0, o1, o2, o3, rfl⟩ := four hS.1
      skip
      refine wpC_cut (β := Unit) (fun _ => {sl := [(1, .t (I s)), (2, .t (I p)), (3, .t (I f)), (5, .ptr 5 0), (10, .ptr 10 0), (9, .ptr 9 0), (14, .t (I (ixP (isN s p f) ls 0)))], bx := [(5, .d 19 (rcC n i ls [p0, p1, p2, p3, p4, p5, p6, p7, p8, p9, p10, p11, p12, p13, p14, p15])), (10, .d 19 z19), (9, .d 10 (h.map I))]}) (fun _ => True) ?_ fun _ _ => ?_
      · repeat' ((conv => whnf); first | refine k_call _ (hA) ?_ | refine nT_ ?_ | refine aS ?_ | fail)
        exact ⟨(), trivial, by repeat' (first | exact trivial | exact LeV.same _ | exact LeB.same _ | exact rfl | exact fun _ _ _ => trivial | refine And.intro ?_ ?_)⟩
      rcases ixP_find (isN s p f) ls 0 (Int.le_refl 0) with ⟨h1, h2⟩ | ⟨k, x, h1, h2, h3, h4⟩
      · rw [h1, if_pos (by decide)] at hr
        rw [h1]
        by_cases c3 : ls.length ≥ 1000
        · rw [if_pos c3] at hr
          obtain ⟨rfl, rfl⟩ := Prod.mk.inj hr
          repeat' ((conv => whnf); first | exact trivial | (refine now_D1 (by simp; omega) ?_) | refine nT_ ?_ | refine aD1 ?_ | refine rix ?_ | refine aS ?_ | fail)
        rw [if_neg c3] at hr
        obtain ⟨rfl, hls⟩ := Prod.mk.inj hr
        replace hls : insL ls [s, p, f, 1, o0, o1, o2, o3] = ls2 := hls
        repeat' ((conv => whnf); first | (refine now_D0 (by simp; omega) ?_) | refine nT_ ?_ | refine aD1 ?_ | refine aS ?_ | fail)
        refine wpC_cut (β := Unit) (fun _ => {sl := [(1, .t (I s)), (2, .t (I p)), (3, .t (I f)), (5, .ptr 5 0), (10, .ptr 10 0), (15, .ptr 15 0)], bx := [(5, .d 19 (rcC n i ls [p0, p1, p2, p3, p4, p5, p6, p7, p8, p9, p10, p11, p12, p13, p14, p15])), (10, .d 19 z19), (15, .d 8 (([s, p, f, 1, o0, o1, o2, o3] : List Int).map I))]}) (fun _ => True) ?_ fun _ _ => ?_
        · repeat' ((conv => whnf); first | refine k_call _ (hO) ?_ | refine aS ?_ | fail)
          exact ⟨(), trivial, by repeat' (first | exact trivial | exact LeV.same _ | exact LeB.same _ | exact rfl | exact fun _ _ _ => trivial | refine And.intro ?_ ?_)⟩
        skip
        refine wpC_loopE 0 (α := Nat) (β := Unit) (fun k => {sl := [(1, .t (I s)), (2, .t (I p)), (3, .t (I f)), (5, .ptr 5 0), (10, .ptr 10 0), (15, .ptr 15 0), (14, .t (I k))], bx := [(5, .d 19 (rcC n i ls [p0, p1, p2, p3, p4, p5, p6, p7, p8, p9, p10, p11, p12, p13, p14, p15])), (10, .d 19 z19), (15, .d 8 (([s, p, f, 1, o0, o1, o2, o3] : List Int).map I))]})
          (fun k => k ≤ ls.length ∧ k + posL (ls.drop k) [s, p, f, 1, o0, o1, o2, o3] = posL ls [s, p, f, 1, o0, o1, o2, o3]) (fun k => ls.length - k)
          (fun _ => {sl := [(1, .t (I s)), (2, .t (I p)), (3, .t (I f)), (5, .ptr 5 0), (10, .ptr 10 0), (15, .ptr 15 0), (14, .t (I (posL ls [s, p, f, 1, o0, o1, o2, o3])))], bx := [(5, .d 19 (rcC n i ls [p0, p1, p2, p3, p4, p5, p6, p7, p8, p9, p10, p11, p12, p13, p14, p15])), (10, .d 19 z19), (15, .d 8 (([s, p, f, 1, o0, o1, o2, o3] : List Int).map I))]}) (fun _ => True) 0 ⟨by omega, by rw [Nat.zero_add]; rfl⟩ ?_ ?_ ?_
        · repeat' (first | exact trivial | exact LeV.same _ | exact LeB.same _ | exact rfl | exact fun _ _ _ => trivial | refine And.intro ?_ ?_)
        · rintro k ⟨hk1, hk2⟩
          rcases Nat.lt_or_ge k ls.length with h3 | h3
          · rw [posL_drop h3] at hk2
            have hx8 := h8 ls[k] (List.getElem_mem h3)
            have hB := t_before ls[k] [s, p, f, 1, o0, o1, o2, o3] hx8 rfl
            generalize hxe : ls[k] = y at hB hx8 hk2
            by_cases c4 : cmpN (nmOf y) (nmOf [s, p, f, 1, o0, o1, o2, o3]) < 0
            · rw [if_pos c4] at hk2
              rw [decide_eq_true c4] at hB
              repeat' ((conv => whnf); first | (refine now_D1 (by simp; omega) ?_) | (refine nv_ (ln y) (by first | (exact aggLn (by simp [h3, hxe]; done); done) | fail) ?_) | refine k_call _ (hB) ?_ | refine nT_ ?_ | (refine And.intro (by first | ((simp; omega); done) | (exact cells8 h8 (by simp only [Int.toNat_natCast]; omega); done) | fail) ?_) | refine aS ?_ | fail)
              exact ⟨k + 1, ⟨by omega, by omega⟩, by omega, by repeat' (first | exact trivial | exact LeV.same _ | exact LeB.same _ | exact rfl | exact fun _ _ _ => trivial | exact lI | refine And.intro ?_ ?_)⟩
            · rw [if_neg c4] at hk2
              rw [decide_eq_false c4] at hB
              repeat' ((conv => whnf); first | (refine now_D1 (by simp; omega) ?_) | (refine nv_ (ln y) (by first | (exact aggLn (by simp [h3, hxe]; done); done) | fail) ?_) | refine k_call _ (hB) ?_ | refine nT_ ?_ | (refine And.intro (by first | ((simp; omega); done) | (exact cells8 h8 (by simp only [Int.toNat_natCast]; omega); done) | fail) ?_) | refine aS ?_ | fail)
              exact ⟨(), trivial, by repeat' (first | ((refine leI ?_; omega)) | exact trivial | exact LeV.same _ | exact LeB.same _ | exact rfl | exact fun _ _ _ => trivial | refine And.intro ?_ ?_)⟩
          · have : k = ls.length := by omega
            subst this
            rw [List.drop_length] at hk2
            have hk3 : ls.length = posL ls [s, p, f, 1, o0, o1, o2, o3] := hk2
            repeat' ((conv => whnf); first | refine now_D0 (by simp) ?_ | refine nT_ ?_ | refine aS ?_ | fail)
            exact ⟨(), trivial, by repeat' (first | ((refine leI ?_; omega)) | exact trivial | exact LeV.same _ | exact LeB.same _ | exact rfl | exact fun _ _ _ => trivial | refine And.intro ?_ ?_)⟩
        rintro - -
        have hps := posL_le ls [s, p, f, 1, o0, o1, o2, o3]
        have hil : ls2 = ls.take (posL ls [s, p, f, 1, o0, o1, o2, o3]) ++ [s, p, f, 1, o0, o1, o2, o3] :: ls.drop (posL ls [s, p, f, 1, o0, o1, o2, o3]) := by rw [← hls]; rfl
        have hil2 := insL_len ls [s, p, f, 1, o0, o1, o2, o3]
        rw [hls] at hil2
        generalize posL ls [s, p, f, 1, o0, o1, o2, o3] = k at *
        have e1 : (ls.map ln).take k = (ls.take k).map ln := List.map_take.symm
        have e2 : (ls.map ln).drop k = (ls.drop k).map ln := List.map_drop.symm
        have e3 : (ls.take k ++ [[s, p, f, 1, o0, o1, o2, o3]]).map ln ++ ((ls.map ln).take (ls.map ln).length).drop k = ls2.map ln := by rw [List.take_length, e2, ← List.map_append, hil, List.append_assoc]; rfl
        have e4 : (ls.take k).map ln ++ [T.agg (([s, p, f, 1, o0, o1, o2, o3] : List Int).map I)] = (ls.take k ++ [[s, p, f, 1, o0, o1, o2, o3]]).map ln := by rw [List.map_append]; rfl
        clear hls hil hr hA hO hk hR
        refine wpC_cut (β := Unit) (fun _ => {sl := [(1, .t (I s)), (2, .t (I p)), (3, .t (I f)), (5, .ptr 5 0), (10, .ptr 10 0), (15, .ptr 15 0), (14, .t (I k)), (16, .t .nil)], bx := [(5, .d 19 (rcC n i ls [p0, p1, p2, p3, p4, p5, p6, p7, p8, p9, p10, p11, p12, p13, p14, p15])), (10, .d 19 z19), (15, .d 8 (([s, p, f, 1, o0, o1, o2, o3] : List Int).map I))]}) (fun _ => True) ?_ fun _ _ => ?_
        · skip
          exact ⟨(), trivial, by repeat' (first | exact trivial | exact LeV.same _ | exact LeB.same _ | exact rfl | exact fun _ _ _ => trivial | refine And.intro ?_ ?_)⟩
        refine wpC_cut (β := Unit) (fun _ => {sl := [(1, .t (I s)), (2, .t (I p)), (3, .t (I f)), (5, .ptr 5 0), (10, .ptr 10 0), (15, .ptr 15 0), (14, .t (I k)), (16, .own 70 71 8 ((ls.take k).map ln))], bx := [(5, .d 19 (rcC n i ls [p0, p1, p2, p3, p4, p5, p6, p7, p8, p9, p10, p11, p12, p13, p14, p15])), (10, .d 19 z19), (15, .d 8 (([s, p, f, 1, o0, o1, o2, o3] : List Int).map I))]}) (fun _ => True) ?_ fun _ _ => ?_
        · repeat' ((conv => whnf); first | refine nT_ ?_ | (refine And.intro (by first | ((simp; omega); done) | fail) ?_) | refine aS ?_ | fail)
          exact ⟨(), trivial, by repeat' (first | ((refine leOwn ?_; exact e1.symm)) | exact trivial | exact LeV.same _ | exact LeB.same _ | exact rfl | exact fun _ _ _ => trivial | refine And.intro ?_ ?_)⟩
        refine wpC_cut (β := Unit) (fun _ => {sl := [(1, .t (I s)), (2, .t (I p)), (3, .t (I f)), (5, .ptr 5 0), (10, .ptr 10 0), (14, .t (I k)), (16, .own 74 71 8 ((ls.take k ++ [[s, p, f, 1, o0, o1, o2, o3]]).map ln))], bx := [(5, .d 19 (rcC n i ls [p0, p1, p2, p3, p4, p5, p6, p7, p8, p9, p10, p11, p12, p13, p14, p15])), (10, .d 19 z19)]}) (fun _ => True) ?_ fun _ _ => ?_
        · repeat' ((conv => whnf); first | (refine And.intro (by first | ((simp; omega); done) | fail) ?_) | refine aS ?_ | fail)
          exact ⟨(), trivial, by repeat' (first | ((refine leOwn ?_; exact e4.symm)) | exact trivial | exact LeV.same _ | exact LeB.same _ | exact rfl | exact fun _ _ _ => trivial | refine And.intro ?_ ?_)⟩
        refine wpC_cut (β := Unit) (fun _ => {sl := [(5, .ptr 5 0), (10, .ptr 10 0)], bx := [(5, .v (.t (I n) :: .t (I i) :: .t (linesT ls2) :: pvV [p0, p1, p2, p3, p4, p5, p6, p7, p8, p9, p10, p11, p12, p13, p14, p15])), (10, .d 19 z19)]}) (fun _ => True) ?_ fun _ _ => ?_
        · repeat' ((conv => whnf); first | refine nT_ ?_ | (refine And.intro (by first | ((simp; omega); done) | fail) ?_) | refine aS ?_ | fail)
          exact ⟨(), trivial, by repeat' (first | (refine LeB.v _ _ ?_) | ((refine leDat ?_; exact e3.symm)) | exact trivial | exact LeV.same _ | exact LeB.same _ | exact rfl | exact fun _ _ _ => trivial | refine And.intro ?_ ?_)⟩
        repeat' ((conv => whnf); first | exact trivial | refine rix ?_ | refine aS ?_ | fail)
      · skip
        obtain ⟨a, b, c, d, e', f', g, j, rfl⟩ := ex8 (h8 x (List.mem_of_getElem? h2))
        have hx4 := ho _ (List.mem_of_getElem? h2)
        have hnm : a = s ∧ b = p ∧ c = f := by
          have := List.find?_some h4
          simpa [isN] using this
        obtain ⟨rfl, rfl, rfl⟩ := hnm
        have hge : ls.getD k [] = [a, b, c, d, e', f', g, j] := by rw [List.getD_eq_getElem?_getD, h2]; rfl
        rw [h1, Int.zero_add] at hr ⊢
        rw [Int.toNat_natCast, if_neg (by omega), hge] at hr
        replace hr : (if d ≥ 1073741824 then ((2 : Int), ls) else (0, ls.set k ([a, b, c, d + 1] ++ sAdd [e', f', g, j] [o0, o1, o2, o3]))) = (e, ls2) := hr
        have hc0 : 0 ≤ d := hx4.2.1
        have hc1 : d ≤ 1073741824 := hx4.2.2.1
        have hs4 : isS [e', f', g, j] := hx4.2.2.2
        have hel : (ls.map ln)[((k : Int)).toNat]?.getD .nil = ln [a, b, c, d, e', f', g, j] := by rw [Int.toNat_natCast, List.getElem?_map, h2]; rfl
        by_cases c3 : d ≥ 1073741824
        · rw [if_pos c3] at hr
          obtain ⟨rfl, rfl⟩ := Prod.mk.inj hr
          repeat' ((conv => whnf); first | exact trivial | refine now_D0 (by omega) ?_ | (refine nv_ (ln [a, b, c, d, e', f', g, j]) (by first | (exact hel; done) | fail) ?_) | refine nT_ ?_ | refine aD1 ?_ | refine rix ?_ | (refine And.intro (by first | ((simp; omega); done) | fail) ?_) | refine aS ?_ | fail)
        rw [if_neg c3] at hr
        obtain ⟨rfl, hls⟩ := Prod.mk.inj hr
        have hA2 := t_refAdd [e', f', g, j] [o0, o1, o2, o3] hs4 hS
        have hAl := (isS_add hs4 hS).1
        generalize sAdd [e', f', g, j] [o0, o1, o2, o3] = sa at *
        obtain ⟨q0, q1, q2, q3, rfl⟩ := four hAl
        repeat' ((conv => whnf); first | refine now_D0 (by omega) ?_ | (refine nv_ (ln [a, b, c, d, e', f', g, j]) (by first | (exact hel; done) | fail) ?_) | refine nT_ ?_ | (refine And.intro (by first | ((simp; omega); done) | fail) ?_) | refine aS ?_ | fail)
        have hml : ls.length = (ls.map ln).length := (List.length_map _).symm
        have hml8 : ls.length * 8 = (ls.map ln).length * 8 := by rw [List.length_map]
        have hw : IntKind.i64.wrap (d + 1) = d + 1 := wrap_id (by omega) (by omega)
        have hld : (flL ls)[0 + ((k : Int)).toNat * 8 + 3]?.getD .nil = I d := by
          have := congrArg (·[0]?) (at_fl h8 h2 3 (by decide))
          simp only [List.getElem?_take, List.getElem?_drop] at this
          rw [Int.toNat_natCast, Nat.zero_add, show k * 8 + 3 = k * 8 + 3 + 0 from rfl]
          rw [if_pos (by decide)] at this
          rw [this]; rfl
        have hst : flL (ls.set k [a, b, c, d + 1, e', f', g, j]) = (flL ls).set (0 + ((k : Int)).toNat * 8 + 3) (I (IntKind.i64.wrap (d + 1))) := by
          have hfl := flL_len h8
          have hq : putL (flL ls) (k * 8 + 3) 1 [I (d + 1)] = flL (ls.set k [a, b, c, d + 1, e', f', g, j]) := put_fl (y := [a, b, c, d + 1, e', f', g, j]) (fun r => rfl) h8 h2
          rw [Int.toNat_natCast, Nat.zero_add, hw, ← hq]
          generalize flL ls = fl at *
          rw [List.set_eq_take_append_cons_drop, if_pos (by omega)]
          rfl
        have h81 : ∀ x ∈ ls.set k [a, b, c, d + 1, e', f', g, j], x.length = 8 := fun x hx => by
          rcases List.mem_or_eq_of_mem_set hx with hx | rfl
          · exact h8 x hx
          · rfl
        have h21 : (ls.set k [a, b, c, d + 1, e', f', g, j])[k]? = some [a, b, c, d + 1, e', f', g, j] := by rw [List.getElem?_set, if_pos rfl, if_pos h3]
        have hld2 : T.agg (((flL (ls.set k [a, b, c, d + 1, e', f', g, j])).drop (0 + ((k : Int)).toNat * 8 + 4)).take 4) = sm [e', f', g, j] := by
          rw [Int.toNat_natCast, Nat.zero_add, show (4 : Nat) = 8 - 4 from rfl, at_fl h81 h21 4 (by decide)]; rfl
        replace hls : ls.set k [a, b, c, d + 1, q0, q1, q2, q3] = ls2 := hls
        have hst2 : flL ls2 = putL (flL (ls.set k [a, b, c, d + 1, e', f', g, j])) (0 + ((k : Int)).toNat * 8 + 4) 4 ([q0, q1, q2, q3].map I) := by
          rw [Int.toNat_natCast, Nat.zero_add, put_fl (y := [a, b, c, d + 1, q0, q1, q2, q3]) (fun r => rfl) h81 h21, List.set_set, hls]
        have h82 : ∀ x ∈ ls2, x.length = 8 := fun x hx => by
          rw [← hls] at hx
          rcases List.mem_or_eq_of_mem_set hx with hx | rfl
          · exact h8 x hx
          · rfl
        have hll : ls2.length = ls.length := by rw [← hls, List.length_set]
        have hch : chunk 8 ls.length ((putL (flL (ls.set k [a, b, c, d + 1, e', f', g, j])) (0 + ((k : Int)).toNat * 8 + 4) 4 ([q0, q1, q2, q3].map I)).drop 0) = ls2.map ln := by
          rw [← hst2, List.drop_zero, ← hll]; exact chunk_ln ls2 h82
        refine wpC_cut (β := Unit) (fun _ => {sl := [(5, .ptr 5 0), (9, .ptr 9 0), (10, .ptr 10 0), (14, .t (I k))], bx := [(5, .v (.t (I n) :: .t (I i) :: .view 94 0 ls.length 8 :: pvV [p0, p1, p2, p3, p4, p5, p6, p7, p8, p9, p10, p11, p12, p13, p14, p15])), (9, .d 10 (h.map I)), (10, .d 19 z19), (94, .d (ls.length * 8) (flL ls))]}) (fun _ => True) ?_ fun _ _ => ?_
        · repeat' ((conv => whnf); first | refine nT_ ?_ | refine aS ?_ | fail)
          exact ⟨(), trivial, by repeat' (first | (refine LeB.v _ _ ?_) | (exact leViewL hml) | (exact leBdL hml8 rfl) | exact trivial | exact LeV.same _ | exact LeB.same _ | exact rfl | exact fun _ _ _ => trivial | refine And.intro ?_ ?_)⟩
        refine wpC_cut (β := Unit) (fun _ => {sl := [(5, .ptr 5 0), (9, .ptr 9 0), (10, .ptr 10 0), (14, .t (I k))], bx := [(5, .v (.t (I n) :: .t (I i) :: .view 94 0 ls.length 8 :: pvV [p0, p1, p2, p3, p4, p5, p6, p7, p8, p9, p10, p11, p12, p13, p14, p15])), (9, .d 10 (h.map I)), (10, .d 19 z19), (94, .d (ls.length * 8) (flL (ls.set k [a, b, c, d + 1, e', f', g, j])))]}) (fun _ => True) ?_ fun _ _ => ?_
        · repeat' ((conv => whnf); first | (refine nv_ (I d) (by first | (exact hld; done) | fail) ?_) | (refine And.intro (by first | ((simp only [List.length_map, Int.toNat_natCast, List.length_set]; omega); done) | ((constructor <;> (simp only [List.length_map, Int.toNat_natCast]; omega)); done) | (exact ⟨rfl, by simp only [Int.toNat_natCast]; omega⟩; done) | fail) ?_) | refine aS ?_ | fail)
          exact ⟨(), trivial, by repeat' (first | (exact leBdL rfl hst) | exact trivial | exact LeV.same _ | exact LeB.same _ | exact rfl | exact fun _ _ _ => trivial | refine And.intro ?_ ?_)⟩
        refine wpC_cut (β := Unit) (fun _ => {sl := [(5, .ptr 5 0), (10, .ptr 10 0)], bx := [(5, .v (.t (I n) :: .t (I i) :: .t (linesT ls2) :: pvV [p0, p1, p2, p3, p4, p5, p6, p7, p8, p9, p10, p11, p12, p13, p14, p15])), (10, .d 19 z19)]}) (fun _ => True) ?_ fun _ _ => ?_
        · repeat' ((conv => whnf); first | (refine nv_ (sm [e', f', g, j]) (by first | (exact hld2; done) | fail) ?_) | refine k_call _ (hO) ?_ | refine k_call _ (hA2) ?_ | (refine And.intro (by first | (exact (List.length_map _).trans hh; done) | ((simp only [List.length_map, Int.toNat_natCast, List.length_set]; omega); done) | ((constructor <;> (simp only [List.length_map, Int.toNat_natCast]; omega)); done) | (exact ⟨rfl, by simp only [Int.toNat_natCast]; omega⟩; done) | fail) ?_) | refine aS ?_ | fail)
          exact ⟨(), trivial, by repeat' (first | (refine LeB.v _ _ ?_) | (exact LeV.conv _ _ [94] ((conv_viewL (m := ls.length * 8) (ts := putL (flL (ls.set k [a, b, c, d + 1, e', f', g, j])) (0 + ((k : Int)).toNat * 8 + 4) 4 ([q0, q1, q2, q3].map I)) rfl (by decide) (by omega)).trans (congrArg (fun c => some (T.slice 8 c, [94])) hch)) (by simp [Wk.keys])) | exact trivial | exact LeV.same _ | exact LeB.same _ | exact rfl | exact fun _ _ _ => trivial | refine And.intro ?_ ?_)⟩
        repeat' ((conv => whnf); first | exact trivial | refine rix ?_ | refine aS ?_ | fail)
theorem t_refClose (n i : Int) (ls : List (List Int)) (pv : List Int) (ok : okR n i ls pv) (hl : ls.length < 2 ^ 20) (hi : i ≤ 1048576) (i0 : 0 ≤ i) :
    DCalls Tryz.prog 11 [rcT n i ls pv] (.tup [.agg (I n :: I (i + 1) :: .nil :: (dgR n i ls pv).map Y), rcT n i ls pv, I 0]) := by
  have hD := t_refDigest n i ls pv ok hl
  have hdl := dgR_len n i ls pv
  obtain ⟨p0, p1, p2, p3, p4, p5, p6, p7, p8, p9, p10, p11, p12, p13, p14, p15, rfl⟩ := ex16 ok.hp
  have hw : IntKind.i64.wrap (i + 1) = i + 1 := wrap_id (by omega) (by omega)
  rw [← hw]
  refine dcalls_low (rs := [.cell 2 32, .cell 3 41, .tmp 4]) mixed Tryz.func11 l11 rfl rfl rfl (r := [.agg _, .agg _, I _]) (Nat.le_of_ble_eq_true rfl) ?_
  generalize dgR n i ls [p0, p1, p2, p3, p4, p5, p6, p7, p8, p9, p10, p11, p12, p13, p14, p15] = dg at *
  obtain ⟨d0, d1, d2, d3, d4, d5, d6, d7, d8, d9, d10, d11, d12, d13, d14, d15, rfl⟩ := ex16 hdl
  repeat' ((conv => whnf); first | exact trivial | refine k_call _ (hD) ?_ | refine now_D0 (by omega) ?_ | refine nT_ ?_ | refine rix ?_ | refine aS ?_ | fail)
end Go.RC
end
section
namespace Go.RC
open Go Go.DL Go.Proofs
set_option maxRecDepth 100000
set_option maxHeartbeats 20000000
structure Stp where
  c : Bool
  s : Int
  p : Int
  f : Int
  h : List Int
abbrev stC (x : Stp) : List T := .bool x.c :: I x.s :: I x.p :: I x.f :: x.h.map I
abbrev stT (x : Stp) : T := .agg (stC x)
theorem eltSt {l : List Stp} {j : Nat} {x : Stp} (e : l[j]? = some x) : ((l.map stT)[j]?.getD .nil) = stT x := by
  rw [List.getElem?_map, e]; rfl
theorem hd10 {h : List Int} (hh : h.length = 10) : T.agg ((h.map I).take 10) = hd h := congrArg T.agg (List.take_of_length_le (by rw [List.length_map, hh]; exact Nat.le_refl _))
theorem linesE_nil : linesE [] = [] := by simp [linesE, srt]
theorem t_KeepsLedger (node : Int) (l : List Stp) (ni : i64 node) (hl : l.length < 2 ^ 40) (h10 : ∀ x ∈ l, x.h.length = 10) : DCalls Tryz.prog 3 [I node, .slice 14 (l.map stT)] (.bool true) := by
  refine dcalls_low (rs := [.tmp 4]) mixed Tryz.func3 l3 rfl rfl rfl (r := [.bool true]) (Nat.le_of_ble_eq_true rfl) ?_
  have hsn := t_sanity
  by_cases hlen : l.length > 60
  · repeat' ((conv => whnf); first | exact trivial | (refine now_D1 (by simp; omega) ?_) | refine k_call _ (hsn) ?_ | refine rb1 ?_ | refine aS ?_ | fail)
  repeat' ((conv => whnf); first | (refine now_D0 (by simp; omega) ?_) | refine aS ?_ | fail)
  by_cases hno : node < 0 ∨ node ≥ 200
  · refine wpC_cut (β := Unit) (fun _ => {sl := [(0, .t (I node)), (5, .t .nilptr), (6, .t (I 1))], bx := []}) (fun _ => True) ?_ fun _ _ => ?_
    · skip
      refine WC_inl mixed Tryz.func7 l7 rfl rfl (rs := [.tmp 2, .tmp 3]) rfl 1000 (Nat.le_of_ble_eq_true rfl) ?_
      repeat' ((conv => whnf); first | refine aD1 ?_ | refine nD_ (fun hq => ?_) (fun hq => ?_) | refine aS ?_ | refine ⟨_, rfl, ?_⟩ | fail)
      all_goals first | omega | exact ⟨(), trivial, by repeat' (first | exact trivial | exact LeV.same _ | exact rfl | exact fun _ _ _ => trivial | refine And.intro ?_ ?_)⟩
    repeat' ((conv => whnf); first | exact trivial | refine k_call _ (hsn) ?_ | refine aE1 ?_ | refine aD1 ?_ | refine nD_ (fun hq => ?_) (fun hq => ?_) | refine rb1 ?_ | refine aS ?_ | fail)
    all_goals omega
  refine wpC_cut (β := Unit) (fun _ => {sl := [(0, .t (I node)), (1, .t (.slice 14 (l.map stT))), (5, .ptr 1013 0), (6, .t (I 0))], bx := [(1013, .v (lgC (.t (I node)) (.t (I 0)) (pvV zero16))), (1011, .m true sh3 (esM ([])) none)]}) (fun _ => True) ?_ fun _ _ => ?_
  · skip
    refine WC_inl mixed Tryz.func7 l7 rfl rfl (rs := [.tmp 2, .tmp 3]) rfl 1000 (Nat.le_of_ble_eq_true rfl) ?_
    repeat' ((conv => whnf); first | refine aD0 ?_ | refine aS ?_ | refine ⟨_, rfl, ?_⟩ | fail)
    all_goals first | omega | exact ⟨(), trivial, by repeat' (first | exact trivial | exact LeV.same _ | exact LeB.same _ | exact rfl | exact fun _ _ _ => trivial | refine And.intro ?_ ?_)⟩
  repeat' ((conv => whnf); first | refine aN0 ?_ | refine aD0 ?_ | refine aS ?_ | fail)
  all_goals first | omega | skip
  refine wpC_cut (β := Unit) (fun _ => {sl := [(0, .t (I node)), (1, .t (.slice 14 (l.map stT))), (5, .ptr 1013 0), (7, .ptr 7 0)], bx := [(7, .v (.t (I node) :: .t (I 0) :: .t (linesT ([])) :: pvV zero16)), (1013, .v (lgC (.t (I node)) (.t (I 0)) (pvV zero16))), (1011, .m true sh3 (esM ([])) none)]}) (fun _ => True) ?_ fun _ _ => ?_
  · repeat' ((conv => whnf); first | refine aS ?_ | fail)
    exact ⟨(), trivial, by repeat' (first | (refine LeB.dv _ _ _ ?_) | (exact LeV.empty _) | exact trivial | exact LeV.same _ | exact LeB.same _ | exact rfl | exact fun _ _ _ => trivial | refine And.intro ?_ ?_)⟩
  skip
  refine wpC_loopE 0 (α := Nat × List Ent × List Rc) (β := List Rc) (fun q => {sl := [(0, .t (I node)), (5, .ptr 1013 0), (7, .ptr 7 0), (8, .own 117 41 19 ((q.2.2).map rc)), (53, .t (.slice 14 (l.map stT))), (54, .t (I l.length)), (55, .t (I q.1))], bx := [(7, .v (.t (I node) :: .t (I (q.2.2).length) :: .t (linesT (linesE (q.2.1))) :: pvV (lastD zero16 q.2.2))), (1013, .v (lgC (.t (I node)) (.t (I (q.2.2).length)) (pvV (lastD zero16 q.2.2)))), (1011, .m true sh3 (esM (q.2.1)) none)]})
    (fun q => q.1 ≤ l.length ∧ okL q.2.1 ∧ q.2.1.length ≤ q.1 ∧ q.2.2.length ≤ q.1 ∧ Chn node q.2.2 ∧ (lastD zero16 q.2.2).length = 16 ∧ areB (lastD zero16 q.2.2)) (fun q => l.length - q.1)
    (fun c => {sl := [(0, .t (I node)), (8, .own 117 41 19 ((c).map rc))], bx := []}) (fun c => c.length ≤ l.length ∧ Chn node c)
    (0, [], []) ⟨by simp, okL_nil, by simp, by simp, Chn.nil node, rfl, (by unfold areB; decide)⟩ ?_ ?_ ?_
  · repeat' (first | ((refine leI ?_; simp; done)) | (refine LeB.v _ _ ?_) | (exact LeV.nil _ _ _) | ((refine leT ?_; exact congrArg (fun x => linesT x) linesE_nil)) | exact trivial | exact LeV.same _ | exact LeB.same _ | exact rfl | exact fun _ _ _ => trivial | refine And.intro ?_ ?_)
  · rintro ⟨k, es, c⟩ ⟨hk, hE, hEl, hcl, hC, hpl, hpb⟩
    dsimp only at hk hE hEl hcl hC hpl hpb
    rcases Nat.lt_or_ge k l.length with h2 | h2
    · have hke : l[k]? = some l[k] := List.getElem?_eq_getElem h2
      have hh := h10 l[k] (List.getElem_mem h2)
      generalize l[k] = x at hke hh
      obtain ⟨cl, s, p, f, h⟩ := x
      dsimp only at hh
      have hib : 0 ≤ (k : Int) ∧ (k : Int) < ((l.map stT).length : Int) := by rw [List.length_map]; omega
      have hel : (l.map stT)[((k : Int)).toNat]?.getD .nil = stT ⟨cl, s, p, f, h⟩ := eltSt (by rw [Int.toNat_natCast]; exact hke)
      have hsl : (stC ⟨cl, s, p, f, h⟩).length = 14 := by simp [hh]
      obtain ⟨pv, hpv⟩ : ∃ pv, lastD zero16 c = pv := ⟨_, rfl⟩
      rw [hpv] at hpl hpb ⊢
      obtain ⟨p0, p1, p2, p3, p4, p5, p6, p7, p8, p9, p10, p11, p12, p13, p14, p15, rfl⟩ := ex16 hpl
      repeat' ((conv => whnf); first | refine now_D1 (by omega) ?_ | refine aS ?_ | fail)
      refine wpC_cut (β := Unit) (fun _ => {sl := [(0, .t (I node)), (5, .ptr 1013 0), (7, .ptr 7 0), (8, .own 117 41 19 ((c).map rc)), (53, .t (.slice 14 (l.map stT))), (54, .t (I l.length)), (55, .t (I k)), (10, .ptr 10 0)], bx := [(10, .d 14 (stC ⟨cl, s, p, f, h⟩)), (7, .v (.t (I node) :: .t (I c.length) :: .t (linesT (linesE es)) :: pvV [p0, p1, p2, p3, p4, p5, p6, p7, p8, p9, p10, p11, p12, p13, p14, p15])), (1013, .v (lgC (.t (I node)) (.t (I c.length)) (pvV [p0, p1, p2, p3, p4, p5, p6, p7, p8, p9, p10, p11, p12, p13, p14, p15]))), (1011, .m true sh3 (esM (es)) none)]}) (fun _ => True) ?_ fun _ _ => ?_
      · repeat' ((conv => whnf); first | (refine nv_ (stT ⟨cl, s, p, f, h⟩) (by first | (exact hel; done) | fail) ?_) | refine nT_ ?_ | (refine And.intro (by first | (exact hib; done) | (exact hsl; done) | (exact ⟨hsl, Nat.le_of_ble_eq_true rfl⟩; done) | fail) ?_) | fail)
        exact ⟨(), trivial, by repeat' (first | ((refine leBd ?_; exact (putL_all (n := 14) rfl).symm)) | exact trivial | exact LeV.same _ | exact LeB.same _ | exact rfl | exact fun _ _ _ => trivial | refine And.intro ?_ ?_)⟩
      have hX8 := linesE_8 hE.1
      have hXl := linesE_len es
      have hw1 : IntKind.i64.wrap ((k : Int) + 1) = ((k + 1 : Nat) : Int) := by rw [wrap_id (by omega) (by omega)]; rfl
      cases cl with
      | false =>
        obtain ⟨n1, n2, n3⟩ := note_lines hE s p f h
        have hN := t_refNote node c.length (linesE es) [p0, p1, p2, p3, p4, p5, p6, p7, p8, p9, p10, p11, p12, p13, p14, p15] s p f h (by omega) (fun x hx => ⟨(hX8 x hx).1, (hX8 x hx).2.2.1, (hX8 x hx).2.2.2.1, (hX8 x hx).2.2.2.2⟩) rfl hh
        have hM := mc_Note (.t (I node)) (.t (I c.length)) (pvV [p0, p1, p2, p3, p4, p5, p6, p7, p8, p9, p10, p11, p12, p13, p14, p15]) es hE.1.1 (by omega) s p f h hh
        rw [n1] at hN
        dsimp only at hN
        generalize noteM (s, p, f) h es = r at hN hM n2 n3
        clear n1
        obtain ⟨e, es'⟩ := r
        dsimp only at hN hM n2 n3
        repeat' ((conv => whnf); first | refine nT_ ?_ | refine aS ?_ | fail)
        refine wpC_cut (β := Unit) (fun _ => {sl := [(0, .t (I node)), (5, .ptr 1013 0), (7, .ptr 7 0), (8, .own 117 41 19 ((c).map rc)), (53, .t (.slice 14 (l.map stT))), (54, .t (I l.length)), (55, .t (I k)), (10, .ptr 10 0), (11, .ptr 11 0), (12, .t (I e))], bx := [(10, .d 14 (stC ⟨false, s, p, f, h⟩)), (11, .d 19 (rcC node c.length (linesE es') [p0, p1, p2, p3, p4, p5, p6, p7, p8, p9, p10, p11, p12, p13, p14, p15])), (7, .v (.t (I node) :: .t (I c.length) :: .t (linesT (linesE es)) :: pvV [p0, p1, p2, p3, p4, p5, p6, p7, p8, p9, p10, p11, p12, p13, p14, p15])), (1013, .v (lgC (.t (I node)) (.t (I c.length)) (pvV [p0, p1, p2, p3, p4, p5, p6, p7, p8, p9, p10, p11, p12, p13, p14, p15]))), (1011, .m true sh3 (esM (es)) none)]}) (fun _ => True) ?_ fun _ _ => ?_
        · repeat' ((conv => whnf); first | (refine nv_ (hd h) (by first | (exact hd10 hh; done) | fail) ?_) | refine k_call _ (hN) ?_ | refine nT_ ?_ | refine aS ?_ | fail)
          exact ⟨(), trivial, by repeat' (first | exact trivial | exact LeV.same _ | exact LeB.same _ | exact rfl | exact fun _ _ _ => trivial | refine And.intro ?_ ?_)⟩
        refine wpC_cut (β := Unit) (fun _ => {sl := [(0, .t (I node)), (5, .ptr 1013 0), (7, .ptr 7 0), (8, .own 117 41 19 ((c).map rc)), (53, .t (.slice 14 (l.map stT))), (54, .t (I l.length)), (55, .t (I k)), (10, .ptr 10 0), (12, .t (I e))], bx := [(10, .d 14 (stC ⟨false, s, p, f, h⟩)), (7, .v (.t (I node) :: .t (I c.length) :: .t (linesT (linesE es')) :: pvV [p0, p1, p2, p3, p4, p5, p6, p7, p8, p9, p10, p11, p12, p13, p14, p15])), (1013, .v (lgC (.t (I node)) (.t (I c.length)) (pvV [p0, p1, p2, p3, p4, p5, p6, p7, p8, p9, p10, p11, p12, p13, p14, p15]))), (1011, .m true sh3 (esM (es)) none)]}) (fun _ => True) ?_ fun _ _ => ?_
        · repeat' ((conv => whnf); first | refine aS ?_ | fail)
          exact ⟨(), trivial, by repeat' (first | (refine LeB.v _ _ ?_) | exact trivial | exact LeV.same _ | exact LeB.same _ | exact rfl | exact fun _ _ _ => trivial | refine And.intro ?_ ?_)⟩
        refine wpC_cut (β := Unit) (fun _ => {sl := [(0, .t (I node)), (5, .ptr 1013 0), (7, .ptr 7 0), (8, .own 117 41 19 ((c).map rc)), (53, .t (.slice 14 (l.map stT))), (54, .t (I l.length)), (55, .t (I k)), (87, .t (.bool false))], bx := [(7, .v (.t (I node) :: .t (I c.length) :: .t (linesT (linesE es')) :: pvV [p0, p1, p2, p3, p4, p5, p6, p7, p8, p9, p10, p11, p12, p13, p14, p15])), (1013, .v (lgC (.t (I node)) (.t (I c.length)) (pvV [p0, p1, p2, p3, p4, p5, p6, p7, p8, p9, p10, p11, p12, p13, p14, p15]))), (1011, .m true sh3 (esM (es')) none)]}) (fun _ => True) ?_ fun _ _ => ?_
        · repeat' ((conv => whnf); first | (refine nv_ (hd h) (by first | (exact hd10 hh; done) | fail) ?_) | refine nT_ ?_ | refine aS ?_ | fail)
          refine hM _ _ _ ?_ ?_ ?_
          · intro q hq
            simp only [List.mem_cons, List.not_mem_nil, or_false] at hq
            rcases hq with rfl | rfl <;> rfl
          · intro n hn
            simp only [List.mem_cons, List.not_mem_nil, or_false] at hn
            rcases hn with rfl | rfl | rfl <;> rfl
          repeat' ((conv => whnf); first | refine now_N0 rfl ?_ | refine aS ?_ | fail)
          exact ⟨(), trivial, by repeat' (first | exact trivial | exact LeV.same _ | exact LeB.same _ | exact rfl | exact fun _ _ _ => trivial | refine And.intro ?_ ?_)⟩
        skip
        refine ⟨(k + 1, es', c), ⟨by dsimp only; omega, n2, by dsimp only; omega, by dsimp only; omega, hC, by dsimp only; rw [hpv]; rfl, by dsimp only; rw [hpv]; exact hpb⟩, by dsimp only; omega, ?_⟩
        dsimp only
        rw [hpv]
        repeat' (first | ((refine leI ?_; exact hw1.symm)) | exact trivial | exact LeV.same _ | exact LeB.same _ | exact rfl | exact fun _ _ _ => trivial | refine And.intro ?_ ?_)
      | true =>
        have hE0 := hE
        have hR := okR_linesE (n := node) (i := (c.length : Int)) (pv := [p0, p1, p2, p3, p4, p5, p6, p7, p8, p9, p10, p11, p12, p13, p14, p15]) ni (i64_nat (by omega)) hE.1 rfl hpb
        have hRl : (linesE es).length < 2 ^ 20 := by rw [linesE_len]; omega
        have hDg := t_Digest node c.length (linesE es) [p0, p1, p2, p3, p4, p5, p6, p7, p8, p9, p10, p11, p12, p13, p14, p15] hR hRl
        have hCl := t_refClose node c.length (linesE es) [p0, p1, p2, p3, p4, p5, p6, p7, p8, p9, p10, p11, p12, p13, p14, p15] hR hRl (by omega) (by omega)
        have hDb := dgR_areB node c.length (linesE es) [p0, p1, p2, p3, p4, p5, p6, p7, p8, p9, p10, p11, p12, p13, p14, p15]
        have hck : chk node c.length (linesE es) = 0 := chk_lines hE (by omega) (by omega) (by omega) (by omega) (by omega)
        have hCk := t_Check node c.length (linesE es) [p0, p1, p2, p3, p4, p5, p6, p7, p8, p9, p10, p11, p12, p13, p14, p15] (by omega) (fun x hx => (hX8 x hx).1) rfl
        rw [hck] at hCk
        have hSm := t_refSame node c.length (linesE es) [p0, p1, p2, p3, p4, p5, p6, p7, p8, p9, p10, p11, p12, p13, p14, p15] node c.length (linesE es) [p0, p1, p2, p3, p4, p5, p6, p7, p8, p9, p10, p11, p12, p13, p14, p15] (fun x hx => (hX8 x hx).1) (fun x hx => (hX8 x hx).1) (by omega) rfl rfl
        have hsb : sameB node c.length (linesE es) [p0, p1, p2, p3, p4, p5, p6, p7, p8, p9, p10, p11, p12, p13, p14, p15] node c.length (linesE es) [p0, p1, p2, p3, p4, p5, p6, p7, p8, p9, p10, p11, p12, p13, p14, p15] = true := (samL_iff (r := ⟨node, c.length, linesE es, [p0, p1, p2, p3, p4, p5, p6, p7, p8, p9, p10, p11, p12, p13, p14, p15]⟩) (s := ⟨node, c.length, linesE es, [p0, p1, p2, p3, p4, p5, p6, p7, p8, p9, p10, p11, p12, p13, p14, p15]⟩)).2 rfl
        rw [hsb] at hSm
        have hC2 : Chn node (c ++ [(⟨node, c.length, linesE es, [p0, p1, p2, p3, p4, p5, p6, p7, p8, p9, p10, p11, p12, p13, p14, p15]⟩ : Rc)]) := hC.snoc ⟨hR, hRl⟩ hck rfl rfl hpv.symm
        have hla : lastD zero16 (c ++ [(⟨node, c.length, linesE es, [p0, p1, p2, p3, p4, p5, p6, p7, p8, p9, p10, p11, p12, p13, p14, p15]⟩ : Rc)]) = dgR node c.length (linesE es) [p0, p1, p2, p3, p4, p5, p6, p7, p8, p9, p10, p11, p12, p13, p14, p15] := lastD_snoc _ _ _
        obtain ⟨d0, d1, d2, d3, d4, d5, d6, d7, d8, d9, d10, d11, d12, d13, d14, d15, hD16⟩ := ex16 (dgR_len node c.length (linesE es) [p0, p1, p2, p3, p4, p5, p6, p7, p8, p9, p10, p11, p12, p13, p14, p15])
        rw [hD16] at hDg hDb hCl hla
        clear hD16
        have hE : okX es := hE0.1
        repeat' ((conv => whnf); first | refine nT_ ?_ | refine aS ?_ | fail)
        refine wpC_cut (β := Unit) (fun _ => {sl := [(0, .t (I node)), (5, .ptr 1013 0), (7, .ptr 7 0), (8, .own 117 41 19 ((c).map rc)), (53, .t (.slice 14 (l.map stT))), (54, .t (I l.length)), (55, .t (I k)), (13, .ptr 13 0), (14, .t (I 0))], bx := [(13, .d 19 (rcC node c.length (linesE es) [p0, p1, p2, p3, p4, p5, p6, p7, p8, p9, p10, p11, p12, p13, p14, p15])), (7, .v (.t (I node) :: .t (I c.length) :: .t (linesT (linesE es)) :: pvV [p0, p1, p2, p3, p4, p5, p6, p7, p8, p9, p10, p11, p12, p13, p14, p15])), (1013, .v (lgC (.t (I node)) (.t (I (c.length + 1 : Nat))) (pvV [d0, d1, d2, d3, d4, d5, d6, d7, d8, d9, d10, d11, d12, d13, d14, d15]))), (1011, .m true sh3 (esM ([])) none)]}) (fun _ => True) ?_ fun _ _ => ?_
        · skip
          -- the ledger ends an interval
          obtain ⟨ks, hksd⟩ : ∃ ks, ks = srt (es.map (·.1)) := ⟨_, rfl⟩
          have hNS := n_SortedE es (by omega)
          rw [← hksd] at hNS
          have hls : linesE es = ks.map (lineE es) := by rw [hksd]; rfl
          have hkl : ks.length < 2 ^ 20 := by rw [hksd, (srt_perm _).length_eq, List.length_map]; omega
          skip
          refine WC_inlP mixed Tryz.func10 l10 rfl rfl (rs := [.cell 2 41, .tmp 3]) rfl 6000 (Nat.le_of_ble_eq_true rfl) ?_
          repeat' ((conv => whnf); first | refine now_D0 (by omega) ?_ | refine aS ?_ | fail)
          refine WC_inl mixed Tryz.func42 l42 rfl rfl (rs := [.tmp 2]) rfl 8000 (Nat.le_of_ble_eq_true rfl) ?_
          repeat' ((conv => whnf); first | refine aS ?_ | refine ⟨_, rfl, ?_⟩ | fail)
          refine WC_new rfl hNS ?_
          skip
          refine wpC_loopE 0 (α := Nat) (β := Unit) (fun kk => {sl := [(0, .ptr 1013 0), (2, .ptr 6002 0), (4, .ptr 6004 0), (32, .t (.slice 3 (ks.map nk))), (33, .t (I ks.length)), (34, .t (I kk))], bx := [(7, .v (.t (I node) :: .t (I c.length) :: .t (linesT (linesE es)) :: pvV [p0, p1, p2, p3, p4, p5, p6, p7, p8, p9, p10, p11, p12, p13, p14, p15])), (1013, .v (lgC (.t (I (node))) (.t (I (c.length))) (pvV [p0, p1, p2, p3, p4, p5, p6, p7, p8, p9, p10, p11, p12, p13, p14, p15]))), (1011, .m true sh3 (esM es) none), (6002, .d 19 z19), (6004, .v (.t (I (node)) :: .t (I (c.length)) :: .own 6058 71 8 (((ks.take kk).map (lineE es)).map ln) :: pvV [p0, p1, p2, p3, p4, p5, p6, p7, p8, p9, p10, p11, p12, p13, p14, p15]))], gh := [(0, [(0, .t (I node)), (5, .ptr 1013 0), (7, .ptr 7 0), (8, .own 117 41 19 ((c).map rc)), (53, .t (.slice 14 (l.map stT))), (54, .t (I l.length)), (55, .t (I k))])], off := 6000})
            (fun kk => kk ≤ ks.length) (fun kk => ks.length - kk) (fun _ => {sl := [(0, .ptr 1013 0), (2, .ptr 6002 0), (4, .ptr 6004 0)], bx := [(7, .v (.t (I node) :: .t (I c.length) :: .t (linesT (linesE es)) :: pvV [p0, p1, p2, p3, p4, p5, p6, p7, p8, p9, p10, p11, p12, p13, p14, p15])), (1013, .v (lgC (.t (I (node))) (.t (I (c.length))) (pvV [p0, p1, p2, p3, p4, p5, p6, p7, p8, p9, p10, p11, p12, p13, p14, p15]))), (1011, .m true sh3 (esM es) none), (6002, .d 19 z19), (6004, .v (.t (I (node)) :: .t (I (c.length)) :: .t (linesT (linesE es)) :: pvV [p0, p1, p2, p3, p4, p5, p6, p7, p8, p9, p10, p11, p12, p13, p14, p15]))], gh := [(0, [(0, .t (I node)), (5, .ptr 1013 0), (7, .ptr 7 0), (8, .own 117 41 19 ((c).map rc)), (53, .t (.slice 14 (l.map stT))), (54, .t (I l.length)), (55, .t (I k))])], off := 6000}) (fun _ => True) 0 (by omega) ?_ ?_ ?_
          · repeat' (first | (refine LeB.dv _ _ _ ?_) | exact trivial | exact LeV.same _ | exact LeB.same _ | exact rfl | exact fun _ _ _ => trivial | exact lI | exact LeV.nil _ _ _ | refine And.intro ?_ ?_)
          · rintro kk hk
            rcases Nat.lt_or_ge kk ks.length with h2 | h2
            · have hke : ks[kk]? = some ks[kk] := List.getElem?_eq_getElem h2
              obtain ⟨cc, t0, t1, t2, t3, hv, hs4, c0, c1, -⟩ := okX_get hE (k := ks[kk]) (by rw [← hksd]; exact List.getElem_mem h2)
              have hmf := mfind_esM ks[kk] es
              rw [hv] at hmf
              have hst : (ks.take (kk + 1)).map (lineE es) = (ks.take kk).map (lineE es) ++ [[ks[kk].1, ks[kk].2.1, ks[kk].2.2, cc, t0, t1, t2, t3]] := by
                rw [List.take_succ_eq_append_getElem h2, List.map_append]
                have : lineE es ks[kk] = [ks[kk].1, ks[kk].2.1, ks[kk].2.2, cc, t0, t1, t2, t3] := by unfold lineE; rw [hv]; rfl
                rw [← this]; rfl
              generalize ks[kk] = key at hke hmf hst
              obtain ⟨a, b, c⟩ := key
              have hkey : keyOk true sh3 (nk (a, b, c)) := ⟨rfl, rfl, rfl, rfl, trivial⟩
              have hel : (ks.map nk)[((kk : Int)).toNat]?.getD .nil = nk (a, b, c) := by
                rw [Int.toNat_natCast, List.getElem?_map, hke]; rfl
              repeat' ((conv => whnf); first | refine now_D1 (by omega) ?_ | (refine nv_ (nk (a, b, c)) (by first | (exact hel; done) | fail) ?_) | (refine nv_ (tly cc [t0, t1, t2, t3]) (by show mres _ _ (mfind (nk (a, b, c)).cells (esM es)) = _; rw [hmf]; rfl) ?_) | refine nT_ ?_ | (refine And.intro (by first | ((simp; omega); done) | (exact hkey; done) | fail) ?_) | refine aS ?_ | fail)
              refine ⟨kk + 1, by omega, by omega, ?_⟩
              repeat' (first | (refine LeB.v _ _ ?_) | ((refine leOwn ?_; rw [hst, List.map_append]; rfl)) | exact trivial | exact LeV.same _ | exact LeB.same _ | exact rfl | exact fun _ _ _ => trivial | exact lI | refine And.intro ?_ ?_)
            · have : kk = ks.length := by omega
              subst this
              repeat' ((conv => whnf); first | refine now_D0 (by omega) ?_ | refine aS ?_ | fail)
              exact ⟨(), trivial, by repeat' (first | (refine LeB.v _ _ ?_) | ((rw [hls, List.take_length]; exact LeV.data _ _ _ _)) | exact trivial | exact LeV.same _ | exact LeB.same _ | exact rfl | exact fun _ _ _ => trivial | refine And.intro ?_ ?_)⟩
          rintro - -
          clear hksd hls hkl hNS
          repeat' ((conv => whnf); first | refine k_call _ (hDg) ?_ | (refine And.intro (by first | (exact ⟨rfl, Nat.le_of_ble_eq_true rfl⟩; done) | fail) ?_) | refine aS ?_ | fail)
          refine ⟨[.t _, .t (I 0)], ⟨⟨rfl, trivial⟩, rfl, trivial⟩, ?_⟩
          repeat' ((conv => whnf); first | refine aS ?_ | fail)
          have hw : IntKind.i64.wrap ((c.length : Int) + 1) = ((c.length + 1 : Nat) : Int) := by rw [wrap_id (by omega) (by omega)]; rfl
          exact ⟨(), trivial, by repeat' (first | ((refine leBd ?_; rfl)) | (refine LeB.v _ _ ?_) | ((refine leI ?_; exact hw.symm)) | exact trivial | exact LeV.same _ | exact LeB.same _ | exact rfl | exact fun _ _ _ => trivial | refine And.intro ?_ ?_)⟩
        refine wpC_cut (β := Unit) (fun _ => {sl := [(0, .t (I node)), (5, .ptr 1013 0), (7, .ptr 7 0), (8, .own 117 41 19 ((c).map rc)), (53, .t (.slice 14 (l.map stT))), (54, .t (I l.length)), (55, .t (I k)), (13, .ptr 13 0), (14, .t (I 0)), (15, .ptr 15 0), (16, .ptr 16 0), (17, .t (I 0))], bx := [(13, .d 19 (rcC node c.length (linesE es) [p0, p1, p2, p3, p4, p5, p6, p7, p8, p9, p10, p11, p12, p13, p14, p15])), (15, .d 19 (I node :: I (c.length + 1) :: .nil :: ([d0, d1, d2, d3, d4, d5, d6, d7, d8, d9, d10, d11, d12, d13, d14, d15] : List Int).map Y)), (16, .d 19 (rcC node c.length (linesE es) [p0, p1, p2, p3, p4, p5, p6, p7, p8, p9, p10, p11, p12, p13, p14, p15])), (7, .v [.top, .top, .top, .top, .top, .top, .top, .top, .top, .top, .top, .top, .top, .top, .top, .top, .top, .top, .top]), (1013, .v (lgC (.t (I node)) (.t (I (c.length + 1 : Nat))) (pvV [d0, d1, d2, d3, d4, d5, d6, d7, d8, d9, d10, d11, d12, d13, d14, d15]))), (1011, .m true sh3 (esM ([])) none)]}) (fun _ => True) ?_ fun _ _ => ?_
        · repeat' ((conv => whnf); first | refine k_call _ (hCl) ?_ | refine aS ?_ | fail)
          exact ⟨(), trivial, by repeat' (first | (refine LeB.v _ _ ?_) | (exact LeV.top _) | exact trivial | exact LeV.same _ | exact LeB.same _ | exact rfl | exact fun _ _ _ => trivial | refine And.intro ?_ ?_)⟩
        refine wpC_cut (β := Unit) (fun _ => {sl := [(0, .t (I node)), (5, .ptr 1013 0), (7, .ptr 7 0), (8, .own 117 41 19 ((c).map rc)), (53, .t (.slice 14 (l.map stT))), (54, .t (I l.length)), (55, .t (I k)), (13, .ptr 13 0), (14, .t (I 0)), (16, .ptr 16 0), (17, .t (I 0))], bx := [(13, .d 19 (rcC node c.length (linesE es) [p0, p1, p2, p3, p4, p5, p6, p7, p8, p9, p10, p11, p12, p13, p14, p15])), (16, .d 19 (rcC node c.length (linesE es) [p0, p1, p2, p3, p4, p5, p6, p7, p8, p9, p10, p11, p12, p13, p14, p15])), (7, .v (.t (I node) :: .t (I (c.length + 1 : Nat)) :: .t (linesT ([])) :: pvV [d0, d1, d2, d3, d4, d5, d6, d7, d8, d9, d10, d11, d12, d13, d14, d15])), (1013, .v (lgC (.t (I node)) (.t (I (c.length + 1 : Nat))) (pvV [d0, d1, d2, d3, d4, d5, d6, d7, d8, d9, d10, d11, d12, d13, d14, d15]))), (1011, .m true sh3 (esM ([])) none)]}) (fun _ => True) ?_ fun _ _ => ?_
        · repeat' ((conv => whnf); first | refine aS ?_ | fail)
          exact ⟨(), trivial, by repeat' (first | (refine LeB.v _ _ ?_) | (exact LeV.empty _) | exact trivial | exact LeV.same _ | exact LeB.same _ | exact rfl | exact fun _ _ _ => trivial | refine And.intro ?_ ?_)⟩
        refine wpC_cut (β := Unit) (fun _ => {sl := [(0, .t (I node)), (5, .ptr 1013 0), (7, .ptr 7 0), (8, .own 117 41 19 ((c).map rc)), (53, .t (.slice 14 (l.map stT))), (54, .t (I l.length)), (55, .t (I k)), (13, .ptr 13 0), (113, .t (.bool false))], bx := [(13, .d 19 (rcC node c.length (linesE es) [p0, p1, p2, p3, p4, p5, p6, p7, p8, p9, p10, p11, p12, p13, p14, p15])), (7, .v (.t (I node) :: .t (I (c.length + 1 : Nat)) :: .t (linesT ([])) :: pvV [d0, d1, d2, d3, d4, d5, d6, d7, d8, d9, d10, d11, d12, d13, d14, d15])), (1013, .v (lgC (.t (I node)) (.t (I (c.length + 1 : Nat))) (pvV [d0, d1, d2, d3, d4, d5, d6, d7, d8, d9, d10, d11, d12, d13, d14, d15]))), (1011, .m true sh3 (esM ([])) none)]}) (fun _ => True) ?_ fun _ _ => ?_
        · repeat' ((conv => whnf); first | refine k_call _ (hSm) ?_ | refine k_call _ (hCk) ?_ | refine now_N0 rfl ?_ | refine aS ?_ | fail)
          exact ⟨(), trivial, by repeat' (first | exact trivial | exact LeV.same _ | exact LeB.same _ | exact rfl | exact fun _ _ _ => trivial | refine And.intro ?_ ?_)⟩
        skip
        refine wpC_cut (β := Unit) (fun _ => {sl := [(0, .t (I node)), (5, .ptr 1013 0), (7, .ptr 7 0), (8, .own 117 41 19 ((c ++ [(⟨node, c.length, linesE es, [p0, p1, p2, p3, p4, p5, p6, p7, p8, p9, p10, p11, p12, p13, p14, p15]⟩ : Rc)]).map rc)), (53, .t (.slice 14 (l.map stT))), (54, .t (I l.length)), (55, .t (I k))], bx := [(7, .v (.t (I node) :: .t (I (c.length + 1 : Nat)) :: .t (linesT ([])) :: pvV [d0, d1, d2, d3, d4, d5, d6, d7, d8, d9, d10, d11, d12, d13, d14, d15])), (1013, .v (lgC (.t (I node)) (.t (I (c.length + 1 : Nat))) (pvV [d0, d1, d2, d3, d4, d5, d6, d7, d8, d9, d10, d11, d12, d13, d14, d15]))), (1011, .m true sh3 (esM ([])) none)]}) (fun _ => True) ?_ fun _ _ => ?_
        · repeat' ((conv => whnf); first | (refine And.intro (by first | ((simp; omega); done) | fail) ?_) | refine aS ?_ | fail)
          exact ⟨(), trivial, by repeat' (first | ((refine leOwn ?_; rw [List.map_append]; rfl)) | exact trivial | exact LeV.same _ | exact LeB.same _ | exact rfl | exact fun _ _ _ => trivial | refine And.intro ?_ ?_)⟩
        skip
        have hcl2 : (c ++ [(⟨node, c.length, linesE es, [p0, p1, p2, p3, p4, p5, p6, p7, p8, p9, p10, p11, p12, p13, p14, p15]⟩ : Rc)]).length = c.length + 1 := by simp
        generalize c ++ [(⟨node, c.length, linesE es, [p0, p1, p2, p3, p4, p5, p6, p7, p8, p9, p10, p11, p12, p13, p14, p15]⟩ : Rc)] = c2 at *
        refine ⟨(k + 1, [], c2), ⟨by dsimp only; omega, okL_nil, by simp, by dsimp only; omega, hC2, by dsimp only; rw [hla]; rfl, by dsimp only; rw [hla]; exact hDb⟩, by dsimp only; omega, ?_⟩
        dsimp only
        rw [hla, hcl2]
        repeat' (first | ((refine leI ?_; exact hw1.symm)) | (refine LeB.v _ _ ?_) | ((refine leT ?_; exact congrArg (fun x => linesT x) linesE_nil)) | exact trivial | exact LeV.same _ | exact LeB.same _ | exact rfl | exact fun _ _ _ => trivial | refine And.intro ?_ ?_)
    · have : k = l.length := by omega
      subst this
      repeat' ((conv => whnf); first | refine now_D0 (by omega) ?_ | refine aS ?_ | fail)
      exact ⟨c, ⟨hcl, hC⟩, by repeat' (first | exact trivial | exact LeV.same _ | exact rfl | exact fun _ _ _ => trivial | refine And.intro ?_ ?_)⟩
  rintro c ⟨hcl, hC⟩
  have hV := t_Verify node c (by omega) hC.ok
  rw [hC.v] at hV
  have hG := t_Merge [c] (by simp) (by simp [lensN]; omega) (fun m hm r hr => by rw [List.mem_singleton.1 hm] at hr; exact hC.ok r hr)
  rw [show [c].flatten = c by simp, hC.mrgE] at hG
  have hA := t_SameAll c c (by omega) hC.ok hC.ok
  rw [samA_iff.2 rfl] at hA
  refine wpC_cut (β := Unit) (fun _ => {sl := [(8, .t (rcs c)), (18, .t (I c.length)), (19, .t (I 0))], bx := []}) (fun _ => True) ?_ fun _ _ => ?_
  · repeat' ((conv => whnf); first | refine k_call _ (hV) ?_ | fail)
    exact ⟨(), trivial, by repeat' (first | (exact LeV.data _ _ _ _) | exact trivial | exact LeV.same _ | exact rfl | exact fun _ _ _ => trivial | refine And.intro ?_ ?_)⟩
  refine wpC_cut (β := Unit) (fun _ => {sl := [(8, .t (rcs c)), (18, .t (I c.length)), (19, .t (I 0)), (20, .ptr 20 0)], bx := [(20, .d 4 [rcs c, spsT [], spsT [], spsT []])]}) (fun _ => True) ?_ fun _ _ => ?_
  · repeat' ((conv => whnf); first | refine k_call _ (hG) ?_ | refine aS ?_ | fail)
    exact ⟨(), trivial, by repeat' (first | exact trivial | exact LeV.same _ | exact LeB.same _ | exact rfl | exact fun _ _ _ => trivial | refine And.intro ?_ ?_)⟩
  repeat' ((conv => whnf); first | exact trivial | refine k_call _ (hsn) ?_ | refine k_call _ (hA) ?_ | (refine now_E1 (by first | rfl | (simp; done) | decide) ?_) | refine nT_ ?_ | refine rb1 ?_ | refine aS ?_ | fail)
end Go.RC
end
section
namespace Go.RC
open Go Go.DL Go.Proofs Go.RowKit
set_option maxRecDepth 100000
def typesK : List TypeId := [35, 67, 3, 4, 5, 22, 37]
theorem typesK_ok : closedB Tryz.prog typesK = true := by kernel_rfl
theorem cells4 : Tryz.prog.cellsOf 4 = 1 := by kernel_rfl
theorem cells37 : Tryz.prog.cellsOf 37 = 14 := by kernel_rfl
theorem hasBool {us : List T} (h : HasC Tryz.prog 4 us) : ∃ b, us = [.bool b] := by
  cases h with
  | bool h b => exact ⟨b, rfl⟩
  | int h | str h | nil h | slice h | struct h | array h => rw [Tryz.underlying4] at h; cases h
theorem mk37 (us : List T) : mkT Tryz.prog 37 us = .agg us := by unfold mkT; rw [Tryz.underlying37]
theorem aIntW {us : List T} (h : HasC Tryz.prog 3 us) : ∃ n, mkT Tryz.prog 3 us = I n ∧ i64 n := by
  obtain ⟨n, rfl, hw⟩ := hasInt h
  exact ⟨n, by unfold mkT; rw [Tryz.underlying3]; rfl, wf64 hw⟩
theorem aStep {us : List T} (h : HasC Tryz.prog 37 us) : ∃ x : Stp, us = stC x ∧ x.h.length = 10 := by
  cases h with
  | struct h us hl hf =>
    rw [Tryz.underlying37] at h
    cases h
    rw [cells37] at hl
    match us, hl with
    | a :: b :: c :: d :: hs, hl =>
      have f0 := hf ⟨ "Close", 4, 0, false, "", "", 0⟩ (by simp)
      have f1 := hf ⟨ "Side", 3, 1, false, "", "", 8⟩ (by simp)
      have f2 := hf ⟨ "Port", 3, 2, false, "", "", 16⟩ (by simp)
      have f3 := hf ⟨ "Flow", 3, 3, false, "", "", 24⟩ (by simp)
      have f4 := hf ⟨ "Head", 35, 4, false, "", "", 32⟩ (by simp)
      simp only [cells3, cells4, cells23, List.drop, List.take] at f0 f1 f2 f3 f4
      have hp : hs.length = 10 := by simpa using hl
      rw [List.take_of_length_le (by omega)] at f4
      obtain ⟨n0, e0⟩ := hasBool f0
      obtain ⟨n1, e1, w1⟩ := hasInt f1
      obtain ⟨n2, e2, w2⟩ := hasInt f2
      obtain ⟨n3, e3, w3⟩ := hasInt f3
      obtain ⟨x, ex, hx, wx⟩ := hasInts Tryz.underlying35 cells23 f4
      simp only [List.cons.injEq, and_true] at e0 e1 e2 e3
      subst e0; subst e1; subst e2; subst e3; subst ex
      exact ⟨⟨n0, n1, n2, n3, x⟩, rfl, hx⟩
    | [], hl => simp at hl
    | [_], hl => simp at hl
    | [_, _], hl => simp at hl
    | [_, _, _], hl => simp at hl
  | int h | bool h | str h | nil h | slice h | array h => rw [Tryz.underlying37] at h; cases h
theorem aSteps {us : List T} (h : HasC Tryz.prog 22 us) : ∃ l : List Stp, Les (mkT Tryz.prog 22 us) (.slice 14 (l.map stT)) ∧ (∀ x ∈ l, x.h.length = 10) ∧ l.length ≤ bulkL us := by
  have e : ∀ t, mkT Tryz.prog 22 [t] = t := fun t => by unfold mkT; rw [Tryz.underlying22]; rfl
  cases h with
  | nil h => exact ⟨[], by rw [e]; exact Les.nil 14, by simp, by simp⟩
  | slice h xs hx hl =>
    rw [Tryz.underlying22] at h
    cases h
    rw [e, cells37]
    have key : ∃ l : List Stp, xs.map (mkT Tryz.prog 37) = l.map stT ∧ l.length ≤ bulkL (xs.map (mkT Tryz.prog 37)) ∧ ∀ x ∈ l, x.h.length = 10 := by
      clear hl
      induction xs with
      | nil => exact ⟨[], rfl, by simp, by simp⟩
      | cons x xs ih =>
        obtain ⟨y, h1, h2⟩ := aStep (hx x (by simp))
        obtain ⟨l, k2, k3, k4⟩ := ih fun y hy => hx y (by simp [hy])
        refine ⟨y :: l, by simp only [List.map_cons, k2, mk37, h1], ?_, fun z hz => ?_⟩
        · simp only [List.map_cons, bulkL, List.length_cons, mk37, h1, T.bulk]
          omega
        · rcases List.mem_cons.1 hz with rfl | hz
          · exact h2
          · exact k4 z hz
    obtain ⟨l, k2, k3, k4⟩ := key
    exact ⟨l, by rw [k2]; exact Les.refl _, k4, by simp only [bulkL, T.bulk]; omega⟩
  | int h | bool h | str h | array h | struct h => rw [Tryz.underlying22] at h; cases h
end Go.RC
end
