/- Joined by program: parts of a data level over the model, of the program's functions over it, and of the statement's proof. -/
import Derived.Test.YtedccjcfafejdaaGreatDoorGf
import Derived.Shelf.Lays8
import Derived.Test.YtedccjcfafejdaaGreatDoorProg
import Derived.Test.YtedccjcfafejdaaGreatDoorGc
import Derived.KernelRfl
import Derived.Shelf.Spec.SlicesGrow
import Derived.Shelf.SlLaysF0
import Derived.Shelf.SlGeneric
section
namespace Go.RC
open Go Go.DL Go.Proofs
set_option maxRecDepth 100000
set_option maxHeartbeats 4000000
abbrev ha : List Int := [7, 5, 0, 0, 0, 0, 0, 0, 0, 0]
abbrev hb : List Int := [7, 6, 0, 0, 0, 0, 0, 0, 0, 0]
theorem okHa : okH ha := ⟨rfl, by decide⟩
theorem okHb : okH hb := ⟨rfl, by decide⟩
abbrev S0' : List Int := [0, 0, 0, 0]
theorem isS0 : isS S0' := ⟨rfl, by simp [M32]⟩
def Sa : List Int := sAdd S0' (ofH ha)
def Sab : List Int := sAdd Sa (ofH hb)
theorem isSa : isS Sa := isS_add isS0 (ofH_isS _)
theorem isSab : isS Sab := isS_add isSa (ofH_isS _)
def es1 : List Ent := [((2, 7, 1), 1, Sa)]
def es2 : List Ent := [((2, 7, 1), 1, Sa), ((1, 2, 1), 1, Sa)]
def es3 : List Ent := [((2, 7, 1), 2, Sab), ((1, 2, 1), 1, Sa)]
theorem n1 : noteM (2, 7, 1) ha [] = (0, es1) := rfl
theorem n2 : noteM (1, 2, 1) ha es1 = (0, es2) := rfl
theorem n3 : noteM (2, 7, 1) hb es2 = (0, es3) := rfl
theorem okE0 : okE [] := fun e h => by cases h
theorem okE1 : okE es1 := fun e h => by
  simp only [es1, List.mem_singleton] at h; subst h; exact ⟨isSa, by decide, by decide⟩
theorem okE2 : okE es2 := fun e h => by
  simp only [es2, List.mem_cons, List.not_mem_nil, or_false] at h
  rcases h with rfl | rfl <;> exact ⟨isSa, by decide, by decide⟩
abbrev lg0 (rest : List V) : List V := lgC (.t (I 3)) (.t (I 0)) rest
theorem m1 (rest : List V) : MC Tryz.prog 9 [.ptr 1013 0, .t (I 2), .t (I 7), .t (I 1), .t (hd ha)] [(1013, .v (lg0 rest)), (1011, .m true sh3 [] none)] [5009, 5011, 5012] 1011 (.m true sh3 (esM es1) none) (I 0) := by
  have := mc_Note (.t (I 3)) (.t (I 0)) rest [] okE0 (by decide) 2 7 1 ha rfl
  rwa [n1] at this
theorem m2 (rest : List V) : MC Tryz.prog 9 [.ptr 1013 0, .t (I 1), .t (I 2), .t (I 1), .t (hd ha)] [(1013, .v (lg0 rest)), (1011, .m true sh3 (esM es1) none)] [5009, 5011, 5012] 1011 (.m true sh3 (esM es2) none) (I 0) := by
  have := mc_Note (.t (I 3)) (.t (I 0)) rest es1 okE1 (by decide) 1 2 1 ha rfl
  rwa [n2] at this
theorem m3 (rest : List V) : MC Tryz.prog 9 [.ptr 1013 0, .t (I 2), .t (I 7), .t (I 1), .t (hd hb)] [(1013, .v (lg0 rest)), (1011, .m true sh3 (esM es2) none)] [5009, 5011, 5012] 1011 (.m true sh3 (esM es3) none) (I 0) := by
  have := mc_Note (.t (I 3)) (.t (I 0)) rest es2 okE2 (by decide) 2 7 1 hb rfl
  rwa [n3] at this
theorem srt3 : srt [(2, 7, 1), (1, 2, 1)] = [(1, 2, 1), (2, 7, 1)] := (srt_eq (ks := [(2, 7, 1), (1, 2, 1)]) (zs := [(1, 2, 1), (2, 7, 1)]) (.swap _ _ _) (by simp [cmpN, orI, cmpI])).symm
abbrev pvV (pv : List Int) : List V := pv.map fun x => .t (Y x)
theorem sAdd0 {a : List Int} (h : isS a) : sAdd S0' a = a := by
  obtain ⟨hl, hx⟩ := h
  match a, hl, hx with
  | [a, b, c, d], _, hx =>
    have h1 := hx a (by simp)
    have h2 := hx b (by simp)
    have h3 := hx c (by simp)
    have h4 := hx d (by simp)
    show [(0 + a) % M32, (0 + b) % M32, (0 + c) % M32, (0 + d) % M32] = _
    unfold M32 at *
    rw [Int.zero_add, Int.zero_add, Int.zero_add, Int.zero_add, Int.emod_eq_of_lt h1.1 h1.2, Int.emod_eq_of_lt h2.1 h2.2, Int.emod_eq_of_lt h3.1 h3.2, Int.emod_eq_of_lt h4.1 h4.2]
theorem ex16 {l : List Int} (h : l.length = 16) : ∃ d0 d1 d2 d3 d4 d5 d6 d7 d8 d9 d10 d11 d12 d13 d14 d15, l = [d0, d1, d2, d3, d4, d5, d6, d7, d8, d9, d10, d11, d12, d13, d14, d15] := by
  match l, h with
  | [d0, d1, d2, d3, d4, d5, d6, d7, d8, d9, d10, d11, d12, d13, d14, d15], _ => exact ⟨d0, d1, d2, d3, d4, d5, d6, d7, d8, d9, d10, d11, d12, d13, d14, d15, rfl⟩
theorem four {l : List Int} (h : l.length = 4) : ∃ a b c d, l = [a, b, c, d] := by
  match l, h with
  | [a, b, c, d], _ => exact ⟨a, b, c, d, rfl⟩
theorem t_sanity : DCalls Tryz.prog 6 [] (.bool true) := by
  refine dcalls_low (rs := [.tmp 0]) mixed Tryz.func6 l6 rfl rfl rfl (r := [.bool true]) (Nat.le_of_ble_eq_true rfl) ?_
  obtain ⟨x0, x1, x2, x3, hx⟩ := four isSa.1
  obtain ⟨y0, y1, y2, y3, hy⟩ := four isSab.1
  have m3' := m3 (pvV zero16)
  have he3 : esM es3 = [(nk (2, 7, 1), tly 2 [y0, y1, y2, y3]), (nk (1, 2, 1), tly 1 [x0, x1, x2, x3])] := by simp only [es3, esM, hx, hy, List.map_cons, List.map_nil]
  rw [he3] at m3'
  have xi : ∀ y ∈ [x0, x1, x2, x3], 0 ≤ y ∧ y < M32 := fun y hy => (isSa.2 y (by rw [hx]; exact hy))
  have yi : ∀ z ∈ [y0, y1, y2, y3], 0 ≤ z ∧ z < M32 := fun y hh => (isSab.2 y (by rw [hy]; exact hh))
  have hL8 : ∀ x ∈ [[1, 2, 1, 1, x0, x1, x2, x3], [2, 7, 1, 2, y0, y1, y2, y3]], x.length = 8 ∧ ∀ y ∈ x, i64 y := fun x hh => by
    simp only [List.mem_cons, List.not_mem_nil, or_false] at hh
    rcases hh with rfl | rfl
    · refine ⟨rfl, fun y h => ?_⟩
      rcases List.mem_append.1 (show y ∈ [1, 2, 1, 1] ++ [x0, x1, x2, x3] from h) with h | h
      · simp only [List.mem_cons, List.not_mem_nil, or_false] at h
        unfold i64; omega
      · have := xi y h
        unfold M32 at this; unfold i64; omega
    · refine ⟨rfl, fun y h => ?_⟩
      rcases List.mem_append.1 (show y ∈ [2, 7, 1, 2] ++ [y0, y1, y2, y3] from h) with h | h
      · simp only [List.mem_cons, List.not_mem_nil, or_false] at h
        unfold i64; omega
      · have := yi y h
        unfold M32 at this; unfold i64; omega
  have hr1 : Rc.ok ⟨3, 0, [[1, 2, 1, 1, x0, x1, x2, x3], [2, 7, 1, 2, y0, y1, y2, y3]], zero16⟩ := ⟨⟨(show i64 3 by unfold i64; decide), (show i64 0 by unfold i64; decide), hL8, rfl, (show areB zero16 by unfold areB; decide)⟩, Nat.le_of_ble_eq_true rfl⟩
  obtain ⟨d0, d1, d2, d3, d4, d5, d6, d7, d8, d9, d10, d11, d12, d13, d14, d15, hD⟩ := ex16 (dgR_len 3 0 [[1, 2, 1, 1, x0, x1, x2, x3], [2, 7, 1, 2, y0, y1, y2, y3]] zero16)
  have hDb := dgR_areB 3 0 [[1, 2, 1, 1, x0, x1, x2, x3], [2, 7, 1, 2, y0, y1, y2, y3]] zero16
  rw [hD] at hDb
  have hr2 : Rc.ok ⟨3, 1, [], [d0, d1, d2, d3, d4, d5, d6, d7, d8, d9, d10, d11, d12, d13, d14, d15]⟩ := ⟨⟨(show i64 3 by unfold i64; decide), (show i64 1 by unfold i64; decide), fun x h => by simp at h, rfl, hDb⟩, Nat.le_of_ble_eq_true rfl⟩
  have hD1 := t_Digest 3 0 [[1, 2, 1, 1, x0, x1, x2, x3], [2, 7, 1, 2, y0, y1, y2, y3]] zero16 hr1.1 hr1.2
  rw [hD] at hD1
  have hD2 := t_Digest 3 1 [] [d0, d1, d2, d3, d4, d5, d6, d7, d8, d9, d10, d11, d12, d13, d14, d15] hr2.1 hr2.2
  have hD2l := dgR_len 3 1 [] [d0, d1, d2, d3, d4, d5, d6, d7, d8, d9, d10, d11, d12, d13, d14, d15]
  generalize dgR 3 1 [] [d0, d1, d2, d3, d4, d5, d6, d7, d8, d9, d10, d11, d12, d13, d14, d15] = D2 at hD2 hD2l
  have a1 := t_sAdd [4294967295, 0, 0, 5] [1, 2, 0, 5] ⟨rfl, by simp [M32]⟩ ⟨rfl, by simp [M32]⟩
  have a2 := t_sSub [0, 0, 0, 0] [1, 0, 0, 0] ⟨rfl, by simp [M32]⟩ ⟨rfl, by simp [M32]⟩
  repeat' ((conv => whnf); first | refine k_call _ (a1) ?_ | refine k_call _ (a2) ?_ | refine nb_ false rfl ?_ | (refine And.intro (by first | (exact ⟨⟨rfl, rfl, rfl, rfl, trivial⟩, ⟨rfl, rfl, rfl, rfl, trivial⟩⟩; done) | fail) ?_) | refine aS ?_ | fail)
  refine WC_inl mixed Tryz.func7 l7 rfl rfl (rs := [.tmp 2, .tmp 3]) rfl 1000 (Nat.le_of_ble_eq_true rfl) ?_
  repeat' ((conv => whnf); first | refine aD0 ?_ | refine aS ?_ | refine ⟨_, rfl, ?_⟩ | fail)
  refine WC_inl mixed Tryz.func7 l7 rfl rfl (rs := [.tmp 2, .tmp 3]) rfl 2000 (Nat.le_of_ble_eq_true rfl) ?_
  repeat' ((conv => whnf); first | refine aN0 ?_ | refine aD1 ?_ | refine aD0 ?_ | refine aS ?_ | refine ⟨_, rfl, ?_⟩ | fail)
  (conv => whnf)
  refine ⟨_, _, _, _, _, m1 (pvV zero16), ?_, ?_, by decide, ?_, ?_⟩
  · intro p hp
    simp only [List.mem_cons, List.not_mem_nil, or_false] at hp
    rcases hp with rfl | rfl <;> rfl
  · intro n hn
    simp only [List.mem_cons, List.not_mem_nil, or_false] at hn
    rcases hn with rfl | rfl | rfl <;> rfl
  · rfl
  repeat' ((conv => whnf); first | refine aS ?_ | fail)
  (conv => whnf)
  refine ⟨_, _, _, _, _, m2 (pvV zero16), ?_, ?_, by decide, ?_, ?_⟩
  · intro p hp
    simp only [List.mem_cons, List.not_mem_nil, or_false] at hp
    rcases hp with rfl | rfl <;> rfl
  · intro n hn
    simp only [List.mem_cons, List.not_mem_nil, or_false] at hn
    rcases hn with rfl | rfl | rfl <;> rfl
  · rfl
  repeat' ((conv => whnf); first | refine aS ?_ | fail)
  (conv => whnf)
  refine ⟨_, _, _, _, _, m3', ?_, ?_, by decide, ?_, ?_⟩
  · intro p hp
    simp only [List.mem_cons, List.not_mem_nil, or_false] at hp
    rcases hp with rfl | rfl <;> rfl
  · intro n hn
    simp only [List.mem_cons, List.not_mem_nil, or_false] at hn
    rcases hn with rfl | rfl | rfl <;> rfl
  · rfl
  repeat' ((conv => whnf); first | refine aS ?_ | fail)
  refine wpC_loopE 0 (α := Nat) (β := Unit) (fun k => {sl := [(2, .ptr 1013 0), (6, .ptr 6 0), (7, .ptr 7 0), (70, .t (.slice 1 [I 0, I 0, I 0])), (71, .t (I 3)), (72, .t (I k))], bx := [(6, .d 10 (ha.map I)), (7, .d 10 (hb.map I)), (1013, .v (lg0 (pvV zero16))), (1011, .m true sh3 [(nk (2, 7, 1), tly 2 [y0, y1, y2, y3]), (nk (1, 2, 1), tly 1 [x0, x1, x2, x3])] none)]})
    (fun k => k ≤ 3) (fun k => 3 - k) (fun _ => {sl := [(2, .ptr 1013 0), (6, .ptr 6 0), (7, .ptr 7 0)], bx := [(6, .d 10 (ha.map I)), (7, .d 10 (hb.map I)), (1013, .v (lg0 (pvV zero16))), (1011, .m true sh3 [(nk (2, 7, 1), tly 2 [y0, y1, y2, y3]), (nk (1, 2, 1), tly 1 [x0, x1, x2, x3])] none)]}) (fun _ => True) 0 (by omega) ?_ ?_ ?_
  · repeat' (first | exact trivial | exact LeV.same _ | exact LeB.same _ | exact rfl | exact fun _ _ _ => trivial | refine And.intro ?_ ?_)
  · rintro k hk
    rcases Nat.lt_or_ge k 3 with h | h
    · have hg : ([I 0, I 0, I 0] : List T)[k]?.getD .nil = I 0 := by
        match k, h with
        | 0, _ => rfl
        | 1, _ => rfl
        | 2, _ => rfl
      repeat' ((conv => whnf); first | (refine nv_ (I 0) (by first | (exact hg; done) | fail) ?_) | refine nT_ ?_ | refine aN0 ?_ | refine aD1 ?_ | (refine And.intro (by first | ((simp; omega); done) | fail) ?_) | refine aS ?_ | fail)
      exact ⟨k + 1, by omega, by omega, by repeat' (first | exact trivial | exact LeV.same _ | exact LeB.same _ | exact rfl | exact fun _ _ _ => trivial | exact lI | refine And.intro ?_ ?_)⟩
    · have : k = 3 := by omega
      subst this
      repeat' ((conv => whnf); first | refine aD0 ?_ | refine aS ?_ | fail)
      exact ⟨(), trivial, by repeat' (first | exact trivial | exact LeV.same _ | exact LeB.same _ | exact rfl | exact fun _ _ _ => trivial | refine And.intro ?_ ?_)⟩
  rintro - -
  refine wpC_cut (β := Unit) (fun _ => {sl := [(2, .ptr 1013 0), (6, .ptr 6 0), (7, .ptr 7 0), (10, .ptr 10 0), (11, .t (I 0))], bx := [(6, .d 10 (ha.map I)), (7, .d 10 (hb.map I)), (10, .d 19 (rcC 3 0 [[1, 2, 1, 1, x0, x1, x2, x3], [2, 7, 1, 2, y0, y1, y2, y3]] zero16)), (1013, .v (lgC (.t (I 3)) (.t (I 1)) (pvV [d0, d1, d2, d3, d4, d5, d6, d7, d8, d9, d10, d11, d12, d13, d14, d15]))), (1011, .m true sh3 [] none)]}) (fun _ => True) ?_ fun _ _ => ?_
  · skip
    refine WC_inlP mixed Tryz.func10 l10 rfl rfl (rs := [.cell 2 41, .tmp 3]) rfl 6000 (Nat.le_of_ble_eq_true rfl) ?_
    repeat' ((conv => whnf); first | refine aD0 ?_ | refine aS ?_ | fail)
    refine WC_inl mixed Tryz.func42 l42 rfl rfl (rs := [.tmp 2]) rfl 8000 (Nat.le_of_ble_eq_true rfl) ?_
    repeat' ((conv => whnf); first | refine aS ?_ | refine ⟨_, rfl, ?_⟩ | fail)
    have hNS := n_Sorted [(2, 7, 1), (1, 2, 1)] [tly 2 [y0, y1, y2, y3], tly 1 [x0, x1, x2, x3]] rfl (by decide)
    rw [srt3] at hNS
    refine WC_new rfl hNS ?_
    refine wpC_loopE 0 (α := Nat) (β := Unit) (fun k => {sl := [(0, .ptr 1013 0), (2, .ptr 6002 0), (4, .ptr 6004 0), (32, .t (.slice 3 ([(1, 2, 1), (2, 7, 1)].map nk))), (33, .t (I 2)), (34, .t (I k))], bx := [(6, .d 10 (ha.map I)), (7, .d 10 (hb.map I)), (1013, .v (lg0 (pvV zero16))), (1011, .m true sh3 [(nk (2, 7, 1), tly 2 [y0, y1, y2, y3]), (nk (1, 2, 1), tly 1 [x0, x1, x2, x3])] none), (6002, .d 19 z19), (6004, .v (.t (I 3) :: .t (I 0) :: .own 6058 71 8 (([[1, 2, 1, 1, x0, x1, x2, x3], [2, 7, 1, 2, y0, y1, y2, y3]].take k).map ln) :: pvV zero16))], gh := [(0, [(2, .ptr 1013 0), (6, .ptr 6 0), (7, .ptr 7 0)])], off := 6000})
      (fun k => k ≤ 2) (fun k => 2 - k) (fun _ => {sl := [(0, .ptr 1013 0), (2, .ptr 6002 0), (4, .ptr 6004 0)], bx := [(6, .d 10 (ha.map I)), (7, .d 10 (hb.map I)), (1013, .v (lg0 (pvV zero16))), (1011, .m true sh3 [(nk (2, 7, 1), tly 2 [y0, y1, y2, y3]), (nk (1, 2, 1), tly 1 [x0, x1, x2, x3])] none), (6002, .d 19 z19), (6004, .v (.t (I 3) :: .t (I 0) :: .t (linesT [[1, 2, 1, 1, x0, x1, x2, x3], [2, 7, 1, 2, y0, y1, y2, y3]]) :: pvV zero16))], gh := [(0, [(2, .ptr 1013 0), (6, .ptr 6 0), (7, .ptr 7 0)])], off := 6000}) (fun _ => True) 0 (by omega) ?_ ?_ ?_
    · refine ⟨⟨.same _, .same _, .same _, .same _, .same _, .same _, trivial⟩, ⟨.same _, .same _, .same _, .same _, .same _, .dv _ _ _ ⟨.same _, .same _, .nil _ _ _, .same _, .same _, .same _, .same _, .same _, .same _, .same _, .same _, .same _, .same _, .same _, .same _, .same _, .same _, .same _, .same _, trivial⟩, trivial⟩, ⟨⟨.same _, .same _, .same _, trivial⟩, trivial⟩, rfl, fun _ _ _ => trivial, rfl⟩
    · rintro k hk
      match k, hk with
      | 0, _ =>
        repeat' ((conv => whnf); first | refine nT_ ?_ | refine aD1 ?_ | (refine And.intro (by first | (exact ⟨rfl, rfl, rfl, rfl, trivial⟩; done) | fail) ?_) | refine aS ?_ | fail)
        exact ⟨1, by omega, by omega, ⟨⟨.same _, .same _, .same _, .same _, .same _, lI, trivial⟩, ⟨.same _, .same _, .same _, .same _, .same _, .same _, trivial⟩, ⟨⟨.same _, .same _, .same _, trivial⟩, trivial⟩, rfl, fun _ _ _ => trivial, rfl⟩⟩
      | 1, _ =>
        repeat' ((conv => whnf); first | refine nT_ ?_ | refine aD1 ?_ | (refine And.intro (by first | (exact ⟨rfl, rfl, rfl, rfl, trivial⟩; done) | fail) ?_) | refine aS ?_ | fail)
        exact ⟨2, by omega, by omega, ⟨⟨.same _, .same _, .same _, .same _, .same _, lI, trivial⟩, ⟨.same _, .same _, .same _, .same _, .same _, .same _, trivial⟩, ⟨⟨.same _, .same _, .same _, trivial⟩, trivial⟩, rfl, fun _ _ _ => trivial, rfl⟩⟩
      | 2, _ =>
        repeat' ((conv => whnf); first | refine aD0 ?_ | refine aS ?_ | fail)
        exact ⟨(), trivial, ⟨⟨.same _, .same _, .same _, trivial⟩, ⟨.same _, .same _, .same _, .same _, .same _, .v _ _ ⟨.same _, .same _, .data _ _ _ _, .same _, .same _, .same _, .same _, .same _, .same _, .same _, .same _, .same _, .same _, .same _, .same _, .same _, .same _, .same _, .same _, trivial⟩, trivial⟩, ⟨⟨.same _, .same _, .same _, trivial⟩, trivial⟩, rfl, fun _ _ _ => trivial, rfl⟩⟩
      | k + 3, h => omega
    rintro - -
    repeat' ((conv => whnf); first | refine k_call _ (hD1) ?_ | refine aS ?_ | fail)
    refine ⟨[.t _, .t (I 0)], ⟨⟨rfl, trivial⟩, rfl, trivial⟩, ?_⟩
    repeat' ((conv => whnf); first | refine aS ?_ | fail)
    exact ⟨(), trivial, ⟨⟨.same _, .same _, .same _, .same _, .same _, trivial⟩, ⟨.same _, .same _, .same _, .same _, .same _, trivial⟩, trivial, rfl, fun _ _ _ => trivial, rfl⟩⟩
  refine wpC_cut (β := Unit) (fun _ => {sl := [(6, .ptr 6 0), (7, .ptr 7 0), (10, .ptr 10 0), (11, .t (I 0)), (12, .ptr 12 0), (13, .t (I 0))], bx := [(6, .d 10 (ha.map I)), (7, .d 10 (hb.map I)), (10, .d 19 (rcC 3 0 [[1, 2, 1, 1, x0, x1, x2, x3], [2, 7, 1, 2, y0, y1, y2, y3]] zero16)), (12, .d 19 (rcC 3 1 [] [d0, d1, d2, d3, d4, d5, d6, d7, d8, d9, d10, d11, d12, d13, d14, d15]))]}) (fun _ => True) ?_ fun _ _ => ?_
  · skip
    refine WC_inlP mixed Tryz.func10 l10 rfl rfl (rs := [.cell 2 41, .tmp 3]) rfl 9000 (Nat.le_of_ble_eq_true rfl) ?_
    repeat' ((conv => whnf); first | refine now_D0 (by decide) ?_ | refine aS ?_ | fail)
    refine WC_inl mixed Tryz.func42 l42 rfl rfl (rs := [.tmp 2]) rfl 11000 (Nat.le_of_ble_eq_true rfl) ?_
    repeat' ((conv => whnf); first | refine aS ?_ | refine ⟨_, rfl, ?_⟩ | fail)
    have hNS := n_Sorted [] [] rfl (by decide)
    rw [show srt [] = [] by simp [srt]] at hNS
    refine WC_new rfl hNS ?_
    refine wpC_loopE 0 (α := Unit) (β := Unit) (fun _ => {sl := [(0, .ptr 1013 0), (2, .ptr 9002 0), (4, .ptr 9004 0), (33, .t (I 0)), (34, .t (I 0))], bx := [(6, .d 10 (ha.map I)), (7, .d 10 (hb.map I)), (10, .d 19 (rcC 3 0 [[1, 2, 1, 1, x0, x1, x2, x3], [2, 7, 1, 2, y0, y1, y2, y3]] zero16)), (1013, .v (lgC (.t (I 3)) (.t (I 1)) (pvV [d0, d1, d2, d3, d4, d5, d6, d7, d8, d9, d10, d11, d12, d13, d14, d15]))), (1011, .m true sh3 [] none), (9002, .d 19 z19), (9004, .d 19 (I 3 :: I 1 :: .nil :: [d0, d1, d2, d3, d4, d5, d6, d7, d8, d9, d10, d11, d12, d13, d14, d15].map Y))], gh := [(0, [(2, .ptr 1013 0), (6, .ptr 6 0), (7, .ptr 7 0), (10, .ptr 10 0), (11, .t (I 0))])], off := 9000})
      (fun _ => True) (fun _ => 0) (fun _ => {sl := [(0, .ptr 1013 0), (2, .ptr 9002 0), (4, .ptr 9004 0)], bx := [(6, .d 10 (ha.map I)), (7, .d 10 (hb.map I)), (10, .d 19 (rcC 3 0 [[1, 2, 1, 1, x0, x1, x2, x3], [2, 7, 1, 2, y0, y1, y2, y3]] zero16)), (1013, .v (lgC (.t (I 3)) (.t (I 1)) (pvV [d0, d1, d2, d3, d4, d5, d6, d7, d8, d9, d10, d11, d12, d13, d14, d15]))), (1011, .m true sh3 [] none), (9002, .d 19 z19), (9004, .v (.t (I 3) :: .t (I 1) :: .t (linesT []) :: pvV [d0, d1, d2, d3, d4, d5, d6, d7, d8, d9, d10, d11, d12, d13, d14, d15]))], gh := [(0, [(2, .ptr 1013 0), (6, .ptr 6 0), (7, .ptr 7 0), (10, .ptr 10 0), (11, .t (I 0))])], off := 9000}) (fun _ => True) () trivial ?_ ?_ ?_
    · exact ⟨⟨.same _, .same _, .same _, .same _, .same _, trivial⟩, ⟨.same _, .same _, .same _, .same _, .same _, .same _, .same _, trivial⟩, ⟨⟨.same _, .same _, .same _, .same _, .same _, trivial⟩, trivial⟩, rfl, fun _ _ _ => trivial, rfl⟩
    · rintro - -
      repeat' ((conv => whnf); first | refine aD0 ?_ | refine aS ?_ | fail)
      exact ⟨(), trivial, ⟨⟨.same _, .same _, .same _, trivial⟩, ⟨.same _, .same _, .same _, .same _, .same _, .same _, .dv _ _ _ ⟨.same _, .same _, .empty _, .same _, .same _, .same _, .same _, .same _, .same _, .same _, .same _, .same _, .same _, .same _, .same _, .same _, .same _, .same _, .same _, trivial⟩, trivial⟩, ⟨⟨.same _, .same _, .same _, .same _, .same _, trivial⟩, trivial⟩, rfl, fun _ _ _ => trivial, rfl⟩⟩
    rintro - -
    repeat' ((conv => whnf); first | refine k_call _ (hD2) ?_ | (refine And.intro (by first | (exact ⟨(List.length_map _).trans hD2l, Nat.le_of_ble_eq_true rfl⟩; done) | fail) ?_) | refine aS ?_ | fail)
    refine ⟨[.t _, .t (I 0)], ⟨⟨rfl, trivial⟩, rfl, trivial⟩, ?_⟩
    repeat' ((conv => whnf); first | refine aS ?_ | fail)
    exact ⟨(), trivial, ⟨⟨.same _, .same _, .same _, .same _, .same _, .same _, trivial⟩, ⟨.same _, .same _, .same _, .same _, trivial⟩, trivial, rfl, fun _ _ _ => trivial, rfl⟩⟩
  have k0 : okLn [1, 2, 1, 1, x0, x1, x2, x3] = true := by rw [okLn8, (isSb_ok rfl).2 ⟨rfl, xi⟩]; rfl
  have k1 : okLn [2, 7, 1, 2, y0, y1, y2, y3] = true := by rw [okLn8, (isSb_ok rfl).2 ⟨rfl, yi⟩]; rfl
  have kf : okFrom none [[1, 2, 1, 1, x0, x1, x2, x3], [2, 7, 1, 2, y0, y1, y2, y3]] = true := by
    show ((okLn _ && true) && ((okLn _ && decide (cmpN (1, 2, 1) (2, 7, 1) < 0)) && true)) = true
    rw [k0, k1]; rfl
  have c1 : chk 3 0 [[1, 2, 1, 1, x0, x1, x2, x3], [2, 7, 1, 2, y0, y1, y2, y3]] = 0 := by
    unfold chk
    rw [if_neg (by simp), if_neg (by omega), if_pos kf]
  have c2 : chk 3 1 [] = 0 := rfl
  have v1 : ver 3 0 zero16 [⟨3, 0, [[1, 2, 1, 1, x0, x1, x2, x3], [2, 7, 1, 2, y0, y1, y2, y3]], zero16⟩, ⟨3, 1, [], [d0, d1, d2, d3, d4, d5, d6, d7, d8, d9, d10, d11, d12, d13, d14, d15]⟩] = (2, 0) := by
    show (if chk 3 0 [[1, 2, 1, 1, x0, x1, x2, x3], [2, 7, 1, 2, y0, y1, y2, y3]] ≠ 0 then ((0 : Int), chk 3 0 [[1, 2, 1, 1, x0, x1, x2, x3], [2, 7, 1, 2, y0, y1, y2, y3]]) else if (3 : Int) ≠ 3 then (0, 1) else if (0 : Int) ≠ 0 then (0, 25) else if zero16 ≠ zero16 then (0, 7) else ver 3 1 (dgR 3 0 [[1, 2, 1, 1, x0, x1, x2, x3], [2, 7, 1, 2, y0, y1, y2, y3]] zero16) [⟨3, 1, [], [d0, d1, d2, d3, d4, d5, d6, d7, d8, d9, d10, d11, d12, d13, d14, d15]⟩]) = _
    rw [c1, if_neg (by simp), if_neg (by simp), if_neg (by simp), if_neg (by simp), hD]
    show (if chk 3 1 [] ≠ 0 then ((1 : Int), chk 3 1 []) else if (3 : Int) ≠ 3 then (1, 1) else if (1 : Int) ≠ 1 then (1, 25) else if [d0, d1, d2, d3, d4, d5, d6, d7, d8, d9, d10, d11, d12, d13, d14, d15] ≠ [d0, d1, d2, d3, d4, d5, d6, d7, d8, d9, d10, d11, d12, d13, d14, d15] then (1, 7) else (2, 0)) = _
    rw [c2, if_neg (by simp), if_neg (by simp), if_neg (by simp), if_neg (by simp)]
  have v2 : ver 3 0 zero16 [⟨3, 1, [], [d0, d1, d2, d3, d4, d5, d6, d7, d8, d9, d10, d11, d12, d13, d14, d15]⟩] = (0, 25) := rfl
  have hV1 := t_Verify 3 [⟨3, 0, [[1, 2, 1, 1, x0, x1, x2, x3], [2, 7, 1, 2, y0, y1, y2, y3]], zero16⟩, ⟨3, 1, [], [d0, d1, d2, d3, d4, d5, d6, d7, d8, d9, d10, d11, d12, d13, d14, d15]⟩] (Nat.le_of_ble_eq_true rfl) (fun r hr => by
    simp only [List.mem_cons, List.not_mem_nil, or_false] at hr
    rcases hr with rfl | rfl
    · exact hr1
    · exact hr2)
  rw [v1] at hV1
  have hV2 := t_Verify 3 [⟨3, 1, [], [d0, d1, d2, d3, d4, d5, d6, d7, d8, d9, d10, d11, d12, d13, d14, d15]⟩] (Nat.le_of_ble_eq_true rfl) (fun r hr => by
    simp only [List.mem_cons, List.not_mem_nil, or_false] at hr
    rw [hr]
    exact hr2)
  rw [v2] at hV2
  have hF := t_Find 3 0 [[1, 2, 1, 1, x0, x1, x2, x3], [2, 7, 1, 2, y0, y1, y2, y3]] zero16 2 7 1 (Nat.le_of_ble_eq_true rfl) (fun x h => (hL8 x h).1) rfl
  have hF2 : fnd [[1, 2, 1, 1, x0, x1, x2, x3], [2, 7, 1, 2, y0, y1, y2, y3]] 2 7 1 = .tup [ln [2, 7, 1, 2, y0, y1, y2, y3], .bool true] := rfl
  rw [hF2] at hF
  have hCk := t_Check 3 0 [[1, 2, 1, 1, x0, x1, x2, x3], [2, 7, 1, 2, y0, y1, y2, y3]] zero16 (Nat.le_of_ble_eq_true rfl) (fun x h => (hL8 x h).1) rfl
  rw [c1] at hCk
  have q1 : DCalls Tryz.prog 29 [ln [0, 0, 0, 5, 0, 0, 0, 0], ln [0, 0, 0, 3, 0, 0, 0, 0]] (verT (2, 0)) := t_Compare _ _ rfl rfl (by unfold i64; decide) (by unfold i64; decide) (by decide) (by decide)
  have q2 : DCalls Tryz.prog 29 [ln [0, 0, 0, 3, 0, 0, 0, 0], ln [0, 0, 0, 5, 0, 0, 0, 0]] (verT (0, 26)) := t_Compare _ _ rfl rfl (by unfold i64; decide) (by unfold i64; decide) (by decide) (by decide)
  have q3 : DCalls Tryz.prog 29 [ln [0, 0, 0, 5, 1, 0, 0, 0], ln [0, 0, 0, 5, 0, 0, 0, 0]] (verT (0, 26)) := t_Compare _ _ rfl rfl (by unfold i64; decide) (by unfold i64; decide) (by decide) (by decide)
  have o1 := t_OfH ha okHa
  have o2 := t_OfH hb okHb
  have o3 := t_sAdd _ _ (ofH_isS ha) (ofH_isS hb)
  rw [show sAdd (ofH ha) (ofH hb) = [y0, y1, y2, y3] by rw [← hy]; unfold Sab Sa; rw [sAdd0 (ofH_isS ha)]] at o3
  refine wpC_cut (β := Unit) (fun _ => {sl := [(6, .ptr 6 0), (7, .ptr 7 0), (10, .ptr 10 0), (11, .t (I 0)), (12, .ptr 12 0), (13, .t (I 0)), (14, .t (I 2)), (15, .t (I 0))], bx := [(6, .d 10 (ha.map I)), (7, .d 10 (hb.map I)), (10, .d 19 (rcC 3 0 [[1, 2, 1, 1, x0, x1, x2, x3], [2, 7, 1, 2, y0, y1, y2, y3]] zero16)), (12, .d 19 (rcC 3 1 [] [d0, d1, d2, d3, d4, d5, d6, d7, d8, d9, d10, d11, d12, d13, d14, d15]))]}) (fun _ => True) ?_ fun _ _ => ?_
  · repeat' ((conv => whnf); first | refine k_call _ (hV1) ?_ | refine aS ?_ | fail)
    exact ⟨(), trivial, ⟨⟨.same _, .same _, .same _, .same _, .same _, .same _, .same _, .same _, trivial⟩, ⟨.same _, .same _, .same _, .same _, trivial⟩, trivial, rfl, fun _ _ _ => trivial, rfl⟩⟩
  refine wpC_cut (β := Unit) (fun _ => {sl := [(6, .ptr 6 0), (7, .ptr 7 0), (10, .ptr 10 0), (11, .t (I 0)), (12, .ptr 12 0), (13, .t (I 0)), (14, .t (I 2)), (15, .t (I 0)), (16, .t (I 0)), (17, .t (I 25))], bx := [(6, .d 10 (ha.map I)), (7, .d 10 (hb.map I)), (10, .d 19 (rcC 3 0 [[1, 2, 1, 1, x0, x1, x2, x3], [2, 7, 1, 2, y0, y1, y2, y3]] zero16)), (12, .d 19 (rcC 3 1 [] [d0, d1, d2, d3, d4, d5, d6, d7, d8, d9, d10, d11, d12, d13, d14, d15]))]}) (fun _ => True) ?_ fun _ _ => ?_
  · repeat' ((conv => whnf); first | refine k_call _ (hV2) ?_ | refine aS ?_ | fail)
    exact ⟨(), trivial, ⟨⟨.same _, .same _, .same _, .same _, .same _, .same _, .same _, .same _, .same _, .same _, trivial⟩, ⟨.same _, .same _, .same _, .same _, trivial⟩, trivial, rfl, fun _ _ _ => trivial, rfl⟩⟩
  refine wpC_cut (β := Unit) (fun _ => {sl := [(6, .ptr 6 0), (7, .ptr 7 0), (10, .ptr 10 0), (11, .t (I 0)), (12, .ptr 12 0), (13, .t (I 0)), (14, .t (I 2)), (15, .t (I 0)), (16, .t (I 0)), (17, .t (I 25)), (18, .ptr 18 0), (19, .t (.bool true))], bx := [(6, .d 10 (ha.map I)), (7, .d 10 (hb.map I)), (10, .d 19 (rcC 3 0 [[1, 2, 1, 1, x0, x1, x2, x3], [2, 7, 1, 2, y0, y1, y2, y3]] zero16)), (12, .d 19 (rcC 3 1 [] [d0, d1, d2, d3, d4, d5, d6, d7, d8, d9, d10, d11, d12, d13, d14, d15])), (18, .d 8 ([2, 7, 1, 2, y0, y1, y2, y3].map I))]}) (fun _ => True) ?_ fun _ _ => ?_
  · repeat' ((conv => whnf); first | refine k_call _ (hF) ?_ | refine aS ?_ | fail)
    exact ⟨(), trivial, ⟨⟨.same _, .same _, .same _, .same _, .same _, .same _, .same _, .same _, .same _, .same _, .same _, .same _, trivial⟩, ⟨.same _, .same _, .same _, .same _, .same _, trivial⟩, trivial, rfl, fun _ _ _ => trivial, rfl⟩⟩
  repeat' ((conv => whnf); first | refine k_call _ (q1) ?_ | refine k_call _ (q2) ?_ | refine aS ?_ | fail)
  refine wpC_cut (β := Unit) (fun _ => {sl := [(6, .ptr 6 0), (7, .ptr 7 0), (10, .ptr 10 0), (11, .t (I 0)), (12, .ptr 12 0), (13, .t (I 0)), (14, .t (I 2)), (15, .t (I 0)), (16, .t (I 0)), (17, .t (I 25)), (18, .ptr 18 0), (19, .t (.bool true)), (20, .t (I 2)), (21, .t (I 0)), (23, .t (I 26)), (25, .t (I 26))], bx := [(6, .d 10 (ha.map I)), (7, .d 10 (hb.map I)), (10, .d 19 (rcC 3 0 [[1, 2, 1, 1, x0, x1, x2, x3], [2, 7, 1, 2, y0, y1, y2, y3]] zero16)), (12, .d 19 (rcC 3 1 [] [d0, d1, d2, d3, d4, d5, d6, d7, d8, d9, d10, d11, d12, d13, d14, d15])), (18, .d 8 ([2, 7, 1, 2, y0, y1, y2, y3].map I))]}) (fun _ => True) ?_ fun _ _ => ?_
  · repeat' ((conv => whnf); first | refine k_call _ (q3) ?_ | refine aS ?_ | fail)
    exact ⟨(), trivial, ⟨⟨.same _, .same _, .same _, .same _, .same _, .same _, .same _, .same _, .same _, .same _, .same _, .same _, .same _, .same _, .same _, .same _, trivial⟩, ⟨.same _, .same _, .same _, .same _, .same _, trivial⟩, trivial, rfl, fun _ _ _ => trivial, rfl⟩⟩
  refine wpC_cut (β := Unit) (fun _ => {sl := [(6, .ptr 6 0), (7, .ptr 7 0), (14, .t (I 2)), (15, .t (I 0)), (16, .t (I 0)), (17, .t (I 25)), (18, .ptr 18 0), (19, .t (.bool true)), (20, .t (I 2)), (21, .t (I 0)), (23, .t (I 26)), (25, .t (I 26)), (26, .t (.bool true))], bx := [(6, .d 10 (ha.map I)), (7, .d 10 (hb.map I)), (18, .d 8 ([2, 7, 1, 2, y0, y1, y2, y3].map I))]}) (fun _ => True) ?_ fun _ _ => ?_
  · have eD : eqL ([d0, d1, d2, d3, d4, d5, d6, d7, d8, d9, d10, d11, d12, d13, d14, d15].map Y) ([d0, d1, d2, d3, d4, d5, d6, d7, d8, d9, d10, d11, d12, d13, d14, d15].map Y) = true := eqY (by simp)
    repeat' ((conv => whnf); first | refine k_call _ (hCk) ?_ | refine k_call _ (hD1) ?_ | refine nb_ true eD ?_ | refine nT_ ?_ | refine aE1 ?_ | (refine And.intro (by first | (exact ⟨fits16 (a := [d0, d1, d2, d3, d4, d5, d6, d7, d8, d9, d10, d11, d12, d13, d14, d15]) rfl, fits16 (a := [d0, d1, d2, d3, d4, d5, d6, d7, d8, d9, d10, d11, d12, d13, d14, d15]) rfl⟩; done) | fail) ?_) | refine aS ?_ | fail)
    exact ⟨(), trivial, ⟨⟨.same _, .same _, .same _, .same _, .same _, .same _, .same _, .same _, .same _, .same _, .same _, .same _, .same _, trivial⟩, ⟨.same _, .same _, .same _, trivial⟩, trivial, rfl, fun _ _ _ => trivial, rfl⟩⟩
  have eY : eqL ([y0, y1, y2, y3].map I) ([y0, y1, y2, y3].map I) = true := eqI (by simp)
  repeat' ((conv => whnf); first | exact trivial | refine k_call _ (o1) ?_ | refine k_call _ (o2) ?_ | refine k_call _ (o3) ?_ | refine nb_ true eY ?_ | refine nT_ ?_ | refine aE1 ?_ | refine rb1 ?_ | (refine And.intro (by first | (exact ⟨fits4 (a := [y0, y1, y2, y3]) rfl, fits4 (a := [y0, y1, y2, y3]) rfl⟩; done) | fail) ?_) | refine aS ?_ | fail)
end Go.RC
end
section
namespace Go.Proofs
open Go.Shelf
def Tryz.laysGrow86_ren : Go.Shelf.Ren := ⟨fun | 4 => 86 | n => n, fun | 22 => 33 | 25 => 41 | 3 => 3 | 4 => 4 | 9 => 9 | 20 => 20 | 0 => 0 | n => n, fun | n => n⟩
theorem Tryz.laysGrow86 : Go.Proofs.Lays8.n4 Tryz.prog Tryz.laysGrow86_ren := {
  mixed := by kernel_rfl
  f4 := ⟨Tryz.f86.name, by decide, Tryz.func86.trans (congrArg some (by kernel_rfl))⟩
  t0 := Tryz.underlying0
  a0 := Tryz.isAgg0
  z0 := Tryz.sizeOf0
  v0 := Tryz.zeroValue0
  t3 := Tryz.underlying3
  a3 := Tryz.isAgg3
  z3 := Tryz.sizeOf3
  v3 := Tryz.zeroValue3
  t4 := Tryz.underlying4
  a4 := Tryz.isAgg4
  z4 := Tryz.sizeOf4
  v4 := Tryz.zeroValue4
  t9 := Tryz.underlying9
  a9 := Tryz.isAgg9
  z9 := Tryz.sizeOf9
  v9 := Tryz.zeroValue9
  t20 := Tryz.underlying20
  a20 := Tryz.isAgg20
  z20 := Tryz.sizeOf20
  v20 := Tryz.zeroValue20
  t22 := Tryz.underlying33
  a22 := Tryz.isAgg33
  z22 := Tryz.sizeOf33
  v22 := Tryz.zeroValue33 }
end Go.Proofs
end
section
namespace Go.RC
open Go Go.DL Go.Proofs
set_option maxRecDepth 100000
noncomputable def c47 : DCode := (.seq (.region [oo 2 (.mov (.const .nil))] []) (.seq (.region [oo 3 (.mov (Kc 0))] []) (.seq (.seq (.region [mv 9 0,oo 10 (.len (tm 9)),oo 11 (.mov (Kc 0))] []) (.block 0 (.loop (.seq (.region [oo 12 (.bin .lss (tm 11) (tm 10))] []) (.seq (.cond (tm 12) .skip (.exit 0)) (.seq (.block 1 (.seq (.region [oo 13 (.idxL 1 (tm 9) (tm 11)),oo 14 (.load 1 false (tm 13)),mv 5 14] []) (.seq (.region [mv 15 3,mv 16 5,oo 17 (.len (tm 16)),oo 18 (.bin .add (tm 15) (tm 17)),mv 3 18] []) (.seq (.region [mv 19 3,oo 20 (.bin .lss (tm 19) (Kc 0))] []) (.cond (tm 20) (.region [oo 21 (.bad),o0 (.bad)] []) .skip))))) (.region [oo 22 (.bin .add (tm 11) (Kc 1)),mv 11 22] []))))))) (.seq (.region [mv 23 3,oo 24 (.inl 86 [(.const .nil), (tm 23)]),mv 6 24] []) (.seq (.seq (.region [mv 25 0,oo 26 (.len (tm 25)),oo 27 (.mov (Kc 0))] []) (.block 2 (.loop (.seq (.region [oo 28 (.bin .lss (tm 27) (tm 26))] []) (.seq (.cond (tm 28) .skip (.exit 2)) (.seq (.block 3 (.seq (.region [oo 29 (.idxL 1 (tm 25) (tm 27)),oo 30 (.load 1 false (tm 29)),mv 8 30] []) (.region [mv 31 6,mv 32 8,oo 33 (.append 33 41 19 56 (tm 31) (tm 32)),mv 6 33] []))) (.region [oo 34 (.bin .add (tm 27) (Kc 1)),mv 27 34] []))))))) (.seq (.region [mv 35 6,mv 2 35] []) .ret))))))
theorem l47 : (Tryz.f47.body.bind (lowC Tryz.prog 36 [86])) = some c47 := by kernel_rfl
noncomputable def c50 : DCode := (.seq (.region [oo 1 (.box 1 (tm 0)),oo 2 (.mov (.const .nilfn))] []) (.seq (.region [oo 3 (.mkfn 90 [(tm 1)]),mv 2 3] []) .ret))
theorem l50 : (Tryz.f50.body.bind (lowC Tryz.prog 4 [])) = some c50 := by kernel_rfl
noncomputable def c52 : DCode := (.seq (.region [oo 1 (.box 1 (tm 0)),oo 2 (.mov (.const .nilfn))] []) (.seq (.region [oo 3 (.mkfn 91 [(tm 1)]),mv 2 3] []) .ret))
theorem l52 : (Tryz.f52.body.bind (lowC Tryz.prog 4 [])) = some c52 := by kernel_rfl
noncomputable def c91 : DCode := (.seq (.region [oo 4 (.load 1 false (tm 1)),oo 5 (.mrng (tm 4))] []) (.block 0 (.loop (.seq (.region [oo 6 (.mnext (tm 5)),oo 7 (.ext (tm 6) 0)] []) (.seq (.cond (tm 7) .skip (.exit 0)) (.block 1 (.seq (.region [oo 8 (.ment (tm 5)),oo 9 (.ext (tm 8) 0),oo 3 (.alloc [(Zi 0), (Zi 0)]),o0 (.store 2 (tm 3) (tm 9))] []) (.seq (.sem 14 (rg0 3 Tryz.f91.body)) (.cond (tm 13) .ret .skip)))))))))
theorem l91 : (Tryz.f91.body.bind (lowC Tryz.prog 14 [1000003])) = some c91 := by kernel_rfl
noncomputable def c90 : DCode := (.seq (.region [oo 4 (.load 1 false (tm 1)),oo 5 (.mrng (tm 4))] []) (.block 0 (.loop (.seq (.region [oo 6 (.mnext (tm 5)),oo 7 (.ext (tm 6) 0)] []) (.seq (.cond (tm 7) .skip (.exit 0)) (.block 1 (.seq (.region [oo 8 (.ment (tm 5)),oo 9 (.ext (tm 8) 0),oo 3 (.alloc [(Zi 0), (Zi 0)]),o0 (.store 2 (tm 3) (tm 9))] []) (.seq (.sem 14 (rg0 3 Tryz.f90.body)) (.cond (tm 13) .ret .skip)))))))))
theorem l90 : (Tryz.f90.body.bind (lowC Tryz.prog 14 [1000003])) = some c90 := by kernel_rfl
noncomputable def c88 : DCode := (.seq (.region [oo 2 (.mov (.const .nil))] []) (.seq (.region [mv 3 0,oo 4 (.inl 138 [(.const .nil), (tm 3)]),mv 2 4] []) .ret))
theorem l88 : (Tryz.f88.body.bind (lowC Tryz.prog 5 [138])) = some c88 := by kernel_rfl
noncomputable def c49 : DCode := (.seq (.region [oo 4 (.mov (.const .nil))] []) (.seq (.region [mv 6 0,oo 7 (.inl 88 [(tm 6)]),mv 5 7] []) (.seq (.region [mv 8 5,mv 9 1,oo 10 (.inl 89 [(tm 8), (tm 9)])] []) (.seq (.region [mv 11 5,mv 4 11] []) .ret))))
theorem l49 : (Tryz.f49.body.bind (lowC Tryz.prog 12 [88, 89])) = some c49 := by kernel_rfl
noncomputable def c51 : DCode := (.seq (.region [oo 2 (.box 2 (tm 0)),oo 3 (.box 2 (tm 1)),oo 4 (.mov (Kc 0))] []) (.seq (.region [oo 5 (.offA 0 (tm 2)),oo 6 (.load 1 false (tm 5)),oo 7 (.offA 0 (tm 3)),oo 8 (.load 1 false (tm 7)),oo 9 (.call 85 [(tm 6), (tm 8)]),oo 10 (.offA 1 (tm 2)),oo 11 (.load 1 false (tm 10)),oo 12 (.offA 1 (tm 3)),oo 13 (.load 1 false (tm 12)),oo 14 (.call 85 [(tm 11), (tm 13)]),oo 15 (.buildT 1 2 [(Zi 0)] [(0, (tm 9)), (1, (tm 14))]),oo 16 (.call 84 [(tm 15)]),mv 4 16] []) .ret))
theorem l51 : (Tryz.f51.body.bind (lowC Tryz.prog 17 [])) = some c51 := by kernel_rfl
noncomputable def c54 : DCode := (.seq (.region [oo 3 (.box 2 (tm 1)),oo 4 (.mov (Kc 0))] []) (.seq (.seq (.region [oo 5 (.mov (Kc 0))] []) (.block 0 (.loop (.seq (.seq (.region [mv 6 5,mv 7 0,oo 8 (.len (tm 7)),oo 9 (.bin .lss (tm 6) (tm 8))] []) (.cond (tm 9) .skip (.exit 0))) (.seq (.block 1 (.seq (.region [mv 12 0,mv 13 5,oo 14 (.idxL 19 (tm 12) (tm 13)),oo 15 (.load 19 true (tm 14)),oo 16 (.call 55 [(tm 15)]),oo 17 (.load 2 true (tm 3)),oo 18 (.eqv false [.int .i64, .int .i64] (tm 16) (tm 17))] []) (.cond (tm 18) (.seq (.region [mv 19 5,mv 4 19] []) .ret) .skip))) (.region [mv 10 5,oo 11 (.bin .add (tm 10) (Kc 1)),mv 5 11] [])))))) (.seq (.region [oo 4 (.mov (.const (.int .i64 (-1))))] []) .ret)))
theorem l54 : (Tryz.f54.body.bind (lowC Tryz.prog 20 [])) = some c54 := by kernel_rfl
noncomputable def c55 : DCode := (.seq (.region [oo 1 (.box 19 (tm 0)),oo 2 (.alloc [(Zi 0), (Zi 0)])] []) (.seq (.region [oo 3 (.offA 0 (tm 1)),oo 4 (.load 1 false (tm 3)),oo 5 (.offA 1 (tm 1)),oo 6 (.load 1 false (tm 5)),oo 7 (.build [(Zi 0), (Zi 0)] [(0, 1, (tm 4)), (1, 1, (tm 6))]),o0 (.store 2 (tm 2) (tm 7))] []) .ret))
theorem l55 : (Tryz.f55.body.bind (lowC Tryz.prog 8 [])) = some c55 := by kernel_rfl
noncomputable def c56 : DCode := (.seq (.region [oo 3 (.box 19 (tm 1)),oo 4 (.mov (.const .nil))] []) (.seq (.region [oo 5 (.mov (Kc 0))] []) (.seq (.block 0 (.loop (.seq (.seq (.region [mv 7 5,mv 8 0,oo 9 (.len (tm 8)),oo 10 (.bin .lss (tm 7) (tm 9)),mv 11 10,mT 12 0 11,mT 13 5 11,oT 14 11 (.idxL 19 (tm 12) (tm 13)),oT 15 11 (.load 19 true (tm 14)),oT 16 11 (.call 55 [(tm 15)]),oT 17 11 (.load 19 true (tm 3)),oT 18 11 (.call 55 [(tm 17)]),oT 19 11 (.call 92 [(tm 16), (tm 18)]),oo 20 (.pick (tm 11) (tm 19) (.const (.bool false)))] []) (.cond (tm 20) .skip (.exit 0))) (.block 1 (.region [mv 21 5,oo 22 (.bin .add (tm 21) (Kc 1)),mv 5 22] []))))) (.seq (.region [oo 6 (.mov (.const .nil))] []) (.seq (.region [mv 23 6,mv 24 0,mv 25 5,oo 26 (.slice 19 (tm 24) none (some (tm 25))),oo 27 (.append 33 41 19 56 (tm 23) (tm 26)),mv 6 27] []) (.seq (.region [mv 28 6,oo 29 (.load 19 true (tm 3)),oo 30 (.buildF 19 1 [(Zi 0), (Zi 0), .nil, (Ui 0), (Ui 0), (Ui 0), (Ui 0), (Ui 0), (Ui 0), (Ui 0), (Ui 0), (Ui 0), (Ui 0), (Ui 0), (Ui 0), (Ui 0), (Ui 0), (Ui 0), (Ui 0)] [(0, (tm 29))]),oo 31 (.append 33 41 19 56 (tm 28) (tm 30)),mv 6 31] []) (.seq (.region [mv 32 6,mv 33 0,mv 34 5,oo 35 (.slice 19 (tm 33) (some (tm 34)) none),oo 36 (.append 33 41 19 56 (tm 32) (tm 35)),mv 4 36] []) .ret)))))))
theorem l56 : (Tryz.f56.body.bind (lowC Tryz.prog 37 [8000030])) = some c56 := by kernel_rfl
noncomputable def c57 : DCode := (.seq (.region [oo 3 (.box 2 (tm 1)),oo 4 (.mov (.const .nil))] []) (.seq (.region [oo 5 (.mov (Kc 0))] []) (.seq (.block 0 (.loop (.seq (.seq (.region [mv 7 5,mv 8 0,oo 9 (.len (tm 8)),oo 10 (.bin .lss (tm 7) (tm 9)),mv 11 10,mT 12 0 11,mT 13 5 11,oT 14 11 (.idxL 2 (tm 12) (tm 13)),oT 15 11 (.load 2 true (tm 14)),oT 16 11 (.load 2 true (tm 3)),oT 17 11 (.call 92 [(tm 15), (tm 16)]),oo 18 (.pick (tm 11) (tm 17) (.const (.bool false)))] []) (.cond (tm 18) .skip (.exit 0))) (.block 1 (.region [mv 19 5,oo 20 (.bin .add (tm 19) (Kc 1)),mv 5 20] []))))) (.seq (.seq (.region [mv 21 5,mv 22 0,oo 23 (.len (tm 22)),oo 24 (.bin .lss (tm 21) (tm 23)),mv 25 24,mT 26 0 25,mT 27 5 25,oT 28 25 (.idxL 2 (tm 26) (tm 27)),oT 29 25 (.load 2 true (tm 28)),oT 30 25 (.load 2 true (tm 3)),oT 31 25 (.eqv false [.int .i64, .int .i64] (tm 29) (tm 30)),oo 32 (.pick (tm 25) (tm 31) (.const (.bool false)))] []) (.cond (tm 32) (.seq (.region [mv 33 0,mv 4 33] []) .ret) .skip)) (.seq (.region [oo 6 (.mov (.const .nil))] []) (.seq (.region [mv 34 6,mv 35 0,mv 36 5,oo 37 (.slice 2 (tm 35) none (some (tm 36))),oo 38 (.append 50 103 2 16 (tm 34) (tm 37)),mv 6 38] []) (.seq (.region [mv 39 6,oo 40 (.load 2 true (tm 3)),oo 41 (.buildF 2 1 [(Zi 0), (Zi 0)] [(0, (tm 40))]),oo 42 (.append 50 103 2 16 (tm 39) (tm 41)),mv 6 42] []) (.seq (.region [mv 43 6,mv 44 0,mv 45 5,oo 46 (.slice 2 (tm 44) (some (tm 45)) none),oo 47 (.append 50 103 2 16 (tm 43) (tm 46)),mv 4 47] []) .ret))))))))
theorem l57 : (Tryz.f57.body.bind (lowC Tryz.prog 48 [8000041])) = some c57 := by kernel_rfl
noncomputable def c92 : DCode := (.seq (.region [oo 2 (.box 2 (tm 0)),oo 3 (.box 2 (tm 1)),oo 4 (.mov (.const (.bool false)))] []) (.seq (.region [oo 5 (.offA 0 (tm 2)),oo 6 (.load 1 false (tm 5)),oo 7 (.offA 0 (tm 3)),oo 8 (.load 1 false (tm 7)),oo 9 (.bin .lss (tm 6) (tm 8)),mv 10 9,oF 11 10 (.offA 0 (tm 2)),oF 12 10 (.load 1 false (tm 11)),oF 13 10 (.offA 0 (tm 3)),oF 14 10 (.load 1 false (tm 13)),oF 15 10 (.bin .eql (tm 12) (tm 14)),mF 16 15 10,oT 17 16 (.offA 1 (tm 2)),oT 18 16 (.load 1 false (tm 17)),oT 19 16 (.offA 1 (tm 3)),oT 20 16 (.load 1 false (tm 19)),oT 21 16 (.bin .lss (tm 18) (tm 20)),oF 22 10 (.pick (tm 16) (tm 21) (.const (.bool false))),oo 23 (.pick (tm 10) (.const (.bool true)) (tm 22)),mv 4 23] []) .ret))
theorem l92 : (Tryz.f92.body.bind (lowC Tryz.prog 24 [])) = some c92 := by kernel_rfl
noncomputable def c18 : DCode := (.seq (.region [oo 2 (.box 4 (tm 0)),oo 3 (.box 4 (tm 1)),oo 4 (.mov (.const (.bool false)))] []) (.seq (.region [oo 9 (.offA 0 (tm 2)),oo 10 (.load 1 false (tm 9)),oo 11 (.offA 0 (tm 3)),oo 12 (.load 1 false (tm 11)),oo 13 (.call 16 [(tm 10), (tm 12)]),mv 5 13] []) (.seq (.region [oo 14 (.offA 1 (tm 2)),oo 15 (.load 1 false (tm 14)),oo 16 (.offA 1 (tm 3)),oo 17 (.load 1 false (tm 16)),oo 18 (.call 53 [(tm 15), (tm 17)]),mv 6 18] []) (.seq (.region [oo 19 (.offA 2 (tm 2)),oo 20 (.load 1 false (tm 19)),oo 21 (.offA 2 (tm 3)),oo 22 (.load 1 false (tm 21)),oo 23 (.call 53 [(tm 20), (tm 22)]),mv 7 23] []) (.seq (.region [oo 24 (.offA 3 (tm 2)),oo 25 (.load 1 false (tm 24)),oo 26 (.offA 3 (tm 3)),oo 27 (.load 1 false (tm 26)),oo 28 (.call 53 [(tm 25), (tm 27)]),mv 8 28] []) (.seq (.region [mv 29 5,mv 30 29,mT 31 6 30,oo 32 (.pick (tm 30) (tm 31) (.const (.bool false))),mv 33 32,mT 34 7 33,oo 35 (.pick (tm 33) (tm 34) (.const (.bool false))),mv 36 35,mT 37 8 36,oo 38 (.pick (tm 36) (tm 37) (.const (.bool false))),mv 4 38] []) .ret))))))
theorem l18 : (Tryz.f18.body.bind (lowC Tryz.prog 39 [])) = some c18 := by kernel_rfl
noncomputable def c53 : DCode := (.seq (.region [oo 4 (.mov (.const (.bool false)))] []) (.seq (.seq (.region [mv 6 0,oo 7 (.len (tm 6)),mv 8 1,oo 9 (.len (tm 8)),oo 10 (.bin .neq (tm 7) (tm 9))] []) (.cond (tm 10) (.seq (.region [oo 4 (.mov (.const (.bool false)))] []) .ret) .skip)) (.seq (.seq (.region [oo 5 (.mov (Kc 0))] []) (.block 0 (.loop (.seq (.seq (.region [mv 11 5,mv 12 0,oo 13 (.len (tm 12)),oo 14 (.bin .lss (tm 11) (tm 13))] []) (.cond (tm 14) .skip (.exit 0))) (.seq (.block 1 (.seq (.region [mv 17 0,mv 18 5,oo 19 (.idxL 2 (tm 17) (tm 18)),oo 20 (.load 2 true (tm 19)),mv 21 1,mv 22 5,oo 23 (.idxL 2 (tm 21) (tm 22)),oo 24 (.load 2 true (tm 23)),oo 25 (.eqv true [.int .i64, .int .i64] (tm 20) (tm 24))] []) (.cond (tm 25) (.seq (.region [oo 4 (.mov (.const (.bool false)))] []) .ret) .skip))) (.region [mv 15 5,oo 16 (.bin .add (tm 15) (Kc 1)),mv 5 16] [])))))) (.seq (.region [oo 4 (.mov (.const (.bool true)))] []) .ret))))
theorem l53 : (Tryz.f53.body.bind (lowC Tryz.prog 26 [])) = some c53 := by kernel_rfl
end Go.RC
end
section
namespace Go.DL
open Go.RowKit Go.Shelf Go.Proofs
section
variable [Glb] {P : Program} {ρ : Ren}
theorem fcalls_grow (L : Lays8.n4 P ρ) {i0 : TypeInfo} {z : Value} (hi0 : P.info? (ρ.t 25) = some i0) (hz0 : i0.zero = some z) (hs0 : 0 < i0.size) (hzs : z.cells.size = i0.size) (n : Nat) (hbig : n * i0.bytes ≤ 140737488355328) (h62 : n ≤ 4611686018427387904) (hc : Callable P (ρ.f 4)) :
    FCalls P (ρ.f 4) [.nil, .int .i64 n] (ρ.t 25) i0.size [] [] := by
  refine ⟨hc, fun S w vs _ _ hlen hrep => ?_⟩
  have hsz : vs.length = 2 := hlen
  match vs, hsz with
  | [a, b], _ =>
    have ha := hrep 0 a .nil rfl rfl
    have hb := hrep 1 b (.int .i64 n) rfl rfl
    cases ha
    cases hb
    have noLen : ∀ (i : Nat) (u : Value) (t : T), ([] : List Value)[i]? = some u → ([] : List T)[i]? = some t → t.flat = true ∧ Rep (fun _ _ => False) w u t := fun i u t hu => by simp at hu
    by_cases h0 : n = 0
    · subst h0
      refine (Any8.slices_Grow_room L none 0 0 0 w (Nat.le_refl _) (by omega) (by omega) (by omega)).mono ?_
      rintro e w' ⟨rfl, rfl⟩
      exact ⟨.slice none 0 0, [], rfl, Below.refl _ _, ⟨⟨[], ⟨by simp, .inl ⟨rfl, rfl⟩⟩, rfl, fun i x t hx => by simp at hx⟩, by simp, by simp, by simp⟩, rfl, fun i u t hu => by simp at hu⟩
    · refine (Any8.slices_Grow_grow L i0 z hi0 hz0 hs0 none 0 0 n [] w (Nat.le_refl _) (by omega) (by simpa using hbig) (by omega) (by simp) (fun _ => rfl) (fun a h => by cases h)).mono ?_
      rintro e w' ⟨rfl, rfl⟩
      have hge := grownCap_ge w (0 + n) 0 (ρ.t 25)
      have hml := grownCap_le_maxLen w (0 + n) 0 (ρ.t 25) (by unfold maxLen; omega)
      refine ⟨_, [], rfl, ((Below.refl _ _).drew).alloc (Nat.le_refl _) _, ⟨⟨[], ⟨by simp, .inr ⟨_, _, _, rfl, Nat.le_refl _, heap_alloc_new w.drew _, Nat.zero_le _, hml, ?_, by simp⟩⟩, rfl, fun i x t hx => by simp at hx⟩, by simp, by simp, by simp⟩, rfl, fun i u t hu => by simp at hu⟩
      rw [Array.size_append, Array.size_append, size_zeroCells, size_zeroCells, hzs, show ([] : List Value).toArray.size = 0 from rfl, Nat.zero_add, ← Nat.add_mul]
      congr 1
      omega
end
end Go.DL
end
section
namespace Go.RC
open Go Go.DL Go.Proofs
set_option maxRecDepth 100000
set_option maxHeartbeats 2000000
theorem infoR : (Tryz.prog.info? 41).map (fun i => (i.zero.map (fun z => z.cells.size), i.size, i.bytes)) = some (some 19, 19, 56) := by kernel_rfl
theorem f_Grow (n : Nat) (h : n < 2 ^ 40) : FCalls Tryz.prog 86 [.nil, I n] 41 19 [] [] := by
  have hi := infoR
  cases hj : Tryz.prog.info? 41 with
  | none => rw [hj] at hi; cases hi
  | some j =>
    rw [hj] at hi
    simp only [Option.map_some, Option.some.injEq, Prod.mk.injEq] at hi
    obtain ⟨h1, h2, h3⟩ := hi
    cases hz : j.zero with
    | none => rw [hz] at h1; cases h1
    | some z =>
      rw [hz] at h1
      have h1 : z.cells.size = 19 := by simpa using h1
      have := fcalls_grow Tryz.laysGrow86 (i0 := j) (z := z) hj hz (by omega) (by omega) n (by rw [h3]; omega) (by omega) (callable_of Tryz.func86 rfl rfl)
      rw [h2] at this
      exact this
def lensN (ls : List (List Rc)) : Nat := (ls.map List.length).sum
theorem lensN_take {ls : List (List Rc)} {k : Nat} (h : k < ls.length) : lensN (ls.take (k + 1)) = lensN (ls.take k) + ls[k].length := by
  unfold lensN
  rw [List.take_succ_eq_append_getElem h, List.map_append, List.sum_append]; simp
theorem lensN_le (ls : List (List Rc)) (k : Nat) : lensN (ls.take k) ≤ lensN ls := by
  conv => rhs; rw [← List.take_append_drop k ls]
  unfold lensN
  rw [List.map_append, List.sum_append]; omega
theorem lensN_flat (ls : List (List Rc)) : ls.flatten.length = lensN ls := by unfold lensN; rw [List.length_flatten]
theorem eltL {ls : List (List Rc)} {j : Nat} {l : List Rc} (h : ls[j]? = some l) : ((ls.map rcs)[j]?.getD .nil) = rcs l := by
  rw [List.getElem?_map, h]; rfl
theorem t_Concat (ls : List (List Rc)) (hl : ls.length < 2 ^ 20) (hn : lensN ls < 2 ^ 30) : DCalls Tryz.prog 47 [.slice 1 (ls.map rcs)] (rcs ls.flatten) := by
  refine dcalls_low (rs := [.tmp 2]) mixed Tryz.func47 l47 rfl rfl rfl (r := [rcs _]) (Nat.le_of_ble_eq_true rfl) ?_
  skip
  refine wpC_loopE 0 (α := Nat) (β := Unit) (fun k => {sl := [(0, .t (.slice 1 (ls.map rcs))), (2, .t .nil), (3, .t (I (lensN (ls.take k)))), (9, .t (.slice 1 (ls.map rcs))), (10, .t (I ls.length)), (11, .t (I k))], bx := []})
    (fun k => k ≤ ls.length) (fun k => ls.length - k) (fun _ => {sl := [(0, .t (.slice 1 (ls.map rcs))), (2, .t .nil), (3, .t (I (lensN ls)))], bx := []}) (fun _ => True) 0 (by omega) ?_ ?_ ?_
  · repeat' (first | ((refine leI ?_; simp; done)) | exact trivial | exact LeV.same _ | exact rfl | exact fun _ _ _ => trivial | refine And.intro ?_ ?_)
  · rintro k hk
    rcases Nat.lt_or_ge k ls.length with h2 | h2
    · have hke : ls[k]? = some ls[k] := List.getElem?_eq_getElem h2
      have hst := lensN_take h2
      have hle := lensN_le ls k
      have hle2 := lensN_le ls (k + 1)
      generalize ls[k] = l at hke hst
      have hib : 0 ≤ (k : Int) ∧ (k : Int) < ((ls.map rcs).length : Int) := by rw [List.length_map]; omega
      have hel : (ls.map rcs)[((k : Int)).toNat]?.getD .nil = rcs l := eltL (by rw [Int.toNat_natCast]; exact hke)
      have hw : IntKind.i64.wrap ((lensN (ls.take k) : Int) + (((l.map rc).length : Nat) : Int)) = (lensN (ls.take (k + 1)) : Int) := by
        rw [List.length_map, hst, wrap_id (by omega) (by omega)]; push_cast; rfl
      have hw2 := hw.symm
      have hneg : ¬ IntKind.i64.wrap ((lensN (ls.take k) : Int) + (((l.map rc).length : Nat) : Int)) < 0 := by rw [hw]; omega
      repeat' ((conv => whnf); first | refine now_D1 (by omega) ?_ | (refine nv_ (rcs l) (by first | (exact hel; done) | fail) ?_) | refine now_D0 hneg ?_ | refine nT_ ?_ | (refine And.intro (by first | (exact hib; done) | fail) ?_) | refine aS ?_ | fail)
      exact ⟨k + 1, by omega, by omega, by repeat' (first | (exact leI hw2) | exact trivial | exact LeV.same _ | exact rfl | exact fun _ _ _ => trivial | exact lI | refine And.intro ?_ ?_)⟩
    · have : k = ls.length := by omega
      subst this
      repeat' ((conv => whnf); first | refine now_D0 (by omega) ?_ | refine aS ?_ | fail)
      exact ⟨(), trivial, by repeat' (first | ((refine leI ?_; rw [List.take_length])) | exact trivial | exact LeV.same _ | exact rfl | exact fun _ _ _ => trivial | refine And.intro ?_ ?_)⟩
  rintro - -
  have hG := f_Grow (lensN ls) (by omega)
  repeat' ((conv => whnf); first | refine WC_own rfl hG ?_ | fail)
  refine wpC_loopE 2 (α := Nat × Nat) (β := Nat) (fun q => {sl := [(2, .t .nil), (6, .own q.1 41 19 ((ls.take q.2).flatten.map rc)), (25, .t (.slice 1 (ls.map rcs))), (26, .t (I ls.length)), (27, .t (I q.2))], bx := []})
    (fun q => q.2 ≤ ls.length ∧ (q.1 = 24 ∨ q.1 = 33)) (fun q => ls.length - q.2) (fun q => {sl := [(2, .t .nil), (6, .own q 41 19 (ls.flatten.map rc))], bx := []}) (fun q => q = 24 ∨ q = 33) (24, 0) (by simp) ?_ ?_ ?_
  · repeat' (first | ((refine leI ?_; simp; done)) | exact trivial | exact LeV.same _ | exact rfl | exact fun _ _ _ => trivial | refine And.intro ?_ ?_)
  · rintro ⟨q, k⟩ ⟨hk, hq⟩
    dsimp only at hk hq
    rcases Nat.lt_or_ge k ls.length with h2 | h2
    · have hke : ls[k]? = some ls[k] := List.getElem?_eq_getElem h2
      have hst := lensN_take h2
      have hfl : (ls.take (k + 1)).flatten = (ls.take k).flatten ++ ls[k] := by rw [List.take_succ_eq_append_getElem h2, List.flatten_append]; simp
      have hle := lensN_le ls (k + 1)
      have hfn := lensN_flat (ls.take k)
      generalize ls[k] = l at hke hst hfl
      have hib : 0 ≤ (k : Int) ∧ (k : Int) < ((ls.map rcs).length : Int) := by rw [List.length_map]; omega
      have hel : (ls.map rcs)[((k : Int)).toNat]?.getD .nil = rcs l := eltL (by rw [Int.toNat_natCast]; exact hke)
      have hroom : (((ls.take k).flatten.map rc).length + (l.map rc).length) * 56 ≤ 140737488355328 := by simp only [List.length_map]; omega
      rcases hq with rfl | rfl
      all_goals repeat' ((conv => whnf); first | refine now_D1 (by omega) ?_ | (refine nv_ (rcs l) (by first | (exact hel; done) | fail) ?_) | refine nT_ ?_ | (refine And.intro (by first | (exact hib; done) | (exact hroom; done) | fail) ?_) | refine aS ?_ | fail)
      all_goals refine ⟨(33, k + 1), ⟨by dsimp only; omega, .inr rfl⟩, by dsimp only; omega, ?_⟩
      all_goals repeat' (first | ((refine leOwn ?_; rw [hfl, List.map_append])) | exact trivial | exact LeV.same _ | exact rfl | exact fun _ _ _ => trivial | exact lI | refine And.intro ?_ ?_)
    · have : k = ls.length := by omega
      subst this
      repeat' ((conv => whnf); first | refine now_D0 (by omega) ?_ | refine aS ?_ | fail)
      exact ⟨q, hq, by repeat' (first | ((refine leOwn ?_; rw [List.take_length])) | exact trivial | exact LeV.same _ | exact rfl | exact fun _ _ _ => trivial | refine And.intro ?_ ?_)⟩
  rintro q hq
  repeat' ((conv => whnf); first | exact trivial | refine aS ?_ | fail)
end Go.RC
end
section
namespace Go.RC
open Go Go.DL Go.Proofs
set_option maxRecDepth 100000
set_option maxHeartbeats 1000000
abbrev S2 := Int × Int
abbrev sk (k : S2) : T := .agg [I k.1, I k.2]
abbrev sh2 : List Sh := [.int .i64, .int .i64]
abbrev mpS (ks : List S2) (vs : List T) : T := .mapd true sh2 (ks.map sk) vs
noncomputable abbrev fAS : Option Code := Tryz.f138.body
theorem bAS : fAS = some (.seq (.region 0 (ropsOf 0 fAS) false) (.seq (.seq (.region 1 (ropsOf 1 fAS) false)
    (.block 0 (.rangeFunc (.tmp 6) #[7] (.region 2 (ropsOf 2 fAS) false) (.block 1 (.region 3 (ropsOf 3 fAS) false))))) (.seq (.region 4 (ropsOf 4 fAS) false) .ret))) := by kernel_rfl
abbrev isAS2 : List DI := [⟨some 5, .alloc [I 0, I 0], none, []⟩, ⟨none, .store 2 (.tmp 5) (.tmp 7), none, [0, 0]⟩]
abbrev isAS3 : List DI := [⟨some 8, .load 1 false (.tmp 2), none, []⟩, ⟨some 9, .load 2 true (.tmp 5), none, []⟩, ⟨some 10, .buildS 103 2 1 [I 0, I 0] [(0, .tmp 9)], none, [1]⟩,
  ⟨some 11, .append 50 103 2 16 (.tmp 8) (.tmp 10), none, [0, 2]⟩, ⟨none, .store 1 (.tmp 2) (.tmp 11), none, [3, 3, 0, 1, 2, 3]⟩]
theorem bAS_0 : lowIs Tryz.prog 13 [] (ropsOf 0 fAS) (ropsOf 0 fAS).toList = some [⟨some 2, .box 1 (.tmp 0), none, []⟩, ⟨some 4, .mov (.const .nil), none, []⟩] := by kernel_rfl
theorem bAS_1 : lowIs Tryz.prog 13 [] (ropsOf 1 fAS) (ropsOf 1 fAS).toList = some [⟨some 6, .mov (.tmp 1), none, []⟩] := by kernel_rfl
theorem bAS_2 : lowIs Tryz.prog 13 [] (ropsOf 2 fAS) (ropsOf 2 fAS).toList = some isAS2 := by kernel_rfl
theorem bAS_3 : lowIs Tryz.prog 13 [] (ropsOf 3 fAS) (ropsOf 3 fAS).toList = some isAS3 := by kernel_rfl
theorem bAS_4 : lowIs Tryz.prog 13 [] (ropsOf 4 fAS) (ropsOf 4 fAS).toList = some [⟨some 12, .load 1 false (.tmp 2), none, []⟩, ⟨some 4, .mov (.tmp 12), none, [0, 0]⟩] := by kernel_rfl
noncomputable abbrev itAS (l d : Nat) (f : FuncId) (tmps : Array Value) : Base → World → Prop := iterCx l (readyRec f tmps 7 (.region 2 (ropsOf 2 fAS) false) (.block 1 (.region 3 (ropsOf 3 fAS) false)) d)
def permOfS (ks : List S2) (xs : List T) : Prop := ∃ js : List Nat, js.Perm (List.range ks.length) ∧ xs = js.map fun j => sk (ks.getD j (0, 0))
abbrev outS (ks : List S2) (ix : List Nat) : List T := ix.map fun j => sk (ks.getD j (0, 0))
abbrev esS (ks : List S2) (vs : List T) : List (T × T) := (ks.map sk).zip vs
theorem esS_get {ks : List S2} {vs : List T} {j : Nat} {e : T × T} (h : (esS ks vs)[j]? = some e) : e.1 = sk (ks.getD j (0, 0)) ∧ j < ks.length := by
  rw [List.getElem?_zip_eq_some] at h
  obtain ⟨h1, _⟩ := h
  rw [List.getElem?_map, Option.map_eq_some_iff] at h1
  obtain ⟨k, hk, hk2⟩ := h1
  refine ⟨?_, (List.getElem?_eq_some_iff.1 hk).1⟩
  rw [List.getD_eq_getElem?_getD, hk, ← hk2]; rfl
abbrev WS (l : Nat) (C : Base → World → Prop) (ks : List S2) (vs : List T) (ix : List Nat) (sl : List (Nat × V)) (bx : List (Nat × BX)) : Wk :=
  { sl := (0, .raw (.func (.yield l) #[] #[])) :: (5, .ptr 2005 0) :: sl, bx := (2, .v [.own 3011 103 2 (outS ks ix)]) :: (2005, .itd (esS ks vs) ix) :: bx, gh := [(0, [(2, .ptr 2 0)])], off := 2000, cx := C }
theorem sk_flat (js : List Nat) (ks : List S2) : ∀ t ∈ (js.map fun j => sk (ks.getD j (0, 0))).flatMap T.cells, t.flat = true := fun t ht => by
  simp only [List.mem_flatMap, List.mem_map] at ht
  obtain ⟨x, ⟨j, _, rfl⟩, hx⟩ := ht
  simp only [T.cells, List.mem_cons, List.not_mem_nil, or_false] at hx
  rcases hx with rfl | rfl <;> rfl
end Go.RC
end
section
namespace Go.RC
open Go Go.DL Go.Proofs
set_option maxRecDepth 100000
set_option maxHeartbeats 1000000
noncomputable abbrev fKR : Option Code := Tryz.f91.body
noncomputable abbrev yKR : Array Oper := ropsOf 3 fKR
theorem bKR : rg0 3 fKR = .region 3 yKR false := by kernel_rfl
theorem bKR_1 : lowK Tryz.prog 14 yKR [0, 1] = some [⟨some 10, .mov (.tmp 0), none, []⟩, ⟨some 11, .load 2 true (.tmp 3), none, []⟩] := by kernel_rfl
theorem bKR_2 : lowK Tryz.prog 14 yKR [3] = some [⟨some 13, .not (.tmp 12), none, [2]⟩] := by kernel_rfl
theorem bKR_o : ∃ o ats, yKR[2]? = some o ∧ o.guard = none ∧ o.op = .call { callee := .value (.tmp 10), args := #[.tmp 11], argTypes := ats } ∧ o.dst = some 12 := by
  refine ⟨((ropsOf 3 fKR)[2]?).getD default, (match (((ropsOf 3 fKR)[2]?).getD default).op with | .call c => c.argTypes | _ => #[]), by kernel_rfl, by kernel_rfl, by kernel_rfl, by kernel_rfl⟩
theorem cKR_wp (l d : Nat) (f : FuncId) (tmps : Array Value) (ht : tmps.size = 13) (ks : List S2) (vs : List T) (hvs : vs.length = ks.length) (hl : ks.length < 2 ^ 40) (st0 : St)
    (h0 : st0 = ({sl := [(2, .ptr 2 0), (6, .fn 91 [.t (.cptr [mpS ks vs] 0)])], bx := [(2, .v [.own 3011 103 2 []])]} : Wk).mk') :
    wpC Tryz.prog c91 (st0.iter l (readyRec f tmps 7 (.region 2 (ropsOf 2 fAS) false) (.block 1 (.region 3 (ropsOf 3 fAS) false)) d) [.t (.cptr [mpS ks vs] 0)] 2000)
      (PostI st0 fun st => st.sl 2 = .ptr 2 0 ∧ (∃ xs, permOfS ks xs ∧ st.bx 2 = some (.v [.own 3011 103 2 xs])) ∧ ∀ S w, st.cx S w) := by
  subst h0
  have hes : (esS ks vs).length = ks.length := by simp [hvs]
  repeat' ((conv => whnf); first | refine nT_ ?_ | refine aS ?_ | fail)
  refine wpC_loopE 0 (α := List Nat) (β := List Nat) (fun ix => WS l (itAS l d f tmps) ks vs ix [] []) (fun ix => ix.Nodup ∧ ∀ j ∈ ix, j < ks.length) (fun ix => ks.length - ix.length)
    (fun ix => WS l (itAS l d f tmps) ks vs ix [] []) (fun ix => ix.Perm (List.range ks.length)) [] ⟨List.nodup_nil, by simp⟩ ?_ ?_ ?_
  · exact ⟨⟨.same _, .same _, trivial⟩, ⟨.same _, .same _, trivial⟩, ⟨⟨.same _, trivial⟩, trivial⟩, rfl, fun _ _ h => h, rfl⟩
  · rintro ix ⟨hnd, hix⟩
    refine And.intro (fun j hj => by rw [hes]; exact hix j hj) (And.intro ?_ ?_)
    · intro j e he hj
      obtain ⟨he1, hjl⟩ := esS_get he
      have hent := ent_last _ ix j e he
      have hje : (ix ++ [j]).getLast?.getD 0 < (esS ks vs).length := by rw [List.getLast?_concat, hes]; exact hjl
      obtain ⟨e1, e2⟩ := e
      dsimp only at he1 hent
      subst he1
      have hixl : ix.length ≤ ks.length := by
        have := hnd.length_le_of_subset (l₂ := List.range ks.length) (fun j hj => List.mem_range.2 (hix j hj))
        simpa using this
      have hnd' : (ix ++ [j]).Nodup := by
        rw [List.nodup_append]
        exact ⟨hnd, by simp, fun a ha b hb => by rw [List.mem_singleton.1 hb]; exact fun e => hj (e ▸ ha)⟩
      have hix' : ∀ i ∈ ix ++ [j], i < ks.length := fun i hi => by
        rcases List.mem_append.1 hi with h | h
        · exact hix i h
        · rw [List.mem_singleton.1 h]; exact hjl
      have hixl' : (ix ++ [j]).length ≤ ks.length := by
        have := hnd'.length_le_of_subset (l₂ := List.range ks.length) (fun j hj => List.mem_range.2 (hix' j hj))
        simpa using this
      repeat' ((conv => whnf); first | refine nv_ (.tup [sk (ks.getD j (0, 0)), e2]) hent ?_ | (refine And.intro (by first | (exact ⟨by simp, hje⟩; done) | fail) ?_) | refine aS ?_ | fail)
      obtain ⟨o, ats, o1, o2, o3, o4⟩ := bKR_o
      have hsem : ∀ (st : St) (Q : DExit → St → Prop), SemC Tryz.prog 14 (.region 3 yKR false) st Q → SemC Tryz.prog 14 (rg0 3 fKR) st Q := fun st Q h => by rw [bKR]; exact h
      refine hsem _ _ ?_
      refine yield_sem (P := Tryz.prog) (k1 := [0, 1]) (k := 2) (k2 := [3]) (by kernel_rfl) bKR_1 rfl bKR_2 rfl o1 o2 o3 o4 (by decide) (p := 7) ht (by decide) bAS_2 rfl bAS_3 rfl 3000 (l := l) (fn := f) (dd := d) (id1 := 2) (id2 := 3) (bl := 1) ?_
      refine ⟨fun _ _ h => h, rfl, ?_⟩
      repeat' ((conv => whnf); first | (refine And.intro (by first | (exact fun _ _ => trivial; done) | (exact ⟨rfl, Nat.le_of_ble_eq_true rfl⟩; done) | ((simp; omega); done) | (exact .inl rfl; done) | fail) ?_) | refine aS ?_ | fail)
      refine ⟨ix ++ [j], ⟨hnd', hix'⟩, by rw [List.length_append]; simp at hixl' ⊢; omega, ?_⟩
      refine ⟨⟨.same _, .same _, trivial⟩, ⟨?_, .same _, trivial⟩, ⟨⟨.same _, trivial⟩, trivial⟩, rfl, fun _ _ h => h, rfl⟩
      refine .v _ _ ⟨leOwn ?_, trivial⟩
      simp [outS, putL]
    · intro hall
      skip
      refine ⟨ix, range_perm hnd hix (fun j hj => hall j (by rw [hes]; exact hj)), ?_⟩
      exact ⟨⟨.same _, .same _, trivial⟩, ⟨.same _, .same _, trivial⟩, ⟨⟨.same _, trivial⟩, trivial⟩, rfl, fun _ _ h => h, rfl⟩
  rintro ix hp
  repeat' ((conv => whnf); first | refine aS ?_ | fail)
  exact ⟨⟨_, ⟨ix, hp, rfl⟩, rfl⟩, fun _ _ => trivial⟩
abbrev keysR (ks : List S2) (vs : List T) : T := .clos 91 [.cptr [mpS ks vs] 0]
theorem f_AppendSeqR (ks : List S2) (vs : List T) (hvs : vs.length = ks.length) (hl : ks.length < 2 ^ 40) : FCallsR Tryz.prog 138 [.nil, keysR ks vs] 103 2 (permOfS ks) := by
  refine fcallsR_mark Tryz.func138 bAS rfl (Nat.le_of_ble_eq_true rfl) ?_
  intro S w a0 hsr hdf
  let K0 : St → Prop := fun st => wpIs Tryz.prog [⟨some 6, .mov (.tmp 1), none, []⟩] st fun st =>
    weak { sl := [(2, .ptr 2 0), (6, .t (keysR ks vs))], bx := [(2, .d 1 [.nil])] } st
  have hK0 : wpIs Tryz.prog [⟨some 2, .box 1 (.tmp 0), none, []⟩, ⟨some 4, .mov (.const .nil), none, []⟩] (initSt [.nil, keysR ks vs]) K0 := by
    repeat' ((conv => whnf); first | refine aS ?_ | fail)
    exact ⟨⟨.same _, .same _, trivial⟩, ⟨.same _, trivial⟩, trivial, rfl, fun _ _ _ => trivial, rfl⟩
  refine wp_seq (region_wp (X := []) (N := 13) hsr bAS_0 (fun a1 w1 h1 => ?_) hK0)
  obtain ⟨E1, s1, rfl, k1, k2, k3⟩ := h1
  refine wp_seq (wp_seq (region_wp (X := []) k1 bAS_1 (fun a2 w2 h2 => ?_) k3))
  obtain ⟨E2, s2, rfl, k4, k5, k6⟩ := h2
  obtain ⟨E3, e3, k7⟩ := k4.weak k6
  rw [← e3]
  have k8 := k7.reread (k := 6) (k7.sl 6).clos_fn
  obtain ⟨E4, e4, k10⟩ := SR.weak (a := a2) (s := {sl := [(2, .ptr 2 0), (6, .fn 91 [.t (.cptr [mpS ks vs] 0)])], bx := [(2, .v [.own 3011 103 2 []])]}) k8 ⟨⟨.same _, .same _, trivial⟩, ⟨.dv _ _ _ ⟨.nil _ _ _, trivial⟩, trivial⟩, trivial, rfl, fun _ _ _ => trivial, rfl⟩
  rw [← e4]
  refine wp_block ?_
  refine range_wp mixed k10 (fun _ _ => trivial) (y := .tmp 6) rfl (gf := 91) (caps := [.t (.cptr [mpS ks vs] 0)]) rfl Tryz.func91 l91 rfl rfl rfl (Nat.le_of_ble_eq_true rfl) 2000
    (K := fun st => st.sl 2 = .ptr 2 0 ∧ (∃ xs, permOfS ks xs ∧ st.bx 2 = some (.v [.own 3011 103 2 xs])) ∧ ∀ S w, st.cx S w) (fun l d f tmps ht => ?_) (fun a5 w5 h5 => ?_)
  · exact cKR_wp l d f tmps ht ks vs hvs hl _ rfl
  · obtain ⟨S0', E5, s5, D, rfl, q1, q2, q3, q4, q5, q6, r1, ⟨xs, hxs, r2⟩, r3⟩ := h5
    have q6' : a5.defers = [{ target := .collected D, args := #[] }] := by rw [q6, k5, k2, hdf]
    show Code.wp _ _ _ _ _
    refine wp_seq (region_wp (X := []) q1 bAS_4 (K := fun st => (∀ S w, st.cx S w) ∧ st.sl 4 = .own 3011 103 2 xs) (fun a6 w6 h6 => ?_) ?_)
    · obtain ⟨E6, s6, rfl, p1, p2, p3, p4⟩ := h6
      obtain ⟨js, hjs, rfl⟩ := hxs
      refine wp_ret ⟨.inr rfl, S0', E6, s6, D, rfl, p1, q2, q3, q4, q5, by rw [p2, q6'], p3, _, _, ⟨js, hjs, rfl⟩, sk_flat js ks, ?_, .inl ⟨3011, rfl⟩⟩
      have : resV s6 Tryz.f138.results.toList = some [s6.sl 4] := by
        rw [show Tryz.f138.results.toList = [.tmp 4] from rfl]; rfl
      rw [this, p4]
    · obtain ⟨sl5, bx5, gh5, off5, cx5⟩ := s5
      dsimp only at r1 r2 r3
      obtain ⟨g, rfl⟩ : ∃ g, sl5 = upd g 2 (.ptr 2 0) := ⟨sl5, (upd_same_id r1).symm⟩
      obtain ⟨b, rfl⟩ : ∃ b, bx5 = upd b 2 (some (.v [.own 3011 103 2 xs])) := ⟨bx5, (upd_same_id r2).symm⟩
      exact ⟨r3, rfl⟩
theorem f_CollectR (ks : List S2) (vs : List T) (hvs : vs.length = ks.length) (hl : ks.length < 2 ^ 40) : FCallsR Tryz.prog 88 [keysR ks vs] 103 2 (permOfS ks) := by
  refine fcallsR_low (rs := [.tmp 2]) mixed Tryz.func88 l88 rfl rfl rfl (Nat.le_of_ble_eq_true rfl) ?_
  repeat' ((conv => whnf); first | refine WC_ownR (ts := [.nil, keysR ks vs]) rfl (f_AppendSeqR ks vs hvs hl) (fun xs hx => ?_) | fail)
  obtain ⟨js, hjs, rfl⟩ := hx
  exact ⟨_, _, ⟨js, hjs, rfl⟩, sk_flat js ks, rfl, .inl ⟨_, rfl⟩⟩
end Go.RC
end
section
namespace Go.RC
open Go Go.DL Go.Proofs
set_option maxRecDepth 100000
set_option maxHeartbeats 1000000
noncomputable abbrev fKB : Option Code := Tryz.f90.body
noncomputable abbrev yKB : Array Oper := ropsOf 3 fKB
theorem bKB : rg0 3 fKB = .region 3 yKB false := by kernel_rfl
theorem bKB_1 : lowK Tryz.prog 14 yKB [0, 1] = some [⟨some 10, .mov (.tmp 0), none, []⟩, ⟨some 11, .load 2 true (.tmp 3), none, []⟩] := by kernel_rfl
theorem bKB_2 : lowK Tryz.prog 14 yKB [3] = some [⟨some 13, .not (.tmp 12), none, [2]⟩] := by kernel_rfl
theorem bKB_o : ∃ o ats, yKB[2]? = some o ∧ o.guard = none ∧ o.op = .call { callee := .value (.tmp 10), args := #[.tmp 11], argTypes := ats } ∧ o.dst = some 12 := by
  refine ⟨((ropsOf 3 fKB)[2]?).getD default, (match (((ropsOf 3 fKB)[2]?).getD default).op with | .call c => c.argTypes | _ => #[]), by kernel_rfl, by kernel_rfl, by kernel_rfl, by kernel_rfl⟩
theorem cKB_wp (l d : Nat) (f : FuncId) (tmps : Array Value) (ht : tmps.size = 13) (ks : List S2) (vs : List T) (hvs : vs.length = ks.length) (hl : ks.length < 2 ^ 40) (st0 : St)
    (h0 : st0 = ({sl := [(2, .ptr 2 0), (6, .fn 90 [.t (.cptr [mpS ks vs] 0)])], bx := [(2, .v [.own 3011 103 2 []])]} : Wk).mk') :
    wpC Tryz.prog c90 (st0.iter l (readyRec f tmps 7 (.region 2 (ropsOf 2 fAS) false) (.block 1 (.region 3 (ropsOf 3 fAS) false)) d) [.t (.cptr [mpS ks vs] 0)] 2000)
      (PostI st0 fun st => st.sl 2 = .ptr 2 0 ∧ (∃ xs, permOfS ks xs ∧ st.bx 2 = some (.v [.own 3011 103 2 xs])) ∧ ∀ S w, st.cx S w) := by
  subst h0
  have hes : (esS ks vs).length = ks.length := by simp [hvs]
  repeat' ((conv => whnf); first | refine nT_ ?_ | refine aS ?_ | fail)
  refine wpC_loopE 0 (α := List Nat) (β := List Nat) (fun ix => WS l (itAS l d f tmps) ks vs ix [] []) (fun ix => ix.Nodup ∧ ∀ j ∈ ix, j < ks.length) (fun ix => ks.length - ix.length)
    (fun ix => WS l (itAS l d f tmps) ks vs ix [] []) (fun ix => ix.Perm (List.range ks.length)) [] ⟨List.nodup_nil, by simp⟩ ?_ ?_ ?_
  · exact ⟨⟨.same _, .same _, trivial⟩, ⟨.same _, .same _, trivial⟩, ⟨⟨.same _, trivial⟩, trivial⟩, rfl, fun _ _ h => h, rfl⟩
  · rintro ix ⟨hnd, hix⟩
    refine And.intro (fun j hj => by rw [hes]; exact hix j hj) (And.intro ?_ ?_)
    · intro j e he hj
      obtain ⟨he1, hjl⟩ := esS_get he
      have hent := ent_last _ ix j e he
      have hje : (ix ++ [j]).getLast?.getD 0 < (esS ks vs).length := by rw [List.getLast?_concat, hes]; exact hjl
      obtain ⟨e1, e2⟩ := e
      dsimp only at he1 hent
      subst he1
      have hixl : ix.length ≤ ks.length := by
        have := hnd.length_le_of_subset (l₂ := List.range ks.length) (fun j hj => List.mem_range.2 (hix j hj))
        simpa using this
      have hnd' : (ix ++ [j]).Nodup := by
        rw [List.nodup_append]
        exact ⟨hnd, by simp, fun a ha b hb => by rw [List.mem_singleton.1 hb]; exact fun e => hj (e ▸ ha)⟩
      have hix' : ∀ i ∈ ix ++ [j], i < ks.length := fun i hi => by
        rcases List.mem_append.1 hi with h | h
        · exact hix i h
        · rw [List.mem_singleton.1 h]; exact hjl
      have hixl' : (ix ++ [j]).length ≤ ks.length := by
        have := hnd'.length_le_of_subset (l₂ := List.range ks.length) (fun j hj => List.mem_range.2 (hix' j hj))
        simpa using this
      repeat' ((conv => whnf); first | refine nv_ (.tup [sk (ks.getD j (0, 0)), e2]) hent ?_ | (refine And.intro (by first | (exact ⟨by simp, hje⟩; done) | fail) ?_) | refine aS ?_ | fail)
      obtain ⟨o, ats, o1, o2, o3, o4⟩ := bKB_o
      have hsem : ∀ (st : St) (Q : DExit → St → Prop), SemC Tryz.prog 14 (.region 3 yKB false) st Q → SemC Tryz.prog 14 (rg0 3 fKB) st Q := fun st Q h => by rw [bKB]; exact h
      refine hsem _ _ ?_
      refine yield_sem (P := Tryz.prog) (k1 := [0, 1]) (k := 2) (k2 := [3]) (by kernel_rfl) bKB_1 rfl bKB_2 rfl o1 o2 o3 o4 (by decide) (p := 7) ht (by decide) bAS_2 rfl bAS_3 rfl 3000 (l := l) (fn := f) (dd := d) (id1 := 2) (id2 := 3) (bl := 1) ?_
      refine ⟨fun _ _ h => h, rfl, ?_⟩
      repeat' ((conv => whnf); first | (refine And.intro (by first | (exact fun _ _ => trivial; done) | (exact ⟨rfl, Nat.le_of_ble_eq_true rfl⟩; done) | ((simp; omega); done) | (exact .inl rfl; done) | fail) ?_) | refine aS ?_ | fail)
      refine ⟨ix ++ [j], ⟨hnd', hix'⟩, by rw [List.length_append]; simp at hixl' ⊢; omega, ?_⟩
      refine ⟨⟨.same _, .same _, trivial⟩, ⟨?_, .same _, trivial⟩, ⟨⟨.same _, trivial⟩, trivial⟩, rfl, fun _ _ h => h, rfl⟩
      refine .v _ _ ⟨leOwn ?_, trivial⟩
      simp [outS, putL]
    · intro hall
      skip
      refine ⟨ix, range_perm hnd hix (fun j hj => hall j (by rw [hes]; exact hj)), ?_⟩
      exact ⟨⟨.same _, .same _, trivial⟩, ⟨.same _, .same _, trivial⟩, ⟨⟨.same _, trivial⟩, trivial⟩, rfl, fun _ _ h => h, rfl⟩
  rintro ix hp
  repeat' ((conv => whnf); first | refine aS ?_ | fail)
  exact ⟨⟨_, ⟨ix, hp, rfl⟩, rfl⟩, fun _ _ => trivial⟩
abbrev keysB (ks : List S2) (vs : List T) : T := .clos 90 [.cptr [mpS ks vs] 0]
theorem f_AppendSeqB (ks : List S2) (vs : List T) (hvs : vs.length = ks.length) (hl : ks.length < 2 ^ 40) : FCallsR Tryz.prog 138 [.nil, keysB ks vs] 103 2 (permOfS ks) := by
  refine fcallsR_mark Tryz.func138 bAS rfl (Nat.le_of_ble_eq_true rfl) ?_
  intro S w a0 hsr hdf
  let K0 : St → Prop := fun st => wpIs Tryz.prog [⟨some 6, .mov (.tmp 1), none, []⟩] st fun st =>
    weak { sl := [(2, .ptr 2 0), (6, .t (keysB ks vs))], bx := [(2, .d 1 [.nil])] } st
  have hK0 : wpIs Tryz.prog [⟨some 2, .box 1 (.tmp 0), none, []⟩, ⟨some 4, .mov (.const .nil), none, []⟩] (initSt [.nil, keysB ks vs]) K0 := by
    repeat' ((conv => whnf); first | refine aS ?_ | fail)
    exact ⟨⟨.same _, .same _, trivial⟩, ⟨.same _, trivial⟩, trivial, rfl, fun _ _ _ => trivial, rfl⟩
  refine wp_seq (region_wp (X := []) (N := 13) hsr bAS_0 (fun a1 w1 h1 => ?_) hK0)
  obtain ⟨E1, s1, rfl, k1, k2, k3⟩ := h1
  refine wp_seq (wp_seq (region_wp (X := []) k1 bAS_1 (fun a2 w2 h2 => ?_) k3))
  obtain ⟨E2, s2, rfl, k4, k5, k6⟩ := h2
  obtain ⟨E3, e3, k7⟩ := k4.weak k6
  rw [← e3]
  have k8 := k7.reread (k := 6) (k7.sl 6).clos_fn
  obtain ⟨E4, e4, k10⟩ := SR.weak (a := a2) (s := {sl := [(2, .ptr 2 0), (6, .fn 90 [.t (.cptr [mpS ks vs] 0)])], bx := [(2, .v [.own 3011 103 2 []])]}) k8 ⟨⟨.same _, .same _, trivial⟩, ⟨.dv _ _ _ ⟨.nil _ _ _, trivial⟩, trivial⟩, trivial, rfl, fun _ _ _ => trivial, rfl⟩
  rw [← e4]
  refine wp_block ?_
  refine range_wp mixed k10 (fun _ _ => trivial) (y := .tmp 6) rfl (gf := 90) (caps := [.t (.cptr [mpS ks vs] 0)]) rfl Tryz.func90 l90 rfl rfl rfl (Nat.le_of_ble_eq_true rfl) 2000
    (K := fun st => st.sl 2 = .ptr 2 0 ∧ (∃ xs, permOfS ks xs ∧ st.bx 2 = some (.v [.own 3011 103 2 xs])) ∧ ∀ S w, st.cx S w) (fun l d f tmps ht => ?_) (fun a5 w5 h5 => ?_)
  · exact cKB_wp l d f tmps ht ks vs hvs hl _ rfl
  · obtain ⟨S0', E5, s5, D, rfl, q1, q2, q3, q4, q5, q6, r1, ⟨xs, hxs, r2⟩, r3⟩ := h5
    have q6' : a5.defers = [{ target := .collected D, args := #[] }] := by rw [q6, k5, k2, hdf]
    show Code.wp _ _ _ _ _
    refine wp_seq (region_wp (X := []) q1 bAS_4 (K := fun st => (∀ S w, st.cx S w) ∧ st.sl 4 = .own 3011 103 2 xs) (fun a6 w6 h6 => ?_) ?_)
    · obtain ⟨E6, s6, rfl, p1, p2, p3, p4⟩ := h6
      obtain ⟨js, hjs, rfl⟩ := hxs
      refine wp_ret ⟨.inr rfl, S0', E6, s6, D, rfl, p1, q2, q3, q4, q5, by rw [p2, q6'], p3, _, _, ⟨js, hjs, rfl⟩, sk_flat js ks, ?_, .inl ⟨3011, rfl⟩⟩
      have : resV s6 Tryz.f138.results.toList = some [s6.sl 4] := by
        rw [show Tryz.f138.results.toList = [.tmp 4] from rfl]; rfl
      rw [this, p4]
    · obtain ⟨sl5, bx5, gh5, off5, cx5⟩ := s5
      dsimp only at r1 r2 r3
      obtain ⟨g, rfl⟩ : ∃ g, sl5 = upd g 2 (.ptr 2 0) := ⟨sl5, (upd_same_id r1).symm⟩
      obtain ⟨b, rfl⟩ : ∃ b, bx5 = upd b 2 (some (.v [.own 3011 103 2 xs])) := ⟨bx5, (upd_same_id r2).symm⟩
      exact ⟨r3, rfl⟩
theorem f_CollectB (ks : List S2) (vs : List T) (hvs : vs.length = ks.length) (hl : ks.length < 2 ^ 40) : FCallsR Tryz.prog 88 [keysB ks vs] 103 2 (permOfS ks) := by
  refine fcallsR_low (rs := [.tmp 2]) mixed Tryz.func88 l88 rfl rfl rfl (Nat.le_of_ble_eq_true rfl) ?_
  repeat' ((conv => whnf); first | refine WC_ownR (ts := [.nil, keysB ks vs]) rfl (f_AppendSeqB ks vs hvs hl) (fun xs hx => ?_) | fail)
  obtain ⟨js, hjs, rfl⟩ := hx
  exact ⟨_, _, ⟨js, hjs, rfl⟩, sk_flat js ks, rfl, .inl ⟨_, rfl⟩⟩
end Go.RC
end
section
namespace Go.Proofs
open Go.Shelf
def Tryz.laysSort89_ren : Go.Shelf.Ren := ⟨fun | 6 => 89 | 15 => 136 | 14 => 139 | 28 => 161 | 29 => 162 | 20 => 163 | 21 => 164 | 22 => 165 | 23 => 166 | 24 => 167 | 25 => 168 | 26 => 169 | 27 => 170 | 46 => 189 | 47 => 185 | 48 => 186 | 49 => 190 | 50 => 191 | 57 => 194 | n => n, fun | 22 => 50 | 24 => 103 | 25 => 109 | 3 => 3 | 39 => 133 | 0 => 0 | 53 => 176 | 55 => 179 | 4 => 4 | 46 => 202 | 45 => 201 | 50 => 206 | 5 => 5 | 9 => 9 | 66 => 228 | 70 => 232 | 76 => 237 | 77 => 238 | n => n, fun | n => n⟩
theorem Tryz.laysSort89 : Go.Proofs.SlLaysF0.n6 Tryz.prog Tryz.laysSort89_ren := {
  mixed := by kernel_rfl
  f6 := ⟨Tryz.f89.name, by decide, Tryz.func89.trans (congrArg some (by kernel_rfl))⟩
  f14 := ⟨Tryz.f139.name, by decide, Tryz.func139.trans (congrArg some (by kernel_rfl))⟩
  f15 := Tryz.func136.trans (congrArg some (by kernel_rfl))
  f20 := ⟨Tryz.f163.name, by decide, Tryz.func163.trans (congrArg some (by kernel_rfl))⟩
  f21 := ⟨Tryz.f164.name, by decide, Tryz.func164.trans (congrArg some (by kernel_rfl))⟩
  f22 := ⟨Tryz.f165.name, by decide, Tryz.func165.trans (congrArg some (by kernel_rfl))⟩
  f23 := ⟨Tryz.f166.name, by decide, Tryz.func166.trans (congrArg some (by kernel_rfl))⟩
  f24 := ⟨Tryz.f167.name, by decide, Tryz.func167.trans (congrArg some (by kernel_rfl))⟩
  f25 := ⟨Tryz.f168.name, by decide, Tryz.func168.trans (congrArg some (by kernel_rfl))⟩
  f26 := ⟨Tryz.f169.name, by decide, Tryz.func169.trans (congrArg some (by kernel_rfl))⟩
  f27 := ⟨Tryz.f170.name, by decide, Tryz.func170.trans (congrArg some (by kernel_rfl))⟩
  f28 := Tryz.func161.trans (congrArg some (by kernel_rfl))
  f29 := Tryz.func162.trans (congrArg some (by kernel_rfl))
  f46 := ⟨Tryz.f189.name, by decide, Tryz.func189.trans (congrArg some (by kernel_rfl))⟩
  f47 := Tryz.func185.trans (congrArg some (by kernel_rfl))
  f48 := Tryz.func186.trans (congrArg some (by kernel_rfl))
  f49 := ⟨Tryz.f190.name, by decide, Tryz.func190.trans (congrArg some (by kernel_rfl))⟩
  f50 := ⟨Tryz.f191.name, by decide, Tryz.func191.trans (congrArg some (by kernel_rfl))⟩
  f57 := ⟨Tryz.f194.name, by decide, Tryz.func194.trans (congrArg some (by kernel_rfl))⟩
  t0 := Tryz.underlying0
  a0 := Tryz.isAgg0
  z0 := Tryz.sizeOf0
  v0 := Tryz.zeroValue0
  t3 := Tryz.underlying3
  a3 := Tryz.isAgg3
  z3 := Tryz.sizeOf3
  v3 := Tryz.zeroValue3
  t4 := Tryz.underlying4
  a4 := Tryz.isAgg4
  z4 := Tryz.sizeOf4
  v4 := Tryz.zeroValue4
  t5 := Tryz.underlying5
  a5 := Tryz.isAgg5
  z5 := Tryz.sizeOf5
  v5 := Tryz.zeroValue5
  t9 := Tryz.underlying9
  a9 := Tryz.isAgg9
  z9 := Tryz.sizeOf9
  v9 := Tryz.zeroValue9
  t22 := Tryz.underlying50
  a22 := Tryz.isAgg50
  z22 := Tryz.sizeOf50
  v22 := Tryz.zeroValue50
  t25 := Tryz.underlying109
  a25 := Tryz.isAgg109
  z25 := Tryz.sizeOf109
  v25 := Tryz.zeroValue109
  t39 := Tryz.underlying133
  a39 := Tryz.isAgg133
  z39 := Tryz.sizeOf133
  v39 := Tryz.zeroValue133
  t45 := Tryz.underlying201
  a45 := Tryz.isAgg201
  z45 := Tryz.sizeOf201
  v45 := Tryz.zeroValue201
  t46 := Tryz.underlying202
  a46 := Tryz.isAgg202
  z46 := Tryz.sizeOf202
  v46 := Tryz.zeroValue202
  t50 := Tryz.underlying206
  a50 := Tryz.isAgg206
  z50 := Tryz.sizeOf206
  v50 := Tryz.zeroValue206
  t53 := Tryz.underlying176
  a53 := Tryz.isAgg176
  z53 := Tryz.sizeOf176
  v53 := Tryz.zeroValue176
  t55 := Tryz.underlying179
  a55 := Tryz.isAgg179
  z55 := Tryz.sizeOf179
  v55 := Tryz.zeroValue179
  t66 := Tryz.underlying228
  a66 := Tryz.isAgg228
  z66 := Tryz.sizeOf228
  v66 := Tryz.zeroValue228
  t70 := Tryz.underlying232
  a70 := Tryz.isAgg232
  z70 := Tryz.sizeOf232
  v70 := Tryz.zeroValue232
  t76 := Tryz.underlying237
  a76 := Tryz.isAgg237
  z76 := Tryz.sizeOf237
  v76 := Tryz.zeroValue237
  t77 := Tryz.underlying238
  a77 := Tryz.isAgg238
  z77 := Tryz.sizeOf238
  v77 := Tryz.zeroValue238 }
end Go.Proofs
end
section
namespace Go.RC
open Go Go.DL Go.Proofs
set_option maxRecDepth 100000
set_option maxHeartbeats 1000000
def cmpS (a b : S2) : Int := orI [cmpI a.1 b.1, cmpI a.2 b.2]
theorem cmpS_lt (a b : S2) : (cmpS a b < 0) ↔ (a.1 < b.1 ∨ a.1 = b.1 ∧ a.2 < b.2) := by
  unfold cmpS orI cmpI
  repeat' split
  all_goals (try simp only [orI] at *)
  all_goals omega
theorem t_Or2 (x y : Int) : DCalls Tryz.prog 84 [.slice 1 [I x, I y]] (I (orI [x, y])) := by
  refine dcalls_low (rs := [.tmp 2]) mixed Tryz.func84 l84 rfl rfl rfl (r := [I _]) (Nat.le_of_ble_eq_true rfl) ?_
  skip
  refine wpC_loopE 0 (α := Nat) (β := Unit) (fun i => {sl := [(3, .t (I 0)), (6, .t (.slice 1 [I x, I y])), (7, .t (I 2)), (8, .t (I i))], bx := []})
    (fun i => i ≤ 2 ∧ orI ([x, y].drop i) = orI [x, y]) (fun i => 2 - i) (fun _ => {sl := [(3, .t (I 0))], bx := []}) (fun _ => orI [x, y] = 0) 0 ⟨by omega, rfl⟩ ?_ ?_ ?_
  · repeat' (first | exact trivial | exact LeV.same _ | exact rfl | exact fun _ _ _ => trivial | refine And.intro ?_ ?_)
  · rintro i ⟨hi, ho⟩
    have step : ∀ w l, orI (w :: l) = orI [x, y] → (w ≠ 0 → w = orI [x, y]) ∧ (w = 0 → orI l = orI [x, y]) := fun w l h => by
      unfold orI at h
      refine ⟨fun hw => ?_, fun hw => ?_⟩
      · rw [if_pos hw] at h; exact h
      · rw [if_neg (by simpa using hw)] at h; exact h
    match i, hi with
    | 0, _ =>
      obtain ⟨s1, s2⟩ := step x [y] ho
      repeat' ((conv => whnf); first | exact trivial | refine nT_ ?_ | refine aD1 ?_ | refine nN_ (fun hq => ?_) (fun hq => ?_) | refine rix ?_ | refine aS ?_ | fail)
      exact ⟨1, ⟨by omega, s2 hq⟩, by omega, by repeat' (first | exact trivial | exact LeV.same _ | exact rfl | exact fun _ _ _ => trivial | refine And.intro ?_ ?_)⟩
    | 1, _ =>
      obtain ⟨s1, s2⟩ := step y [] ho
      repeat' ((conv => whnf); first | exact trivial | refine nT_ ?_ | refine aD1 ?_ | refine nN_ (fun hq => ?_) (fun hq => ?_) | refine rix ?_ | refine aS ?_ | fail)
      exact ⟨2, ⟨by omega, s2 hq⟩, by omega, by repeat' (first | exact trivial | exact LeV.same _ | exact rfl | exact fun _ _ _ => trivial | refine And.intro ?_ ?_)⟩
    | 2, _ =>
      repeat' ((conv => whnf); first | refine aD0 ?_ | refine aS ?_ | fail)
      exact ⟨(), ho.symm, by repeat' (first | exact trivial | exact LeV.same _ | exact rfl | exact fun _ _ _ => trivial | refine And.intro ?_ ?_)⟩
    | i + 3, h => omega
  rintro - hr
  repeat' ((conv => whnf); first | exact trivial | refine rix ?_ | fail)
theorem t_spots (a b : S2) : DCalls Tryz.prog 51 [sk a, sk b] (I (cmpS a b)) := by
  refine dcalls_low (rs := [.tmp 4]) mixed Tryz.func51 l51 rfl rfl rfl (r := [I _]) (Nat.le_of_ble_eq_true rfl) ?_
  unfold cmpS
  repeat' ((conv => whnf); first | exact trivial | refine k_call _ (t_cmp _ _) ?_ | refine k_call _ (t_Or2 _ _) ?_ | refine nT_ ?_ | refine rix ?_ | refine aS ?_ | fail)
theorem sortsS : SortsK Tryz.prog 89 2 :=
  SortsK.of Tryz.laysSort89 2 (fun w => Tryz.isAgg103 w) (fun w => Tryz.sizeOf103 w) (callable_of Tryz.func89 rfl rfl)
def cfS : T → T → Int
  | .agg [.int _ a, .int _ b], .agg [.int _ a', .int _ b'] => cmpS (a, b) (a', b')
  | _, _ => 0
def unS : T → S2
  | .agg [.int _ a, .int _ b] => (a, b)
  | _ => (0, 0)
theorem cmpS_irr (a : S2) : ¬ cmpS a a < 0 := by rw [cmpS_lt]; omega
theorem cmpS_tr {a b c : S2} (h : cmpS a b < 0) (k : cmpS b c < 0) : cmpS a c < 0 := by rw [cmpS_lt] at *; omega
theorem cmpS_ntr {a b c : S2} (h : ¬ cmpS a b < 0) (k : ¬ cmpS b c < 0) : ¬ cmpS a c < 0 := by rw [cmpS_lt] at *; omega
theorem cmpS_anti {a b : S2} (h : ¬ cmpS a b < 0) (k : ¬ cmpS b a < 0) : a = b := by
  obtain ⟨a1, a2⟩ := a
  obtain ⟨b1, b2⟩ := b
  rw [cmpS_lt] at *
  simp only at h k
  simp only [Prod.mk.injEq]
  omega
def srtS (ks : List S2) : List S2 := ks.mergeSort fun a b => !decide (cmpS b a < 0)
theorem srtS_perm (ks : List S2) : (srtS ks).Perm ks := List.mergeSort_perm _ _
theorem srtS_sorted (ks : List S2) : (srtS ks).Pairwise fun a b => ¬ cmpS b a < 0 := by
  have := List.pairwise_mergeSort (le := fun a b : S2 => !decide (cmpS b a < 0)) (fun a b c h k => by
    simp only [Bool.not_eq_true', decide_eq_false_iff_not] at *
    exact cmpS_ntr k h) (fun a b => by
    simp only [Bool.or_eq_true, Bool.not_eq_true', decide_eq_false_iff_not]
    rw [cmpS_lt, cmpS_lt]; omega) ks
  exact this.imp (fun h => by simpa using h)
theorem srtS_eq {ks zs : List S2} (hp : zs.Perm ks) (hs : zs.Pairwise fun a b => ¬ cmpS b a < 0) : zs = srtS ks :=
  List.Perm.eq_of_pairwise (fun a b _ _ h k => cmpS_anti k h) hs (srtS_sorted ks) (hp.trans (srtS_perm ks).symm)
theorem permOfS_zs {ks : List S2} {xs : List T} (h : permOfS ks xs) : ∃ zs : List S2, zs.Perm ks ∧ xs = zs.map sk := by
  obtain ⟨js, hp, rfl⟩ := h
  refine ⟨js.map fun j => ks.getD j (0, 0), ?_, by simp⟩
  have h1 : ((List.range ks.length).map fun j => ks.getD j (0, 0)) = ks := by
    apply List.ext_getElem?
    intro i
    rw [List.getElem?_map]
    by_cases h : i < ks.length
    · simp [h]
    · simp [h]
  have := hp.map (fun j => ks.getD j (0, 0))
  rwa [h1] at this
theorem perm_sk {zs : List S2} {ys : List T} (h : ys.Perm (zs.map sk)) : ∃ zs' : List S2, zs'.Perm zs ∧ ys = zs'.map sk := by
  refine ⟨ys.map unS, ?_, ?_⟩
  · have := h.map unS
    rw [List.map_map] at this
    rwa [show unS ∘ sk = id from rfl, List.map_id] at this
  · rw [List.map_map]
    have : ys.map (sk ∘ unS) = ys.map id := List.map_congr_left fun y hy => by
      obtain ⟨z, _, rfl⟩ := List.mem_map.1 (h.mem_iff.1 hy)
      rfl
    rw [this, List.map_id]
theorem chunk_sk : ∀ (zs : List S2) (n : Nat), zs.length = n → chunk 2 n ((zs.map sk).flatMap T.cells) = zs.map sk
  | [], 0, _ => rfl
  | z :: zs, n + 1, h => by
    show sk z :: chunk 2 n ((zs.map sk).flatMap T.cells) = _
    rw [chunk_sk zs n (by simpa using h)]
    rfl
  | z :: zs, 0, h => by simp at h
  | [], n + 1, h => by simp at h
theorem flat_sk : ∀ (zs : List S2), ((zs.map sk).flatMap T.cells).length = zs.length * 2
  | [] => rfl
  | z :: zs => by
    rw [List.map_cons, List.flatMap_cons, List.length_append, flat_sk zs, List.length_cons]
    show 2 + _ = _
    omega
theorem isnew_srtS_nil {bx : Nat → Option BX} : IsNew bx (.t .nil) (.slice 2 ((srtS []).map sk)) := by
  rw [show srtS [] = [] by simp [srtS]]
  exact .nil 2
theorem n_SortedR (ks : List S2) (vs : List T) (hvs : vs.length = ks.length) (hl : ks.length < 2 ^ 40) : NCalls Tryz.prog 49 [keysR ks vs, .clos 51 []] (.slice 2 ((srtS ks).map sk)) := by
  refine ncalls_low (rs := [.tmp 4]) mixed Tryz.func49 l49 rfl rfl rfl (Nat.le_of_ble_eq_true rfl) ?_
  repeat' ((conv => whnf); first | refine WC_viewR (ts := [keysR ks vs]) rfl (f_CollectR ks vs hvs hl) rfl (fun h0 => ?_) (fun xs hx hc => ?_) | fail)
  · obtain ⟨zs, hp, h0⟩ := permOfS_zs h0
    have : zs = [] := by
      cases zs with
      | nil => rfl
      | cons z zs => cases h0
    subst this
    have : ks = [] := List.nil_perm.1 hp
    subst this
    repeat' ((conv => whnf); first | refine WC_sort_nil sortsS ?_ | fail)
    exact ⟨.t .nil, rfl, isnew_srtS_nil⟩
  · obtain ⟨zs, hp, rfl⟩ := permOfS_zs hx
    have hzl : zs.length < 2 ^ 40 := by rw [hp.length_eq]; exact hl
    have hch : chunk 2 (zs.map sk).length (((zs.map sk).flatMap T.cells).drop 0) = zs.map sk := chunk_sk zs _ (by simp)
    repeat' ((conv => whnf); first | (refine WC_sort (n := 7) (off := 0) (len := (zs.map sk).length) (k := 2) (m := (zs.map sk).length * 2) (ts := (zs.map sk).flatMap T.cells) sortsS rfl (by omega) (by decide) (by simp; omega) (.inl rfl) (callable_of Tryz.func51 rfl rfl) cfS ?_ ?_ ?_ ?_ (fun ys hy hps => ?_)) | fail)
    · rw [hch]
      intro x hx y hy
      obtain ⟨a, _, rfl⟩ := List.mem_map.1 hx
      obtain ⟨b, _, rfl⟩ := List.mem_map.1 hy
      exact t_spots a b
    · rw [hch]
      intro x hx
      obtain ⟨a, _, rfl⟩ := List.mem_map.1 hx
      exact cmpS_irr a
    · rw [hch]
      intro x hx y hy z hz
      obtain ⟨a, _, rfl⟩ := List.mem_map.1 hx
      obtain ⟨b, _, rfl⟩ := List.mem_map.1 hy
      obtain ⟨c, _, rfl⟩ := List.mem_map.1 hz
      exact cmpS_tr
    · rw [hch]
      intro x hx y hy z hz
      obtain ⟨a, _, rfl⟩ := List.mem_map.1 hx
      obtain ⟨b, _, rfl⟩ := List.mem_map.1 hy
      obtain ⟨c, _, rfl⟩ := List.mem_map.1 hz
      exact cmpS_ntr
    · rw [hch] at hy
      obtain ⟨us, hu, rfl⟩ := perm_sk hy
      have hus : us = srtS ks := srtS_eq (hu.trans hp) ((List.pairwise_map.1 hps).imp fun h => h)
      subst hus
      have hul : (srtS ks).length = zs.length := hu.length_eq
      skip
      have hln : (zs.map sk).length = (srtS ks).length := by rw [List.length_map]; exact hul.symm
      have hpu : putL ((zs.map sk).flatMap T.cells) 0 ((zs.map sk).length * 2) (((srtS ks).map sk).flatMap T.cells) = ((srtS ks).map sk).flatMap T.cells := putL_all (by rw [flat_sk, List.length_map])
      refine ⟨.view 7 0 (zs.map sk).length 2, rfl, .view 7 0 (zs.map sk).length 2 ((zs.map sk).length * 2) (putL ((zs.map sk).flatMap T.cells) 0 ((zs.map sk).length * 2) (((srtS ks).map sk).flatMap T.cells)) _ [7] rfl ?_ ?_⟩
      · rw [hpu]
        intro t ht
        simp only [List.mem_flatMap, List.mem_map] at ht
        obtain ⟨x, ⟨z, _, rfl⟩, hx⟩ := ht
        simp only [T.cells, List.mem_cons, List.not_mem_nil, or_false] at hx
        rcases hx with rfl | rfl <;> rfl
      · show (cond (Nat.blt 0 2 && Nat.ble (0 + (zs.map sk).length * 2) ((zs.map sk).length * 2)) (some (T.slice 2 (chunk 2 (zs.map sk).length ((putL ((zs.map sk).flatMap T.cells) 0 ((zs.map sk).length * 2) (((srtS ks).map sk).flatMap T.cells)).drop 0)), [7])) none) = _
        rw [hpu, Nat.zero_add, List.drop_zero, hln, chunk_sk _ _ rfl]
        have : Nat.ble ((srtS ks).length * 2) ((srtS ks).length * 2) = true := Nat.ble_eq_true_of_le (Nat.le_refl _)
        rw [this]
        rfl
theorem n_SortedB (ks : List S2) (vs : List T) (hvs : vs.length = ks.length) (hl : ks.length < 2 ^ 40) : NCalls Tryz.prog 49 [keysB ks vs, .clos 51 []] (.slice 2 ((srtS ks).map sk)) := by
  refine ncalls_low (rs := [.tmp 4]) mixed Tryz.func49 l49 rfl rfl rfl (Nat.le_of_ble_eq_true rfl) ?_
  repeat' ((conv => whnf); first | refine WC_viewR (ts := [keysB ks vs]) rfl (f_CollectB ks vs hvs hl) rfl (fun h0 => ?_) (fun xs hx hc => ?_) | fail)
  · obtain ⟨zs, hp, h0⟩ := permOfS_zs h0
    have : zs = [] := by
      cases zs with
      | nil => rfl
      | cons z zs => cases h0
    subst this
    have : ks = [] := List.nil_perm.1 hp
    subst this
    repeat' ((conv => whnf); first | refine WC_sort_nil sortsS ?_ | fail)
    exact ⟨.t .nil, rfl, isnew_srtS_nil⟩
  · obtain ⟨zs, hp, rfl⟩ := permOfS_zs hx
    have hzl : zs.length < 2 ^ 40 := by rw [hp.length_eq]; exact hl
    have hch : chunk 2 (zs.map sk).length (((zs.map sk).flatMap T.cells).drop 0) = zs.map sk := chunk_sk zs _ (by simp)
    repeat' ((conv => whnf); first | (refine WC_sort (n := 7) (off := 0) (len := (zs.map sk).length) (k := 2) (m := (zs.map sk).length * 2) (ts := (zs.map sk).flatMap T.cells) sortsS rfl (by omega) (by decide) (by simp; omega) (.inl rfl) (callable_of Tryz.func51 rfl rfl) cfS ?_ ?_ ?_ ?_ (fun ys hy hps => ?_)) | fail)
    · rw [hch]
      intro x hx y hy
      obtain ⟨a, _, rfl⟩ := List.mem_map.1 hx
      obtain ⟨b, _, rfl⟩ := List.mem_map.1 hy
      exact t_spots a b
    · rw [hch]
      intro x hx
      obtain ⟨a, _, rfl⟩ := List.mem_map.1 hx
      exact cmpS_irr a
    · rw [hch]
      intro x hx y hy z hz
      obtain ⟨a, _, rfl⟩ := List.mem_map.1 hx
      obtain ⟨b, _, rfl⟩ := List.mem_map.1 hy
      obtain ⟨c, _, rfl⟩ := List.mem_map.1 hz
      exact cmpS_tr
    · rw [hch]
      intro x hx y hy z hz
      obtain ⟨a, _, rfl⟩ := List.mem_map.1 hx
      obtain ⟨b, _, rfl⟩ := List.mem_map.1 hy
      obtain ⟨c, _, rfl⟩ := List.mem_map.1 hz
      exact cmpS_ntr
    · rw [hch] at hy
      obtain ⟨us, hu, rfl⟩ := perm_sk hy
      have hus : us = srtS ks := srtS_eq (hu.trans hp) ((List.pairwise_map.1 hps).imp fun h => h)
      subst hus
      have hul : (srtS ks).length = zs.length := hu.length_eq
      skip
      have hln : (zs.map sk).length = (srtS ks).length := by rw [List.length_map]; exact hul.symm
      have hpu : putL ((zs.map sk).flatMap T.cells) 0 ((zs.map sk).length * 2) (((srtS ks).map sk).flatMap T.cells) = ((srtS ks).map sk).flatMap T.cells := putL_all (by rw [flat_sk, List.length_map])
      refine ⟨.view 7 0 (zs.map sk).length 2, rfl, .view 7 0 (zs.map sk).length 2 ((zs.map sk).length * 2) (putL ((zs.map sk).flatMap T.cells) 0 ((zs.map sk).length * 2) (((srtS ks).map sk).flatMap T.cells)) _ [7] rfl ?_ ?_⟩
      · rw [hpu]
        intro t ht
        simp only [List.mem_flatMap, List.mem_map] at ht
        obtain ⟨x, ⟨z, _, rfl⟩, hx⟩ := ht
        simp only [T.cells, List.mem_cons, List.not_mem_nil, or_false] at hx
        rcases hx with rfl | rfl <;> rfl
      · show (cond (Nat.blt 0 2 && Nat.ble (0 + (zs.map sk).length * 2) ((zs.map sk).length * 2)) (some (T.slice 2 (chunk 2 (zs.map sk).length ((putL ((zs.map sk).flatMap T.cells) 0 ((zs.map sk).length * 2) (((srtS ks).map sk).flatMap T.cells)).drop 0)), [7])) none) = _
        rw [hpu, Nat.zero_add, List.drop_zero, hln, chunk_sk _ _ rfl]
        have : Nat.ble ((srtS ks).length * 2) ((srtS ks).length * 2) = true := Nat.ble_eq_true_of_le (Nat.le_refl _)
        rw [this]
        rfl
end Go.RC
end
section
namespace Go.RC
open Go Go.DL Go.Proofs
set_option maxRecDepth 100000
set_option maxHeartbeats 2000000
abbrev sp (r : Rc) : S2 := (r.n, r.i)
def atS (F : List Rc) (s : S2) : Option Rc := F.find? fun x => decide (s = sp x)
def putK (s : S2) : List S2 → List S2
  | [] => [s]
  | k :: K => if s = k then s :: K else k :: putK s K
def mg1 (a : List Rc × List S2) (r : Rc) : List Rc × List S2 :=
  if chkR r ≠ 0 then a else match atS a.1 (sp r) with
    | none => (a.1 ++ [r], a.2)
    | some o => if samL o r = true then a else (a.1, putK (sp r) a.2)
abbrev esF (F : List Rc) : List (T × T) := F.map fun r => (sk (sp r), rc r)
abbrev esQ (K : List S2) : List (T × T) := K.map fun s => (sk s, T.bool true)
theorem putK_cons (s k : S2) (K : List S2) : putK s (k :: K) = if s = k then s :: K else k :: putK s K := rfl
theorem eqL_sk (x y : S2) : eqL (sk x).cells (sk y).cells = decide (x = y) := by
  obtain ⟨a, b⟩ := x
  obtain ⟨a', b'⟩ := y
  show (a == a' && (b == b' && true)) = _
  by_cases h1 : a = a' <;> by_cases h2 : b = b' <;> simp [h1, h2]
theorem mfind_esF (s : S2) : ∀ F : List Rc, mfind (sk s).cells (esF F) = (atS F s).map rc
  | [] => rfl
  | r :: F => by
    show cond (eqL (sk s).cells (sk (sp r)).cells) (some (rc r)) (mfind (sk s).cells (esF F)) = _
    rw [eqL_sk, mfind_esF s F]
    unfold atS
    rw [List.find?_cons]
    cases h : decide (s = sp r) <;> rfl
theorem mput_esF {r : Rc} : ∀ {F : List Rc}, atS F (sp r) = none → mput (sk (sp r)) (rc r) (esF F) = esF (F ++ [r])
  | [], _ => rfl
  | x :: F, h => by
    unfold atS at h
    rw [List.find?_cons] at h
    show cond (eqL (sk (sp r)).cells (sk (sp x)).cells) ((sk (sp r), rc r) :: esF F) ((sk (sp x), rc x) :: mput (sk (sp r)) (rc r) (esF F)) = _
    rw [eqL_sk]
    cases hd : decide (sp r = sp x) with
    | true => rw [hd] at h; cases h
    | false =>
      rw [hd] at h
      show (sk (sp x), rc x) :: mput (sk (sp r)) (rc r) (esF F) = _
      rw [mput_esF (F := F) h]
      rfl
theorem mput_esQ (s : S2) : ∀ K : List S2, mput (sk s) (.bool true) (esQ K) = esQ (putK s K)
  | [] => rfl
  | k :: K => by
    show cond (eqL (sk s).cells (sk k).cells) ((sk s, .bool true) :: esQ K) ((sk k, .bool true) :: mput (sk s) (.bool true) (esQ K)) = _
    rw [eqL_sk, mput_esQ s K, putK_cons]
    by_cases h : s = k
    · rw [if_pos h, decide_eq_true h]; rfl
    · rw [if_neg h, decide_eq_false h]; rfl
theorem atS_mem {F : List Rc} {s : S2} {r : Rc} (h : atS F s = some r) : r ∈ F ∧ sp r = s := by
  refine ⟨List.mem_of_find?_eq_some h, ?_⟩
  have := List.find?_some h
  simpa using (of_decide_eq_true this).symm
theorem putK_len (s : S2) : ∀ K : List S2, (putK s K).length ≤ K.length + 1
  | [] => by simp [putK]
  | k :: K => by
    rw [putK_cons]
    have := putK_len s K
    split <;> simp <;> omega
def okF (F : List Rc) : Prop := ∀ r ∈ F, r.ok ∧ chkR r = 0
theorem mg1_ok {a : List Rc × List S2} {r : Rc} (h : okF a.1) (hr : r.ok) : okF (mg1 a r).1 ∧ (mg1 a r).1.length ≤ a.1.length + 1 ∧ (mg1 a r).2.length ≤ a.2.length + 1 := by
  unfold mg1
  by_cases c : chkR r ≠ 0
  · rw [if_pos c]; exact ⟨h, by omega, by omega⟩
  rw [if_neg c]
  cases hx : atS a.1 (sp r) with
  | none =>
    refine ⟨fun x hx => ?_, by simp, by simp⟩
    rcases List.mem_append.1 hx with hx | hx
    · exact h x hx
    · rw [List.mem_singleton.1 hx]; exact ⟨hr, by simpa using c⟩
  | some o =>
    show okF (if samL o r = true then a else (a.1, putK (sp r) a.2)).1 ∧ _
    dsimp only
    by_cases hs : samL o r = true
    · rw [if_pos hs]; exact ⟨h, by omega, by omega⟩
    · rw [if_neg hs]; exact ⟨h, by simp, putK_len _ _⟩
def mgF (l : List Rc) : List Rc × List S2 := l.foldl mg1 ([], [])
theorem esF_fst (F : List Rc) : (esF F).map (·.1) = (F.map sp).map sk := by simp [esF, List.map_map]
theorem esQ_fst (K : List S2) : (esQ K).map (·.1) = K.map sk := by simp [esQ, List.map_map]
theorem n_SortedF (F : List Rc) (hl : F.length < 2 ^ 40) : NCalls Tryz.prog 49 [.clos 91 [.cptr [.mapd true sh2 ((esF F).map (·.1)) ((esF F).map (·.2))] 0], .clos 51 []] (.slice 2 ((srtS (F.map sp)).map sk)) := by
  rw [esF_fst]
  exact n_SortedR (F.map sp) _ (by simp) (by simpa using hl)
theorem n_SortedQ (K : List S2) (hl : K.length < 2 ^ 40) : NCalls Tryz.prog 49 [.clos 90 [.cptr [.mapd true sh2 ((esQ K).map (·.1)) ((esQ K).map (·.2))] 0], .clos 51 []] (.slice 2 ((srtS K).map sk)) := by
  rw [esQ_fst]
  exact n_SortedB K _ (by simp) hl
def rcOf (F : List Rc) (s : S2) : Rc := (atS F s).getD ⟨0, 0, [], zero16⟩
def rcsF (F : List Rc) : List Rc := (srtS (F.map sp)).map (rcOf F)
theorem rcOf_mem {F : List Rc} {s : S2} (h : s ∈ F.map sp) : atS F s = some (rcOf F s) ∧ rcOf F s ∈ F ∧ sp (rcOf F s) = s := by
  have : ∃ r, atS F s = some r := by
    obtain ⟨r, hr, rfl⟩ := List.mem_map.1 h
    unfold atS
    cases hf : F.find? (fun x => decide (sp r = sp x)) with
    | some x => exact ⟨x, rfl⟩
    | none => have := List.find?_eq_none.1 hf r hr; simp at this
  obtain ⟨r, hr⟩ := this
  have e : rcOf F s = r := by unfold rcOf; rw [hr]; rfl
  rw [e]
  exact ⟨hr, atS_mem hr⟩
def frm : Option Rc → Rc → Int
  | none, _ => 0
  | some p, r => if p.n = r.n then p.i + 1 else 0
def gap1 (p : Option Rc) (r : Rc) : List S2 := (List.range (r.i - frm p r).toNat).map fun (j : Nat) => ((r.n, frm p r + (j : Int)) : S2)
def brk (F : List Rc) (r : Rc) : Bool := match atS F (r.n, r.i - 1) with
  | some x => !decide (x.dg = r.pv) || (r.i == 0 && !decide (r.pv = zero16))
  | none => r.i == 0 && !decide (r.pv = zero16)
def gaps : Option Rc → List Rc → List S2
  | _, [] => []
  | p, r :: l => gap1 p r ++ gaps (some r) l
def brks (F : List Rc) (l : List Rc) : List S2 := (l.filter (brk F)).map sp
abbrev spsT (l : List S2) : T := .slice 2 (l.map sk)
def mrg (l : List Rc) : T := .agg [rcs (rcsF (mgF l).1), spsT (srtS (mgF l).2), spsT (gaps none (rcsF (mgF l).1)), spsT (brks (mgF l).1 (rcsF (mgF l).1))]
theorem gaps_snoc : ∀ {l : List Rc} {p : Option Rc} {r : Rc}, gaps p (l ++ [r]) = gaps p l ++ gap1 (match l.getLast? with | some x => some x | none => p) r
  | [], p, r => by simp [gaps]
  | [x], p, r => by simp [gaps]
  | x :: y :: l, p, r => by
    show gap1 p x ++ gaps (some x) ((y :: l) ++ [r]) = (gap1 p x ++ gaps (some x) (y :: l)) ++ _
    rw [gaps_snoc (l := y :: l) (p := some x)]
    rw [List.getLast?_cons_cons, List.append_assoc]
    cases h : (y :: l).getLast? with
    | none => simp at h
    | some z => rfl
theorem chk_bounds {r : Rc} (h : chkR r = 0) : 0 ≤ r.n ∧ r.n < 200 ∧ 0 ≤ r.i ∧ r.i ≤ 1048576 := by
  unfold chkR chk at h
  by_cases c1 : r.ls.length > 1000
  · rw [if_pos c1] at h; simp at h
  rw [if_neg c1] at h
  by_cases c2 : r.n < 0 ∨ r.n ≥ 200 ∨ r.i < 0 ∨ r.i > 1048576
  · rw [if_pos c2] at h; simp at h
  omega
theorem frm_bounds {p : Option Rc} {r : Rc} (h : ∀ x, p = some x → chkR x = 0) : 0 ≤ frm p r ∧ frm p r ≤ 1048577 := by
  cases p with
  | none => simp [frm]
  | some x =>
    have := chk_bounds (h x rfl)
    unfold frm
    dsimp only
    split <;> omega
theorem gap1_len {p : Option Rc} {r : Rc} (hp : ∀ x, p = some x → chkR x = 0) (h : chkR r = 0) : (gap1 p r).length ≤ 1048576 := by
  have := chk_bounds h
  have := frm_bounds (r := r) hp
  unfold gap1
  rw [List.length_map, List.length_range]; omega
theorem gaps_len : ∀ {l : List Rc} {p : Option Rc}, (∀ x, p = some x → chkR x = 0) → (∀ x ∈ l, chkR x = 0) → (gaps p l).length ≤ 1048576 * l.length
  | [], _, _, _ => by simp [gaps]
  | r :: l, p, hp, h => by
    have h1 := gap1_len hp (h r (by simp))
    have h2 := gaps_len (l := l) (p := some r) (fun x hx => by cases hx; exact h r (by simp)) (fun x hx => h x (by simp [hx]))
    unfold gaps
    rw [List.length_append, List.length_cons]; omega
theorem brks_len (F l : List Rc) : (brks F l).length ≤ l.length := by unfold brks; rw [List.length_map]; exact List.length_filter_le _ _
def lst (l : List Rc) : S2 := match l.getLast? with
  | some x => sp x
  | none => (0, 0)
theorem lst_snoc (l : List Rc) (r : Rc) : lst (l ++ [r]) = sp r := by unfold lst; simp
theorem brks_snoc (F l : List Rc) (r : Rc) : brks F (l ++ [r]) = brks F l ++ (if brk F r = true then [sp r] else []) := by
  unfold brks
  rw [List.filter_append, List.map_append]
  congr 1
  cases h : brk F r <;> simp [h]
theorem gaps_take {l : List Rc} {k : Nat} (h : k < l.length) : gaps none (l.take (k + 1)) = gaps none (l.take k) ++ gap1 (l.take k).getLast? l[k] := by
  rw [List.take_succ_eq_append_getElem h, gaps_snoc]
  cases (l.take k).getLast? <;> rfl
theorem gap1_take {p : Option Rc} {r : Rc} {j : Nat} (h : j < (r.i - frm p r).toNat) : (gap1 p r).take (j + 1) = (gap1 p r).take j ++ [(r.n, frm p r + (j : Int))] := by
  have hg : (gap1 p r)[j]? = some (r.n, frm p r + (j : Int)) := by
    unfold gap1
    rw [List.getElem?_map, List.getElem?_range h]; rfl
  rw [List.take_add_one, hg]; rfl
end Go.RC
end
section
namespace Go.RC
open Go Go.DL Go.Proofs
set_option maxRecDepth 100000
set_option maxHeartbeats 4000000
theorem t_spot (r : Rc) (h : r.ok) : DCalls Tryz.prog 55 [rc r] (sk (sp r)) := by
  obtain ⟨n, i, l, pv⟩ := r
  have hlen : (rcC n i l pv).length = 19 := rc_len h
  refine dcalls_low (rs := [.cell 2 103]) mixed Tryz.func55 l55 rfl rfl rfl (r := [.agg _]) (Nat.le_of_ble_eq_true rfl) ?_
  repeat' ((conv => whnf); first | exact trivial | refine nT_ ?_ | (refine And.intro (by first | (exact hlen; done) | fail) ?_) | refine aS ?_ | fail)
theorem t_earlier (x y : S2) : DCalls Tryz.prog 92 [sk x, sk y] (.bool (decide (cmpS x y < 0))) := by
  obtain ⟨a, b⟩ := x
  obtain ⟨c, d⟩ := y
  have hc := cmpS_lt (a, b) (c, d)
  simp only at hc
  refine dcalls_low (rs := [.tmp 4]) mixed Tryz.func92 l92 rfl rfl rfl (r := [.bool _]) (Nat.le_of_ble_eq_true rfl) ?_
  repeat' ((conv => whnf); first | exact trivial | refine nD_ (fun hq => ?_) (fun hq => ?_) | refine nT_ ?_ | refine rb1 ?_ | refine rb0 ?_ | refine aS ?_ | fail)
  all_goals (refine rb ?_ trivial; simp [hc]; try omega)
theorem ixP_cons {α : Type} (p : α → Bool) (x : α) (l : List α) (i : Int) : ixP p (x :: l) i = if p x then i else ixP p l (i + 1) := rfl
theorem t_place (l : List Rc) (s : S2) (hl : l.length < 2 ^ 40) (h : ∀ r ∈ l, r.ok) : DCalls Tryz.prog 54 [rcs l, sk s] (I (ixP (fun r => decide (s = sp r)) l 0)) := by
  refine dcalls_low (rs := [.tmp 4]) mixed Tryz.func54 l54 rfl rfl rfl (r := [I _]) (Nat.le_of_ble_eq_true rfl) ?_
  obtain ⟨a, b⟩ := s
  repeat' ((conv => whnf); first | refine aS ?_ | fail)
  refine wpC_loopE 0 (α := Nat) (β := Unit) (fun k => {sl := [(0, .t (rcs l)), (3, .ptr 3 0), (5, .t (I k))], bx := [(3, .d 2 [I a, I b])]})
    (fun k => k ≤ l.length ∧ ixP (fun r => decide ((a, b) = sp r)) (l.drop k) k = ixP (fun r => decide ((a, b) = sp r)) l 0) (fun k => l.length - k) (fun _ => {sl := [], bx := []}) (fun _ => ixP (fun r => decide ((a, b) = sp r)) l 0 = -1) 0 ⟨by omega, rfl⟩ ?_ ?_ ?_
  · repeat' (first | exact trivial | exact LeV.same _ | exact LeB.same _ | exact rfl | exact fun _ _ _ => trivial | refine And.intro ?_ ?_)
  · rintro k ⟨hk, ho⟩
    rcases Nat.lt_or_ge k l.length with h2 | h2
    · rw [List.drop_eq_getElem_cons h2] at ho
      have hke : l[k]? = some l[k] := List.getElem?_eq_getElem h2
      have hr := h l[k] (List.getElem_mem h2)
      generalize l[k] = r at ho hke hr
      have hS := t_spot r hr
      have he := eqL_sk (sp r) (a, b)
      obtain ⟨n, i, ls, pv⟩ := r
      have hlen : (rcC n i ls pv).length = 19 := rc_len hr
      have hib : 0 ≤ (k : Int) ∧ (k : Int) < ((l.map rc).length : Int) := by rw [List.length_map]; omega
      have hel : (l.map rc)[((k : Int)).toNat]?.getD .nil = rcT n i ls pv := eltRc (r := ⟨n, i, ls, pv⟩) (by rw [Int.toNat_natCast]; exact hke)
      rw [ixP_cons] at ho
      cases hd : decide ((a, b) = sp ⟨n, i, ls, pv⟩) with
      | true =>
        rw [hd] at ho
        have ho : (k : Int) = ixP (fun r => decide ((a, b) = sp r)) l 0 := ho
        have he : eqL [I n, I i] [I a, I b] = true := by rw [show eqL [I n, I i] [I a, I b] = _ from he]; exact decide_eq_true (of_decide_eq_true hd).symm
        repeat' ((conv => whnf); first | exact trivial | (refine now_D1 (by simp; omega) ?_) | (refine nv_ (rcT n i ls pv) (by first | (exact hel; done) | fail) ?_) | refine k_call _ (hS) ?_ | refine nb_ true he ?_ | refine nT_ ?_ | refine rix ?_ | (refine And.intro (by first | (exact hib; done) | (exact hlen; done) | (exact ⟨⟨rfl, rfl, trivial⟩, ⟨rfl, rfl, trivial⟩⟩; done) | fail) ?_) | refine aS ?_ | fail)
      | false =>
        rw [hd] at ho
        have ho : ixP (fun r => decide ((a, b) = sp r)) (l.drop (k + 1)) ((k : Int) + 1) = ixP (fun r => decide ((a, b) = sp r)) l 0 := ho
        have he : eqL [I n, I i] [I a, I b] = false := by rw [show eqL [I n, I i] [I a, I b] = _ from he]; exact decide_eq_false fun e => of_decide_eq_false hd e.symm
        repeat' ((conv => whnf); first | (refine now_D1 (by simp; omega) ?_) | (refine nv_ (rcT n i ls pv) (by first | (exact hel; done) | fail) ?_) | refine k_call _ (hS) ?_ | refine nb_ false he ?_ | refine nT_ ?_ | (refine And.intro (by first | (exact hib; done) | (exact hlen; done) | (exact ⟨⟨rfl, rfl, trivial⟩, ⟨rfl, rfl, trivial⟩⟩; done) | fail) ?_) | refine aS ?_ | fail)
        exact ⟨k + 1, ⟨by omega, by push_cast; exact ho⟩, by omega, by repeat' (first | exact trivial | exact LeV.same _ | exact LeB.same _ | exact rfl | exact fun _ _ _ => trivial | exact lI | refine And.intro ?_ ?_)⟩
    · have : k = l.length := by omega
      subst this
      rw [List.drop_length] at ho
      repeat' ((conv => whnf); first | refine now_D0 (by simp) ?_ | refine aS ?_ | fail)
      exact ⟨(), ho.symm, by repeat' (first | exact trivial | exact rfl | exact fun _ _ _ => trivial | refine And.intro ?_ ?_)⟩
  rintro - hr
  repeat' ((conv => whnf); first | exact trivial | refine rix ?_ | fail)
theorem t_SameSpots (a b : List S2) (hl : a.length < 2 ^ 60) : DCalls Tryz.prog 53 [spsT a, spsT b] (.bool (decide (a = b))) := by
  refine dcalls_low (rs := [.tmp 4]) mixed Tryz.func53 l53 rfl rfl rfl (r := [.bool _]) (Nat.le_of_ble_eq_true rfl) ?_
  by_cases hll : a.length = b.length
  case neg =>
    have hne : decide (a = b) = false := decide_eq_false fun e => hll (by rw [e])
    rw [hne]
    repeat' ((conv => whnf); first | exact trivial | (refine now_N1 (by simp only [List.length_map]; omega) ?_) | refine rb0 ?_ | refine aS ?_ | fail)
  repeat' ((conv => whnf); first | (refine now_N0 (by simp only [List.length_map]; omega) ?_) | refine aS ?_ | fail)
  refine wpC_loopE 0 (α := Nat) (β := Unit) (fun k => {sl := [(0, .t (spsT a)), (1, .t (spsT b)), (5, .t (I k))], bx := []})
    (fun k => k ≤ a.length ∧ a.take k = b.take k) (fun k => a.length - k) (fun _ => {sl := [], bx := []}) (fun _ => a = b) 0 ⟨by omega, rfl⟩ ?_ ?_ ?_
  · repeat' (first | exact trivial | exact LeV.same _ | exact rfl | exact fun _ _ _ => trivial | refine And.intro ?_ ?_)
  · rintro k ⟨hk, ho⟩
    rcases Nat.lt_or_ge k a.length with h2 | h2
    · have h3 : k < b.length := by omega
      have hxa : a[k]? = some a[k] := List.getElem?_eq_getElem h2
      have hxb : b[k]? = some b[k] := List.getElem?_eq_getElem h3
      generalize a[k] = x at hxa
      generalize b[k] = y at hxb
      have he := eqL_sk x y
      have ha : (a.map sk)[((k : Int)).toNat]?.getD .nil = sk x := by rw [Int.toNat_natCast, List.getElem?_map, hxa]; rfl
      have hb : (b.map sk)[((k : Int)).toNat]?.getD .nil = sk y := by rw [Int.toNat_natCast, List.getElem?_map, hxb]; rfl
      obtain ⟨x1, x2⟩ := x
      obtain ⟨y1, y2⟩ := y
      have hia : 0 ≤ (k : Int) ∧ (k : Int) < ((a.map sk).length : Int) := by rw [List.length_map]; omega
      have hib : 0 ≤ (k : Int) ∧ (k : Int) < ((b.map sk).length : Int) := by rw [List.length_map]; omega
      have he : (!eqL [I x1, I x2] [I y1, I y2]) = !decide ((x1, x2) = (y1, y2)) := congrArg (!·) he
      cases hd : decide (((x1, x2) : S2) = (y1, y2)) with
      | true =>
        rw [hd] at he
        have hxy := of_decide_eq_true hd
        repeat' ((conv => whnf); first | (refine now_D1 (by simp; omega) ?_) | (refine nv_ (sk (x1, x2)) (by first | (exact ha; done) | fail) ?_) | (refine nv_ (sk (y1, y2)) (by first | (exact hb; done) | fail) ?_) | refine nb_ _ he ?_ | refine nT_ ?_ | (refine And.intro (by first | (exact hia; done) | (exact hib; done) | (exact ⟨⟨rfl, rfl, trivial⟩, ⟨rfl, rfl, trivial⟩⟩; done) | fail) ?_) | refine aS ?_ | fail)
        exact ⟨k + 1, ⟨by omega, take_eq ho hxa (by rw [hxb, hxy])⟩, by omega, by repeat' (first | exact trivial | exact LeV.same _ | exact rfl | exact fun _ _ _ => trivial | exact lI | refine And.intro ?_ ?_)⟩
      | false =>
        rw [hd] at he
        have hne : decide (a = b) = false := decide_eq_false fun e => by
          rw [e, hxb] at hxa
          cases hxa
          exact of_decide_eq_false hd rfl
        rw [hne]
        repeat' ((conv => whnf); first | exact trivial | (refine now_D1 (by simp; omega) ?_) | (refine nv_ (sk (x1, x2)) (by first | (exact ha; done) | fail) ?_) | (refine nv_ (sk (y1, y2)) (by first | (exact hb; done) | fail) ?_) | refine nb_ _ he ?_ | refine nT_ ?_ | refine rb0 ?_ | (refine And.intro (by first | (exact hia; done) | (exact hib; done) | (exact ⟨⟨rfl, rfl, trivial⟩, ⟨rfl, rfl, trivial⟩⟩; done) | fail) ?_) | refine aS ?_ | fail)
    · have : k = a.length := by omega
      subst this
      repeat' ((conv => whnf); first | refine now_D0 (by simp) ?_ | refine aS ?_ | fail)
      refine ⟨(), ?_, by repeat' (first | exact trivial | exact rfl | exact fun _ _ _ => trivial | refine And.intro ?_ ?_)⟩
      rw [List.take_length, List.take_of_length_le (by omega)] at ho
      exact ho
  rintro - hr
  subst hr
  repeat' ((conv => whnf); first | exact trivial | refine rb1 ?_ | fail)
end Go.RC
end
section
namespace Go.RC
open Go Go.DL Go.Proofs
set_option maxRecDepth 100000
set_option maxHeartbeats 4000000
theorem tw_lt {α : Type} {p : α → Bool} : ∀ {l : List α} {k : Nat} {x : α}, k < (l.takeWhile p).length → l[k]? = some x → p x = true
  | [], k, x, h, _ => by simp at h
  | y :: l, k, x, h, hx => by
    rw [List.takeWhile_cons] at h
    cases hp : p y with
    | false => rw [hp] at h; simp at h
    | true =>
      rw [hp] at h
      cases k with
      | zero => simp at hx; rw [← hx]; exact hp
      | succ k => exact tw_lt (l := l) (k := k) (by simpa using h) (by simpa using hx)
theorem tw_eq {α : Type} {p : α → Bool} : ∀ {l : List α} {x : α}, l[(l.takeWhile p).length]? = some x → p x = false
  | [], x, hx => by simp at hx
  | y :: l, x, hx => by
    rw [List.takeWhile_cons] at hx
    cases hp : p y with
    | false => rw [hp] at hx; simp at hx; rw [← hx]; exact hp
    | true => rw [hp] at hx; exact tw_eq (l := l) (by simpa using hx)
theorem tw_take {α : Type} {p : α → Bool} (l : List α) : l.takeWhile p = l.take (l.takeWhile p).length ∧ l.dropWhile p = l.drop (l.takeWhile p).length := by
  have h := List.takeWhile_append_dropWhile (p := p) (l := l)
  constructor
  · conv => rhs; rw [← h]
    rw [List.take_left' (by rw [h])]
  · conv => rhs; rw [← h]
    rw [List.drop_left' (by rw [h])]
theorem tw_le {α : Type} {p : α → Bool} (l : List α) : (l.takeWhile p).length ≤ l.length := by
  have h := congrArg List.length (List.takeWhile_append_dropWhile (p := p) (l := l))
  rw [List.length_append] at h; omega
abbrev befR (r : Rc) (x : Rc) : Bool := decide (cmpS (sp x) (sp r) < 0)
def insR (r : Rc) (l : List Rc) : List Rc := l.take (l.takeWhile (befR r)).length ++ [r] ++ l.drop (l.takeWhile (befR r)).length
theorem t_put (l : List Rc) (r : Rc) (hl : l.length < 2 ^ 30) (h : ∀ x ∈ l, x.ok) (hr : r.ok) : DCalls Tryz.prog 56 [rcs l, rc r] (rcs (insR r l)) := by
  refine dcalls_low (rs := [.tmp 4]) mixed Tryz.func56 l56 rfl rfl rfl (r := [rcs _]) (Nat.le_of_ble_eq_true rfl) ?_
  have hS := t_spot r hr
  have hle := tw_le (p := befR r) l
  have hlt := @tw_lt _ (befR r) l
  have heq := @tw_eq _ (befR r) l
  have hi : insR r l = l.take (l.takeWhile (befR r)).length ++ [r] ++ l.drop (l.takeWhile (befR r)).length := rfl
  have hbf : ∀ x, befR r x = decide (cmpS (sp x) (sp r) < 0) := fun _ => rfl
  generalize (l.takeWhile (befR r)).length = K at *
  generalize hsr : sp r = s at *
  obtain ⟨n, i, ls, pv⟩ := r
  have hlen : (rcC n i ls pv).length = 19 := rc_len hr
  repeat' ((conv => whnf); first | (refine And.intro (by first | (exact hlen; done) | fail) ?_) | fail)
  refine wpC_loopE 0 (α := Nat) (β := Unit) (fun k => {sl := [(0, .t (rcs l)), (3, .ptr 3 0), (4, .t .nil), (5, .t (I k))], bx := [(3, .d 19 (rcC n i ls pv))]})
    (fun k => k ≤ K) (fun k => K - k) (fun _ => {sl := [(0, .t (rcs l)), (3, .ptr 3 0), (4, .t .nil), (5, .t (I K))], bx := [(3, .d 19 (rcC n i ls pv))]}) (fun _ => True) 0 (by omega) ?_ ?_ ?_
  · repeat' (first | exact trivial | exact LeV.same _ | exact LeB.same _ | exact rfl | exact fun _ _ _ => trivial | refine And.intro ?_ ?_)
  · rintro k hk
    rcases Nat.lt_or_ge k l.length with h2 | h2
    · have hke : l[k]? = some l[k] := List.getElem?_eq_getElem h2
      have hx := h l[k] (List.getElem_mem h2)
      generalize l[k] = x at hke hx
      have hSx := t_spot x hx
      have hE := t_earlier (sp x) s
      rw [← hbf x] at hE
      have hk1 : k < K → befR ⟨n, i, ls, pv⟩ x = true := fun hh => hlt hh hke
      have hk2 : k = K → befR ⟨n, i, ls, pv⟩ x = false := fun hh => heq (by rw [← hh]; exact hke)
      generalize befR ⟨n, i, ls, pv⟩ x = bb at hE hk1 hk2
      obtain ⟨n', i', ls', pv'⟩ := x
      have hlen' : (rcC n' i' ls' pv').length = 19 := rc_len hx
      have hib : 0 ≤ (k : Int) ∧ (k : Int) < ((l.map rc).length : Int) := by rw [List.length_map]; omega
      have hel : (l.map rc)[((k : Int)).toNat]?.getD .nil = rcT n' i' ls' pv' := eltRc (r := ⟨n', i', ls', pv'⟩) (by rw [Int.toNat_natCast]; exact hke)
      cases bb with
      | true =>
        have hkK : k < K := by
          rcases Nat.lt_or_ge k K with hh | hh
          · exact hh
          · have := hk2 (by omega); cases this
        repeat' ((conv => whnf); first | (refine now_D1 (by simp; omega) ?_) | (refine nv_ (rcT n' i' ls' pv') (by first | (exact hel; done) | fail) ?_) | refine k_call _ (hSx) ?_ | refine k_call _ (hS) ?_ | refine k_call _ (hE) ?_ | refine nT_ ?_ | (refine And.intro (by first | (exact hib; done) | (exact hlen; done) | (exact hlen'; done) | fail) ?_) | refine aS ?_ | fail)
        exact ⟨k + 1, by omega, by omega, by repeat' (first | exact trivial | exact LeV.same _ | exact LeB.same _ | exact rfl | exact fun _ _ _ => trivial | exact lI | refine And.intro ?_ ?_)⟩
      | false =>
        have hkK : k = K := by
          rcases Nat.lt_or_ge k K with hh | hh
          · have := hk1 hh; cases this
          · omega
        repeat' ((conv => whnf); first | (refine now_D1 (by simp; omega) ?_) | (refine nv_ (rcT n' i' ls' pv') (by first | (exact hel; done) | fail) ?_) | refine k_call _ (hSx) ?_ | refine k_call _ (hS) ?_ | refine k_call _ (hE) ?_ | refine nT_ ?_ | (refine And.intro (by first | (exact hib; done) | (exact hlen; done) | (exact hlen'; done) | fail) ?_) | refine aS ?_ | fail)
        subst hkK
        exact ⟨(), trivial, by repeat' (first | exact trivial | exact LeV.same _ | exact LeB.same _ | exact rfl | exact fun _ _ _ => trivial | refine And.intro ?_ ?_)⟩
    · have hkK : k = K := by omega
      repeat' ((conv => whnf); first | (refine now_D0 (by simp; omega) ?_) | refine aS ?_ | fail)
      subst hkK
      exact ⟨(), trivial, by repeat' (first | exact trivial | exact LeV.same _ | exact LeB.same _ | exact rfl | exact fun _ _ _ => trivial | refine And.intro ?_ ?_)⟩
  rintro - -
  have hb1 : 0 ≤ (0 : Int) ∧ (0 : Int) ≤ (K : Int) ∧ (K : Int) ≤ ((l.map rc).length : Int) := by rw [List.length_map]; omega
  have hb2 : 0 ≤ (K : Int) ∧ (K : Int) ≤ ((l.map rc).length : Int) ∧ ((l.map rc).length : Int) ≤ ((l.map rc).length : Int) := by rw [List.length_map]; omega
  have hv1 : T.slice 19 (((l.map rc).take ((K : Int)).toNat).drop ((0 : Int)).toNat) = rcs (l.take K) := by rw [Int.toNat_natCast]; unfold rcs; rw [List.map_take]; rfl
  have hv2 : T.slice 19 (((l.map rc).take ((((l.map rc).length : Nat) : Int)).toNat).drop ((K : Int)).toNat) = rcs (l.drop K) := by rw [Int.toNat_natCast, Int.toNat_natCast, List.take_length]; unfold rcs; rw [List.map_drop]
  have l1 : (l.take K).length ≤ l.length := by rw [List.length_take]; omega
  have l2 : (l.drop K).length ≤ l.length := by rw [List.length_drop]; omega
  repeat' ((conv => whnf); first | (refine nv_ (rcs (l.take K)) (by first | (exact hv1; done) | fail) ?_) | (refine nv_ (rcs (l.drop K)) (by first | (exact hv2; done) | fail) ?_) | (refine And.intro (by first | (exact hb1; done) | (exact hb2; done) | (exact hlen; done) | (exact ⟨trivial, hlen⟩; done) | ((simp only [List.length_append, List.length_map]; omega); done) | ((simp [List.length_append]; omega); done) | fail) ?_) | refine aS ?_ | refine rt ?_ trivial | fail)
  unfold rcs
  rw [hi, List.map_append, List.map_append]
  rfl
abbrev befS (s : S2) (x : S2) : Bool := decide (cmpS x s < 0)
def insS (s : S2) (l : List S2) : List S2 := if l[(l.takeWhile (befS s)).length]? = some s then l else l.take (l.takeWhile (befS s)).length ++ [s] ++ l.drop (l.takeWhile (befS s)).length
theorem t_putSpot (l : List S2) (s : S2) (hl : l.length < 2 ^ 30) : DCalls Tryz.prog 57 [spsT l, sk s] (spsT (insS s l)) := by
  refine dcalls_low (rs := [.tmp 4]) mixed Tryz.func57 l57 rfl rfl rfl (r := [spsT _]) (Nat.le_of_ble_eq_true rfl) ?_
  have hle := tw_le (p := befS s) l
  have hlt := @tw_lt _ (befS s) l
  have heq := @tw_eq _ (befS s) l
  have hi : insS s l = if l[(l.takeWhile (befS s)).length]? = some s then l else l.take (l.takeWhile (befS s)).length ++ [s] ++ l.drop (l.takeWhile (befS s)).length := rfl
  have hbf : ∀ x, befS s x = decide (cmpS x s < 0) := fun _ => rfl
  generalize (l.takeWhile (befS s)).length = K at *
  obtain ⟨a, b⟩ := s
  repeat' ((conv => whnf); first | refine aS ?_ | fail)
  refine wpC_loopE 0 (α := Nat) (β := Unit) (fun k => {sl := [(0, .t (spsT l)), (3, .ptr 3 0), (4, .t .nil), (5, .t (I k))], bx := [(3, .d 2 [I a, I b])]})
    (fun k => k ≤ K) (fun k => K - k) (fun _ => {sl := [(0, .t (spsT l)), (3, .ptr 3 0), (4, .t .nil), (5, .t (I K))], bx := [(3, .d 2 [I a, I b])]}) (fun _ => True) 0 (by omega) ?_ ?_ ?_
  · repeat' (first | exact trivial | exact LeV.same _ | exact LeB.same _ | exact rfl | exact fun _ _ _ => trivial | refine And.intro ?_ ?_)
  · rintro k hk
    rcases Nat.lt_or_ge k l.length with h2 | h2
    · have hke : l[k]? = some l[k] := List.getElem?_eq_getElem h2
      generalize l[k] = x at hke
      have hE := t_earlier x (a, b)
      rw [← hbf x] at hE
      have hk1 : k < K → befS (a, b) x = true := fun hh => hlt hh hke
      have hk2 : k = K → befS (a, b) x = false := fun hh => heq (by rw [← hh]; exact hke)
      generalize befS (a, b) x = bb at hE hk1 hk2
      obtain ⟨c, d⟩ := x
      have hib : 0 ≤ (k : Int) ∧ (k : Int) < ((l.map sk).length : Int) := by rw [List.length_map]; omega
      have hel : (l.map sk)[((k : Int)).toNat]?.getD .nil = sk (c, d) := by rw [Int.toNat_natCast, List.getElem?_map, hke]; rfl
      cases bb with
      | true =>
        have hkK : k < K := by
          rcases Nat.lt_or_ge k K with hh | hh
          · exact hh
          · have := hk2 (by omega); cases this
        repeat' ((conv => whnf); first | (refine now_D1 (by simp; omega) ?_) | (refine nv_ (sk (c, d)) (by first | (exact hel; done) | fail) ?_) | refine k_call _ (hE) ?_ | refine nT_ ?_ | (refine And.intro (by first | (exact hib; done) | fail) ?_) | refine aS ?_ | fail)
        exact ⟨k + 1, by omega, by omega, by repeat' (first | exact trivial | exact LeV.same _ | exact LeB.same _ | exact rfl | exact fun _ _ _ => trivial | exact lI | refine And.intro ?_ ?_)⟩
      | false =>
        have hkK : k = K := by
          rcases Nat.lt_or_ge k K with hh | hh
          · have := hk1 hh; cases this
          · omega
        repeat' ((conv => whnf); first | (refine now_D1 (by simp; omega) ?_) | (refine nv_ (sk (c, d)) (by first | (exact hel; done) | fail) ?_) | refine k_call _ (hE) ?_ | refine nT_ ?_ | (refine And.intro (by first | (exact hib; done) | fail) ?_) | refine aS ?_ | fail)
        subst hkK
        exact ⟨(), trivial, by repeat' (first | exact trivial | exact LeV.same _ | exact LeB.same _ | exact rfl | exact fun _ _ _ => trivial | refine And.intro ?_ ?_)⟩
    · have hkK : k = K := by omega
      repeat' ((conv => whnf); first | (refine now_D0 (by simp; omega) ?_) | refine aS ?_ | fail)
      subst hkK
      exact ⟨(), trivial, by repeat' (first | exact trivial | exact LeV.same _ | exact LeB.same _ | exact rfl | exact fun _ _ _ => trivial | refine And.intro ?_ ?_)⟩
  rintro - -
  have hb1 : 0 ≤ (0 : Int) ∧ (0 : Int) ≤ (K : Int) ∧ (K : Int) ≤ ((l.map sk).length : Int) := by rw [List.length_map]; omega
  have hb2 : 0 ≤ (K : Int) ∧ (K : Int) ≤ ((l.map sk).length : Int) ∧ ((l.map sk).length : Int) ≤ ((l.map sk).length : Int) := by rw [List.length_map]; omega
  have hv1 : T.slice 2 (((l.map sk).take ((K : Int)).toNat).drop ((0 : Int)).toNat) = spsT (l.take K) := by rw [Int.toNat_natCast]; unfold spsT; rw [List.map_take]; rfl
  have hv2 : T.slice 2 (((l.map sk).take ((((l.map sk).length : Nat) : Int)).toNat).drop ((K : Int)).toNat) = spsT (l.drop K) := by rw [Int.toNat_natCast, Int.toNat_natCast, List.take_length]; unfold spsT; rw [List.map_drop]
  have l1 : (l.take K).length ≤ l.length := by rw [List.length_take]; omega
  have l2 : (l.drop K).length ≤ l.length := by rw [List.length_drop]; omega
  rcases Nat.lt_or_ge K l.length with h2 | h2
  · have hke : l[K]? = some l[K] := List.getElem?_eq_getElem h2
    generalize l[K] = x at hke
    have he := eqL_sk x (a, b)
    obtain ⟨c, d⟩ := x
    have hib : 0 ≤ (K : Int) ∧ (K : Int) < ((l.map sk).length : Int) := by rw [List.length_map]; omega
    have hel : (l.map sk)[((K : Int)).toNat]?.getD .nil = sk (c, d) := by rw [Int.toNat_natCast, List.getElem?_map, hke]; rfl
    have he : eqL [I c, I d] [I a, I b] = decide ((c, d) = ((a, b) : S2)) := he
    by_cases hd : (c, d) = ((a, b) : S2)
    · rw [decide_eq_true hd] at he
      have hi : insS (a, b) l = l := by rw [hi, if_pos (by rw [hke, hd])]
      rw [hi]
      repeat' ((conv => whnf); first | exact trivial | (refine now_D1 (by simp; omega) ?_) | (refine nv_ (sk (c, d)) (by first | (exact hel; done) | fail) ?_) | refine nb_ true he ?_ | refine nT_ ?_ | (refine And.intro (by first | (exact hib; done) | (exact ⟨⟨rfl, rfl, trivial⟩, ⟨rfl, rfl, trivial⟩⟩; done) | fail) ?_) | refine aS ?_ | fail)
    · rw [decide_eq_false hd] at he
      have hi : insS (a, b) l = l.take K ++ [(a, b)] ++ l.drop K := by rw [hi, if_neg (by rw [hke]; intro e; exact hd (Option.some.inj e))]
      repeat' ((conv => whnf); first | (refine now_D1 (by simp; omega) ?_) | (refine nv_ (sk (c, d)) (by first | (exact hel; done) | fail) ?_) | refine nb_ false he ?_ | (refine nv_ (spsT (l.take K)) (by first | (exact hv1; done) | fail) ?_) | (refine nv_ (spsT (l.drop K)) (by first | (exact hv2; done) | fail) ?_) | refine nT_ ?_ | (refine And.intro (by first | (exact hib; done) | (exact ⟨⟨rfl, rfl, trivial⟩, ⟨rfl, rfl, trivial⟩⟩; done) | (exact hb1; done) | (exact hb2; done) | ((simp only [List.length_append, List.length_map]; omega); done) | ((simp [List.length_append]; omega); done) | fail) ?_) | refine aS ?_ | refine rt ?_ trivial | fail)
      unfold spsT
      rw [hi, List.map_append, List.map_append]
      rfl
  · have hi : insS (a, b) l = l.take K ++ [(a, b)] ++ l.drop K := by rw [hi, if_neg (by rw [List.getElem?_eq_none (by omega)]; simp)]
    repeat' ((conv => whnf); first | (refine now_D0 (by simp; omega) ?_) | (refine nv_ (spsT (l.take K)) (by first | (exact hv1; done) | fail) ?_) | (refine nv_ (spsT (l.drop K)) (by first | (exact hv2; done) | fail) ?_) | (refine And.intro (by first | (exact hb1; done) | (exact hb2; done) | ((simp only [List.length_append, List.length_map]; omega); done) | ((simp [List.length_append]; omega); done) | fail) ?_) | refine aS ?_ | refine rt ?_ trivial | fail)
    unfold spsT
    rw [hi, List.map_append, List.map_append]
    rfl
end Go.RC
end
section
namespace Go.RC
open Go Go.DL Go.Proofs
set_option maxRecDepth 100000
noncomputable def c15 : DCode := (.seq (.region [oo 2 (.alloc [.nil, .nil, .nil, .nil])] []) (.seq (.region [oo 19 (.mkmap true [.int .i64, .int .i64]),mv 3 19] []) (.seq (.region [oo 20 (.mkmap true [.int .i64, .int .i64]),mv 4 20] []) (.seq (.seq (.region [mv 21 0,oo 22 (.call 47 [(tm 21)]),oo 23 (.len (tm 22)),oo 24 (.mov (Kc 0))] []) (.block 0 (.loop (.seq (.region [oo 25 (.bin .lss (tm 24) (tm 23))] []) (.seq (.cond (tm 25) .skip (.exit 0)) (.seq (.block 1 (.seq (.cut (.region [oo 26 (.idxL 19 (tm 22) (tm 24)),oo 27 (.load 19 true (tm 26)),oo 6 (.alloc [(Zi 0), (Zi 0), .nil, (Ui 0), (Ui 0), (Ui 0), (Ui 0), (Ui 0), (Ui 0), (Ui 0), (Ui 0), (Ui 0), (Ui 0), (Ui 0), (Ui 0), (Ui 0), (Ui 0), (Ui 0), (Ui 0)]),o0 (.store 19 (tm 6) (tm 27))] [])) (.seq (.seq (.region [oo 28 (.load 19 true (tm 6)),oo 29 (.call 13 [(tm 28)]),oo 30 (.bin .neq (tm 29) (Kc 0))] []) (.cond (tm 30) (.exit 1) .skip)) (.seq (.cut (.region [oo 31 (.offA 0 (tm 6)),oo 32 (.load 1 false (tm 31)),oo 33 (.offA 1 (tm 6)),oo 34 (.load 1 false (tm 33)),oo 35 (.build [(Zi 0), (Zi 0)] [(0, 1, (tm 32)), (1, 1, (tm 34))]),oo 7 (.alloc [(Zi 0), (Zi 0)]),o0 (.store 2 (tm 7) (tm 35))] [])) (.seq (.cut (.region [mv 37 3,oo 38 (.load 2 true (tm 7)),oo 39 (.mlook true [.int .i64, .int .i64] (.agg [(Zi 0), (Zi 0), .nil, (Ui 0), (Ui 0), (Ui 0), (Ui 0), (Ui 0), (Ui 0), (Ui 0), (Ui 0), (Ui 0), (Ui 0), (Ui 0), (Ui 0), (Ui 0), (Ui 0), (Ui 0), (Ui 0)]) true (tm 37) (tm 38)),mv 36 39,oo 40 (.ext (tm 36) 0),oo 41 (.ext (tm 36) 1),oo 8 (.alloc [(Zi 0), (Zi 0), .nil, (Ui 0), (Ui 0), (Ui 0), (Ui 0), (Ui 0), (Ui 0), (Ui 0), (Ui 0), (Ui 0), (Ui 0), (Ui 0), (Ui 0), (Ui 0), (Ui 0), (Ui 0), (Ui 0)]),o0 (.store 19 (tm 8) (tm 40)),mv 9 41] [])) (.seq (.region [mv 42 9,oo 43 (.not (tm 42))] []) (.cond (tm 43) (.cut (.region [mv 44 3,oo 45 (.load 2 true (tm 7)),oo 46 (.load 19 true (tm 6)),o0 (.mput true [.int .i64, .int .i64] (tm 44) (tm 45) (tm 46))] [])) (.seq (.region [oo 47 (.load 19 true (tm 8)),oo 48 (.load 19 true (tm 6)),oo 49 (.call 48 [(tm 47), (tm 48)]),oo 50 (.not (tm 49))] []) (.cond (tm 50) (.region [mv 51 4,oo 52 (.load 2 true (tm 7)),o0 (.mput true [.int .i64, .int .i64] (tm 51) (tm 52) (.const (.bool true)))] []) .skip))))))))) (.region [oo 53 (.bin .add (tm 24) (Kc 1)),mv 24 53] []))))))) (.seq (.region [oo 10 (.alloc [.nil, .nil, .nil, .nil])] []) (.seq (.cut (.region [mv 54 4,oo 55 (.inl 50 [(tm 54)]),oo 56 (.inl 49 [(tm 55), (.const (.clos 51 []))]),oo 57 (.offA 1 (tm 10)),o0 (.store 1 (tm 57) (tm 56))] [])) (.seq (.region [oo 11 (.alloc [(Zi 0), (Zi 0)])] []) (.seq (.seq (.cut (.region [mv 58 3,oo 59 (.inl 52 [(tm 58)]),oo 60 (.inl 49 [(tm 59), (.const (.clos 51 []))]),oo 61 (.len (tm 60)),oo 62 (.mov (Kc 0))] [])) (.block 2 (.loop (.seq (.region [oo 63 (.bin .lss (tm 62) (tm 61))] []) (.seq (.cond (tm 63) .skip (.exit 2)) (.seq (.block 3 (.seq (.cut (.region [mv 64 62,oo 65 (.idxL 2 (tm 60) (tm 62)),oo 66 (.load 2 true (tm 65)),oo 13 (.alloc [(Zi 0), (Zi 0)]),mv 12 64,o0 (.store 2 (tm 13) (tm 66))] [])) (.seq (.cut (.region [mv 67 3,oo 68 (.load 2 true (tm 13)),oo 69 (.mlook true [.int .i64, .int .i64] (.agg [(Zi 0), (Zi 0), .nil, (Ui 0), (Ui 0), (Ui 0), (Ui 0), (Ui 0), (Ui 0), (Ui 0), (Ui 0), (Ui 0), (Ui 0), (Ui 0), (Ui 0), (Ui 0), (Ui 0), (Ui 0), (Ui 0)]) false (tm 67) (tm 68)),oo 14 (.alloc [(Zi 0), (Zi 0), .nil, (Ui 0), (Ui 0), (Ui 0), (Ui 0), (Ui 0), (Ui 0), (Ui 0), (Ui 0), (Ui 0), (Ui 0), (Ui 0), (Ui 0), (Ui 0), (Ui 0), (Ui 0), (Ui 0)]),o0 (.store 19 (tm 14) (tm 69))] [])) (.seq (.cut (.region [oo 70 (.offA 0 (tm 10)),oo 71 (.load 1 false (tm 70)),oo 72 (.load 19 true (tm 14)),oo 73 (.buildF 19 1 [(Zi 0), (Zi 0), .nil, (Ui 0), (Ui 0), (Ui 0), (Ui 0), (Ui 0), (Ui 0), (Ui 0), (Ui 0), (Ui 0), (Ui 0), (Ui 0), (Ui 0), (Ui 0), (Ui 0), (Ui 0), (Ui 0)] [(0, (tm 72))]),oo 74 (.append 33 41 19 56 (tm 71) (tm 73)),oo 75 (.offA 0 (tm 10)),o0 (.store 1 (tm 75) (tm 74))] [])) (.seq (.region [oo 15 (.mov (Kc 0))] []) (.seq (.cut (.seq (.region [mv 76 12,oo 77 (.bin .gtr (tm 76) (Kc 0)),mv 78 77,oT 79 78 (.offA 0 (tm 11)),oT 80 78 (.load 1 false (tm 79)),oT 81 78 (.offA 0 (tm 13)),oT 82 78 (.load 1 false (tm 81)),oT 83 78 (.bin .eql (tm 80) (tm 82)),oo 84 (.pick (tm 78) (tm 83) (.const (.bool false)))] []) (.cond (tm 84) (.region [oo 85 (.offA 1 (tm 11)),oo 86 (.load 1 false (tm 85)),oo 87 (.bin .add (tm 86) (Kc 1)),mv 15 87] []) .skip))) (.seq (.seq (.region [mv 88 15,mv 16 88] []) (.block 4 (.loop (.seq (.seq (.region [mv 89 16,oo 90 (.offA 1 (tm 13)),oo 91 (.load 1 false (tm 90)),oo 92 (.bin .lss (tm 89) (tm 91))] []) (.cond (tm 92) .skip (.exit 4))) (.seq (.block 5 (.region [oo 95 (.offA 2 (tm 10)),oo 96 (.load 1 false (tm 95)),oo 97 (.offA 0 (tm 13)),oo 98 (.load 1 false (tm 97)),mv 99 16,oo 100 (.build [(Zi 0), (Zi 0)] [(0, 1, (tm 98)), (1, 1, (tm 99))]),oo 101 (.buildF 2 1 [(Zi 0), (Zi 0)] [(0, (tm 100))]),oo 102 (.append 50 103 2 16 (tm 96) (tm 101)),oo 103 (.offA 2 (tm 10)),o0 (.store 1 (tm 103) (tm 102))] [])) (.region [mv 93 16,oo 94 (.bin .add (tm 93) (Kc 1)),mv 16 94] [])))))) (.seq (.cut (.region [mv 105 3,oo 106 (.offA 0 (tm 13)),oo 107 (.load 1 false (tm 106)),oo 108 (.offA 1 (tm 13)),oo 109 (.load 1 false (tm 108)),oo 110 (.bin .sub (tm 109) (Kc 1)),oo 111 (.build [(Zi 0), (Zi 0)] [(0, 1, (tm 107)), (1, 1, (tm 110))]),oo 112 (.mlook true [.int .i64, .int .i64] (.agg [(Zi 0), (Zi 0), .nil, (Ui 0), (Ui 0), (Ui 0), (Ui 0), (Ui 0), (Ui 0), (Ui 0), (Ui 0), (Ui 0), (Ui 0), (Ui 0), (Ui 0), (Ui 0), (Ui 0), (Ui 0), (Ui 0)]) true (tm 105) (tm 111)),mv 104 112,oo 113 (.ext (tm 104) 0),oo 114 (.ext (tm 104) 1),oo 17 (.alloc [(Zi 0), (Zi 0), .nil, (Ui 0), (Ui 0), (Ui 0), (Ui 0), (Ui 0), (Ui 0), (Ui 0), (Ui 0), (Ui 0), (Ui 0), (Ui 0), (Ui 0), (Ui 0), (Ui 0), (Ui 0), (Ui 0)]),o0 (.store 19 (tm 17) (tm 113)),mv 18 114] [])) (.seq (.seq (.cut (.region [mv 115 18,mv 116 115,oT 117 116 (.load 19 true (tm 17)),oT 118 116 (.call 30 [(tm 117)]),oT 119 116 (.offA 3 (tm 14)),oT 120 116 (.load 16 true (tm 119)),oT 121 116 (.eqv true [.int .u8, .int .u8, .int .u8, .int .u8, .int .u8, .int .u8, .int .u8, .int .u8, .int .u8, .int .u8, .int .u8, .int .u8, .int .u8, .int .u8, .int .u8, .int .u8] (tm 118) (tm 120)),oo 122 (.pick (tm 116) (tm 121) (.const (.bool false))),mv 123 122,oF 124 123 (.offA 1 (tm 13)),oF 125 123 (.load 1 false (tm 124)),oF 126 123 (.bin .eql (tm 125) (Kc 0)),mF 127 126 123,oT 128 127 (.offA 3 (tm 14)),oT 129 127 (.load 16 true (tm 128)),oT 130 127 (.build [(Ui 0), (Ui 0), (Ui 0), (Ui 0), (Ui 0), (Ui 0), (Ui 0), (Ui 0), (Ui 0), (Ui 0), (Ui 0), (Ui 0), (Ui 0), (Ui 0), (Ui 0), (Ui 0)] []),oT 131 127 (.eqv true [.int .u8, .int .u8, .int .u8, .int .u8, .int .u8, .int .u8, .int .u8, .int .u8, .int .u8, .int .u8, .int .u8, .int .u8, .int .u8, .int .u8, .int .u8, .int .u8] (tm 129) (tm 130)),oF 132 123 (.pick (tm 127) (tm 131) (.const (.bool false))),oo 133 (.pick (tm 123) (.const (.bool true)) (tm 132))] [])) (.cond (tm 133) (.cut (.region [oo 134 (.offA 3 (tm 10)),oo 135 (.load 1 false (tm 134)),oo 136 (.load 2 true (tm 13)),oo 137 (.buildF 2 1 [(Zi 0), (Zi 0)] [(0, (tm 136))]),oo 138 (.append 50 103 2 16 (tm 135) (tm 137)),oo 139 (.offA 3 (tm 10)),o0 (.store 1 (tm 139) (tm 138))] [])) .skip)) (.region [oo 140 (.load 2 true (tm 13)),o0 (.store 2 (tm 11) (tm 140))] [])))))))))) (.region [oo 141 (.bin .add (tm 62) (Kc 1)),mv 62 141] []))))))) (.seq (.region [oo 142 (.load 4 true (tm 10)),o0 (.store 4 (tm 2) (tm 142))] []) .ret)))))))))
theorem l15 : (Tryz.f15.body.bind (lowC Tryz.prog 143 [49, 50, 52, 6000005, 6000007, 6000008, 6000010, 6000015, 6000017, 6000019, 6000020, 6000021, 5000023, 6000029, 6000030, 6000031, 8000073, 8000101, 8000137])) = some c15 := by kernel_rfl
end Go.RC
end
section
namespace Go.RC
open Go Go.DL Go.Proofs
set_option maxRecDepth 100000
set_option maxHeartbeats 20000000
theorem leBm {ks : List Nat} {bx : Nat → Option BX} {ag : Bool} {sh : List Sh} {es es' : List (T × T)} (h : es = es') : LeB ks bx (.m ag sh es none) (some (.m ag sh es' none)) := by rw [h]; exact .same _
abbrev nil4 : List T := [.nil, .nil, .nil, .nil]
theorem fold_drop {l : List Rc} {k : Nat} (h : k < l.length) (a : List Rc × List S2) : (l.drop k).foldl mg1 a = (l.drop (k + 1)).foldl mg1 (mg1 a l[k]) := by
  rw [List.drop_eq_getElem_cons h]; rfl
theorem t_Merge (ls : List (List Rc)) (hl : ls.length < 2 ^ 20) (hn : lensN ls < 2 ^ 18) (ho : ∀ l ∈ ls, ∀ r ∈ l, r.ok) : DCalls Tryz.prog 15 [.slice 1 (ls.map rcs)] (mrg ls.flatten) := by
  have hC := t_Concat ls hl (by omega)
  have hfl := lensN_flat ls
  have hao : ∀ r ∈ ls.flatten, r.ok := fun r hr => by
    obtain ⟨l, h1, h2⟩ := List.mem_flatten.1 hr
    exact ho l h1 r h2
  generalize ls.flatten = all at *
  refine dcalls_low (rs := [.cell 2 52]) mixed Tryz.func15 l15 rfl rfl rfl (r := [.agg _]) (Nat.le_of_ble_eq_true rfl) ?_
  repeat' ((conv => whnf); first | refine k_call _ (hC) ?_ | fail)
  refine wpC_loopE 0 (α := Nat × List Rc × List S2) (β := Unit) (fun q => {sl := [(2, .ptr 2 0), (3, .mp 19), (4, .mp 20), (22, .t (rcs all)), (23, .t (I all.length)), (24, .t (I q.1))], bx := [(2, .d 4 nil4), (19, .m true sh2 (esF q.2.1) none), (20, .m true sh2 (esQ q.2.2) none)]})
    (fun q => q.1 ≤ all.length ∧ okF q.2.1 ∧ q.2.1.length ≤ q.1 ∧ q.2.2.length ≤ q.1 ∧ (all.drop q.1).foldl mg1 q.2 = mgF all) (fun q => all.length - q.1)
    (fun _ => {sl := [(2, .ptr 2 0), (3, .mp 19), (4, .mp 20)], bx := [(2, .d 4 nil4), (19, .m true sh2 (esF (mgF all).1) none), (20, .m true sh2 (esQ (mgF all).2) none)]}) (fun _ => okF (mgF all).1 ∧ (mgF all).1.length ≤ all.length ∧ (mgF all).2.length ≤ all.length) (0, [], []) ⟨by simp, fun r h => by simp at h, by simp, by simp, rfl⟩ ?_ ?_ ?_
  · repeat' (first | ((refine leI ?_; simp; done)) | exact trivial | exact LeV.same _ | exact LeB.same _ | exact rfl | exact fun _ _ _ => trivial | refine And.intro ?_ ?_)
  · rintro ⟨k, F, K⟩ ⟨hk, hF, hFl, hKl, hfo⟩
    dsimp only at hk hF hFl hKl hfo
    rcases Nat.lt_or_ge k all.length with h2 | h2
    · rw [fold_drop h2] at hfo
      have hro := hao all[k] (List.getElem_mem h2)
      have hke : all[k]? = some all[k] := List.getElem?_eq_getElem h2
      have hm := mg1_ok (a := (F, K)) hF hro
      generalize all[k] = r at hfo hro hke hm
      obtain ⟨n, i, l, pv⟩ := r
      have hlen : (rcC n i l pv).length = 19 := rc_len hro
      have hib : 0 ≤ (k : Int) ∧ (k : Int) < ((all.map rc).length : Int) := by rw [List.length_map]; omega
      have hel : (all.map rc)[((k : Int)).toNat]?.getD .nil = rcT n i l pv := eltRc (r := ⟨n, i, l, pv⟩) (by rw [Int.toNat_natCast]; exact hke)
      repeat' ((conv => whnf); first | refine now_D1 (by omega) ?_ | refine aS ?_ | fail)
      refine wpC_cut (β := Unit) (fun _ => {sl := [(2, .ptr 2 0), (3, .mp 19), (4, .mp 20), (6, .ptr 6 0), (22, .t (rcs all)), (23, .t (I all.length)), (24, .t (I k))], bx := [(2, .d 4 nil4), (6, .d 19 (rcC n i l pv)), (19, .m true sh2 (esF F) none), (20, .m true sh2 (esQ K) none)]}) (fun _ => True) ?_ fun _ _ => ?_
      · repeat' ((conv => whnf); first | (refine nv_ (rcT n i l pv) (by first | (exact hel; done) | fail) ?_) | refine nT_ ?_ | (refine And.intro (by first | (exact hib; done) | (exact hlen; done) | (exact ⟨hlen, Nat.le_of_ble_eq_true rfl⟩; done) | fail) ?_) | fail)
        exact ⟨(), trivial, by repeat' (first | ((refine leBd ?_; exact (putL_all (n := 19) rfl).symm)) | exact trivial | exact LeV.same _ | exact LeB.same _ | exact rfl | exact fun _ _ _ => trivial | refine And.intro ?_ ?_)⟩
      have hCk := t_Check n i l pv (by have := hro.2; dsimp only at this; omega) hro.1.l8 hro.1.hp
      by_cases c0 : chk n i l = 0
      case neg =>
        have hst : mg1 (F, K) ⟨n, i, l, pv⟩ = (F, K) := by unfold mg1; rw [if_pos (show chkR ⟨n, i, l, pv⟩ ≠ 0 from c0)]
        rw [hst] at hfo
        repeat' ((conv => whnf); first | refine k_call _ (hCk) ?_ | refine now_N1 c0 ?_ | refine aS ?_ | fail)
        exact ⟨(k + 1, F, K), ⟨by dsimp only; omega, hF, by dsimp only; omega, by dsimp only; omega, hfo⟩, by dsimp only; omega, by repeat' (first | exact trivial | exact LeV.same _ | exact LeB.same _ | exact rfl | exact fun _ _ _ => trivial | exact lI | refine And.intro ?_ ?_)⟩
      have hst : mg1 (F, K) ⟨n, i, l, pv⟩ = match atS F (n, i) with
        | none => (F ++ [⟨n, i, l, pv⟩], K)
        | some o => if samL o ⟨n, i, l, pv⟩ = true then (F, K) else (F, putK (n, i) K) := by unfold mg1; rw [if_neg (show ¬ chkR ⟨n, i, l, pv⟩ ≠ 0 from fun h => h c0)]; try rfl
      rw [hst] at hfo hm
      have hmf := mfind_esF (n, i) F
      repeat' ((conv => whnf); first | refine k_call _ (hCk) ?_ | refine now_N0 c0 ?_ | refine aS ?_ | fail)
      refine wpC_cut (β := Unit) (fun _ => {sl := [(2, .ptr 2 0), (3, .mp 19), (4, .mp 20), (6, .ptr 6 0), (7, .ptr 7 0), (22, .t (rcs all)), (23, .t (I all.length)), (24, .t (I k))], bx := [(2, .d 4 nil4), (6, .d 19 (rcC n i l pv)), (7, .d 2 [I n, I i]), (19, .m true sh2 (esF F) none), (20, .m true sh2 (esQ K) none)]}) (fun _ => True) ?_ fun _ _ => ?_
      · repeat' ((conv => whnf); first | refine nT_ ?_ | refine aS ?_ | fail)
        exact ⟨(), trivial, by repeat' (first | exact trivial | exact LeV.same _ | exact LeB.same _ | exact rfl | exact fun _ _ _ => trivial | refine And.intro ?_ ?_)⟩
      have hkey : keyOk true sh2 (sk (n, i)) := ⟨rfl, rfl, rfl, trivial⟩
      cases hat : atS F (n, i) with
      | none =>
        rw [hat] at hmf hfo hm
        have hpu := mput_esF (r := ⟨n, i, l, pv⟩) hat
        refine wpC_cut (β := Unit) (fun _ => {sl := [(2, .ptr 2 0), (3, .mp 19), (4, .mp 20), (6, .ptr 6 0), (7, .ptr 7 0), (9, .t (.bool false)), (22, .t (rcs all)), (23, .t (I all.length)), (24, .t (I k))], bx := [(2, .d 4 nil4), (6, .d 19 (rcC n i l pv)), (7, .d 2 [I n, I i]), (19, .m true sh2 (esF F) none), (20, .m true sh2 (esQ K) none)]}) (fun _ => True) ?_ fun _ _ => ?_
        · repeat' ((conv => whnf); first | (refine nv_ (.tup [.agg z19, .bool false]) (by show mres _ _ (mfind (sk (n, i)).cells (esF F)) = _; rw [hmf]; rfl) ?_) | (refine And.intro (by first | (exact hkey; done) | fail) ?_) | refine aS ?_ | fail)
          exact ⟨(), trivial, by repeat' (first | exact trivial | exact LeV.same _ | exact LeB.same _ | exact rfl | exact fun _ _ _ => trivial | refine And.intro ?_ ?_)⟩
        skip
        refine wpC_cut (β := Unit) (fun _ => {sl := [(2, .ptr 2 0), (3, .mp 19), (4, .mp 20), (22, .t (rcs all)), (23, .t (I all.length)), (24, .t (I k))], bx := [(2, .d 4 nil4), (19, .m true sh2 (esF (F ++ [⟨n, i, l, pv⟩])) none), (20, .m true sh2 (esQ K) none)]}) (fun _ => True) ?_ fun _ _ => ?_
        · repeat' ((conv => whnf); first | (refine And.intro (by first | (exact hkey; done) | (exact hlen; done) | fail) ?_) | fail)
          exact ⟨(), trivial, by repeat' (first | (exact leBm hpu.symm) | exact trivial | exact LeV.same _ | exact LeB.same _ | exact rfl | exact fun _ _ _ => trivial | refine And.intro ?_ ?_)⟩
        skip
        exact ⟨(k + 1, F ++ [⟨n, i, l, pv⟩], K), ⟨by dsimp only; omega, hm.1, by simp; omega, by dsimp only; omega, hfo⟩, by dsimp only; omega, by repeat' (first | exact trivial | exact LeV.same _ | exact LeB.same _ | exact rfl | exact fun _ _ _ => trivial | exact lI | refine And.intro ?_ ?_)⟩
      | some o =>
        obtain ⟨hoF, hos⟩ := atS_mem hat
        have hoo := (hF o hoF).1
        obtain ⟨n', i', l', pv'⟩ := o
        rw [hat] at hmf hfo hm
        have hlen' : (rcC n' i' l' pv').length = 19 := rc_len hoo
        have hS := t_Same n' i' l' pv' n i l pv hoo.1.l8 hro.1.l8 (by have := hoo.2; dsimp only at this; omega) hoo.1.hp hro.1.hp
        have hf : sameB n' i' l' pv' n i l pv = samL ⟨n', i', l', pv'⟩ ⟨n, i, l, pv⟩ := rfl
        rw [hf] at hS
        refine wpC_cut (β := Unit) (fun _ => {sl := [(2, .ptr 2 0), (3, .mp 19), (4, .mp 20), (6, .ptr 6 0), (7, .ptr 7 0), (8, .ptr 8 0), (9, .t (.bool true)), (22, .t (rcs all)), (23, .t (I all.length)), (24, .t (I k))], bx := [(2, .d 4 nil4), (6, .d 19 (rcC n i l pv)), (7, .d 2 [I n, I i]), (8, .d 19 (rcC n' i' l' pv')), (19, .m true sh2 (esF F) none), (20, .m true sh2 (esQ K) none)]}) (fun _ => True) ?_ fun _ _ => ?_
        · repeat' ((conv => whnf); first | (refine nv_ (.tup [rcT n' i' l' pv', .bool true]) (by show mres _ _ (mfind (sk (n, i)).cells (esF F)) = _; rw [hmf]; rfl) ?_) | (refine And.intro (by first | (exact hkey; done) | (exact ⟨hlen', Nat.le_of_ble_eq_true rfl⟩; done) | fail) ?_) | fail)
          exact ⟨(), trivial, by repeat' (first | ((refine leBd ?_; exact (putL_all (n := 19) rfl).symm)) | exact trivial | exact LeV.same _ | exact LeB.same _ | exact rfl | exact fun _ _ _ => trivial | refine And.intro ?_ ?_)⟩
        cases hs : samL ⟨n', i', l', pv'⟩ ⟨n, i, l, pv⟩ with
        | true =>
          rw [hs] at hS
          have hfo : (all.drop (k + 1)).foldl mg1 (if samL ⟨n', i', l', pv'⟩ ⟨n, i, l, pv⟩ = true then (F, K) else (F, putK (n, i) K)) = mgF all := hfo
          rw [hs, if_pos rfl] at hfo
          repeat' ((conv => whnf); first | refine k_call _ (hS) ?_ | fail)
          exact ⟨(k + 1, F, K), ⟨by dsimp only; omega, hF, by dsimp only; omega, by dsimp only; omega, hfo⟩, by dsimp only; omega, by repeat' (first | exact trivial | exact LeV.same _ | exact LeB.same _ | exact rfl | exact fun _ _ _ => trivial | exact lI | refine And.intro ?_ ?_)⟩
        | false =>
          rw [hs] at hS
          have hfo : (all.drop (k + 1)).foldl mg1 (if samL ⟨n', i', l', pv'⟩ ⟨n, i, l, pv⟩ = true then (F, K) else (F, putK (n, i) K)) = mgF all := hfo
          rw [hs, if_neg (by simp)] at hfo
          have hpq := mput_esQ (n, i) K
          have hkl := putK_len (n, i) K
          repeat' ((conv => whnf); first | refine k_call _ (hS) ?_ | (refine And.intro (by first | (exact hlen; done) | (exact hlen'; done) | (exact hkey; done) | fail) ?_) | fail)
          exact ⟨(k + 1, F, putK (n, i) K), ⟨by dsimp only; omega, hF, by dsimp only; omega, by dsimp only; omega, hfo⟩, by dsimp only; omega, by repeat' (first | (exact leBm hpq.symm) | exact trivial | exact LeV.same _ | exact LeB.same _ | exact rfl | exact fun _ _ _ => trivial | exact lI | refine And.intro ?_ ?_)⟩
    · have : k = all.length := by omega
      subst this
      rw [List.drop_length] at hfo
      have hfo : (F, K) = mgF all := hfo
      rw [← hfo]
      repeat' ((conv => whnf); first | refine now_D0 (by omega) ?_ | refine aS ?_ | fail)
      exact ⟨(), ⟨hF, hFl, hKl⟩, by repeat' (first | exact trivial | exact LeV.same _ | exact LeB.same _ | exact rfl | exact fun _ _ _ => trivial | refine And.intro ?_ ?_)⟩
  rintro - ⟨hF, hFl, hKl⟩
  generalize mgF all = M at *
  obtain ⟨F, K⟩ := M
  dsimp only at hF hFl hKl
  -- the forks
  have hQ := n_SortedQ K (by omega)
  have hN := n_SortedF F (by omega)
  skip
  refine wpC_cut (β := Unit) (fun _ => {sl := [(2, .ptr 2 0), (3, .mp 19), (10, .ptr 10 0)], bx := [(2, .d 4 nil4), (10, .d 4 [.nil, spsT (srtS K), .nil, .nil]), (19, .m true sh2 (esF F) none)]}) (fun _ => True) ?_ fun _ _ => ?_
  · skip
    refine WC_inl mixed Tryz.func50 l50 rfl rfl (rs := [.tmp 2]) rfl 3000 (Nat.le_of_ble_eq_true rfl) ?_
    repeat' ((conv => whnf); first | refine aS ?_ | refine ⟨_, rfl, ?_⟩ | fail)
    refine WC_new rfl hQ ?_
    repeat' ((conv => whnf); first | refine aS ?_ | fail)
    exact ⟨(), trivial, by repeat' (first | exact trivial | exact LeV.same _ | exact LeB.same _ | exact rfl | exact fun _ _ _ => trivial | refine And.intro ?_ ?_)⟩
  skip
  refine wpC_cut (β := Unit) (fun _ => {sl := [(2, .ptr 2 0), (3, .mp 19), (10, .ptr 10 0), (11, .ptr 11 0), (60, .t (.slice 2 ((srtS (F.map sp)).map sk))), (61, .t (I (srtS (F.map sp)).length)), (62, .t (I 0))], bx := [(2, .d 4 nil4), (10, .d 4 [.nil, spsT (srtS K), .nil, .nil]), (11, .d 2 [I 0, I 0]), (19, .m true sh2 (esF F) none)]}) (fun _ => True) ?_ fun _ _ => ?_
  · skip
    refine WC_inl mixed Tryz.func52 l52 rfl rfl (rs := [.tmp 2]) rfl 4000 (Nat.le_of_ble_eq_true rfl) ?_
    repeat' ((conv => whnf); first | refine aS ?_ | refine ⟨_, rfl, ?_⟩ | fail)
    refine WC_new rfl hN ?_
    skip
    exact ⟨(), trivial, by repeat' (first | ((refine leI ?_; simp; done)) | exact trivial | exact LeV.same _ | exact LeB.same _ | exact rfl | exact fun _ _ _ => trivial | refine And.intro ?_ ?_)⟩
  have hks : (rcsF F).length = (srtS (F.map sp)).length := by unfold rcsF; rw [List.length_map]
  have hkl : (srtS (F.map sp)).length < 2 ^ 18 := by rw [(srtS_perm _).length_eq, List.length_map]; omega
  have hmem : ∀ s ∈ srtS (F.map sp), atS F s = some (rcOf F s) ∧ rcOf F s ∈ F ∧ sp (rcOf F s) = s := fun s hs => rcOf_mem ((srtS_perm _).mem_iff.1 hs)
  have hall : ∀ r ∈ rcsF F, r.ok ∧ chkR r = 0 := fun r hr => by
    obtain ⟨s, hs, rfl⟩ := List.mem_map.1 hr
    exact hF _ (hmem s hs).2.1
  refine wpC_loopE 2 (α := Nat) (β := Unit) (fun k => {sl := [(2, .ptr 2 0), (3, .mp 19), (10, .ptr 10 0), (11, .ptr 11 0), (60, .t (.slice 2 ((srtS (F.map sp)).map sk))), (61, .t (I (srtS (F.map sp)).length)), (62, .t (I k))], bx := [(2, .d 4 nil4), (10, .v [.own 74 41 19 (((rcsF F).take k).map rc), .t (spsT (srtS K)), .own 102 103 2 ((gaps none ((rcsF F).take k)).map sk), .own 138 103 2 ((brks F ((rcsF F).take k)).map sk)]), (11, .d 2 [I (lst ((rcsF F).take k)).1, I (lst ((rcsF F).take k)).2]), (19, .m true sh2 (esF F) none)]})
    (fun k => k ≤ (srtS (F.map sp)).length) (fun k => (srtS (F.map sp)).length - k)
    (fun _ => {sl := [(2, .ptr 2 0), (10, .ptr 10 0)], bx := [(2, .d 4 nil4), (10, .v [.t (rcs (rcsF F)), .t (spsT (srtS K)), .t (spsT (gaps none (rcsF F))), .t (spsT (brks F (rcsF F)))])]}) (fun _ => True) 0 (by omega) ?_ ?_ ?_
  · repeat' (first | (refine LeB.dv _ _ _ ?_) | exact trivial | exact LeV.same _ | exact LeB.same _ | exact rfl | exact fun _ _ _ => trivial | exact LeV.nil _ _ _ | refine And.intro ?_ ?_)
  · rintro k hk
    rcases Nat.lt_or_ge k (srtS (F.map sp)).length with h2 | h2
    · have hke : (srtS (F.map sp))[k]? = some (srtS (F.map sp))[k] := List.getElem?_eq_getElem h2
      obtain ⟨hat, hrF, hsp⟩ := hmem _ (List.getElem_mem h2)
      have h2' : k < (rcsF F).length := by omega
      have hrk : (rcsF F)[k] = rcOf F (srtS (F.map sp))[k] := by
        have e : (rcsF F)[k]? = some (rcOf F (srtS (F.map sp))[k]) := by unfold rcsF; rw [List.getElem?_map, hke]; rfl
        exact Option.some.inj ((List.getElem?_eq_getElem h2').symm.trans e)
      have hR1 : (rcsF F).take (k + 1) = (rcsF F).take k ++ [(rcsF F)[k]] := List.take_succ_eq_append_getElem h2'
      have hG1 := gaps_take h2'
      have hB1 := brks_snoc F ((rcsF F).take k) (rcsF F)[k]
      have hL1 := lst_snoc ((rcsF F).take k) (rcsF F)[k]
      rw [← hR1] at hB1 hL1
      have htk : ∀ x ∈ (rcsF F).take k, x.ok ∧ chkR x = 0 := fun x hx => hall x (List.mem_of_mem_take hx)
      have hpl : ∀ x, ((rcsF F).take k).getLast? = some x → x.ok ∧ chkR x = 0 := fun x hx => htk x (List.mem_of_getLast? hx)
      have hRl : ((rcsF F).take k).length = k := by rw [List.length_take]; omega
      have hlk : lst ((rcsF F).take k) = match ((rcsF F).take k).getLast? with | some x => sp x | none => (0, 0) := rfl
      have hpn : ((rcsF F).take k).getLast? = none ↔ k = 0 := by rw [List.getLast?_eq_none_iff, ← List.length_eq_zero_iff, hRl]
      have hGl := gaps_len (l := (rcsF F).take k) (p := none) (fun x h => by cases h) (fun x hx => (htk x hx).2)
      have hBl := brks_len F ((rcsF F).take k)
      rw [hRl] at hGl hBl
      rw [hrk] at hR1 hG1 hB1 hL1
      have hro := hF _ hrF
      generalize rcOf F (srtS (F.map sp))[k] = r at *
      rw [← hsp] at hke hat
      obtain ⟨a, b, l, pv⟩ := r
      obtain ⟨hr1, hr2⟩ := hro
      have hlen : (rcC a b l pv).length = 19 := rc_len hr1
      obtain ⟨n0, n1, i0, i1⟩ := chk_bounds hr2
      dsimp only at n0 n1 i0 i1
      have hfb := frm_bounds (r := ⟨a, b, l, pv⟩) (fun x hx => (hpl x hx).2)
      have hg1 := gap1_len (r := ⟨a, b, l, pv⟩) (fun x hx => (hpl x hx).2) hr2
      generalize ((rcsF F).take k).getLast? = prev at *
      generalize hRk1 : (rcsF F).take (k + 1) = Rk1 at *
      generalize hGk1 : gaps none Rk1 = Gk1 at *
      generalize hBk1 : brks F Rk1 = Bk1 at *
      generalize hLk1 : lst Rk1 = lk1 at *
      generalize hGk : gaps none ((rcsF F).take k) = Gk at *
      generalize hBk : brks F ((rcsF F).take k) = Bk at *
      generalize hLk : lst ((rcsF F).take k) = lk at *
      generalize (rcsF F).take k = Rk at *
      have hib : 0 ≤ (k : Int) ∧ (k : Int) < (((srtS (F.map sp)).map sk).length : Int) := by rw [List.length_map]; omega
      have hel : ((srtS (F.map sp)).map sk)[((k : Int)).toNat]?.getD .nil = sk (a, b) := by rw [Int.toNat_natCast, List.getElem?_map, hke]; rfl
      repeat' ((conv => whnf); first | refine now_D1 (by omega) ?_ | refine aS ?_ | fail)
      refine wpC_cut (β := Unit) (fun _ => {sl := [(2, .ptr 2 0), (3, .mp 19), (10, .ptr 10 0), (11, .ptr 11 0), (60, .t (.slice 2 ((srtS (F.map sp)).map sk))), (61, .t (I (srtS (F.map sp)).length)), (62, .t (I k)), (12, .t (I k)), (13, .ptr 13 0)], bx := [(2, .d 4 nil4), (10, .v [.own 74 41 19 ((Rk).map rc), .t (spsT (srtS K)), .own 102 103 2 ((Gk).map sk), .own 138 103 2 ((Bk).map sk)]), (11, .d 2 [I lk.1, I lk.2]), (13, .d 2 [I a, I b]), (19, .m true sh2 (esF F) none)]}) (fun _ => True) ?_ fun _ _ => ?_
      · repeat' ((conv => whnf); first | (refine nv_ (sk (a, b)) (by first | (exact hel; done) | fail) ?_) | refine nT_ ?_ | (refine And.intro (by first | (exact hib; done) | fail) ?_) | refine aS ?_ | fail)
        exact ⟨(), trivial, by repeat' (first | exact trivial | exact LeV.same _ | exact LeB.same _ | exact rfl | exact fun _ _ _ => trivial | refine And.intro ?_ ?_)⟩
      have hkey : keyOk true sh2 (sk (a, b)) := ⟨rfl, rfl, rfl, trivial⟩
      have hmf := mfind_esF (a, b) F
      rw [show atS F (a, b) = _ from hat] at hmf
      refine wpC_cut (β := Unit) (fun _ => {sl := [(2, .ptr 2 0), (3, .mp 19), (10, .ptr 10 0), (11, .ptr 11 0), (60, .t (.slice 2 ((srtS (F.map sp)).map sk))), (61, .t (I (srtS (F.map sp)).length)), (62, .t (I k)), (12, .t (I k)), (13, .ptr 13 0), (14, .ptr 14 0)], bx := [(2, .d 4 nil4), (10, .v [.own 74 41 19 ((Rk).map rc), .t (spsT (srtS K)), .own 102 103 2 ((Gk).map sk), .own 138 103 2 ((Bk).map sk)]), (11, .d 2 [I lk.1, I lk.2]), (13, .d 2 [I a, I b]), (14, .d 19 (rcC a b l pv)), (19, .m true sh2 (esF F) none)]}) (fun _ => True) ?_ fun _ _ => ?_
      · repeat' ((conv => whnf); first | (refine nv_ (rcT a b l pv) (by show mres _ _ (mfind (sk (a, b)).cells (esF F)) = _; rw [hmf]; rfl) ?_) | (refine And.intro (by first | (exact hkey; done) | (exact ⟨hlen, Nat.le_of_ble_eq_true rfl⟩; done) | fail) ?_) | fail)
        exact ⟨(), trivial, by repeat' (first | ((refine leBd ?_; exact (putL_all (n := 19) rfl).symm)) | exact trivial | exact LeV.same _ | exact LeB.same _ | exact rfl | exact fun _ _ _ => trivial | refine And.intro ?_ ?_)⟩
      refine wpC_cut (β := Unit) (fun _ => {sl := [(2, .ptr 2 0), (3, .mp 19), (10, .ptr 10 0), (11, .ptr 11 0), (60, .t (.slice 2 ((srtS (F.map sp)).map sk))), (61, .t (I (srtS (F.map sp)).length)), (62, .t (I k)), (12, .t (I k)), (13, .ptr 13 0), (14, .ptr 14 0)], bx := [(2, .d 4 nil4), (10, .v [.own 74 41 19 ((Rk1).map rc), .t (spsT (srtS K)), .own 102 103 2 ((Gk).map sk), .own 138 103 2 ((Bk).map sk)]), (11, .d 2 [I lk.1, I lk.2]), (13, .d 2 [I a, I b]), (14, .d 19 (rcC a b l pv)), (19, .m true sh2 (esF F) none)]}) (fun _ => True) ?_ fun _ _ => ?_
      · repeat' ((conv => whnf); first | (refine And.intro (by first | (exact hlen; done) | (exact ⟨trivial, hlen⟩; done) | ((simp; omega); done) | fail) ?_) | refine aS ?_ | fail)
        exact ⟨(), trivial, by repeat' (first | (refine LeB.v _ _ ?_) | ((refine leOwn ?_; rw [hR1, List.map_append]; rfl)) | exact trivial | exact LeV.same _ | exact LeB.same _ | exact rfl | exact fun _ _ _ => trivial | refine And.intro ?_ ?_)⟩
      skip
      refine wpC_cut (β := Unit) (fun _ => {sl := [(2, .ptr 2 0), (3, .mp 19), (10, .ptr 10 0), (11, .ptr 11 0), (60, .t (.slice 2 ((srtS (F.map sp)).map sk))), (61, .t (I (srtS (F.map sp)).length)), (62, .t (I k)), (12, .t (I k)), (13, .ptr 13 0), (14, .ptr 14 0), (15, .t (I (frm prev ⟨a, b, l, pv⟩)))], bx := [(2, .d 4 nil4), (10, .v [.own 74 41 19 ((Rk1).map rc), .t (spsT (srtS K)), .own 102 103 2 ((Gk).map sk), .own 138 103 2 ((Bk).map sk)]), (11, .d 2 [I lk.1, I lk.2]), (13, .d 2 [I a, I b]), (14, .d 19 (rcC a b l pv)), (19, .m true sh2 (esF F) none)]}) (fun _ => True) ?_ fun _ _ => ?_
      · cases prev with
        | none =>
          have k0 : k = 0 := hpn.1 rfl
          repeat' ((conv => whnf); first | refine now_D0 (by omega) ?_ | refine aS ?_ | fail)
          exact ⟨(), trivial, by repeat' (first | exact trivial | exact LeV.same _ | exact LeB.same _ | exact rfl | exact fun _ _ _ => trivial | refine And.intro ?_ ?_)⟩
        | some q =>
          have k0 : ¬ k = 0 := fun h => by have := hpn.2 h; cases this
          have hlk : lk = (q.n, q.i) := hlk
          subst hlk
          obtain ⟨-, q1, q2, q3⟩ := chk_bounds (hpl q rfl).2
          by_cases hqa : q.n = a
          · have hfr : frm (some q) ⟨a, b, l, pv⟩ = IntKind.i64.wrap (q.i + 1) := by
              rw [wrap_id (by omega) (by omega)]; unfold frm; exact if_pos hqa
            repeat' ((conv => whnf); first | refine now_D1 (by omega) ?_ | refine nT_ ?_ | refine aS ?_ | fail)
            exact ⟨(), trivial, by repeat' (first | (exact leI hfr) | exact trivial | exact LeV.same _ | exact LeB.same _ | exact rfl | exact fun _ _ _ => trivial | refine And.intro ?_ ?_)⟩
          · have hfr : frm (some q) ⟨a, b, l, pv⟩ = 0 := by unfold frm; exact if_neg hqa
            repeat' ((conv => whnf); first | refine now_D1 (by omega) ?_ | refine now_E0 hqa ?_ | refine nT_ ?_ | refine aS ?_ | fail)
            exact ⟨(), trivial, by repeat' (first | (exact leI hfr) | exact trivial | exact LeV.same _ | exact LeB.same _ | exact rfl | exact fun _ _ _ => trivial | refine And.intro ?_ ?_)⟩
      generalize hfr : frm prev ⟨a, b, l, pv⟩ = fr at *
      have hgl : (gap1 prev ⟨a, b, l, pv⟩).length = (b - fr).toNat := by unfold gap1; rw [List.length_map, List.length_range, hfr]
      have hgt : ∀ j, j < (b - fr).toNat → (gap1 prev ⟨a, b, l, pv⟩).take (j + 1) = (gap1 prev ⟨a, b, l, pv⟩).take j ++ [(a, fr + (j : Int))] := fun j hj => by
        have := gap1_take (p := prev) (r := ⟨a, b, l, pv⟩) (j := j) (by rw [hfr]; exact hj)
        rw [this, hfr]
      generalize gap1 prev ⟨a, b, l, pv⟩ = gp at *
      skip
      refine wpC_loopE 4 (α := Nat) (β := Unit) (fun j => {sl := [(2, .ptr 2 0), (3, .mp 19), (10, .ptr 10 0), (11, .ptr 11 0), (60, .t (.slice 2 ((srtS (F.map sp)).map sk))), (61, .t (I (srtS (F.map sp)).length)), (62, .t (I k)), (12, .t (I k)), (13, .ptr 13 0), (14, .ptr 14 0), (16, .t (I (fr + (j : Int))))], bx := [(2, .d 4 nil4), (10, .v [.own 74 41 19 ((Rk1).map rc), .t (spsT (srtS K)), .own 102 103 2 ((Gk ++ gp.take j).map sk), .own 138 103 2 ((Bk).map sk)]), (11, .d 2 [I lk.1, I lk.2]), (13, .d 2 [I a, I b]), (14, .d 19 (rcC a b l pv)), (19, .m true sh2 (esF F) none)]})
        (fun j => j ≤ (b - fr).toNat) (fun j => (b - fr).toNat - j) (fun _ => {sl := [(2, .ptr 2 0), (3, .mp 19), (10, .ptr 10 0), (11, .ptr 11 0), (60, .t (.slice 2 ((srtS (F.map sp)).map sk))), (61, .t (I (srtS (F.map sp)).length)), (62, .t (I k)), (12, .t (I k)), (13, .ptr 13 0), (14, .ptr 14 0)], bx := [(2, .d 4 nil4), (10, .v [.own 74 41 19 ((Rk1).map rc), .t (spsT (srtS K)), .own 102 103 2 ((Gk1).map sk), .own 138 103 2 ((Bk).map sk)]), (11, .d 2 [I lk.1, I lk.2]), (13, .d 2 [I a, I b]), (14, .d 19 (rcC a b l pv)), (19, .m true sh2 (esF F) none)]}) (fun _ => True) 0 (by omega) ?_ ?_ ?_
      · repeat' (first | (refine LeB.v _ _ ?_) | ((refine leOwn ?_; rw [List.take_zero, List.append_nil])) | exact trivial | exact LeV.same _ | exact LeB.same _ | exact rfl | exact fun _ _ _ => trivial | exact lI | refine And.intro ?_ ?_)
      · rintro j hj
        rcases Nat.lt_or_ge j (b - fr).toNat with h3 | h3
        · have hgj := hgt j h3
          have hw : fr + ((j + 1 : Nat) : Int) = IntKind.i64.wrap (fr + (j : Int) + 1) := by rw [wrap_id (by omega) (by omega)]; push_cast; omega
          have hgm : (Gk ++ gp.take (j + 1)).map sk = (Gk ++ gp.take j).map sk ++ [sk (a, fr + (j : Int))] := by rw [hgj, ← List.append_assoc, List.map_append]; rfl
          have htl : (gp.take j).length ≤ 1048576 := by rw [List.length_take]; omega
          have hroom : (((Gk ++ gp.take j).map sk).length + 1) * 16 ≤ 140737488355328 := by rw [List.length_map, List.length_append]; omega
          repeat' ((conv => whnf); first | refine now_D1 (by omega) ?_ | refine nT_ ?_ | (refine And.intro (by first | (exact hroom; done) | fail) ?_) | refine aS ?_ | fail)
          exact ⟨j + 1, by omega, by omega, by repeat' (first | (refine LeB.v _ _ ?_) | (exact leI hw) | ((refine leOwn ?_; exact hgm)) | exact trivial | exact LeV.same _ | exact LeB.same _ | exact rfl | exact fun _ _ _ => trivial | refine And.intro ?_ ?_)⟩
        · have : j = (b - fr).toNat := by omega
          subst this
          have hgm : Gk1.map sk = (Gk ++ gp.take (b - fr).toNat).map sk := by rw [List.take_of_length_le (by omega), hG1]
          repeat' ((conv => whnf); first | refine now_D0 (by omega) ?_ | refine nT_ ?_ | refine aS ?_ | fail)
          exact ⟨(), trivial, by repeat' (first | (refine LeB.v _ _ ?_) | ((refine leOwn ?_; exact hgm)) | exact trivial | exact LeV.same _ | exact LeB.same _ | exact rfl | exact fun _ _ _ => trivial | refine And.intro ?_ ?_)⟩
      rintro - -
      have hmf2 := mfind_esF (a, b - 1) F
      have hwb : IntKind.i64.wrap (b - 1) = b - 1 := wrap_id (by omega) (by omega)
      have hbk : brk F ⟨a, b, l, pv⟩ = match atS F (a, b - 1) with
        | some x => !decide (x.dg = pv) || (b == 0 && !decide (pv = zero16))
        | none => b == 0 && !decide (pv = zero16) := rfl
      have hkey2 : keyOk true sh2 (.agg [I a, I (IntKind.i64.wrap (b - 1))]) := ⟨rfl, rfl, rfl, trivial⟩
      have hz : (!eqL (pv.map Y) (zero16.map Y)) = !decide (pv = zero16) := congrArg (!·) (eqL_map pv zero16)
      have hf16 := fits16 hr1.1.hp
      have hf0 : fits [.int .u8, .int .u8, .int .u8, .int .u8, .int .u8, .int .u8, .int .u8, .int .u8, .int .u8, .int .u8, .int .u8, .int .u8, .int .u8, .int .u8, .int .u8, .int .u8] (zero16.map Y) := fits16 rfl
      refine wpC_cut (β := Option Rc) (fun o => {sl := [(2, .ptr 2 0), (3, .mp 19), (10, .ptr 10 0), (11, .ptr 11 0), (60, .t (.slice 2 ((srtS (F.map sp)).map sk))), (61, .t (I (srtS (F.map sp)).length)), (62, .t (I k)), (12, .t (I k)), (13, .ptr 13 0), (14, .ptr 14 0), (17, .ptr 17 0), (18, .t (.bool o.isSome))], bx := [(2, .d 4 nil4), (10, .v [.own 74 41 19 ((Rk1).map rc), .t (spsT (srtS K)), .own 102 103 2 ((Gk1).map sk), .own 138 103 2 ((Bk).map sk)]), (11, .d 2 [I lk.1, I lk.2]), (13, .d 2 [I a, I b]), (14, .d 19 (rcC a b l pv)), (17, .d 19 (match o with | some x => rcC x.n x.i x.ls x.pv | none => z19)), (19, .m true sh2 (esF F) none)]}) (fun o => o = atS F (a, b - 1)) ?_ fun o ho2 => ?_
      · cases ho2 : atS F (a, b - 1) with
        | none =>
          rw [ho2] at hmf2
          repeat' ((conv => whnf); first | (refine nv_ (.tup [.agg z19, .bool false]) (by show mres _ _ (mfind (T.cells (.agg [I a, I (IntKind.i64.wrap (b - 1))])) (esF F)) = _; rw [hwb]; exact congrArg (mres _ _) hmf2) ?_) | refine nT_ ?_ | (refine And.intro (by first | (exact hkey2; done) | fail) ?_) | refine aS ?_ | fail)
          exact ⟨none, rfl, by repeat' (first | exact trivial | exact LeV.same _ | exact LeB.same _ | exact rfl | exact fun _ _ _ => trivial | refine And.intro ?_ ?_)⟩
        | some x =>
          rw [ho2] at hmf2
          obtain ⟨hxF, hxs⟩ := atS_mem ho2
          have hxo := (hF x hxF).1
          obtain ⟨n', i', l', pv'⟩ := x
          have hlen' : (rcC n' i' l' pv').length = 19 := rc_len hxo
          repeat' ((conv => whnf); first | (refine nv_ (.tup [rcT n' i' l' pv', .bool true]) (by show mres _ _ (mfind (T.cells (.agg [I a, I (IntKind.i64.wrap (b - 1))])) (esF F)) = _; rw [hwb]; exact congrArg (mres _ _) hmf2) ?_) | refine nT_ ?_ | (refine And.intro (by first | (exact hkey2; done) | (exact ⟨hlen', Nat.le_of_ble_eq_true rfl⟩; done) | fail) ?_) | refine aS ?_ | fail)
          exact ⟨some ⟨n', i', l', pv'⟩, rfl, by repeat' (first | ((refine leBd ?_; exact (putL_all (n := 19) rfl).symm)) | exact trivial | exact LeV.same _ | exact LeB.same _ | exact rfl | exact fun _ _ _ => trivial | refine And.intro ?_ ?_)⟩
      refine wpC_cut (β := Unit) (fun _ => {sl := [(2, .ptr 2 0), (3, .mp 19), (10, .ptr 10 0), (11, .ptr 11 0), (60, .t (.slice 2 ((srtS (F.map sp)).map sk))), (61, .t (I (srtS (F.map sp)).length)), (62, .t (I k)), (12, .t (I k)), (13, .ptr 13 0), (133, .t (.bool (brk F ⟨a, b, l, pv⟩)))], bx := [(2, .d 4 nil4), (10, .v [.own 74 41 19 ((Rk1).map rc), .t (spsT (srtS K)), .own 102 103 2 ((Gk1).map sk), .own 138 103 2 ((Bk).map sk)]), (11, .d 2 [I lk.1, I lk.2]), (13, .d 2 [I a, I b]), (19, .m true sh2 (esF F) none)]}) (fun _ => True) ?_ fun _ _ => ?_
      · rw [← ho2] at hbk
        cases o with
        | none =>
          by_cases b0 : b = 0
          · have hbk' : brk F ⟨a, b, l, pv⟩ = !decide (pv = zero16) := by rw [hbk, b0]; simp
            repeat' ((conv => whnf); first | refine now_E1 b0 ?_ | (refine nv_ (dg16 pv) (by first | (exact aggPv hr1.1.hp; done) | fail) ?_) | refine nb_ _ hz ?_ | refine nT_ ?_ | (refine And.intro (by first | (exact ⟨hf16, hf0⟩; done) | fail) ?_) | refine aS ?_ | fail)
            exact ⟨(), trivial, by repeat' (first | (exact leB hbk') | exact trivial | exact LeV.same _ | exact LeB.same _ | exact rfl | exact fun _ _ _ => trivial | refine And.intro ?_ ?_)⟩
          · have hbk' : brk F ⟨a, b, l, pv⟩ = false := by rw [hbk]; simp [b0]
            repeat' ((conv => whnf); first | refine now_E0 b0 ?_ | refine nT_ ?_ | refine aS ?_ | fail)
            exact ⟨(), trivial, by repeat' (first | (exact leB hbk') | exact trivial | exact LeV.same _ | exact LeB.same _ | exact rfl | exact fun _ _ _ => trivial | refine And.intro ?_ ?_)⟩
        | some x =>
          obtain ⟨hxF, hxs⟩ := atS_mem ho2.symm
          obtain ⟨hxo, hxc⟩ := hF x hxF
          obtain ⟨-, -, x0, -⟩ := chk_bounds hxc
          have hxi : x.i = b - 1 := congrArg Prod.snd hxs
          have b0 : b ≠ 0 := by omega
          obtain ⟨n', i', l', pv'⟩ := x
          have hlen' : (rcC n' i' l' pv').length = 19 := rc_len hxo
          have hDg := t_Digest n' i' l' pv' hxo.1 hxo.2
          have hDl := dgR_len n' i' l' pv'
          have hbk : brk F ⟨a, b, l, pv⟩ = (!decide (dgR n' i' l' pv' = pv) || (b == 0 && !decide (pv = zero16))) := hbk
          generalize dgR n' i' l' pv' = dg at *
          have hz2 : (!eqL (dg.map Y) (pv.map Y)) = !decide (dg = pv) := congrArg (!·) (eqL_map dg pv)
          have hfd := fits16 hDl
          cases hd : decide (dg = pv) with
          | true =>
            have hbk' : brk F ⟨a, b, l, pv⟩ = false := by rw [hbk, hd]; simp [b0]
            rw [hd] at hz2
            repeat' ((conv => whnf); first | refine k_call _ (hDg) ?_ | (refine nv_ (dg16 pv) (by first | (exact aggPv hr1.1.hp; done) | fail) ?_) | refine nb_ _ hz2 ?_ | refine now_E0 b0 ?_ | refine nT_ ?_ | (refine And.intro (by first | (exact hlen'; done) | (exact ⟨hfd, hf16⟩; done) | fail) ?_) | refine aS ?_ | fail)
            exact ⟨(), trivial, by repeat' (first | (exact leB hbk') | exact trivial | exact LeV.same _ | exact LeB.same _ | exact rfl | exact fun _ _ _ => trivial | refine And.intro ?_ ?_)⟩
          | false =>
            have hbk' : brk F ⟨a, b, l, pv⟩ = true := by rw [hbk, hd]; rfl
            rw [hd] at hz2
            repeat' ((conv => whnf); first | refine k_call _ (hDg) ?_ | (refine nv_ (dg16 pv) (by first | (exact aggPv hr1.1.hp; done) | fail) ?_) | refine nb_ _ hz2 ?_ | (refine And.intro (by first | (exact hlen'; done) | (exact ⟨hfd, hf16⟩; done) | fail) ?_) | refine aS ?_ | fail)
            exact ⟨(), trivial, by repeat' (first | (exact leB hbk') | exact trivial | exact LeV.same _ | exact LeB.same _ | exact rfl | exact fun _ _ _ => trivial | refine And.intro ?_ ?_)⟩
      cases hbr : brk F ⟨a, b, l, pv⟩ with
      | true =>
        rw [hbr, if_pos rfl] at hB1
        have hbm : Bk1.map sk = Bk.map sk ++ [sk (a, b)] := by rw [hB1, List.map_append]; rfl
        have hroom : ((Bk.map sk).length + 1) * 16 ≤ 140737488355328 := by rw [List.length_map]; omega
        skip
        refine wpC_cut (β := Unit) (fun _ => {sl := [(2, .ptr 2 0), (3, .mp 19), (10, .ptr 10 0), (11, .ptr 11 0), (60, .t (.slice 2 ((srtS (F.map sp)).map sk))), (61, .t (I (srtS (F.map sp)).length)), (62, .t (I k)), (13, .ptr 13 0)], bx := [(2, .d 4 nil4), (10, .v [.own 74 41 19 ((Rk1).map rc), .t (spsT (srtS K)), .own 102 103 2 ((Gk1).map sk), .own 138 103 2 ((Bk1).map sk)]), (11, .d 2 [I lk.1, I lk.2]), (13, .d 2 [I a, I b]), (19, .m true sh2 (esF F) none)]}) (fun _ => True) ?_ fun _ _ => ?_
        · repeat' ((conv => whnf); first | (refine And.intro (by first | (exact hroom; done) | fail) ?_) | refine aS ?_ | fail)
          exact ⟨(), trivial, by repeat' (first | (refine LeB.v _ _ ?_) | ((refine leOwn ?_; exact hbm)) | exact trivial | exact LeV.same _ | exact LeB.same _ | exact rfl | exact fun _ _ _ => trivial | refine And.intro ?_ ?_)⟩
        repeat' ((conv => whnf); first | refine aS ?_ | fail)
        refine ⟨k + 1, by omega, by omega, ?_⟩
        repeat' (first | (refine LeB.v _ _ ?_) | ((refine leOwn ?_; rw [hRk1]; done)) | ((refine leOwn ?_; rw [hRk1, hGk1])) | ((refine leOwn ?_; rw [hRk1, hBk1])) | ((refine leBd ?_; rw [hRk1, hLk1, hL1])) | exact trivial | exact LeV.same _ | exact LeB.same _ | exact rfl | exact fun _ _ _ => trivial | exact lI | refine And.intro ?_ ?_)
      | false =>
        rw [hbr, if_neg (by simp), List.append_nil] at hB1
        repeat' ((conv => whnf); first | refine aS ?_ | fail)
        refine ⟨k + 1, by omega, by omega, ?_⟩
        repeat' (first | (refine LeB.v _ _ ?_) | ((refine leOwn ?_; rw [hRk1]; done)) | ((refine leOwn ?_; rw [hRk1, hGk1])) | ((refine leOwn ?_; rw [hRk1, hBk1, hB1])) | ((refine leBd ?_; rw [hRk1, hLk1, hL1])) | exact trivial | exact LeV.same _ | exact LeB.same _ | exact rfl | exact fun _ _ _ => trivial | exact lI | refine And.intro ?_ ?_)
    · have : k = (srtS (F.map sp)).length := by omega
      subst this
      repeat' ((conv => whnf); first | refine now_D0 (by omega) ?_ | refine aS ?_ | fail)
      have hT : (rcsF F).take (srtS (F.map sp)).length = rcsF F := List.take_of_length_le (by omega)
      rw [hT]
      exact ⟨(), trivial, by repeat' (first | (refine LeB.v _ _ ?_) | (exact LeV.data _ _ _ _) | exact trivial | exact LeV.same _ | exact LeB.same _ | exact rfl | exact fun _ _ _ => trivial | refine And.intro ?_ ?_)⟩
  rintro - -
  repeat' ((conv => whnf); first | exact trivial | refine aS ?_ | fail)
end Go.RC
end
section
namespace Go.RC
open Go Go.DL Go.Proofs
set_option maxRecDepth 100000
noncomputable def c19 : DCode := (.seq (.region [oo 2 (.alloc [.nil, .nil, .nil, .nil])] []) (.seq (.region [oo 3 (.alloc [.nil, .nil, .nil, .nil])] []) (.seq (.seq (.region [oo 4 (.mov (Kc 0))] []) (.block 0 (.loop (.seq (.seq (.region [mv 15 4,mv 16 0,oo 17 (.len (tm 16)),oo 18 (.bin .lss (tm 15) (tm 17))] []) (.cond (tm 18) .skip (.exit 0))) (.seq (.block 1 (.seq (.region [oo 5 (.mov (Kc 0))] []) (.block 2 (.loop (.seq (.seq (.region [mv 21 5,mv 22 0,mv 23 4,oo 24 (.idxL 1 (tm 22) (tm 23)),oo 25 (.load 1 false (tm 24)),oo 26 (.len (tm 25)),oo 27 (.bin .lss (tm 21) (tm 26))] []) (.cond (tm 27) .skip (.exit 2))) (.seq (.block 3 (.seq (.cut (.region [mv 30 0,mv 31 4,oo 32 (.idxL 1 (tm 30) (tm 31)),oo 33 (.load 1 false (tm 32)),mv 34 5,oo 35 (.idxL 19 (tm 33) (tm 34)),oo 36 (.load 19 true (tm 35)),oo 6 (.alloc [(Zi 0), (Zi 0), .nil, (Ui 0), (Ui 0), (Ui 0), (Ui 0), (Ui 0), (Ui 0), (Ui 0), (Ui 0), (Ui 0), (Ui 0), (Ui 0), (Ui 0), (Ui 0), (Ui 0), (Ui 0), (Ui 0)]),o0 (.store 19 (tm 6) (tm 36))] [])) (.seq (.cut (.region [oo 37 (.load 19 true (tm 6)),oo 38 (.call 24 [(tm 37)]),mv 7 38] [])) (.seq (.seq (.region [mv 39 7,oo 40 (.bin .neq (tm 39) (Kc 0))] []) (.cond (tm 40) (.exit 3) .skip)) (.seq (.cut (.region [oo 41 (.offA 0 (tm 3)),oo 42 (.load 1 false (tm 41)),oo 43 (.load 19 true (tm 6)),oo 44 (.call 55 [(tm 43)]),oo 45 (.call 54 [(tm 42), (tm 44)]),mv 8 45] [])) (.seq (.seq (.region [mv 46 8,oo 47 (.bin .lss (tm 46) (Kc 0))] []) (.cond (tm 47) (.seq (.cut (.region [oo 48 (.offA 0 (tm 3)),oo 49 (.load 1 false (tm 48)),oo 50 (.load 19 true (tm 6)),oo 51 (.call 56 [(tm 49), (tm 50)]),oo 52 (.offA 0 (tm 3)),o0 (.store 1 (tm 52) (tm 51))] [])) (.exit 3)) .skip)) (.seq (.cut (.region [oo 53 (.offA 0 (tm 3)),oo 54 (.load 1 false (tm 53)),mv 55 8,oo 56 (.idxL 19 (tm 54) (tm 55)),oo 57 (.load 19 true (tm 56)),oo 58 (.load 19 true (tm 6)),oo 59 (.call 12 [(tm 57), (tm 58)]),mv 9 59] [])) (.seq (.region [mv 60 9,oo 61 (.not (tm 60))] []) (.cond (tm 61) (.cut (.region [oo 62 (.offA 1 (tm 3)),oo 63 (.load 1 false (tm 62)),oo 64 (.load 19 true (tm 6)),oo 65 (.call 55 [(tm 64)]),oo 66 (.call 57 [(tm 63), (tm 65)]),oo 67 (.offA 1 (tm 3)),o0 (.store 1 (tm 67) (tm 66))] [])) .skip))))))))) (.region [mv 28 5,oo 29 (.bin .add (tm 28) (Kc 1)),mv 5 29] []))))))) (.region [mv 19 4,oo 20 (.bin .add (tm 19) (Kc 1)),mv 4 20] [])))))) (.seq (.seq (.region [oo 10 (.mov (Kc 0))] []) (.block 4 (.loop (.seq (.seq (.region [mv 68 10,oo 69 (.offA 0 (tm 3)),oo 70 (.load 1 false (tm 69)),oo 71 (.len (tm 70)),oo 72 (.bin .lss (tm 68) (tm 71))] []) (.cond (tm 72) .skip (.exit 4))) (.seq (.block 5 (.seq (.cut (.region [oo 75 (.offA 0 (tm 3)),oo 76 (.load 1 false (tm 75)),mv 77 10,oo 78 (.idxL 19 (tm 76) (tm 77)),oo 79 (.load 19 true (tm 78)),oo 11 (.alloc [(Zi 0), (Zi 0), .nil, (Ui 0), (Ui 0), (Ui 0), (Ui 0), (Ui 0), (Ui 0), (Ui 0), (Ui 0), (Ui 0), (Ui 0), (Ui 0), (Ui 0), (Ui 0), (Ui 0), (Ui 0), (Ui 0)]),o0 (.store 19 (tm 11) (tm 79))] [])) (.seq (.region [oo 12 (.mov (Kc 0))] []) (.seq (.cut (.seq (.region [mv 80 10,oo 81 (.bin .gtr (tm 80) (Kc 0)),mv 82 81,oT 83 82 (.offA 0 (tm 3)),oT 84 82 (.load 1 false (tm 83)),mT 85 10 82,oT 86 82 (.bin .sub (tm 85) (Kc 1)),oT 87 82 (.idxL 19 (tm 84) (tm 86)),oT 88 82 (.offA 0 (tm 87)),oT 89 82 (.load 1 false (tm 88)),oT 90 82 (.offA 0 (tm 11)),oT 91 82 (.load 1 false (tm 90)),oT 92 82 (.bin .eql (tm 89) (tm 91)),oo 93 (.pick (tm 82) (tm 92) (.const (.bool false)))] []) (.cond (tm 93) (.region [oo 94 (.offA 0 (tm 3)),oo 95 (.load 1 false (tm 94)),mv 96 10,oo 97 (.bin .sub (tm 96) (Kc 1)),oo 98 (.idxL 19 (tm 95) (tm 97)),oo 99 (.offA 1 (tm 98)),oo 100 (.load 1 false (tm 99)),oo 101 (.bin .add (tm 100) (Kc 1)),mv 12 101] []) .skip))) (.seq (.seq (.region [mv 102 12,mv 13 102] []) (.block 6 (.loop (.seq (.seq (.region [mv 103 13,oo 104 (.offA 1 (tm 11)),oo 105 (.load 1 false (tm 104)),oo 106 (.bin .lss (tm 103) (tm 105))] []) (.cond (tm 106) .skip (.exit 6))) (.seq (.block 7 (.region [oo 109 (.offA 2 (tm 3)),oo 110 (.load 1 false (tm 109)),oo 111 (.offA 0 (tm 11)),oo 112 (.load 1 false (tm 111)),mv 113 13,oo 114 (.build [(Zi 0), (Zi 0)] [(0, 1, (tm 112)), (1, 1, (tm 113))]),oo 115 (.buildF 2 1 [(Zi 0), (Zi 0)] [(0, (tm 114))]),oo 116 (.append 50 103 2 16 (tm 110) (tm 115)),oo 117 (.offA 2 (tm 3)),o0 (.store 1 (tm 117) (tm 116))] [])) (.region [mv 107 13,oo 108 (.bin .add (tm 107) (Kc 1)),mv 13 108] [])))))) (.seq (.cut (.region [oo 118 (.offA 1 (tm 11)),oo 119 (.load 1 false (tm 118)),oo 120 (.bin .eql (tm 119) (Kc 0)),mv 121 120,oT 122 121 (.offA 3 (tm 11)),oT 123 121 (.load 16 true (tm 122)),oT 124 121 (.build [(Ui 0), (Ui 0), (Ui 0), (Ui 0), (Ui 0), (Ui 0), (Ui 0), (Ui 0), (Ui 0), (Ui 0), (Ui 0), (Ui 0), (Ui 0), (Ui 0), (Ui 0), (Ui 0)] []),oT 125 121 (.eqv true [.int .u8, .int .u8, .int .u8, .int .u8, .int .u8, .int .u8, .int .u8, .int .u8, .int .u8, .int .u8, .int .u8, .int .u8, .int .u8, .int .u8, .int .u8, .int .u8] (tm 123) (tm 124)),oo 126 (.pick (tm 121) (tm 125) (.const (.bool false))),mv 14 126] [])) (.seq (.cut (.seq (.region [oo 127 (.offA 1 (tm 11)),oo 128 (.load 1 false (tm 127)),oo 129 (.bin .gtr (tm 128) (Kc 0)),mv 130 129,mT 131 12 130,oT 132 130 (.offA 1 (tm 11)),oT 133 130 (.load 1 false (tm 132)),oT 134 130 (.bin .eql (tm 131) (tm 133)),oo 135 (.pick (tm 130) (tm 134) (.const (.bool false)))] []) (.cond (tm 135) (.region [oo 136 (.offA 0 (tm 3)),oo 137 (.load 1 false (tm 136)),mv 138 10,oo 139 (.bin .sub (tm 138) (Kc 1)),oo 140 (.idxL 19 (tm 137) (tm 139)),oo 141 (.load 19 true (tm 140)),oo 142 (.call 44 [(tm 141)]),oo 143 (.offA 3 (tm 11)),oo 144 (.load 16 true (tm 143)),oo 145 (.eqv true [.int .u8, .int .u8, .int .u8, .int .u8, .int .u8, .int .u8, .int .u8, .int .u8, .int .u8, .int .u8, .int .u8, .int .u8, .int .u8, .int .u8, .int .u8, .int .u8] (tm 142) (tm 144)),mv 14 145] []) .skip))) (.seq (.region [mv 146 14] []) (.cond (tm 146) (.region [oo 147 (.offA 3 (tm 3)),oo 148 (.load 1 false (tm 147)),oo 149 (.load 19 true (tm 11)),oo 150 (.call 55 [(tm 149)]),oo 151 (.buildT 2 1 [(Zi 0), (Zi 0)] [(0, (tm 150))]),oo 152 (.append 50 103 2 16 (tm 148) (tm 151)),oo 153 (.offA 3 (tm 3)),o0 (.store 1 (tm 153) (tm 152))] []) .skip))))))))) (.region [mv 73 10,oo 74 (.bin .add (tm 73) (Kc 1)),mv 10 74] [])))))) (.seq (.region [oo 154 (.load 4 true (tm 3)),o0 (.store 4 (tm 2) (tm 154))] []) .ret)))))
theorem l19 : (Tryz.f19.body.bind (lowC Tryz.prog 155 [6000008, 6000009, 6000011, 6000013, 6000014, 6000016, 6000020, 5000022, 6000028, 5000029, 8000115])) = some c19 := by kernel_rfl
end Go.RC
end
section
namespace Go.RC
open Go Go.DL Go.Proofs
set_option maxRecDepth 100000
set_option maxHeartbeats 20000000
def rf1 (a : List Rc × List S2) (r : Rc) : List Rc × List S2 :=
  if chkR r ≠ 0 then a else match atS a.1 (sp r) with
    | none => (insR r a.1, a.2)
    | some o => if samL o r = true then a else (a.1, insS (sp r) a.2)
def rfF (l : List Rc) : List Rc × List S2 := l.foldl rf1 ([], [])
theorem insR_mem {r x : Rc} {l : List Rc} (h : x ∈ insR r l) : x ∈ l ∨ x = r := by
  unfold insR at h
  simp only [List.mem_append, List.mem_singleton] at h
  rcases h with (h | h) | h
  · exact Or.inl (List.mem_of_mem_take h)
  · exact Or.inr h
  · exact Or.inl (List.mem_of_mem_drop h)
theorem insR_len (r : Rc) (l : List Rc) : (insR r l).length = l.length + 1 := by
  unfold insR
  simp only [List.length_append, List.length_take, List.length_drop, List.length_singleton]
  have := tw_le (p := befR r) l
  omega
theorem insS_len (s : S2) (l : List S2) : (insS s l).length ≤ l.length + 1 := by
  unfold insS
  have := tw_le (p := befS s) l
  split
  · omega
  · simp only [List.length_append, List.length_take, List.length_drop, List.length_singleton]; omega
theorem rf1_ok {a : List Rc × List S2} {r : Rc} (h : okF a.1) (hr : r.ok) : okF (rf1 a r).1 ∧ (rf1 a r).1.length ≤ a.1.length + 1 ∧ (rf1 a r).2.length ≤ a.2.length + 1 := by
  unfold rf1
  by_cases c : chkR r ≠ 0
  · rw [if_pos c]; exact ⟨h, by omega, by omega⟩
  rw [if_neg c]
  cases hx : atS a.1 (sp r) with
  | none =>
    refine ⟨fun x hx => ?_, by dsimp only; rw [insR_len]; omega, by simp⟩
    rcases insR_mem hx with hx | hx
    · exact h x hx
    · rw [hx]; exact ⟨hr, by simpa using c⟩
  | some o =>
    dsimp only
    by_cases hs : samL o r = true
    · rw [if_pos hs]; exact ⟨h, by omega, by omega⟩
    · rw [if_neg hs]; exact ⟨h, by simp, insS_len _ _⟩
def brkR (p : Option Rc) (r : Rc) : Bool := match p with
  | none => r.i == 0 && !decide (r.pv = zero16)
  | some x => if r.i > 0 ∧ frm (some x) r = r.i then !decide (x.dg = r.pv) else r.i == 0 && !decide (r.pv = zero16)
def brksR : Option Rc → List Rc → List S2
  | _, [] => []
  | p, r :: l => (if brkR p r = true then [sp r] else []) ++ brksR (some r) l
theorem brksR_snoc : ∀ {l : List Rc} {p : Option Rc} {r : Rc}, brksR p (l ++ [r]) = brksR p l ++ (if brkR (match l.getLast? with | some x => some x | none => p) r = true then [sp r] else [])
  | [], p, r => by simp [brksR]; rfl
  | [x], p, r => by simp [brksR]; rfl
  | x :: y :: l, p, r => by
    show (if brkR p x = true then [sp x] else []) ++ brksR (some x) ((y :: l) ++ [r]) = ((if brkR p x = true then [sp x] else []) ++ brksR (some x) (y :: l)) ++ _
    rw [brksR_snoc (l := y :: l) (p := some x)]
    rw [List.getLast?_cons_cons, List.append_assoc]
    cases h : (y :: l).getLast? with
    | none => simp at h
    | some z => rfl
theorem brksR_take {l : List Rc} {k : Nat} (h : k < l.length) : brksR none (l.take (k + 1)) = brksR none (l.take k) ++ (if brkR (l.take k).getLast? l[k] = true then [sp l[k]] else []) := by
  rw [List.take_succ_eq_append_getElem h, brksR_snoc]
  cases (l.take k).getLast? <;> rfl
theorem brksR_len : ∀ (l : List Rc) (p : Option Rc), (brksR p l).length ≤ l.length
  | [], _ => by simp [brksR]
  | r :: l, p => by
    have := brksR_len l (some r)
    unfold brksR
    rw [List.length_append, List.length_cons]
    split <;> simp <;> omega
def mrgR (l : List Rc) : T := .agg [rcs (rfF l).1, spsT (rfF l).2, spsT (gaps none (rfF l).1), spsT (brksR none (rfF l).1)]
theorem flat_drop {ls : List (List Rc)} {i : Nat} (h : i < ls.length) : (ls.drop i).flatten = ls[i] ++ (ls.drop (i + 1)).flatten := by
  rw [List.drop_eq_getElem_cons h]; rfl
theorem last_take {l : List Rc} {k : Nat} (h : k < l.length) : (l.take (k + 1)).getLast? = some l[k] := by
  rw [List.take_succ_eq_append_getElem h]; exact List.getLast?_concat
theorem t_refMerge (ls : List (List Rc)) (hl : ls.length < 2 ^ 20) (hn : ls.flatten.length < 2 ^ 18) (ho : ∀ l ∈ ls, ∀ r ∈ l, r.ok) : DCalls Tryz.prog 19 [.slice 1 (ls.map rcs)] (mrgR ls.flatten) := by
  refine dcalls_low (rs := [.cell 2 52]) mixed Tryz.func19 l19 rfl rfl rfl (r := [.agg _]) (Nat.le_of_ble_eq_true rfl) ?_
  skip
  refine wpC_loopE 0 (α := Nat × List Rc × List S2) (β := Unit) (fun q => {sl := [(0, .t (.slice 1 (ls.map rcs))), (2, .ptr 2 0), (3, .ptr 3 0), (4, .t (I q.1))], bx := [(2, .d 4 nil4), (3, .v [.t (rcs (q.2.1)), .t (spsT (q.2.2)), .t .nil, .t .nil])]})
    (fun q => q.1 ≤ ls.length ∧ okF q.2.1 ∧ q.2.1.length + (ls.drop q.1).flatten.length ≤ ls.flatten.length ∧ q.2.2.length + (ls.drop q.1).flatten.length ≤ ls.flatten.length ∧ (ls.drop q.1).flatten.foldl rf1 q.2 = rfF ls.flatten) (fun q => ls.length - q.1)
    (fun _ => {sl := [(2, .ptr 2 0), (3, .ptr 3 0)], bx := [(2, .d 4 nil4), (3, .v [.t (rcs ((rfF ls.flatten).1)), .t (spsT ((rfF ls.flatten).2)), .t .nil, .t .nil])]}) (fun _ => okF (rfF ls.flatten).1 ∧ (rfF ls.flatten).1.length ≤ ls.flatten.length ∧ (rfF ls.flatten).2.length ≤ ls.flatten.length) (0, [], []) ⟨by simp, fun r h => by simp at h, by simp, by simp, rfl⟩ ?_ ?_ ?_
  · repeat' (first | (refine LeB.dv _ _ _ ?_) | (exact LeV.empty _) | exact trivial | exact LeV.same _ | exact LeB.same _ | exact rfl | exact fun _ _ _ => trivial | refine And.intro ?_ ?_)
  · rintro ⟨i, F0, K0⟩ ⟨hk, hF, hFl, hKl, hfo⟩
    dsimp only at hk hF hFl hKl hfo
    rcases Nat.lt_or_ge i ls.length with h2 | h2
    · rw [flat_drop h2] at hFl hKl hfo
      have hol := ho _ (List.getElem_mem h2)
      have hib0 : 0 ≤ (i : Int) ∧ (i : Int) < ((ls.map rcs).length : Int) := by rw [List.length_map]; omega
      have hel0 : (ls.map rcs)[((i : Int)).toNat]?.getD .nil = rcs ls[i] := by rw [Int.toNat_natCast, List.getElem?_map, List.getElem?_eq_getElem h2]; rfl
      generalize ls[i] = lc at *
      generalize hrest : (ls.drop (i + 1)).flatten = rest at *
      generalize hZ : rfF ls.flatten = Z at *
      generalize hN : ls.flatten.length = N at *
      rw [List.length_append] at hFl hKl
      have hlc : lc.length ≤ N := by omega
      repeat' ((conv => whnf); first | refine now_D1 (by omega) ?_ | refine aS ?_ | fail)
      refine wpC_loopE 2 (α := Nat × List Rc × List S2) (β := List Rc × List S2) (fun p => {sl := [(0, .t (.slice 1 (ls.map rcs))), (2, .ptr 2 0), (3, .ptr 3 0), (4, .t (I i)), (5, .t (I p.1))], bx := [(2, .d 4 nil4), (3, .v [.t (rcs (p.2.1)), .t (spsT (p.2.2)), .t .nil, .t .nil])]})
        (fun p => p.1 ≤ lc.length ∧ okF p.2.1 ∧ p.2.1.length + (lc.length - p.1) + rest.length ≤ N ∧ p.2.2.length + (lc.length - p.1) + rest.length ≤ N ∧ (lc.drop p.1 ++ rest).foldl rf1 p.2 = Z) (fun p => lc.length - p.1)
        (fun u => {sl := [(0, .t (.slice 1 (ls.map rcs))), (2, .ptr 2 0), (3, .ptr 3 0), (4, .t (I i))], bx := [(2, .d 4 nil4), (3, .v [.t (rcs (u.1)), .t (spsT (u.2)), .t .nil, .t .nil])]}) (fun u => okF u.1 ∧ u.1.length + rest.length ≤ N ∧ u.2.length + rest.length ≤ N ∧ rest.foldl rf1 u = Z) (0, F0, K0) ⟨by simp, hF, by dsimp only; omega, by dsimp only; omega, hfo⟩ ?_ ?_ ?_
      · repeat' (first | (refine LeB.v _ _ ?_) | exact trivial | exact LeV.same _ | exact LeB.same _ | exact rfl | exact fun _ _ _ => trivial | refine And.intro ?_ ?_)
      · clear hF hFl hKl hfo
        rintro ⟨k, F, K⟩ ⟨hk, hF, hFl, hKl, hfo⟩
        dsimp only at hk hF hFl hKl hfo
        rcases Nat.lt_or_ge k lc.length with h3 | h3
        · rw [List.drop_eq_getElem_cons h3] at hfo
          have hro := hol lc[k] (List.getElem_mem h3)
          have hke : lc[k]? = some lc[k] := List.getElem?_eq_getElem h3
          have hm := rf1_ok (a := (F, K)) hF hro
          generalize lc[k] = r at hfo hro hke hm
          obtain ⟨n, j, l, pv⟩ := r
          have hfo : (lc.drop (k + 1) ++ rest).foldl rf1 (rf1 (F, K) ⟨n, j, l, pv⟩) = Z := hfo
          have hlen : (rcC n j l pv).length = 19 := rc_len hro
          have hib : 0 ≤ (k : Int) ∧ (k : Int) < ((lc.map rc).length : Int) := by rw [List.length_map]; omega
          have hel : (lc.map rc)[((k : Int)).toNat]?.getD .nil = rcT n j l pv := eltRc (r := ⟨n, j, l, pv⟩) (by rw [Int.toNat_natCast]; exact hke)
          repeat' ((conv => whnf); first | (refine nv_ (rcs lc) (by first | (exact hel0; done) | fail) ?_) | (refine now_D1 (by simp; omega) ?_) | refine nT_ ?_ | (refine And.intro (by first | (exact hib0; done) | fail) ?_) | refine aS ?_ | fail)
          refine wpC_cut (β := Unit) (fun _ => {sl := [(0, .t (.slice 1 (ls.map rcs))), (2, .ptr 2 0), (3, .ptr 3 0), (4, .t (I i)), (5, .t (I k)), (6, .ptr 6 0)], bx := [(2, .d 4 nil4), (3, .v [.t (rcs (F)), .t (spsT (K)), .t .nil, .t .nil]), (6, .d 19 (rcC n j l pv))]}) (fun _ => True) ?_ fun _ _ => ?_
          · repeat' ((conv => whnf); first | (refine nv_ (rcs lc) (by first | (exact hel0; done) | fail) ?_) | (refine nv_ (rcT n j l pv) (by first | (exact hel; done) | fail) ?_) | refine nT_ ?_ | (refine And.intro (by first | (exact hib0; done) | (exact hib; done) | (exact hlen; done) | (exact ⟨hlen, Nat.le_of_ble_eq_true rfl⟩; done) | fail) ?_) | refine aS ?_ | fail)
            exact ⟨(), trivial, by repeat' (first | ((refine leBd ?_; exact (putL_all (n := 19) rfl).symm)) | exact trivial | exact LeV.same _ | exact LeB.same _ | exact rfl | exact fun _ _ _ => trivial | refine And.intro ?_ ?_)⟩
          have hCk := t_refCheck n j l pv (by have := hro.2; dsimp only at this; omega) hro.1.l8 hro.1.hp
          refine wpC_cut (β := Unit) (fun _ => {sl := [(0, .t (.slice 1 (ls.map rcs))), (2, .ptr 2 0), (3, .ptr 3 0), (4, .t (I i)), (5, .t (I k)), (6, .ptr 6 0), (7, .t (I (chk n j l)))], bx := [(2, .d 4 nil4), (3, .v [.t (rcs (F)), .t (spsT (K)), .t .nil, .t .nil]), (6, .d 19 (rcC n j l pv))]}) (fun _ => True) ?_ fun _ _ => ?_
          · repeat' ((conv => whnf); first | refine k_call _ (hCk) ?_ | fail)
            exact ⟨(), trivial, by repeat' (first | exact trivial | exact LeV.same _ | exact LeB.same _ | exact rfl | exact fun _ _ _ => trivial | refine And.intro ?_ ?_)⟩
          by_cases c0 : chk n j l = 0
          case neg =>
            have hst : rf1 (F, K) ⟨n, j, l, pv⟩ = (F, K) := by unfold rf1; rw [if_pos (show chkR ⟨n, j, l, pv⟩ ≠ 0 from c0)]
            rw [hst] at hfo
            repeat' ((conv => whnf); first | refine now_N1 c0 ?_ | refine aS ?_ | fail)
            exact ⟨(k + 1, F, K), ⟨by dsimp only; omega, hF, by dsimp only; omega, by dsimp only; omega, hfo⟩, by dsimp only; omega, by repeat' (first | (refine LeB.v _ _ ?_) | exact trivial | exact LeV.same _ | exact LeB.same _ | exact rfl | exact fun _ _ _ => trivial | exact lI | refine And.intro ?_ ?_)⟩
          have hst : rf1 (F, K) ⟨n, j, l, pv⟩ = match atS F (n, j) with
            | none => (insR ⟨n, j, l, pv⟩ F, K)
            | some o => if samL o ⟨n, j, l, pv⟩ = true then (F, K) else (F, insS (n, j) K) := by unfold rf1; rw [if_neg (show ¬ chkR ⟨n, j, l, pv⟩ ≠ 0 from fun h => h c0)]
          rw [hst] at hfo hm
          have hsp := t_spot ⟨n, j, l, pv⟩ hro
          have hpl := t_place F (n, j) (by omega) (fun x hx => (hF x hx).1)
          have hix := ixP_find (fun r => decide (((n, j) : S2) = sp r)) F 0 (Int.le_refl 0)
          generalize ixP (fun r => decide (((n, j) : S2) = sp r)) F 0 = x at hpl hix
          repeat' ((conv => whnf); first | refine now_N0 c0 ?_ | refine aS ?_ | fail)
          refine wpC_cut (β := Unit) (fun _ => {sl := [(0, .t (.slice 1 (ls.map rcs))), (2, .ptr 2 0), (3, .ptr 3 0), (4, .t (I i)), (5, .t (I k)), (6, .ptr 6 0), (8, .t (I x))], bx := [(2, .d 4 nil4), (3, .v [.t (rcs (F)), .t (spsT (K)), .t .nil, .t .nil]), (6, .d 19 (rcC n j l pv))]}) (fun _ => True) ?_ fun _ _ => ?_
          · repeat' ((conv => whnf); first | refine k_call _ (hsp) ?_ | refine k_call _ (hpl) ?_ | fail)
            exact ⟨(), trivial, by repeat' (first | exact trivial | exact LeV.same _ | exact LeB.same _ | exact rfl | exact fun _ _ _ => trivial | refine And.intro ?_ ?_)⟩
          rcases hix with ⟨hx, hat⟩ | ⟨o, y, hx, hoe, hol2, hat⟩
          · have hat : atS F (n, j) = none := hat
            rw [hat] at hfo hm
            have hput := t_put F ⟨n, j, l, pv⟩ (by omega) (fun x hx => (hF x hx).1) hro
            subst hx
            repeat' ((conv => whnf); first | refine now_D1 (by omega) ?_ | refine aS ?_ | fail)
            refine wpC_cut (β := Unit) (fun _ => {sl := [(0, .t (.slice 1 (ls.map rcs))), (2, .ptr 2 0), (3, .ptr 3 0), (4, .t (I i)), (5, .t (I k))], bx := [(2, .d 4 nil4), (3, .v [.t (rcs (insR ⟨n, j, l, pv⟩ F)), .t (spsT (K)), .t .nil, .t .nil])]}) (fun _ => True) ?_ fun _ _ => ?_
            · repeat' ((conv => whnf); first | refine k_call _ (hput) ?_ | refine aS ?_ | fail)
              exact ⟨(), trivial, by repeat' (first | (refine LeB.v _ _ ?_) | exact trivial | exact LeV.same _ | exact LeB.same _ | exact rfl | exact fun _ _ _ => trivial | refine And.intro ?_ ?_)⟩
            skip
            exact ⟨(k + 1, insR ⟨n, j, l, pv⟩ F, K), ⟨by dsimp only; omega, hm.1, by dsimp only; rw [insR_len]; omega, by dsimp only; omega, hfo⟩, by dsimp only; omega, by repeat' (first | (refine LeB.v _ _ ?_) | exact trivial | exact LeV.same _ | exact LeB.same _ | exact rfl | exact fun _ _ _ => trivial | exact lI | refine And.intro ?_ ?_)⟩
          · have hat : atS F (n, j) = some y := hat
            have hoo := (hF y (atS_mem hat).1).1
            rw [hat] at hfo hm
            have hfo : (lc.drop (k + 1) ++ rest).foldl rf1 (if samL y ⟨n, j, l, pv⟩ = true then (F, K) else (F, insS (n, j) K)) = Z := hfo
            obtain ⟨n', j', l', pv'⟩ := y
            have hlen' : (rcC n' j' l' pv').length = 19 := rc_len hoo
            have hS := t_refSame n' j' l' pv' n j l pv hoo.1.l8 hro.1.l8 (by have := hoo.2; dsimp only at this; omega) hoo.1.hp hro.1.hp
            have hf : sameB n' j' l' pv' n j l pv = samL ⟨n', j', l', pv'⟩ ⟨n, j, l, pv⟩ := rfl
            rw [hf] at hS
            have hx : x = (o : Int) := by omega
            subst hx
            have hib2 : 0 ≤ (o : Int) ∧ (o : Int) < ((F.map rc).length : Int) := by rw [List.length_map]; omega
            have hel2 : (F.map rc)[((o : Int)).toNat]?.getD .nil = rcT n' j' l' pv' := eltRc (r := ⟨n', j', l', pv'⟩) (by rw [Int.toNat_natCast]; exact hoe)
            generalize hs : samL ⟨n', j', l', pv'⟩ ⟨n, j, l, pv⟩ = bs at *
            repeat' ((conv => whnf); first | refine now_D0 (by omega) ?_ | refine aS ?_ | fail)
            refine wpC_cut (β := Unit) (fun _ => {sl := [(0, .t (.slice 1 (ls.map rcs))), (2, .ptr 2 0), (3, .ptr 3 0), (4, .t (I i)), (5, .t (I k)), (6, .ptr 6 0), (9, .t (.bool bs))], bx := [(2, .d 4 nil4), (3, .v [.t (rcs (F)), .t (spsT (K)), .t .nil, .t .nil]), (6, .d 19 (rcC n j l pv))]}) (fun _ => True) ?_ fun _ _ => ?_
            · repeat' ((conv => whnf); first | (refine nv_ (rcT n' j' l' pv') (by first | (exact hel2; done) | fail) ?_) | refine k_call _ (hS) ?_ | refine nT_ ?_ | (refine And.intro (by first | (exact hib2; done) | (exact hlen'; done) | (exact hlen; done) | fail) ?_) | fail)
              exact ⟨(), trivial, by repeat' (first | exact trivial | exact LeV.same _ | exact LeB.same _ | exact rfl | exact fun _ _ _ => trivial | refine And.intro ?_ ?_)⟩
            cases bs with
            | true =>
              rw [if_pos rfl] at hfo
              skip
              exact ⟨(k + 1, F, K), ⟨by dsimp only; omega, hF, by dsimp only; omega, by dsimp only; omega, hfo⟩, by dsimp only; omega, by repeat' (first | (refine LeB.v _ _ ?_) | exact trivial | exact LeV.same _ | exact LeB.same _ | exact rfl | exact fun _ _ _ => trivial | exact lI | refine And.intro ?_ ?_)⟩
            | false =>
              rw [if_neg (by simp)] at hfo
              have hps := t_putSpot K (n, j) (by omega)
              have hkl := insS_len (n, j) K
              skip
              refine wpC_cut (β := Unit) (fun _ => {sl := [(0, .t (.slice 1 (ls.map rcs))), (2, .ptr 2 0), (3, .ptr 3 0), (4, .t (I i)), (5, .t (I k))], bx := [(2, .d 4 nil4), (3, .v [.t (rcs (F)), .t (spsT (insS (n, j) K)), .t .nil, .t .nil])]}) (fun _ => True) ?_ fun _ _ => ?_
              · repeat' ((conv => whnf); first | refine k_call _ (hsp) ?_ | refine k_call _ (hps) ?_ | refine aS ?_ | fail)
                exact ⟨(), trivial, by repeat' (first | (refine LeB.v _ _ ?_) | exact trivial | exact LeV.same _ | exact LeB.same _ | exact rfl | exact fun _ _ _ => trivial | refine And.intro ?_ ?_)⟩
              skip
              exact ⟨(k + 1, F, insS (n, j) K), ⟨by dsimp only; omega, hF, by dsimp only; omega, by dsimp only; omega, hfo⟩, by dsimp only; omega, by repeat' (first | (refine LeB.v _ _ ?_) | exact trivial | exact LeV.same _ | exact LeB.same _ | exact rfl | exact fun _ _ _ => trivial | exact lI | refine And.intro ?_ ?_)⟩
        · have : k = lc.length := by omega
          subst this
          rw [List.drop_length] at hfo
          repeat' ((conv => whnf); first | (refine nv_ (rcs lc) (by first | (exact hel0; done) | fail) ?_) | refine now_D0 (by simp) ?_ | refine nT_ ?_ | (refine And.intro (by first | (exact hib0; done) | fail) ?_) | refine aS ?_ | fail)
          exact ⟨(F, K), ⟨hF, by dsimp only; omega, by dsimp only; omega, hfo⟩, by repeat' (first | (refine LeB.v _ _ ?_) | exact trivial | exact LeV.same _ | exact LeB.same _ | exact rfl | exact fun _ _ _ => trivial | refine And.intro ?_ ?_)⟩
      rintro ⟨F, K⟩ ⟨hF, hFl, hKl, hfo⟩
      dsimp only at hF hFl hKl hfo
      skip
      exact ⟨(i + 1, F, K), ⟨by dsimp only; omega, hF, by dsimp only; rw [hrest]; omega, by dsimp only; rw [hrest]; omega, by dsimp only; rw [hrest]; exact hfo⟩, by dsimp only; omega, by repeat' (first | (refine LeB.v _ _ ?_) | exact trivial | exact LeV.same _ | exact LeB.same _ | exact rfl | exact fun _ _ _ => trivial | exact lI | refine And.intro ?_ ?_)⟩
    · have : i = ls.length := by omega
      subst this
      rw [List.drop_length] at hFl hKl hfo
      have hfo : (F0, K0) = rfF ls.flatten := hfo
      rw [← hfo]
      repeat' ((conv => whnf); first | refine now_D0 (by simp) ?_ | refine aS ?_ | fail)
      exact ⟨(), ⟨hF, by dsimp only; simpa using hFl, by dsimp only; simpa using hKl⟩, by repeat' (first | (refine LeB.v _ _ ?_) | exact trivial | exact LeV.same _ | exact LeB.same _ | exact rfl | exact fun _ _ _ => trivial | refine And.intro ?_ ?_)⟩
  rintro - ⟨hF, hFl, hKl⟩
  have hN : mrgR ls.flatten = .agg [rcs (rfF ls.flatten).1, spsT (rfF ls.flatten).2, spsT (gaps none (rfF ls.flatten).1), spsT (brksR none (rfF ls.flatten).1)] := rfl
  generalize rfF ls.flatten = M at *
  obtain ⟨R, Q⟩ := M
  dsimp only at hF hFl hKl
  refine wpC_loopE 4 (α := Nat) (β := Unit) (fun k => {sl := [(2, .ptr 2 0), (3, .ptr 3 0), (10, .t (I k))], bx := [(2, .d 4 nil4), (3, .v [.t (rcs R), .t (spsT Q), .own 116 103 2 ((gaps none (R.take k)).map sk), .own 152 103 2 ((brksR none (R.take k)).map sk)])]})
    (fun k => k ≤ R.length) (fun k => R.length - k)
    (fun _ => {sl := [(2, .ptr 2 0), (3, .ptr 3 0)], bx := [(2, .d 4 nil4), (3, .v [.t (rcs R), .t (spsT Q), .t (spsT (gaps none R)), .t (spsT (brksR none R))])]}) (fun _ => True) 0 (by omega) ?_ ?_ ?_
  · repeat' (first | (refine LeB.v _ _ ?_) | (exact LeV.nil _ _ _) | exact trivial | exact LeV.same _ | exact LeB.same _ | exact rfl | exact fun _ _ _ => trivial | refine And.intro ?_ ?_)
  · rintro k hk
    rcases Nat.lt_or_ge k R.length with h2 | h2
    · have hke : R[k]? = some R[k] := List.getElem?_eq_getElem h2
      obtain ⟨hr1, hr2⟩ := hF _ (List.getElem_mem h2)
      have hG1 := gaps_take h2
      have hB1 := brksR_take h2
      have hpl : ∀ x, (R.take k).getLast? = some x → (x.ok ∧ chkR x = 0) ∧ ∃ k', k = k' + 1 ∧ R[k']? = some x := fun x hx => by
        refine ⟨hF _ (List.mem_of_mem_take (List.mem_of_getLast? hx)), ?_⟩
        cases k with
        | zero => simp at hx
        | succ k' => exact ⟨k', rfl, by rw [last_take (by omega)] at hx; rw [← hx]; exact List.getElem?_eq_getElem _⟩
      have hpn : (R.take k).getLast? = none → k = 0 := fun h => by
        cases k with
        | zero => rfl
        | succ k' => rw [last_take (by omega)] at h; cases h
      have hGl := gaps_len (l := R.take k) (p := none) (fun x h => by cases h) (fun x hx => (hF x (List.mem_of_mem_take hx)).2)
      have hBl := brksR_len (R.take k) none
      have hRl : (R.take k).length = k := by rw [List.length_take]; omega
      rw [hRl] at hGl hBl
      generalize R[k] = r at *
      obtain ⟨a, b, l, pv⟩ := r
      have hlen : (rcC a b l pv).length = 19 := rc_len hr1
      obtain ⟨n0, n1, i0, i1⟩ := chk_bounds hr2
      dsimp only at n0 n1 i0 i1
      have hfb := frm_bounds (r := ⟨a, b, l, pv⟩) (fun x hx => (hpl x hx).1.2)
      have hg1 := gap1_len (r := ⟨a, b, l, pv⟩) (fun x hx => (hpl x hx).1.2) hr2
      generalize (R.take k).getLast? = prev at *
      obtain ⟨fr, hfr⟩ : ∃ fr, frm prev ⟨a, b, l, pv⟩ = fr := ⟨_, rfl⟩
      rw [hfr] at hfb
      have hgl : (gap1 prev ⟨a, b, l, pv⟩).length = (b - fr).toNat := by unfold gap1; rw [List.length_map, List.length_range, hfr]
      have hgt : ∀ j : Nat, j < (b - fr).toNat → (gap1 prev ⟨a, b, l, pv⟩).take (j + 1) = (gap1 prev ⟨a, b, l, pv⟩).take j ++ [((a, fr + (j : Int)) : S2)] := fun j hj => by
        have := gap1_take (p := prev) (r := ⟨a, b, l, pv⟩) (j := j) (by rw [hfr]; exact hj)
        rw [this, hfr]
      obtain ⟨gp, hgp⟩ : ∃ gp, gap1 prev ⟨a, b, l, pv⟩ = gp := ⟨_, rfl⟩
      rw [hgp] at hg1 hG1 hgl hgt
      generalize hGk1 : gaps none (R.take (k + 1)) = Gk1 at *
      generalize hBk1 : brksR none (R.take (k + 1)) = Bk1 at *
      generalize gaps none (R.take k) = Gk at *
      generalize brksR none (R.take k) = Bk at *
      have hib : 0 ≤ (k : Int) ∧ (k : Int) < ((R.map rc).length : Int) := by rw [List.length_map]; omega
      have hel : (R.map rc)[((k : Int)).toNat]?.getD .nil = rcT a b l pv := eltRc (r := ⟨a, b, l, pv⟩) (by rw [Int.toNat_natCast]; exact hke)
      repeat' ((conv => whnf); first | (refine now_D1 (by simp; omega) ?_) | refine aS ?_ | fail)
      refine wpC_cut (β := Unit) (fun _ => {sl := [(2, .ptr 2 0), (3, .ptr 3 0), (10, .t (I k)), (11, .ptr 11 0)], bx := [(2, .d 4 nil4), (3, .v [.t (rcs R), .t (spsT Q), .own 116 103 2 ((Gk).map sk), .own 152 103 2 ((Bk).map sk)]), (11, .d 19 (rcC a b l pv))]}) (fun _ => True) ?_ fun _ _ => ?_
      · repeat' ((conv => whnf); first | (refine nv_ (rcT a b l pv) (by first | (exact hel; done) | fail) ?_) | refine nT_ ?_ | (refine And.intro (by first | (exact hib; done) | (exact hlen; done) | (exact ⟨hlen, Nat.le_of_ble_eq_true rfl⟩; done) | fail) ?_) | fail)
        exact ⟨(), trivial, by repeat' (first | ((refine leBd ?_; exact (putL_all (n := 19) rfl).symm)) | exact trivial | exact LeV.same _ | exact LeB.same _ | exact rfl | exact fun _ _ _ => trivial | refine And.intro ?_ ?_)⟩
      skip
      refine wpC_cut (β := Unit) (fun _ => {sl := [(2, .ptr 2 0), (3, .ptr 3 0), (10, .t (I k)), (11, .ptr 11 0), (12, .t (I fr))], bx := [(2, .d 4 nil4), (3, .v [.t (rcs R), .t (spsT Q), .own 116 103 2 ((Gk).map sk), .own 152 103 2 ((Bk).map sk)]), (11, .d 19 (rcC a b l pv))]}) (fun _ => True) ?_ fun _ _ => ?_
      · cases prev with
        | none =>
          have k0 : k = 0 := hpn rfl
          have hfr0 : fr = 0 := by rw [← hfr]; rfl
          repeat' ((conv => whnf); first | refine now_D0 (by omega) ?_ | refine aS ?_ | fail)
          exact ⟨(), trivial, by repeat' (first | (exact leI hfr0) | exact trivial | exact LeV.same _ | exact LeB.same _ | exact rfl | exact fun _ _ _ => trivial | refine And.intro ?_ ?_)⟩
        | some q =>
          obtain ⟨⟨hqo, hqc⟩, k', hk', hqe⟩ := hpl q rfl
          obtain ⟨-, q1, q2, q3⟩ := chk_bounds hqc
          have hw : IntKind.i64.wrap ((k : Int) - 1) = (k' : Int) := by rw [wrap_id (by omega) (by omega)]; omega
          obtain ⟨c, d, l', pv'⟩ := q
          have hib2 : 0 ≤ IntKind.i64.wrap ((k : Int) - 1) ∧ IntKind.i64.wrap ((k : Int) - 1) < ((R.map rc).length : Int) := by rw [hw, List.length_map]; omega
          have hel2 : (R.map rc)[(IntKind.i64.wrap ((k : Int) - 1)).toNat]?.getD .nil = rcT c d l' pv' := eltRc (r := ⟨c, d, l', pv'⟩) (by rw [hw, Int.toNat_natCast]; exact hqe)
          have hlen' : (rcC c d l' pv').length = 19 := rc_len hqo
          by_cases hqa : c = a
          · have hfr : fr = IntKind.i64.wrap (d + 1) := by
              rw [← hfr]
              dsimp only at q2 q3
              rw [wrap_id (by omega) (by omega)]; unfold frm; exact if_pos hqa
            repeat' ((conv => whnf); first | refine now_D1 (by omega) ?_ | (refine nv_ (rcT c d l' pv') (by first | (exact hel2; done) | fail) ?_) | refine nT_ ?_ | (refine And.intro (by first | (exact hib2; done) | (exact hlen'; done) | fail) ?_) | refine aS ?_ | fail)
            exact ⟨(), trivial, by repeat' (first | (exact leI hfr) | exact trivial | exact LeV.same _ | exact LeB.same _ | exact rfl | exact fun _ _ _ => trivial | refine And.intro ?_ ?_)⟩
          · have hfr : fr = 0 := by rw [← hfr]; unfold frm; exact if_neg hqa
            repeat' ((conv => whnf); first | refine now_D1 (by omega) ?_ | (refine nv_ (rcT c d l' pv') (by first | (exact hel2; done) | fail) ?_) | refine now_E0 hqa ?_ | refine nT_ ?_ | (refine And.intro (by first | (exact hib2; done) | (exact hlen'; done) | fail) ?_) | refine aS ?_ | fail)
            exact ⟨(), trivial, by repeat' (first | (exact leI hfr) | exact trivial | exact LeV.same _ | exact LeB.same _ | exact rfl | exact fun _ _ _ => trivial | refine And.intro ?_ ?_)⟩
      have hbR : brkR prev ⟨a, b, l, pv⟩ = match prev with
        | none => b == 0 && !decide (pv = zero16)
        | some x => if b > 0 ∧ frm (some x) ⟨a, b, l, pv⟩ = b then !decide (x.dg = pv) else b == 0 && !decide (pv = zero16) := by cases prev <;> rfl
      have hfp : prev = none → fr = 0 := fun h => by rw [← hfr, h]; rfl
      skip
      refine wpC_loopE 6 (α := Nat) (β := Unit) (fun j => {sl := [(2, .ptr 2 0), (3, .ptr 3 0), (10, .t (I k)), (11, .ptr 11 0), (12, .t (I fr)), (13, .t (I (fr + (j : Int))))], bx := [(2, .d 4 nil4), (3, .v [.t (rcs R), .t (spsT Q), .own 116 103 2 ((Gk ++ gp.take j).map sk), .own 152 103 2 ((Bk).map sk)]), (11, .d 19 (rcC a b l pv))]})
        (fun j => j ≤ (b - fr).toNat) (fun j => (b - fr).toNat - j) (fun _ => {sl := [(2, .ptr 2 0), (3, .ptr 3 0), (10, .t (I k)), (11, .ptr 11 0), (12, .t (I fr))], bx := [(2, .d 4 nil4), (3, .v [.t (rcs R), .t (spsT Q), .own 116 103 2 ((Gk1).map sk), .own 152 103 2 ((Bk).map sk)]), (11, .d 19 (rcC a b l pv))]}) (fun _ => True) 0 (by omega) ?_ ?_ ?_
      · repeat' (first | (refine LeB.v _ _ ?_) | ((refine leOwn ?_; rw [List.take_zero, List.append_nil])) | exact trivial | exact LeV.same _ | exact LeB.same _ | exact rfl | exact fun _ _ _ => trivial | exact lI | refine And.intro ?_ ?_)
      · rintro j hj
        rcases Nat.lt_or_ge j (b - fr).toNat with h3 | h3
        · have hgj := hgt j h3
          have hw : fr + ((j + 1 : Nat) : Int) = IntKind.i64.wrap (fr + (j : Int) + 1) := by rw [wrap_id (by omega) (by omega)]; push_cast; omega
          have hgm : (Gk ++ gp.take (j + 1)).map sk = (Gk ++ gp.take j).map sk ++ [sk (a, fr + (j : Int))] := by rw [hgj, ← List.append_assoc, List.map_append]; rfl
          have htl : (gp.take j).length ≤ 1048576 := by rw [List.length_take]; omega
          have hroom : (((Gk ++ gp.take j).map sk).length + 1) * 16 ≤ 140737488355328 := by rw [List.length_map, List.length_append]; omega
          repeat' ((conv => whnf); first | refine now_D1 (by omega) ?_ | refine nT_ ?_ | (refine And.intro (by first | (exact hroom; done) | fail) ?_) | refine aS ?_ | fail)
          exact ⟨j + 1, by omega, by omega, by repeat' (first | (refine LeB.v _ _ ?_) | (exact leI hw) | ((refine leOwn ?_; exact hgm)) | exact trivial | exact LeV.same _ | exact LeB.same _ | exact rfl | exact fun _ _ _ => trivial | refine And.intro ?_ ?_)⟩
        · have : j = (b - fr).toNat := by omega
          subst this
          have hgm : Gk1.map sk = (Gk ++ gp.take (b - fr).toNat).map sk := by rw [List.take_of_length_le (by omega), hG1]
          repeat' ((conv => whnf); first | refine now_D0 (by omega) ?_ | refine nT_ ?_ | refine aS ?_ | fail)
          exact ⟨(), trivial, by repeat' (first | (refine LeB.v _ _ ?_) | ((refine leOwn ?_; exact hgm)) | exact trivial | exact LeV.same _ | exact LeB.same _ | exact rfl | exact fun _ _ _ => trivial | refine And.intro ?_ ?_)⟩
      rintro - -
      have hz : (!eqL (pv.map Y) (zero16.map Y)) = !decide (pv = zero16) := congrArg (!·) (eqL_map pv zero16)
      have hf16 := fits16 hr1.1.hp
      have hf0 : fits [.int .u8, .int .u8, .int .u8, .int .u8, .int .u8, .int .u8, .int .u8, .int .u8, .int .u8, .int .u8, .int .u8, .int .u8, .int .u8, .int .u8, .int .u8, .int .u8] (zero16.map Y) := fits16 rfl
      refine wpC_cut (β := Unit) (fun _ => {sl := [(2, .ptr 2 0), (3, .ptr 3 0), (10, .t (I k)), (11, .ptr 11 0), (12, .t (I fr)), (14, .t (.bool (b == 0 && !decide (pv = zero16))))], bx := [(2, .d 4 nil4), (3, .v [.t (rcs R), .t (spsT Q), .own 116 103 2 ((Gk1).map sk), .own 152 103 2 ((Bk).map sk)]), (11, .d 19 (rcC a b l pv))]}) (fun _ => True) ?_ fun _ _ => ?_
      · by_cases b0 : b = 0
        · have hbk' : (b == 0 && !decide (pv = zero16)) = !decide (pv = zero16) := by rw [b0]; simp
          repeat' ((conv => whnf); first | refine now_E1 b0 ?_ | (refine nv_ (dg16 pv) (by first | (exact aggPv hr1.1.hp; done) | fail) ?_) | refine nb_ _ hz ?_ | refine nT_ ?_ | (refine And.intro (by first | (exact ⟨hf16, hf0⟩; done) | fail) ?_) | refine aS ?_ | fail)
          exact ⟨(), trivial, by repeat' (first | (exact leB hbk') | exact trivial | exact LeV.same _ | exact LeB.same _ | exact rfl | exact fun _ _ _ => trivial | refine And.intro ?_ ?_)⟩
        · have hbk' : (b == 0 && !decide (pv = zero16)) = false := by simp [b0]
          repeat' ((conv => whnf); first | refine now_E0 b0 ?_ | refine nT_ ?_ | refine aS ?_ | fail)
          exact ⟨(), trivial, by repeat' (first | (exact leB hbk') | exact trivial | exact LeV.same _ | exact LeB.same _ | exact rfl | exact fun _ _ _ => trivial | refine And.intro ?_ ?_)⟩
      refine wpC_cut (β := Unit) (fun _ => {sl := [(2, .ptr 2 0), (3, .ptr 3 0), (10, .t (I k)), (11, .ptr 11 0), (14, .t (.bool (brkR prev ⟨a, b, l, pv⟩)))], bx := [(2, .d 4 nil4), (3, .v [.t (rcs R), .t (spsT Q), .own 116 103 2 ((Gk1).map sk), .own 152 103 2 ((Bk).map sk)]), (11, .d 19 (rcC a b l pv))]}) (fun _ => True) ?_ fun _ _ => ?_
      · by_cases hb : b > 0
        case neg =>
          have hbk' : brkR prev ⟨a, b, l, pv⟩ = (b == 0 && !decide (pv = zero16)) := by
            rw [hbR]
            cases prev with
            | none => rfl
            | some x => exact if_neg fun h => hb h.1
          repeat' ((conv => whnf); first | refine now_D0 hb ?_ | refine nT_ ?_ | refine aS ?_ | fail)
          exact ⟨(), trivial, by repeat' (first | (exact leB hbk') | exact trivial | exact LeV.same _ | exact LeB.same _ | exact rfl | exact fun _ _ _ => trivial | refine And.intro ?_ ?_)⟩
        by_cases hfe : fr = b
        case neg =>
          have hbk' : brkR prev ⟨a, b, l, pv⟩ = (b == 0 && !decide (pv = zero16)) := by
            rw [hbR]
            cases prev with
            | none => rfl
            | some x => exact if_neg fun h => hfe (by rw [← hfr]; exact h.2)
          repeat' ((conv => whnf); first | refine now_D1 hb ?_ | refine now_E0 hfe ?_ | refine nT_ ?_ | refine aS ?_ | fail)
          exact ⟨(), trivial, by repeat' (first | (exact leB hbk') | exact trivial | exact LeV.same _ | exact LeB.same _ | exact rfl | exact fun _ _ _ => trivial | refine And.intro ?_ ?_)⟩
        cases prev with
        | none => exact absurd (hfp rfl) (by omega)
        | some q =>
          obtain ⟨⟨hqo, hqc⟩, k', hk', hqe⟩ := hpl q rfl
          have hw : IntKind.i64.wrap ((k : Int) - 1) = (k' : Int) := by rw [wrap_id (by omega) (by omega)]; omega
          have hbk : brkR (some q) ⟨a, b, l, pv⟩ = !decide (q.dg = pv) := by rw [hbR]; exact if_pos ⟨hb, by rw [hfr]; exact hfe⟩
          obtain ⟨c, d, l', pv'⟩ := q
          have hib2 : 0 ≤ IntKind.i64.wrap ((k : Int) - 1) ∧ IntKind.i64.wrap ((k : Int) - 1) < ((R.map rc).length : Int) := by rw [hw, List.length_map]; omega
          have hel2 : (R.map rc)[(IntKind.i64.wrap ((k : Int) - 1)).toNat]?.getD .nil = rcT c d l' pv' := eltRc (r := ⟨c, d, l', pv'⟩) (by rw [hw, Int.toNat_natCast]; exact hqe)
          have hlen' : (rcC c d l' pv').length = 19 := rc_len hqo
          have hDg := t_refDigest c d l' pv' hqo.1 hqo.2
          have hDl := dgR_len c d l' pv'
          have hbk : brkR (some ⟨c, d, l', pv'⟩) ⟨a, b, l, pv⟩ = !decide (dgR c d l' pv' = pv) := hbk
          obtain ⟨dg, hdg⟩ : ∃ dg, dgR c d l' pv' = dg := ⟨_, rfl⟩
          rw [hdg] at hDg hDl hbk
          have hz2 : (!eqL (dg.map Y) (pv.map Y)) = !decide (dg = pv) := congrArg (!·) (eqL_map dg pv)
          have hfd := fits16 hDl
          repeat' ((conv => whnf); first | refine now_D1 hb ?_ | refine now_E1 hfe ?_ | (refine nv_ (rcT c d l' pv') (by first | (exact hel2; done) | fail) ?_) | refine k_call _ (hDg) ?_ | (refine nv_ (dg16 pv) (by first | (exact aggPv hr1.1.hp; done) | fail) ?_) | refine nb_ _ hz2 ?_ | refine nT_ ?_ | (refine And.intro (by first | (exact hib2; done) | (exact hlen'; done) | (exact ⟨hfd, hf16⟩; done) | fail) ?_) | refine aS ?_ | fail)
          exact ⟨(), trivial, by repeat' (first | (exact leB hbk) | exact trivial | exact LeV.same _ | exact LeB.same _ | exact rfl | exact fun _ _ _ => trivial | refine And.intro ?_ ?_)⟩
      have hsp := t_spot ⟨a, b, l, pv⟩ hr1
      cases hbr : brkR prev ⟨a, b, l, pv⟩ with
      | true =>
        rw [hbr, if_pos rfl] at hB1
        have hbm : Bk1.map sk = Bk.map sk ++ [sk (a, b)] := by rw [hB1, List.map_append]; rfl
        have hroom : ((Bk.map sk).length + 1) * 16 ≤ 140737488355328 := by rw [List.length_map]; omega
        repeat' ((conv => whnf); first | refine k_call _ (hsp) ?_ | (refine And.intro (by first | (exact hlen; done) | (exact hroom; done) | fail) ?_) | refine aS ?_ | fail)
        exact ⟨k + 1, by omega, by omega, by repeat' (first | (refine LeB.v _ _ ?_) | ((refine leOwn ?_; rw [hGk1]; done)) | ((refine leOwn ?_; rw [hBk1]; exact hbm)) | exact trivial | exact LeV.same _ | exact LeB.same _ | exact rfl | exact fun _ _ _ => trivial | exact lI | refine And.intro ?_ ?_)⟩
      | false =>
        rw [hbr, if_neg (by simp), List.append_nil] at hB1
        skip
        exact ⟨k + 1, by omega, by omega, by repeat' (first | (refine LeB.v _ _ ?_) | ((refine leOwn ?_; rw [hGk1]; done)) | ((refine leOwn ?_; rw [hBk1, hB1])) | exact trivial | exact LeV.same _ | exact LeB.same _ | exact rfl | exact fun _ _ _ => trivial | exact lI | refine And.intro ?_ ?_)⟩
    · have : k = R.length := by omega
      subst this
      repeat' ((conv => whnf); first | refine now_D0 (by simp) ?_ | refine aS ?_ | fail)
      rw [List.take_length]
      exact ⟨(), trivial, by repeat' (first | (refine LeB.v _ _ ?_) | (exact LeV.data _ _ _ _) | exact trivial | exact LeV.same _ | exact LeB.same _ | exact rfl | exact fun _ _ _ => trivial | refine And.intro ?_ ?_)⟩
  rintro - -
  repeat' ((conv => whnf); first | exact trivial | refine aS ?_ | fail)
end Go.RC
end
section
namespace Go.RC
open Go Go.DL Go.Proofs
set_option maxRecDepth 100000
set_option maxHeartbeats 1000000
def ins0 (s : S2) (l : List S2) : List S2 := l.takeWhile (befS s) ++ [s] ++ l.dropWhile (befS s)
abbrev leS (a b : S2) : Prop := ¬ cmpS b a < 0
theorem ins0_cons (s x : S2) (l : List S2) : ins0 s (x :: l) = if befS s x = true then x :: ins0 s l else s :: x :: l := by
  unfold ins0
  rw [List.takeWhile_cons, List.dropWhile_cons]
  by_cases h : befS s x = true
  · rw [if_pos h, if_pos h, if_pos h]; rfl
  · rw [if_neg h, if_neg h, if_neg h]; rfl
theorem ins0_perm (s : S2) : ∀ l : List S2, (ins0 s l).Perm (s :: l)
  | [] => .refl _
  | x :: l => by
    rw [ins0_cons]
    by_cases h : befS s x = true
    · rw [if_pos h]; exact ((ins0_perm s l).cons x).trans (List.Perm.swap s x l)
    · rw [if_neg h]
theorem ins0_sorted (s : S2) : ∀ {l : List S2}, l.Pairwise leS → (ins0 s l).Pairwise leS
  | [], _ => by simp [ins0]
  | x :: l, h => by
    obtain ⟨h1, h2⟩ := List.pairwise_cons.1 h
    rw [ins0_cons]
    by_cases hb : befS s x = true
    · rw [if_pos hb]
      refine List.pairwise_cons.2 ⟨fun y hy => ?_, ins0_sorted s h2⟩
      have hb : cmpS x s < 0 := of_decide_eq_true hb
      rcases List.mem_cons.1 ((ins0_perm s l).mem_iff.1 hy) with e | e
      · subst e; exact fun k => cmpS_irr x (cmpS_tr hb k)
      · exact h1 y e
    · rw [if_neg hb]
      have hb : ¬ cmpS x s < 0 := fun k => hb (decide_eq_true k)
      refine List.pairwise_cons.2 ⟨fun y hy => ?_, h⟩
      rcases List.mem_cons.1 hy with e | e
      · subst e; exact hb
      · exact cmpS_ntr (h1 y e) hb
theorem at_ins (s : S2) : ∀ {l : List S2}, l.Pairwise leS → (l[(l.takeWhile (befS s)).length]? = some s ↔ s ∈ l)
  | [], _ => by simp
  | x :: l, h => by
    obtain ⟨h1, h2⟩ := List.pairwise_cons.1 h
    rw [List.takeWhile_cons]
    by_cases hb : befS s x = true
    · rw [if_pos hb, List.length_cons, List.getElem?_cons_succ, at_ins s h2, List.mem_cons]
      have hb : cmpS x s < 0 := of_decide_eq_true hb
      refine ⟨Or.inr, fun k => k.resolve_left fun e => ?_⟩
      subst e; exact cmpS_irr s hb
    · rw [if_neg hb, List.length_nil, List.getElem?_cons_zero, List.mem_cons]
      have hb : ¬ cmpS x s < 0 := fun k => hb (decide_eq_true k)
      refine ⟨fun e => Or.inl (Option.some.inj e).symm, fun k => ?_⟩
      rcases k with e | e
      · rw [e]
      · rw [cmpS_anti hb (h1 s e)]
theorem insS_eq {s : S2} {l : List S2} (h : l.Pairwise leS) : insS s l = if s ∈ l then l else ins0 s l := by
  unfold insS
  obtain ⟨e1, e2⟩ := tw_take (p := befS s) l
  by_cases hs : s ∈ l
  · rw [if_pos ((at_ins s h).2 hs), if_pos hs]
  · rw [if_neg (fun k => hs ((at_ins s h).1 k)), if_neg hs, ← e1, ← e2]; rfl
theorem insR_sp (r : Rc) (l : List Rc) : (insR r l).map sp = ins0 (sp r) (l.map sp) := by
  unfold insR ins0
  obtain ⟨e1, e2⟩ := tw_take (p := befR r) l
  rw [← e1, ← e2, List.map_append, List.map_append, List.takeWhile_map, List.dropWhile_map]
  rfl
theorem putK_mem {s : S2} : ∀ {K : List S2}, s ∈ K → putK s K = K
  | k :: K, h => by
    rw [putK_cons]
    by_cases e : s = k
    · rw [if_pos e, e]
    · rw [if_neg e, putK_mem ((List.mem_cons.1 h).resolve_left e)]
theorem putK_new {s : S2} : ∀ {K : List S2}, s ∉ K → putK s K = K ++ [s]
  | [], _ => rfl
  | k :: K, h => by
    rw [putK_cons, if_neg (fun e => h (by rw [e]; exact List.mem_cons_self)), putK_new (fun e => h (List.mem_cons_of_mem _ e))]; rfl
theorem insS_srt (s : S2) (K : List S2) : insS s (srtS K) = srtS (putK s K) := by
  rw [insS_eq (srtS_sorted K)]
  by_cases h : s ∈ K
  · rw [if_pos ((srtS_perm K).mem_iff.2 h), putK_mem h]
  · rw [if_neg (fun k => h ((srtS_perm K).mem_iff.1 k)), putK_new h]
    refine srtS_eq ?_ (ins0_sorted s (srtS_sorted K))
    exact ((ins0_perm s _).trans ((srtS_perm K).cons s)).trans (List.perm_append_comm (l₁ := [s]) (l₂ := K))
structure Both (a b : List Rc × List S2) : Prop where
  nd : (a.1.map sp).Nodup
  sp : b.1.map sp = srtS (a.1.map sp)
  mem : b.1.Perm a.1
  q : b.2 = srtS a.2
theorem nd_eq {F : List Rc} (h : (F.map sp).Nodup) {x y : Rc} (hx : x ∈ F) (hy : y ∈ F) (e : sp x = sp y) : x = y := by
  induction F with
  | nil => cases hx
  | cons z F ih =>
    obtain ⟨h1, h2⟩ := List.nodup_cons.1 (show (sp z :: F.map sp).Nodup from h)
    rcases List.mem_cons.1 hx with hx | hx <;> rcases List.mem_cons.1 hy with hy | hy
    · rw [hx, hy]
    · exact absurd (List.mem_map.2 ⟨y, hy, by rw [← e, hx]⟩) h1
    · exact absurd (List.mem_map.2 ⟨x, hx, by rw [e, hy]⟩) h1
    · exact ih h2 hx hy
theorem atS_of {F : List Rc} (h : (F.map sp).Nodup) {x : Rc} (hx : x ∈ F) : atS F (sp x) = some x := by
  obtain ⟨h1, h2, h3⟩ := rcOf_mem (List.mem_map_of_mem (f := sp) hx)
  rw [h1, nd_eq h h2 hx h3]
theorem atS_none {F : List Rc} {s : S2} (h : atS F s = none) : s ∉ F.map sp := fun k => by
  obtain ⟨h1, -⟩ := rcOf_mem k
  rw [h] at h1; cases h1
theorem atS_perm {F R : List Rc} (h : (F.map sp).Nodup) (hp : R.Perm F) (s : S2) : atS R s = atS F s := by
  cases hf : atS F s with
  | none =>
    cases hr : atS R s with
    | none => rfl
    | some x =>
      obtain ⟨h1, h2⟩ := atS_mem hr
      exact absurd (List.mem_map.2 ⟨x, hp.mem_iff.1 h1, h2⟩) (atS_none hf)
  | some x =>
    obtain ⟨h1, h2⟩ := atS_mem hf
    have hn : (R.map sp).Nodup := (hp.map sp).nodup_iff.2 h
    rw [← h2]; exact atS_of hn (hp.mem_iff.2 h1)
theorem Both.rcs {a b : List Rc × List S2} (h : Both a b) : b.1 = rcsF a.1 := by
  unfold rcsF
  rw [← h.sp, List.map_map]
  have : b.1.map (rcOf a.1 ∘ Go.RC.sp) = b.1.map id := List.map_congr_left fun x hx => by
    have := atS_of h.nd (h.mem.mem_iff.1 hx)
    show rcOf a.1 (Go.RC.sp x) = x
    unfold rcOf; rw [this]; rfl
  rw [this, List.map_id]
theorem Both.step {a b : List Rc × List S2} (h : Both a b) (r : Rc) : Both (mg1 a r) (rf1 b r) := by
  unfold mg1 rf1
  by_cases c : chkR r ≠ 0
  · rw [if_pos c, if_pos c]; exact h
  rw [if_neg c, if_neg c, atS_perm h.nd h.mem]
  cases hat : atS a.1 (Go.RC.sp r) with
  | none =>
    have hno := atS_none hat
    refine ⟨?_, ?_, ?_, h.q⟩
    · show ((a.1 ++ [r]).map Go.RC.sp).Nodup
      rw [List.map_append]
      refine List.nodup_append.2 ⟨h.nd, by simp, fun x hx y hy e => ?_⟩
      rw [List.map_singleton, List.mem_singleton] at hy
      exact hno (by rw [← hy, ← e]; exact hx)
    · show (insR r b.1).map Go.RC.sp = srtS ((a.1 ++ [r]).map Go.RC.sp)
      rw [insR_sp, h.sp]
      refine srtS_eq ?_ (ins0_sorted _ (srtS_sorted _))
      rw [List.map_append]
      exact ((ins0_perm _ _).trans ((srtS_perm _).cons _)).trans (List.perm_append_comm (l₁ := [Go.RC.sp r]))
    · show (insR r b.1).Perm (a.1 ++ [r])
      unfold insR
      have e : b.1.take (b.1.takeWhile (befR r)).length ++ [r] ++ b.1.drop (b.1.takeWhile (befR r)).length |>.Perm (r :: b.1) := by
        rw [List.append_assoc]
        refine List.perm_middle.trans ?_
        show (r :: (b.1.take (b.1.takeWhile (befR r)).length ++ b.1.drop (b.1.takeWhile (befR r)).length)).Perm (r :: b.1)
        rw [List.take_append_drop]
      exact (e.trans (h.mem.cons r)).trans (List.perm_append_comm (l₁ := [r]))
  | some o =>
    dsimp only
    by_cases hs : samL o r = true
    · rw [if_pos hs, if_pos hs]; exact h
    · rw [if_neg hs, if_neg hs]
      exact ⟨h.nd, h.sp, h.mem, by show insS _ b.2 = _; rw [h.q, insS_srt]⟩
theorem both_fold : ∀ (l : List Rc) {a b : List Rc × List S2}, Both a b → Both (l.foldl mg1 a) (l.foldl rf1 b)
  | [], _, _, h => h
  | r :: l, _, _, h => both_fold l (h.step r)
theorem both_all (l : List Rc) : Both (mgF l) (rfF l) := both_fold l ⟨by simp, (by unfold srtS; simp), .refl _, (by unfold srtS; simp)⟩
theorem brk_eq {F : List Rc} (hF : okF F) (hn : (F.map sp).Nodup) {pre l : List Rc} {r : Rc} (hp : (pre ++ r :: l).Perm F) (hs : ((pre ++ r :: l).map sp).Pairwise leS) : brkR pre.getLast? r = brk F r := by
  have hmem : ∀ x ∈ pre ++ r :: l, x ∈ F := fun x hx => hp.mem_iff.1 hx
  have hrF : r ∈ F := hmem r (by simp)
  obtain ⟨r0, r1, r2, r3⟩ := chk_bounds (hF r hrF).2
  have hbk : brk F r = match atS F (r.n, r.i - 1) with
    | some x => !decide (x.dg = r.pv) || (r.i == 0 && !decide (r.pv = zero16))
    | none => r.i == 0 && !decide (r.pv = zero16) := rfl
  rw [List.map_append, List.map_cons] at hs
  obtain ⟨s1, s2, s3⟩ := List.pairwise_append.1 hs
  obtain ⟨s4, s5⟩ := List.pairwise_cons.1 s2
  cases hat : atS F (r.n, r.i - 1) with
  | none =>
    rw [hat] at hbk
    rw [hbk]
    cases hg : pre.getLast? with
    | none => rfl
    | some y =>
      have hyF : y ∈ F := hmem y (List.mem_append_left _ (List.mem_of_getLast? hg))
      refine if_neg fun ⟨k1, k2⟩ => ?_
      unfold frm at k2
      dsimp only at k2
      by_cases e : y.n = r.n
      · rw [if_pos e] at k2
        exact atS_none hat (List.mem_map.2 ⟨y, hyF, by show (y.n, y.i) = _; rw [e]; congr 1; omega⟩)
      · rw [if_neg e] at k2; omega
  | some x =>
    rw [hat] at hbk
    obtain ⟨hxF, hxs⟩ := atS_mem hat
    obtain ⟨x0, x1, x2, x3⟩ := chk_bounds (hF x hxF).2
    have e1 : x.n = r.n := congrArg Prod.fst hxs
    have e2 : x.i = r.i - 1 := congrArg Prod.snd hxs
    have hxr : cmpS (sp x) (sp r) < 0 := by rw [cmpS_lt]; show x.n < r.n ∨ x.n = r.n ∧ x.i < r.i; omega
    have hxp : x ∈ pre := by
      rcases List.mem_append.1 (hp.mem_iff.2 hxF) with k | k
      · exact k
      · rcases List.mem_cons.1 k with k | k
        · rw [k] at e2; omega
        · exact absurd hxr (s4 _ (List.mem_map_of_mem k))
    obtain ⟨y, hy⟩ : ∃ y, pre.getLast? = some y := by
      cases hg : pre.getLast? with
      | none => rw [List.getLast?_eq_none_iff.1 hg] at hxp; cases hxp
      | some y => exact ⟨y, rfl⟩
    obtain ⟨p1, hp1⟩ := List.getLast?_eq_some_iff.1 hy
    have hyp : y ∈ pre := List.mem_of_getLast? hy
    have hyF : y ∈ F := hmem y (List.mem_append_left _ hyp)
    have hxy : ¬ cmpS (sp y) (sp x) < 0 := by
      rw [hp1] at hxp
      rcases List.mem_append.1 hxp with k | k
      · rw [hp1, List.map_append] at s1
        exact (List.pairwise_append.1 s1).2.2 _ (List.mem_map_of_mem k) _ (by simp)
      · rw [List.mem_singleton.1 k]; exact cmpS_irr _
    have hyr : ¬ cmpS (sp r) (sp y) < 0 := s3 _ (List.mem_map_of_mem hyp) _ (by simp)
    have hne : sp y ≠ sp r := fun e => by
      have hn2 := ((hp.map sp).nodup_iff).2 hn
      rw [List.map_append, List.map_cons] at hn2
      exact (List.nodup_append.1 hn2).2.2 _ (List.mem_map_of_mem hyp) _ (by simp) e
    have e3 : sp y = sp x := by
      rw [cmpS_lt] at hxy hyr
      have hne' : ¬ (y.n = r.n ∧ y.i = r.i) := fun k => hne (by show (y.n, y.i) = (r.n, r.i); rw [k.1, k.2])
      have hxy' : ¬ (y.n < x.n ∨ y.n = x.n ∧ y.i < x.i) := hxy
      have hyr' : ¬ (r.n < y.n ∨ r.n = y.n ∧ r.i < y.i) := hyr
      show (y.n, y.i) = (x.n, x.i)
      have q1 : y.n = x.n := by omega
      have q2 : y.i = x.i := by omega
      rw [q1, q2]
    have e4 : y = x := nd_eq hn hyF hxF e3
    subst e4
    rw [hy, hbk]
    have hi : (r.i == 0) = false := by simp; omega
    dsimp only
    rw [hi, Bool.false_and, Bool.or_false]
    refine if_pos ⟨by omega, ?_⟩
    unfold frm
    dsimp only
    rw [if_pos e1]; omega
theorem brks_all {F : List Rc} (hF : okF F) (hn : (F.map sp).Nodup) : ∀ (l pre : List Rc), (pre ++ l).Perm F → ((pre ++ l).map sp).Pairwise leS → brksR pre.getLast? l = brks F l
  | [], _, _, _ => rfl
  | r :: l, pre, hp, hs => by
    have h1 := brk_eq hF hn hp hs
    have e : pre ++ r :: l = (pre ++ [r]) ++ l := by simp
    have h2 := brks_all hF hn l (pre ++ [r]) (by rw [← e]; exact hp) (by rw [← e]; exact hs)
    rw [List.getLast?_concat] at h2
    show (if brkR pre.getLast? r = true then [sp r] else []) ++ brksR (some r) l = _
    rw [h1, h2]
    unfold brks
    rw [List.filter_cons]
    cases brk F r <;> rfl
theorem okF_fold : ∀ (l : List Rc) {a : List Rc × List S2}, okF a.1 → (∀ r ∈ l, r.ok) → okF (l.foldl mg1 a).1
  | [], _, h, _ => h
  | r :: l, _, h, hl => okF_fold l (mg1_ok h (hl r (by simp))).1 fun x hx => hl x (by simp [hx])
theorem mrg_eq {l : List Rc} (h : ∀ r ∈ l, r.ok) : mrgR l = mrg l := by
  have hb := both_all l
  have hF : okF (mgF l).1 := okF_fold l (fun r h => by simp at h) h
  have hbr := brks_all hF hb.nd (rfF l).1 [] hb.mem (by rw [List.nil_append, hb.sp]; exact srtS_sorted _)
  have hbr : brksR none (rfF l).1 = brks (mgF l).1 (rfF l).1 := hbr
  unfold mrgR mrg
  rw [hbr, hb.q, ← hb.rcs]
end Go.RC
end
section
namespace Go.RC
open Go Go.DL Go.Proofs
set_option maxRecDepth 100000
set_option maxHeartbeats 1000000
theorem mg1_cases (a : List Rc × List S2) (r : Rc) :
    (chkR r ≠ 0 ∧ mg1 a r = a) ∨ (chkR r = 0 ∧ mg1 a r = (a.1 ++ [r], a.2)) ∨ (chkR r = 0 ∧ r ∈ a.1 ∧ mg1 a r = a)
    ∨ (chkR r = 0 ∧ (∃ o, o ∈ a.1 ∧ sp o = sp r ∧ o ≠ r) ∧ mg1 a r = (a.1, putK (sp r) a.2)) := by
  unfold mg1
  by_cases c : chkR r ≠ 0
  · exact Or.inl ⟨c, if_pos c⟩
  have c' : chkR r = 0 := by simpa using c
  rw [if_neg c]
  cases hat : atS a.1 (sp r) with
  | none => exact Or.inr (Or.inl ⟨c', rfl⟩)
  | some o =>
    obtain ⟨h1, h2⟩ := atS_mem hat
    by_cases hs : samL o r = true
    · have e := samL_iff.1 hs
      refine Or.inr (Or.inr (Or.inl ⟨c', by rw [← e]; exact h1, if_pos hs⟩))
    · refine Or.inr (Or.inr (Or.inr ⟨c', ⟨o, h1, h2, fun e => hs (samL_iff.2 e)⟩, if_neg hs⟩))
theorem putK_ne (s : S2) (K : List S2) : putK s K ≠ [] := by
  cases K with
  | nil => simp [putK]
  | cons k K => rw [putK_cons]; split <;> simp
theorem mg_mem : ∀ (l : List Rc) (a : List Rc × List S2) {x : Rc}, x ∈ (l.foldl mg1 a).1 → x ∈ a.1 ∨ x ∈ l ∧ chkR x = 0
  | [], _, _, h => Or.inl h
  | r :: l, a, x, h => by
    rcases mg_mem l (mg1 a r) h with k | k
    · rcases mg1_cases a r with ⟨-, e⟩ | ⟨c, e⟩ | ⟨-, -, e⟩ | ⟨-, -, e⟩ <;> rw [e] at k
      · exact Or.inl k
      · rcases List.mem_append.1 k with k | k
        · exact Or.inl k
        · rw [List.mem_singleton.1 k]; exact Or.inr ⟨by simp, c⟩
      · exact Or.inl k
      · exact Or.inl k
    · exact Or.inr ⟨List.mem_cons_of_mem _ k.1, k.2⟩
theorem mg_keep : ∀ (l : List Rc) (a : List Rc × List S2), (l.foldl mg1 a).2 = [] → a.2 = [] ∧ (∀ x ∈ a.1, x ∈ (l.foldl mg1 a).1) ∧ ∀ x ∈ l, chkR x = 0 → x ∈ (l.foldl mg1 a).1
  | [], _, h => ⟨h, fun _ k => k, fun _ k => by simp at k⟩
  | r :: l, a, h => by
    obtain ⟨h1, h2, h3⟩ := mg_keep l (mg1 a r) h
    have hr : chkR r = 0 → r ∈ (mg1 a r).1 ∨ mg1 a r = (a.1, putK (sp r) a.2) := fun hc => by
      rcases mg1_cases a r with ⟨c, e⟩ | ⟨c, e⟩ | ⟨-, m, e⟩ | ⟨-, -, e⟩
      · exact absurd hc c
      · rw [e]; exact Or.inl (by simp)
      · rw [e]; exact Or.inl m
      · exact Or.inr e
    have ha : a.2 = [] ∧ ∀ x ∈ a.1, x ∈ (mg1 a r).1 := by
      rcases mg1_cases a r with ⟨-, e⟩ | ⟨-, e⟩ | ⟨-, -, e⟩ | ⟨-, -, e⟩ <;> rw [e] at h1 ⊢
      · exact ⟨h1, fun _ k => k⟩
      · exact ⟨h1, fun _ k => List.mem_append_left _ k⟩
      · exact ⟨h1, fun _ k => k⟩
      · exact absurd h1 (putK_ne _ _)
    refine ⟨ha.1, fun x k => h2 x (ha.2 x k), fun x k hc => ?_⟩
    rcases List.mem_cons.1 k with k | k
    · subst k
      rcases hr hc with k | k
      · exact h2 _ k
      · rw [k] at h1; exact absurd h1 (putK_ne _ _)
    · exact h3 x k hc
theorem mg_none : ∀ (l : List Rc) (a : List Rc × List S2), (∀ x y, (x ∈ a.1 ∨ x ∈ l ∧ chkR x = 0) → (y ∈ a.1 ∨ y ∈ l ∧ chkR y = 0) → sp x = sp y → x = y) → (l.foldl mg1 a).2 = a.2
  | [], _, _ => rfl
  | r :: l, a, h => by
    have hm : ∀ x, (x ∈ (mg1 a r).1 ∨ x ∈ l ∧ chkR x = 0) → (x ∈ a.1 ∨ x ∈ r :: l ∧ chkR x = 0) := fun x k => by
      rcases k with k | k
      · exact (mg_mem [r] a k).imp id fun k => ⟨by rw [List.mem_singleton.1 k.1]; simp, k.2⟩
      · exact Or.inr ⟨List.mem_cons_of_mem _ k.1, k.2⟩
    have e1 := mg_none l (mg1 a r) fun x y hx hy => h x y (hm x hx) (hm y hy)
    show (l.foldl mg1 (mg1 a r)).2 = a.2
    rw [e1]
    rcases mg1_cases a r with ⟨-, e⟩ | ⟨-, e⟩ | ⟨-, -, e⟩ | ⟨c, ⟨o, h1, h2, h3⟩, e⟩ <;> rw [e]
    exact absurd (h o r (Or.inl h1) (Or.inr ⟨by simp, c⟩) h2) h3
theorem mrg_perm {l l' : List Rc} (hp : l'.Perm l) (hk : (mgF l).2 = []) : mrg l' = mrg l := by
  have hb := both_all l
  have hb' := both_all l'
  have m1 := fun x => mg_mem l ([], []) (x := x)
  have m1' := fun x => mg_mem l' ([], []) (x := x)
  obtain ⟨-, -, k3⟩ := mg_keep l ([], []) hk
  have hcons : ∀ x y, (x ∈ ([] : List Rc) ∨ x ∈ l' ∧ chkR x = 0) → (y ∈ ([] : List Rc) ∨ y ∈ l' ∧ chkR y = 0) → sp x = sp y → x = y := fun x y hx hy e => by
    have hx := hx.resolve_left (by simp)
    have hy := hy.resolve_left (by simp)
    exact nd_eq hb.nd (k3 x (hp.mem_iff.1 hx.1) hx.2) (k3 y (hp.mem_iff.1 hy.1) hy.2) e
  have hk' : (mgF l').2 = [] := mg_none l' ([], []) hcons
  obtain ⟨-, -, k3'⟩ := mg_keep l' ([], []) hk'
  have n1 : (mgF l).1.Nodup := (List.pairwise_map.1 hb.nd).imp fun h e => h (by rw [e])
  have n2 : (mgF l').1.Nodup := (List.pairwise_map.1 hb'.nd).imp fun h e => h (by rw [e])
  have hpF : (mgF l').1.Perm (mgF l).1 := (List.perm_ext_iff_of_nodup n2 n1).2 fun x => by
    constructor
    · intro h
      have := (m1' x h).resolve_left (by simp)
      exact k3 x (hp.mem_iff.1 this.1) this.2
    · intro h
      have := (m1 x h).resolve_left (by simp)
      exact k3' x (hp.mem_iff.2 this.1) this.2
  have hat := atS_perm hb.nd hpF
  have hs : srtS ((mgF l').1.map sp) = srtS ((mgF l).1.map sp) := srtS_eq ((srtS_perm _).trans (hpF.map sp)) (srtS_sorted _)
  have hro : rcOf (mgF l').1 = rcOf (mgF l).1 := funext fun s => by unfold rcOf; rw [hat]
  have hbk : brk (mgF l').1 = brk (mgF l).1 := funext fun r => by unfold brk; rw [hat]
  have hR : rcsF (mgF l').1 = rcsF (mgF l).1 := by unfold rcsF; rw [hs, hro]
  unfold mrg
  rw [hR, hk, hk']
  unfold brks
  rw [hbk]
theorem t_SameMerged (a b : List Rc) (c d e f g h : List S2) (hl : a.length < 2 ^ 40) (ha : ∀ r ∈ a, r.ok) (hb : ∀ r ∈ b, r.ok) (hc : c.length < 2 ^ 60) (he : e.length < 2 ^ 60) (hg : g.length < 2 ^ 60) :
    DCalls Tryz.prog 18 [.agg [rcs a, spsT c, spsT e, spsT g], .agg [rcs b, spsT d, spsT f, spsT h]] (.bool (((samA a b && decide (c = d)) && decide (e = f)) && decide (g = h))) := by
  have h1 := t_SameAll a b hl ha hb
  have h2 := t_SameSpots c d hc
  have h3 := t_SameSpots e f he
  have h4 := t_SameSpots g h hg
  generalize samA a b = x1 at *
  generalize decide (c = d) = x2 at *
  generalize decide (e = f) = x3 at *
  generalize decide (g = h) = x4 at *
  refine dcalls_low (rs := [.tmp 4]) mixed Tryz.func18 l18 rfl rfl rfl (r := [.bool _]) (Nat.le_of_ble_eq_true rfl) ?_
  cases x1 <;> cases x2 <;> cases x3 <;> cases x4
  all_goals repeat' ((conv => whnf); first | exact trivial | refine k_call _ (h1) ?_ | refine k_call _ (h2) ?_ | refine k_call _ (h3) ?_ | refine k_call _ (h4) ?_ | refine nT_ ?_ | refine rb1 ?_ | refine rb0 ?_ | refine aS ?_ | fail)
end Go.RC
end
section
namespace Go.RC
open Go Go.DL Go.Proofs
set_option maxRecDepth 100000
noncomputable def c4 : DCode := (.seq (.region [oo 2 (.mov (.const (.bool false)))] []) (.seq (.seq (.region [mv 9 0,oo 10 (.len (tm 9)),oo 11 (.bin .gtr (tm 10) (Kc 5))] []) (.cond (tm 11) (.seq (.region [oo 12 (.call 6 []),mv 2 12] []) .ret) .skip)) (.seq (.region [oo 3 (.mov (.const .nil))] []) (.seq (.seq (.region [mv 13 0,oo 14 (.len (tm 13)),oo 15 (.mov (Kc 0))] []) (.block 0 (.loop (.seq (.region [oo 16 (.bin .lss (tm 15) (tm 14))] []) (.seq (.cond (tm 16) .skip (.exit 0)) (.seq (.block 1 (.seq (.region [oo 17 (.idxL 1 (tm 13) (tm 15)),oo 18 (.load 1 false (tm 17)),mv 5 18] []) (.seq (.seq (.region [mv 19 5,oo 20 (.call 17 [(tm 19), (Kc 12)]),oo 21 (.not (tm 20))] []) (.cond (tm 21) (.seq (.region [oo 22 (.call 6 []),mv 2 22] []) .ret) .skip)) (.seq (.seq (.region [mv 23 5,oo 24 (.len (tm 23)),oo 25 (.mov (Kc 0))] []) (.block 2 (.loop (.seq (.region [oo 26 (.bin .lss (tm 25) (tm 24))] []) (.seq (.cond (tm 26) .skip (.exit 2)) (.seq (.block 3 (.seq (.region [oo 27 (.idxL 19 (tm 23) (tm 25)),oo 28 (.load 19 true (tm 27)),oo 7 (.alloc [(Zi 0), (Zi 0), .nil, (Ui 0), (Ui 0), (Ui 0), (Ui 0), (Ui 0), (Ui 0), (Ui 0), (Ui 0), (Ui 0), (Ui 0), (Ui 0), (Ui 0), (Ui 0), (Ui 0), (Ui 0), (Ui 0)]),o0 (.store 19 (tm 7) (tm 28))] []) (.seq (.region [oo 29 (.offA 1 (tm 7)),oo 30 (.load 1 false (tm 29)),oo 31 (.bin .gtr (tm 30) (Kc 1000))] []) (.cond (tm 31) (.seq (.region [oo 32 (.call 6 []),mv 2 32] []) .ret) .skip)))) (.region [oo 33 (.bin .add (tm 25) (Kc 1)),mv 25 33] []))))))) (.region [mv 34 5,oo 35 (.buildS 33 1 1 [.nil] [(0, (tm 34))]),mv 36 3,oo 37 (.append 54 33 1 24 (tm 35) (tm 36)),mv 3 37] []))))) (.region [oo 38 (.bin .add (tm 15) (Kc 1)),mv 15 38] []))))))) (.seq (.region [mv 39 0,oo 40 (.call 15 [(tm 39)]),oo 8 (.alloc [.nil, .nil, .nil, .nil]),o0 (.store 4 (tm 8) (tm 40))] []) (.seq (.region [oo 41 (.call 6 []),mv 42 41,oT 43 42 (.load 4 true (tm 8)),mT 44 0 42,oT 45 42 (.call 19 [(tm 44)]),oT 46 42 (.call 18 [(tm 43), (tm 45)]),oo 47 (.pick (tm 42) (tm 46) (.const (.bool false))),mv 48 47,oT 49 48 (.offA 1 (tm 8)),oT 50 48 (.load 1 false (tm 49)),oT 51 48 (.len (tm 50)),oT 52 48 (.bin .gtr (tm 51) (Kc 0)),mT 53 52 48,oF 54 53 (.load 4 true (tm 8)),mF 55 3 53,oF 56 53 (.call 15 [(tm 55)]),oF 57 53 (.call 18 [(tm 54), (tm 56)]),oT 58 48 (.pick (tm 53) (.const (.bool true)) (tm 57)),oo 59 (.pick (tm 48) (tm 58) (.const (.bool false))),mv 2 59] []) .ret))))))
theorem l4 : (Tryz.f4.body.bind (lowC Tryz.prog 60 [])) = some c4 := by kernel_rfl
end Go.RC
end
section
namespace Go.RC
open Go Go.DL Go.Proofs
set_option maxRecDepth 100000
set_option maxHeartbeats 10000000
theorem few_len {l : List Rc} {m : Int} (h : few l m = true) : (l.length : Int) ≤ m := by
  unfold few at h
  simp at h
  omega
theorem lensN_12 : ∀ {ls : List (List Rc)}, (∀ l ∈ ls, l.length ≤ 12) → lensN ls ≤ 12 * ls.length
  | [], _ => by simp [lensN]
  | l :: ls, h => by
    have h1 := h l (by simp)
    have h2 := lensN_12 (ls := ls) fun x hx => h x (by simp [hx])
    have e : lensN (l :: ls) = l.length + lensN ls := by unfold lensN; simp
    rw [e, List.length_cons]
    omega
theorem leData {ks : List Nat} {bx : Nat → Option BX} {r : Nat} {e : TypeId} {n : Nat} {xs ys : List T} (h : xs = ys) : LeV ks bx (.t (.slice n xs)) (.own r e n ys) := by rw [h]; exact .data _ _ _ _
theorem mrg_parts {l : List Rc} (h : ∀ r ∈ l, r.ok) (hl : l.length < 2 ^ 18) : ∃ R Q G B, mrg l = .agg [rcs R, spsT Q, spsT G, spsT B] ∧ Q = srtS (mgF l).2 ∧ R.length < 2 ^ 40 ∧ (∀ r ∈ R, r.ok) ∧ Q.length < 2 ^ 60 ∧ G.length < 2 ^ 60 ∧ B.length < 2 ^ 60 := by
  have hF : okF (mgF l).1 := okF_fold l (fun r h => by simp at h) h
  have hlen : ∀ (l : List Rc) (a : List Rc × List S2), okF a.1 → (∀ r ∈ l, r.ok) → (l.foldl mg1 a).1.length ≤ a.1.length + l.length ∧ (l.foldl mg1 a).2.length ≤ a.2.length + l.length := by
    intro l
    induction l with
    | nil => intro a _ _; simp
    | cons r l ih =>
      intro a ha hl
      have h1 := mg1_ok ha (hl r (by simp))
      have h2 := ih (mg1 a r) h1.1 fun x hx => hl x (by simp [hx])
      simp only [List.foldl_cons, List.length_cons]
      omega
  have hL := hlen l ([], []) (fun r h => by simp at h) h
  have hL : (mgF l).1.length ≤ 0 + l.length ∧ (mgF l).2.length ≤ 0 + l.length := hL
  have hb := both_all l
  have hR : ∀ r ∈ rcsF (mgF l).1, r ∈ (mgF l).1 := fun r hr => by rw [← hb.rcs] at hr; exact hb.mem.mem_iff.1 hr
  have hRl : (rcsF (mgF l).1).length = (mgF l).1.length := by rw [← hb.rcs]; exact hb.mem.length_eq
  have hG := gaps_len (l := rcsF (mgF l).1) (p := none) (fun x h => by cases h) fun x hx => (hF x (hR x hx)).2
  have hB := brks_len (mgF l).1 (rcsF (mgF l).1)
  refine ⟨_, _, _, _, rfl, rfl, by omega, fun r hr => (hF r (hR r hr)).1, by rw [(srtS_perm _).length_eq]; omega, by omega, by omega⟩
theorem t_MergesAsSpecified (ls : List (List Rc)) (hl : ls.length < 2 ^ 40) (hll : ∀ l ∈ ls, l.length < 2 ^ 40) (ho : ∀ l ∈ ls, ∀ r ∈ l, r.ok) : DCalls Tryz.prog 4 [.slice 1 (ls.map rcs)] (.bool true) := by
  have hSa := t_sanity
  refine dcalls_low (rs := [.tmp 2]) mixed Tryz.func4 l4 rfl rfl rfl (r := [.bool true]) (Nat.le_of_ble_eq_true rfl) ?_
  by_cases c5 : ls.length > 5
  · repeat' ((conv => whnf); first | exact trivial | (refine now_D1 (by simp; omega) ?_) | refine k_call _ (hSa) ?_ | refine rb1 ?_ | refine aS ?_ | fail)
  repeat' ((conv => whnf); first | (refine now_D0 (by simp; omega) ?_) | refine aS ?_ | fail)
  refine wpC_loopE 0 (α := Nat) (β := Unit) (fun i => {sl := [(0, .t (.slice 1 (ls.map rcs))), (3, .t (.slice 1 ((ls.take i).reverse.map rcs))), (13, .t (.slice 1 (ls.map rcs))), (14, .t (I ls.length)), (15, .t (I i))], bx := []})
    (fun i => i ≤ ls.length ∧ ∀ l ∈ ls.take i, l.length ≤ 12) (fun i => ls.length - i)
    (fun _ => {sl := [(0, .t (.slice 1 (ls.map rcs))), (3, .t (.slice 1 (ls.reverse.map rcs)))], bx := []}) (fun _ => ∀ l ∈ ls, l.length ≤ 12) 0 ⟨by omega, by simp⟩ ?_ ?_ ?_
  · repeat' (first | (exact LeV.empty _) | ((refine leI ?_; simp; done)) | exact trivial | exact LeV.same _ | exact rfl | exact fun _ _ _ => trivial | refine And.intro ?_ ?_)
  · rintro i ⟨hi, hf⟩
    rcases Nat.lt_or_ge i ls.length with h2 | h2
    · have hol := ho _ (List.getElem_mem h2)
      have hlc := hll _ (List.getElem_mem h2)
      have hib0 : 0 ≤ (i : Int) ∧ (i : Int) < ((ls.map rcs).length : Int) := by rw [List.length_map]; omega
      have hel0 : (ls.map rcs)[((i : Int)).toNat]?.getD .nil = rcs ls[i] := by rw [Int.toNat_natCast, List.getElem?_map, List.getElem?_eq_getElem h2]; rfl
      have htk : ls.take (i + 1) = ls.take i ++ [ls[i]] := List.take_succ_eq_append_getElem h2
      generalize ls[i] = l at *
      have hFew := t_Few l 12 hlc
      cases hfw : few l 12 with
      | false =>
        rw [hfw] at hFew
        repeat' ((conv => whnf); first | exact trivial | refine now_D1 (by omega) ?_ | (refine nv_ (rcs l) (by first | (exact hel0; done) | fail) ?_) | refine k_call _ (hFew) ?_ | refine k_call _ (hSa) ?_ | refine nT_ ?_ | refine rb1 ?_ | (refine And.intro (by first | (exact hib0; done) | fail) ?_) | refine aS ?_ | fail)
      | true =>
        rw [hfw] at hFew
        have hl12 := few_len hfw
        repeat' ((conv => whnf); first | refine now_D1 (by omega) ?_ | (refine nv_ (rcs l) (by first | (exact hel0; done) | fail) ?_) | refine k_call _ (hFew) ?_ | refine nT_ ?_ | (refine And.intro (by first | (exact hib0; done) | fail) ?_) | refine aS ?_ | fail)
        refine wpC_loopE 2 (α := Nat) (β := Unit) (fun k => {sl := [(0, .t (.slice 1 (ls.map rcs))), (3, .t (.slice 1 ((ls.take i).reverse.map rcs))), (5, .t (rcs l)), (13, .t (.slice 1 (ls.map rcs))), (14, .t (I ls.length)), (15, .t (I i)), (23, .t (rcs l)), (24, .t (I l.length)), (25, .t (I k))], bx := []})
          (fun k => k ≤ l.length) (fun k => l.length - k)
          (fun _ => {sl := [(0, .t (.slice 1 (ls.map rcs))), (3, .t (.slice 1 ((ls.take i).reverse.map rcs))), (5, .t (rcs l)), (13, .t (.slice 1 (ls.map rcs))), (14, .t (I ls.length)), (15, .t (I i))], bx := []}) (fun _ => True) 0 (by omega) ?_ ?_ ?_
        · repeat' (first | ((refine leI ?_; simp; done)) | exact trivial | exact LeV.same _ | exact rfl | exact fun _ _ _ => trivial | refine And.intro ?_ ?_)
        · rintro k hk
          rcases Nat.lt_or_ge k l.length with h3 | h3
          · have hro := hol l[k] (List.getElem_mem h3)
            have hke : l[k]? = some l[k] := List.getElem?_eq_getElem h3
            generalize l[k] = r at hro hke
            obtain ⟨n, j, x, pv⟩ := r
            have hlen : (rcC n j x pv).length = 19 := rc_len hro
            have hib : 0 ≤ (k : Int) ∧ (k : Int) < ((l.map rc).length : Int) := by rw [List.length_map]; omega
            have hel : (l.map rc)[((k : Int)).toNat]?.getD .nil = rcT n j x pv := eltRc (r := ⟨n, j, x, pv⟩) (by rw [Int.toNat_natCast]; exact hke)
            by_cases cj : j > 1000
            · repeat' ((conv => whnf); first | exact trivial | refine now_D1 (by omega) ?_ | (refine nv_ (rcT n j x pv) (by first | (exact hel; done) | fail) ?_) | refine k_call _ (hSa) ?_ | refine nT_ ?_ | refine rb1 ?_ | (refine And.intro (by first | (exact hib; done) | (exact hlen; done) | (exact ⟨hlen, Nat.le_of_ble_eq_true rfl⟩; done) | fail) ?_) | refine aS ?_ | fail)
            · repeat' ((conv => whnf); first | refine now_D1 (by omega) ?_ | (refine nv_ (rcT n j x pv) (by first | (exact hel; done) | fail) ?_) | refine now_D0 cj ?_ | refine nT_ ?_ | (refine And.intro (by first | (exact hib; done) | (exact hlen; done) | (exact ⟨hlen, Nat.le_of_ble_eq_true rfl⟩; done) | fail) ?_) | refine aS ?_ | fail)
              exact ⟨k + 1, by omega, by omega, by repeat' (first | exact trivial | exact LeV.same _ | exact rfl | exact fun _ _ _ => trivial | exact lI | refine And.intro ?_ ?_)⟩
          · have : k = l.length := by omega
            subst this
            repeat' ((conv => whnf); first | refine now_D0 (by omega) ?_ | refine aS ?_ | fail)
            exact ⟨(), trivial, by repeat' (first | exact trivial | exact LeV.same _ | exact rfl | exact fun _ _ _ => trivial | refine And.intro ?_ ?_)⟩
        rintro - -
        have hrv : (ls.take (i + 1)).reverse.map rcs = [rcs l] ++ (ls.take i).reverse.map rcs := by rw [htk]; simp
        have htl : (ls.take i).length ≤ 5 := by rw [List.length_take]; omega
        repeat' ((conv => whnf); first | (refine And.intro (by first | ((simp; omega); done) | fail) ?_) | refine aS ?_ | fail)
        refine ⟨i + 1, ⟨by omega, fun y hy => ?_⟩, by omega, ?_⟩
        · rw [htk] at hy
          rcases List.mem_append.1 hy with k | k
          · exact hf y k
          · rw [List.mem_singleton.1 k]; omega
        repeat' (first | ((refine leData ?_; exact hrv)) | exact trivial | exact LeV.same _ | exact rfl | exact fun _ _ _ => trivial | exact lI | refine And.intro ?_ ?_)
    · have : i = ls.length := by omega
      subst this
      rw [List.take_length] at hf ⊢
      repeat' ((conv => whnf); first | refine now_D0 (by omega) ?_ | refine aS ?_ | fail)
      exact ⟨(), hf, by repeat' (first | exact trivial | exact LeV.same _ | exact rfl | exact fun _ _ _ => trivial | refine And.intro ?_ ?_)⟩
  rintro - hf
  have hN := lensN_12 hf
  have hflt := lensN_flat ls
  have hao : ∀ r ∈ ls.flatten, r.ok := fun r hr => by
    obtain ⟨l, h1, h2⟩ := List.mem_flatten.1 hr
    exact ho l h1 r h2
  have hM := t_Merge ls (by omega) (by omega) ho
  have hM2 := t_refMerge ls (by omega) (by omega) ho
  have hMb := t_Merge ls.reverse (by rw [List.length_reverse]; omega) (by
    have := lensN_12 (ls := ls.reverse) fun l hl => hf l (List.mem_reverse.1 hl)
    rw [List.length_reverse] at this; omega) fun l hl => ho l (List.mem_reverse.1 hl)
  rw [mrg_eq hao] at hM2
  have hpm : (mgF ls.flatten).2 = [] → mrg ls.reverse.flatten = mrg ls.flatten := fun h => mrg_perm (List.Perm.flatten (List.reverse_perm ls)) h
  obtain ⟨R, Q, G, B, hm, hq, r1, r2, r3, r4, r5⟩ := mrg_parts hao (by omega)
  have hSM := t_SameMerged R R Q Q G G B B r1 r2 r2 r3 r4 r5
  rw [show (((samA R R && decide (Q = Q)) && decide (G = G)) && decide (B = B)) = true by simp [samA_iff.2 rfl]] at hSM
  by_cases hk : (mgF ls.flatten).2 = []
  · have hQ0 : Q = [] := by rw [hq, hk]; simp [srtS]
    rw [hpm hk] at hMb
    rw [hm] at hM hM2 hMb
    subst hQ0
    repeat' ((conv => whnf); first | exact trivial | refine k_call _ (hM) ?_ | refine k_call _ (hSa) ?_ | refine k_call _ (hM2) ?_ | refine k_call _ (hSM) ?_ | refine k_call _ (hMb) ?_ | refine nT_ ?_ | refine aD0 ?_ | refine rb1 ?_ | refine aS ?_ | fail)
  · have hQl : Q.length > 0 := by
      rw [hq, (srtS_perm _).length_eq]
      exact List.length_pos_iff.2 hk
    rw [hm] at hM hM2
    repeat' ((conv => whnf); first | exact trivial | refine k_call _ (hM) ?_ | refine k_call _ (hSa) ?_ | refine k_call _ (hM2) ?_ | refine k_call _ (hSM) ?_ | (refine now_D1 (by simp only [List.length_map]; omega) ?_) | refine nT_ ?_ | refine rb1 ?_ | refine aS ?_ | fail)
end Go.RC
end
section
namespace Go.RC
open Go Go.DL Go.Proofs Go.RowKit
set_option maxRecDepth 100000
def typesM : List TypeId := [54, 33, 41, 28, 71, 30, 67, 3, 4, 5]
theorem typesM_ok : closedB Tryz.prog typesM = true := by kernel_rfl
theorem cellsRcs : Tryz.prog.cellsOf 33 = 1 := by kernel_rfl
theorem oneRcs {us : List T} (h : HasC Tryz.prog 33 us) : (mkT Tryz.prog 33 us).cells = [mkT Tryz.prog 33 us] := by
  have e : ∀ t, mkT Tryz.prog 33 [t] = t := fun t => by unfold mkT; rw [Tryz.underlying33]; rfl
  cases h with
  | nil h => rw [e]; rfl
  | slice h xs hx hl => rw [e]; rfl
  | int h | bool h | str h | array h | struct h => rw [Tryz.underlying33] at h; cases h
theorem bulkRcs {us : List T} (h : HasC Tryz.prog 33 us) : 1 ≤ bulkL us := by
  cases h with
  | nil h => simp [bulkL, T.bulk]
  | slice h xs hx hl => simp [bulkL, T.bulk]; try omega
  | int h | bool h | str h | array h | struct h => rw [Tryz.underlying33] at h; cases h
theorem aRcss {us : List T} (h : HasC Tryz.prog 54 us) (hb : bulkL us ≤ 1048576) : ∃ ls : List (List Rc), Les (mkT Tryz.prog 54 us) (.slice 1 (ls.map rcs)) ∧ ls.length < 2 ^ 40 ∧ (∀ l ∈ ls, l.length < 2 ^ 40) ∧ ∀ l ∈ ls, ∀ r ∈ l, r.ok := by
  have e : ∀ t, mkT Tryz.prog 54 [t] = t := fun t => by unfold mkT; rw [Tryz.underlying54]; rfl
  cases h with
  | nil h => exact ⟨[], by rw [e]; exact Les.nil 1, by simp, by simp, by simp⟩
  | slice h xs hx hl =>
    rw [Tryz.underlying54] at h
    cases h
    rw [e, cellsRcs]
    simp only [bulkL, T.bulk] at hb
    have key : ∃ ls : List (List Rc), ls.length = xs.length ∧ ls.length ≤ bulkL (xs.map (mkT Tryz.prog 33)) ∧ (∀ l ∈ ls, l.length < 2 ^ 40 ∧ ∀ r ∈ l, r.ok) ∧ ∀ (i : Nat) x (l : List Rc), xs[i]? = some x → ls[i]? = some l → Les (mkT Tryz.prog 33 x) (rcs l) ∧ HasC Tryz.prog 33 x := by
      clear hl
      induction xs with
      | nil => exact ⟨[], rfl, by simp, by simp, by simp⟩
      | cons x xs ih =>
        simp only [List.map_cons, bulkL] at hb
        have hxx := hx x (by simp)
        rw [mkT_bulk hxx] at hb
        have hbx : bulkL x < 2 ^ 20 := by omega
        have hb1 := bulkRcs hxx
        obtain ⟨l, h1, h2, h3⟩ := aRcs hxx hbx
        obtain ⟨ls, k1, k0, k2, k3⟩ := ih (fun y hy => hx y (by simp [hy])) (by omega)
        refine ⟨l :: ls, by simp [k1], by simp only [List.map_cons, bulkL, List.length_cons]; rw [mkT_bulk hxx]; omega, fun s hs => ?_, fun i y s hy hs => ?_⟩
        · rcases List.mem_cons.1 hs with rfl | hs
          · exact ⟨by omega, h3⟩
          · exact k2 s hs
        · cases i with
          | zero => simp at hy hs; subst hy; subst hs; exact ⟨h1, hxx⟩
          | succ i => exact k3 i y s (by simpa using hy) (by simpa using hs)
    obtain ⟨ls, k1, k0, k2, k3⟩ := key
    refine ⟨ls, Les.slice (by simp [k1]) fun i x y hx hy => ?_, by omega, fun l hl => (k2 l hl).1, fun l hl => (k2 l hl).2⟩
    rw [List.getElem?_map] at hx hy
    obtain ⟨x', hx', rfl⟩ := Option.map_eq_some_iff.1 hx
    obtain ⟨l', hl', rfl⟩ := Option.map_eq_some_iff.1 hy
    obtain ⟨a1, a2⟩ := k3 i x' l' hx' hl'
    exact ⟨by rw [oneRcs a2]; exact .cons a1 rfl .nil, rfl⟩
  | int h | bool h | str h | array h | struct h => rw [Tryz.underlying54] at h; cases h
end Go.RC
end
