/- Joined by program: parts of a data level over the model, of the program's functions over it, and of the statement's proof. -/
import Derived.Test.YtedccjcfafejdaaDoorGg
import Derived.Test.YtedccjcfafejdaaDoorProg
import Derived.Test.YtedccjcfafejdaaDoorGd
import Derived.KernelRfl
section
namespace Go.RC
open Go Go.DL Go.Proofs
set_option maxRecDepth 100000
set_option maxHeartbeats 4000000
abbrev ha : List Int := [7, 5, 0, 0, 0, 0, 0, 0, 0, 0]
abbrev hb : List Int := [7, 6, 0, 0, 0, 0, 0, 0, 0, 0]
theorem okHa : okH ha := ⟨rfl, by decide⟩
theorem okHb : okH hb := ⟨rfl, by decide⟩
abbrev S0' : List Int := [0, 0, 0, 0]
theorem isS0 : isS S0' := ⟨rfl, by simp [M32]⟩
def Sa : List Int := sAdd S0' (ofH ha)
def Sab : List Int := sAdd Sa (ofH hb)
theorem isSa : isS Sa := isS_add isS0 (ofH_isS _)
theorem isSab : isS Sab := isS_add isSa (ofH_isS _)
def es1 : List Ent := [((2, 7, 1), 1, Sa)]
def es2 : List Ent := [((2, 7, 1), 1, Sa), ((1, 2, 1), 1, Sa)]
def es3 : List Ent := [((2, 7, 1), 2, Sab), ((1, 2, 1), 1, Sa)]
theorem n1 : noteM (2, 7, 1) ha [] = (0, es1) := rfl
theorem n2 : noteM (1, 2, 1) ha es1 = (0, es2) := rfl
theorem n3 : noteM (2, 7, 1) hb es2 = (0, es3) := rfl
theorem okE0 : okE [] := fun e h => by cases h
theorem okE1 : okE es1 := fun e h => by
  simp only [es1, List.mem_singleton] at h; subst h; exact ⟨isSa, by decide, by decide⟩
theorem okE2 : okE es2 := fun e h => by
  simp only [es2, List.mem_cons, List.not_mem_nil, or_false] at h
  rcases h with rfl | rfl <;> exact ⟨isSa, by decide, by decide⟩
abbrev lg0 (rest : List V) : List V := lgC (.t (I 3)) (.t (I 0)) rest
theorem m1 (rest : List V) : MC Tryd.prog 41 [.ptr 1013 0, .t (I 2), .t (I 7), .t (I 1), .t (hd ha)] [(1013, .v (lg0 rest)), (1011, .m true sh3 [] none)] [5009, 5011, 5012] 1011 (.m true sh3 (esM es1) none) (I 0) := by
  have := mc_Note (.t (I 3)) (.t (I 0)) rest [] okE0 (by decide) 2 7 1 ha rfl
  rwa [n1] at this
theorem m2 (rest : List V) : MC Tryd.prog 41 [.ptr 1013 0, .t (I 1), .t (I 2), .t (I 1), .t (hd ha)] [(1013, .v (lg0 rest)), (1011, .m true sh3 (esM es1) none)] [5009, 5011, 5012] 1011 (.m true sh3 (esM es2) none) (I 0) := by
  have := mc_Note (.t (I 3)) (.t (I 0)) rest es1 okE1 (by decide) 1 2 1 ha rfl
  rwa [n2] at this
theorem m3 (rest : List V) : MC Tryd.prog 41 [.ptr 1013 0, .t (I 2), .t (I 7), .t (I 1), .t (hd hb)] [(1013, .v (lg0 rest)), (1011, .m true sh3 (esM es2) none)] [5009, 5011, 5012] 1011 (.m true sh3 (esM es3) none) (I 0) := by
  have := mc_Note (.t (I 3)) (.t (I 0)) rest es2 okE2 (by decide) 2 7 1 hb rfl
  rwa [n3] at this
theorem srt3 : srt [(2, 7, 1), (1, 2, 1)] = [(1, 2, 1), (2, 7, 1)] := (srt_eq (ks := [(2, 7, 1), (1, 2, 1)]) (zs := [(1, 2, 1), (2, 7, 1)]) (.swap _ _ _) (by simp [cmpN, orI, cmpI])).symm
abbrev pvV (pv : List Int) : List V := pv.map fun x => .t (Y x)
theorem sAdd0 {a : List Int} (h : isS a) : sAdd S0' a = a := by
  obtain ⟨hl, hx⟩ := h
  match a, hl, hx with
  | [a, b, c, d], _, hx =>
    have h1 := hx a (by simp)
    have h2 := hx b (by simp)
    have h3 := hx c (by simp)
    have h4 := hx d (by simp)
    show [(0 + a) % M32, (0 + b) % M32, (0 + c) % M32, (0 + d) % M32] = _
    unfold M32 at *
    rw [Int.zero_add, Int.zero_add, Int.zero_add, Int.zero_add, Int.emod_eq_of_lt h1.1 h1.2, Int.emod_eq_of_lt h2.1 h2.2, Int.emod_eq_of_lt h3.1 h3.2, Int.emod_eq_of_lt h4.1 h4.2]
theorem ex16 {l : List Int} (h : l.length = 16) : ∃ d0 d1 d2 d3 d4 d5 d6 d7 d8 d9 d10 d11 d12 d13 d14 d15, l = [d0, d1, d2, d3, d4, d5, d6, d7, d8, d9, d10, d11, d12, d13, d14, d15] := by
  match l, h with
  | [d0, d1, d2, d3, d4, d5, d6, d7, d8, d9, d10, d11, d12, d13, d14, d15], _ => exact ⟨d0, d1, d2, d3, d4, d5, d6, d7, d8, d9, d10, d11, d12, d13, d14, d15, rfl⟩
theorem four {l : List Int} (h : l.length = 4) : ∃ a b c d, l = [a, b, c, d] := by
  match l, h with
  | [a, b, c, d], _ => exact ⟨a, b, c, d, rfl⟩
theorem t_sanity : DCalls Tryd.prog 11 [] (.bool true) := by
  refine dcalls_low (rs := [.tmp 0]) mixed Tryd.func11 l11 rfl rfl rfl (r := [.bool true]) (Nat.le_of_ble_eq_true rfl) ?_
  obtain ⟨x0, x1, x2, x3, hx⟩ := four isSa.1
  obtain ⟨y0, y1, y2, y3, hy⟩ := four isSab.1
  have m3' := m3 (pvV zero16)
  have he3 : esM es3 = [(nk (2, 7, 1), tly 2 [y0, y1, y2, y3]), (nk (1, 2, 1), tly 1 [x0, x1, x2, x3])] := by simp only [es3, esM, hx, hy, List.map_cons, List.map_nil]
  rw [he3] at m3'
  have xi : ∀ y ∈ [x0, x1, x2, x3], 0 ≤ y ∧ y < M32 := fun y hy => (isSa.2 y (by rw [hx]; exact hy))
  have yi : ∀ z ∈ [y0, y1, y2, y3], 0 ≤ z ∧ z < M32 := fun y hh => (isSab.2 y (by rw [hy]; exact hh))
  have hL8 : ∀ x ∈ [[1, 2, 1, 1, x0, x1, x2, x3], [2, 7, 1, 2, y0, y1, y2, y3]], x.length = 8 ∧ ∀ y ∈ x, i64 y := fun x hh => by
    simp only [List.mem_cons, List.not_mem_nil, or_false] at hh
    rcases hh with rfl | rfl
    · refine ⟨rfl, fun y h => ?_⟩
      rcases List.mem_append.1 (show y ∈ [1, 2, 1, 1] ++ [x0, x1, x2, x3] from h) with h | h
      · simp only [List.mem_cons, List.not_mem_nil, or_false] at h
        unfold i64; omega
      · have := xi y h
        unfold M32 at this; unfold i64; omega
    · refine ⟨rfl, fun y h => ?_⟩
      rcases List.mem_append.1 (show y ∈ [2, 7, 1, 2] ++ [y0, y1, y2, y3] from h) with h | h
      · simp only [List.mem_cons, List.not_mem_nil, or_false] at h
        unfold i64; omega
      · have := yi y h
        unfold M32 at this; unfold i64; omega
  have hr1 : Rc.ok ⟨3, 0, [[1, 2, 1, 1, x0, x1, x2, x3], [2, 7, 1, 2, y0, y1, y2, y3]], zero16⟩ := ⟨⟨(show i64 3 by unfold i64; decide), (show i64 0 by unfold i64; decide), hL8, rfl, (show areB zero16 by unfold areB; decide)⟩, Nat.le_of_ble_eq_true rfl⟩
  obtain ⟨d0, d1, d2, d3, d4, d5, d6, d7, d8, d9, d10, d11, d12, d13, d14, d15, hD⟩ := ex16 (dgR_len 3 0 [[1, 2, 1, 1, x0, x1, x2, x3], [2, 7, 1, 2, y0, y1, y2, y3]] zero16)
  have hDb := dgR_areB 3 0 [[1, 2, 1, 1, x0, x1, x2, x3], [2, 7, 1, 2, y0, y1, y2, y3]] zero16
  rw [hD] at hDb
  have hr2 : Rc.ok ⟨3, 1, [], [d0, d1, d2, d3, d4, d5, d6, d7, d8, d9, d10, d11, d12, d13, d14, d15]⟩ := ⟨⟨(show i64 3 by unfold i64; decide), (show i64 1 by unfold i64; decide), fun x h => by simp at h, rfl, hDb⟩, Nat.le_of_ble_eq_true rfl⟩
  have hD1 := t_Digest 3 0 [[1, 2, 1, 1, x0, x1, x2, x3], [2, 7, 1, 2, y0, y1, y2, y3]] zero16 hr1.1 hr1.2
  rw [hD] at hD1
  have hD2 := t_Digest 3 1 [] [d0, d1, d2, d3, d4, d5, d6, d7, d8, d9, d10, d11, d12, d13, d14, d15] hr2.1 hr2.2
  have hD2l := dgR_len 3 1 [] [d0, d1, d2, d3, d4, d5, d6, d7, d8, d9, d10, d11, d12, d13, d14, d15]
  generalize dgR 3 1 [] [d0, d1, d2, d3, d4, d5, d6, d7, d8, d9, d10, d11, d12, d13, d14, d15] = D2 at hD2 hD2l
  have a1 := t_sAdd [4294967295, 0, 0, 5] [1, 2, 0, 5] ⟨rfl, by simp [M32]⟩ ⟨rfl, by simp [M32]⟩
  have a2 := t_sSub [0, 0, 0, 0] [1, 0, 0, 0] ⟨rfl, by simp [M32]⟩ ⟨rfl, by simp [M32]⟩
  repeat' ((conv => whnf); first | exact trivial | refine k_call _ (a1) ?_ | refine k_call _ (a2) ?_ | refine nb_ false rfl ?_ | refine nT_ ?_ | refine aE1 ?_ | refine aE0 ?_ | refine aN1 ?_ | refine aN0 ?_ | refine aD1 ?_ | refine aD0 ?_ | refine nE_ (fun hq => ?_) (fun hq => ?_) | refine nN_ (fun hq => ?_) (fun hq => ?_) | refine nD_ (fun hq => ?_) (fun hq => ?_) | refine rb1 ?_ | refine rb0 ?_ | refine rbx ?_ | refine rix ?_ | (refine And.intro (by first | (exact ⟨⟨rfl, rfl, rfl, rfl, trivial⟩, ⟨rfl, rfl, rfl, rfl, trivial⟩⟩; done) | fail) ?_) | refine aS ?_ | fail)
  refine WC_inl mixed Tryd.func40 l40 rfl rfl (rs := [.tmp 2, .tmp 3]) rfl 1000 (Nat.le_of_ble_eq_true rfl) ?_
  repeat' ((conv => whnf); first | exact trivial | refine nT_ ?_ | refine aE1 ?_ | refine aE0 ?_ | refine aN1 ?_ | refine aN0 ?_ | refine aD1 ?_ | refine aD0 ?_ | refine nE_ (fun hq => ?_) (fun hq => ?_) | refine nN_ (fun hq => ?_) (fun hq => ?_) | refine nD_ (fun hq => ?_) (fun hq => ?_) | refine rb1 ?_ | refine rb0 ?_ | refine rbx ?_ | refine rix ?_ | refine aS ?_ | refine ⟨_, rfl, ?_⟩ | fail)
  refine WC_inl mixed Tryd.func40 l40 rfl rfl (rs := [.tmp 2, .tmp 3]) rfl 2000 (Nat.le_of_ble_eq_true rfl) ?_
  repeat' ((conv => whnf); first | exact trivial | refine nT_ ?_ | refine aE1 ?_ | refine aE0 ?_ | refine aN1 ?_ | refine aN0 ?_ | refine aD1 ?_ | refine aD0 ?_ | refine nE_ (fun hq => ?_) (fun hq => ?_) | refine nN_ (fun hq => ?_) (fun hq => ?_) | refine nD_ (fun hq => ?_) (fun hq => ?_) | refine rb1 ?_ | refine rb0 ?_ | refine rbx ?_ | refine rix ?_ | refine aS ?_ | refine ⟨_, rfl, ?_⟩ | fail)
  (conv => whnf)
  refine ⟨_, _, _, _, _, m1 (pvV zero16), ?_, ?_, by decide, ?_, ?_⟩
  · intro p hp
    simp only [List.mem_cons, List.not_mem_nil, or_false] at hp
    rcases hp with rfl | rfl <;> rfl
  · intro n hn
    simp only [List.mem_cons, List.not_mem_nil, or_false] at hn
    rcases hn with rfl | rfl | rfl <;> rfl
  · rfl
  repeat' ((conv => whnf); first | exact trivial | refine nT_ ?_ | refine aE1 ?_ | refine aE0 ?_ | refine aN1 ?_ | refine aN0 ?_ | refine aD1 ?_ | refine aD0 ?_ | refine nE_ (fun hq => ?_) (fun hq => ?_) | refine nN_ (fun hq => ?_) (fun hq => ?_) | refine nD_ (fun hq => ?_) (fun hq => ?_) | refine rb1 ?_ | refine rb0 ?_ | refine rbx ?_ | refine rix ?_ | refine aS ?_ | fail)
  (conv => whnf)
  refine ⟨_, _, _, _, _, m2 (pvV zero16), ?_, ?_, by decide, ?_, ?_⟩
  · intro p hp
    simp only [List.mem_cons, List.not_mem_nil, or_false] at hp
    rcases hp with rfl | rfl <;> rfl
  · intro n hn
    simp only [List.mem_cons, List.not_mem_nil, or_false] at hn
    rcases hn with rfl | rfl | rfl <;> rfl
  · rfl
  repeat' ((conv => whnf); first | exact trivial | refine nT_ ?_ | refine aE1 ?_ | refine aE0 ?_ | refine aN1 ?_ | refine aN0 ?_ | refine aD1 ?_ | refine aD0 ?_ | refine nE_ (fun hq => ?_) (fun hq => ?_) | refine nN_ (fun hq => ?_) (fun hq => ?_) | refine nD_ (fun hq => ?_) (fun hq => ?_) | refine rb1 ?_ | refine rb0 ?_ | refine rbx ?_ | refine rix ?_ | refine aS ?_ | fail)
  (conv => whnf)
  refine ⟨_, _, _, _, _, m3', ?_, ?_, by decide, ?_, ?_⟩
  · intro p hp
    simp only [List.mem_cons, List.not_mem_nil, or_false] at hp
    rcases hp with rfl | rfl <;> rfl
  · intro n hn
    simp only [List.mem_cons, List.not_mem_nil, or_false] at hn
    rcases hn with rfl | rfl | rfl <;> rfl
  · rfl
  repeat' ((conv => whnf); first | exact trivial | refine nT_ ?_ | refine aE1 ?_ | refine aE0 ?_ | refine aN1 ?_ | refine aN0 ?_ | refine aD1 ?_ | refine aD0 ?_ | refine nE_ (fun hq => ?_) (fun hq => ?_) | refine nN_ (fun hq => ?_) (fun hq => ?_) | refine nD_ (fun hq => ?_) (fun hq => ?_) | refine rb1 ?_ | refine rb0 ?_ | refine rbx ?_ | refine rix ?_ | refine aS ?_ | fail)
  refine wpC_loopE 0 (α := Nat) (β := Unit) (fun k => {sl := [(2, .ptr 1013 0), (6, .ptr 6 0), (7, .ptr 7 0), (70, .t (.slice 1 [I 0, I 0, I 0])), (71, .t (I 3)), (72, .t (I k))], bx := [(6, .d 10 (ha.map I)), (7, .d 10 (hb.map I)), (1013, .v (lg0 (pvV zero16))), (1011, .m true sh3 [(nk (2, 7, 1), tly 2 [y0, y1, y2, y3]), (nk (1, 2, 1), tly 1 [x0, x1, x2, x3])] none)]})
    (fun k => k ≤ 3) (fun k => 3 - k) (fun _ => {sl := [(2, .ptr 1013 0), (6, .ptr 6 0), (7, .ptr 7 0)], bx := [(6, .d 10 (ha.map I)), (7, .d 10 (hb.map I)), (1013, .v (lg0 (pvV zero16))), (1011, .m true sh3 [(nk (2, 7, 1), tly 2 [y0, y1, y2, y3]), (nk (1, 2, 1), tly 1 [x0, x1, x2, x3])] none)]}) (fun _ => True) 0 (by omega) ?_ ?_ ?_
  · repeat' (first | exact trivial | exact LeV.same _ | exact LeB.same _ | exact rfl | exact fun _ _ _ => trivial | exact lI | exact LeV.nil _ _ _ | exact lB | refine leBd ?_ | refine leOwn ?_ | refine And.intro ?_ ?_)
  · rintro k hk
    rcases Nat.lt_or_ge k 3 with h | h
    · have hg : ([I 0, I 0, I 0] : List T)[k]?.getD .nil = I 0 := by
        match k, h with
        | 0, _ => rfl
        | 1, _ => rfl
        | 2, _ => rfl
      repeat' ((conv => whnf); first | exact trivial | (refine nv_ (I 0) (by first | (exact hg; done) | fail) ?_) | refine nT_ ?_ | refine aE1 ?_ | refine aE0 ?_ | refine aN1 ?_ | refine aN0 ?_ | refine aD1 ?_ | refine aD0 ?_ | refine nE_ (fun hq => ?_) (fun hq => ?_) | refine nN_ (fun hq => ?_) (fun hq => ?_) | refine nD_ (fun hq => ?_) (fun hq => ?_) | refine rb1 ?_ | refine rb0 ?_ | refine rbx ?_ | refine rix ?_ | (refine And.intro (by first | ((simp; omega); done) | fail) ?_) | refine aS ?_ | fail)
      exact ⟨k + 1, by omega, by omega, by repeat' (first | exact trivial | exact LeV.same _ | exact LeB.same _ | exact rfl | exact fun _ _ _ => trivial | exact lI | exact LeV.nil _ _ _ | exact lB | refine leBd ?_ | refine leOwn ?_ | refine And.intro ?_ ?_)⟩
    · have : k = 3 := by omega
      subst this
      repeat' ((conv => whnf); first | exact trivial | refine nT_ ?_ | refine aE1 ?_ | refine aE0 ?_ | refine aN1 ?_ | refine aN0 ?_ | refine aD1 ?_ | refine aD0 ?_ | refine nE_ (fun hq => ?_) (fun hq => ?_) | refine nN_ (fun hq => ?_) (fun hq => ?_) | refine nD_ (fun hq => ?_) (fun hq => ?_) | refine rb1 ?_ | refine rb0 ?_ | refine rbx ?_ | refine rix ?_ | refine aS ?_ | fail)
      exact ⟨(), trivial, by repeat' (first | exact trivial | exact LeV.same _ | exact LeB.same _ | exact rfl | exact fun _ _ _ => trivial | exact lI | exact LeV.nil _ _ _ | exact lB | refine leBd ?_ | refine leOwn ?_ | refine And.intro ?_ ?_)⟩
  rintro - -
  refine wpC_cut (β := Unit) (fun _ => {sl := [(2, .ptr 1013 0), (6, .ptr 6 0), (7, .ptr 7 0), (10, .ptr 10 0), (11, .t (I 0))], bx := [(6, .d 10 (ha.map I)), (7, .d 10 (hb.map I)), (10, .d 19 (rcC 3 0 [[1, 2, 1, 1, x0, x1, x2, x3], [2, 7, 1, 2, y0, y1, y2, y3]] zero16)), (1013, .v (lgC (.t (I 3)) (.t (I 1)) (pvV [d0, d1, d2, d3, d4, d5, d6, d7, d8, d9, d10, d11, d12, d13, d14, d15]))), (1011, .m true sh3 [] none)]}) (fun _ => True) ?_ fun _ _ => ?_
  · repeat' ((conv => whnf); first | exact trivial | refine nT_ ?_ | refine aE1 ?_ | refine aE0 ?_ | refine aN1 ?_ | refine aN0 ?_ | refine aD1 ?_ | refine aD0 ?_ | refine nE_ (fun hq => ?_) (fun hq => ?_) | refine nN_ (fun hq => ?_) (fun hq => ?_) | refine nD_ (fun hq => ?_) (fun hq => ?_) | refine rb1 ?_ | refine rb0 ?_ | refine rbx ?_ | refine rix ?_ | refine aS ?_ | fail)
    refine WC_inlP mixed Tryd.func42 l42 rfl rfl (rs := [.cell 2 51, .tmp 3]) rfl 6000 (Nat.le_of_ble_eq_true rfl) ?_
    repeat' ((conv => whnf); first | exact trivial | refine nT_ ?_ | refine aE1 ?_ | refine aE0 ?_ | refine aN1 ?_ | refine aN0 ?_ | refine aD1 ?_ | refine aD0 ?_ | refine nE_ (fun hq => ?_) (fun hq => ?_) | refine nN_ (fun hq => ?_) (fun hq => ?_) | refine nD_ (fun hq => ?_) (fun hq => ?_) | refine rb1 ?_ | refine rb0 ?_ | refine rbx ?_ | refine rix ?_ | refine aS ?_ | fail)
    refine WC_inl mixed Tryd.func71 l71 rfl rfl (rs := [.tmp 2]) rfl 8000 (Nat.le_of_ble_eq_true rfl) ?_
    repeat' ((conv => whnf); first | exact trivial | refine nT_ ?_ | refine aE1 ?_ | refine aE0 ?_ | refine aN1 ?_ | refine aN0 ?_ | refine aD1 ?_ | refine aD0 ?_ | refine nE_ (fun hq => ?_) (fun hq => ?_) | refine nN_ (fun hq => ?_) (fun hq => ?_) | refine nD_ (fun hq => ?_) (fun hq => ?_) | refine rb1 ?_ | refine rb0 ?_ | refine rbx ?_ | refine rix ?_ | refine aS ?_ | refine ⟨_, rfl, ?_⟩ | fail)
    have hNS := n_Sorted [(2, 7, 1), (1, 2, 1)] [tly 2 [y0, y1, y2, y3], tly 1 [x0, x1, x2, x3]] rfl (by decide)
    rw [srt3] at hNS
    refine WC_new rfl hNS ?_
    refine wpC_loopE 0 (α := Nat) (β := Unit) (fun k => {sl := [(0, .ptr 1013 0), (2, .ptr 6002 0), (4, .ptr 6004 0), (32, .t (.slice 3 ([(1, 2, 1), (2, 7, 1)].map nk))), (33, .t (I 2)), (34, .t (I k))], bx := [(6, .d 10 (ha.map I)), (7, .d 10 (hb.map I)), (1013, .v (lg0 (pvV zero16))), (1011, .m true sh3 [(nk (2, 7, 1), tly 2 [y0, y1, y2, y3]), (nk (1, 2, 1), tly 1 [x0, x1, x2, x3])] none), (6002, .d 19 z19), (6004, .v (.t (I 3) :: .t (I 0) :: .own 6058 36 8 (([[1, 2, 1, 1, x0, x1, x2, x3], [2, 7, 1, 2, y0, y1, y2, y3]].take k).map ln) :: pvV zero16))], gh := [(0, [(2, .ptr 1013 0), (6, .ptr 6 0), (7, .ptr 7 0)])], off := 6000})
      (fun k => k ≤ 2) (fun k => 2 - k) (fun _ => {sl := [(0, .ptr 1013 0), (2, .ptr 6002 0), (4, .ptr 6004 0)], bx := [(6, .d 10 (ha.map I)), (7, .d 10 (hb.map I)), (1013, .v (lg0 (pvV zero16))), (1011, .m true sh3 [(nk (2, 7, 1), tly 2 [y0, y1, y2, y3]), (nk (1, 2, 1), tly 1 [x0, x1, x2, x3])] none), (6002, .d 19 z19), (6004, .v (.t (I 3) :: .t (I 0) :: .t (linesT [[1, 2, 1, 1, x0, x1, x2, x3], [2, 7, 1, 2, y0, y1, y2, y3]]) :: pvV zero16))], gh := [(0, [(2, .ptr 1013 0), (6, .ptr 6 0), (7, .ptr 7 0)])], off := 6000}) (fun _ => True) 0 (by omega) ?_ ?_ ?_
    · refine ⟨⟨.same _, .same _, .same _, .same _, .same _, .same _, trivial⟩, ⟨.same _, .same _, .same _, .same _, .same _, .dv _ _ _ ⟨.same _, .same _, .nil _ _ _, .same _, .same _, .same _, .same _, .same _, .same _, .same _, .same _, .same _, .same _, .same _, .same _, .same _, .same _, .same _, .same _, trivial⟩, trivial⟩, ⟨⟨.same _, .same _, .same _, trivial⟩, trivial⟩, rfl, fun _ _ _ => trivial, rfl⟩
    · rintro k hk
      match k, hk with
      | 0, _ =>
        repeat' ((conv => whnf); first | exact trivial | refine nT_ ?_ | refine aE1 ?_ | refine aE0 ?_ | refine aN1 ?_ | refine aN0 ?_ | refine aD1 ?_ | refine aD0 ?_ | refine nE_ (fun hq => ?_) (fun hq => ?_) | refine nN_ (fun hq => ?_) (fun hq => ?_) | refine nD_ (fun hq => ?_) (fun hq => ?_) | refine rb1 ?_ | refine rb0 ?_ | refine rbx ?_ | refine rix ?_ | (refine And.intro (by first | (exact ⟨rfl, rfl, rfl, rfl, trivial⟩; done) | fail) ?_) | refine aS ?_ | refine nb_ _ rfl ?_ | fail)
        exact ⟨1, by omega, by omega, ⟨⟨.same _, .same _, .same _, .same _, .same _, lI, trivial⟩, ⟨.same _, .same _, .same _, .same _, .same _, .same _, trivial⟩, ⟨⟨.same _, .same _, .same _, trivial⟩, trivial⟩, rfl, fun _ _ _ => trivial, rfl⟩⟩
      | 1, _ =>
        repeat' ((conv => whnf); first | exact trivial | refine nT_ ?_ | refine aE1 ?_ | refine aE0 ?_ | refine aN1 ?_ | refine aN0 ?_ | refine aD1 ?_ | refine aD0 ?_ | refine nE_ (fun hq => ?_) (fun hq => ?_) | refine nN_ (fun hq => ?_) (fun hq => ?_) | refine nD_ (fun hq => ?_) (fun hq => ?_) | refine rb1 ?_ | refine rb0 ?_ | refine rbx ?_ | refine rix ?_ | (refine And.intro (by first | (exact ⟨rfl, rfl, rfl, rfl, trivial⟩; done) | fail) ?_) | refine aS ?_ | refine nb_ _ rfl ?_ | fail)
        exact ⟨2, by omega, by omega, ⟨⟨.same _, .same _, .same _, .same _, .same _, lI, trivial⟩, ⟨.same _, .same _, .same _, .same _, .same _, .same _, trivial⟩, ⟨⟨.same _, .same _, .same _, trivial⟩, trivial⟩, rfl, fun _ _ _ => trivial, rfl⟩⟩
      | 2, _ =>
        repeat' ((conv => whnf); first | exact trivial | refine nT_ ?_ | refine aE1 ?_ | refine aE0 ?_ | refine aN1 ?_ | refine aN0 ?_ | refine aD1 ?_ | refine aD0 ?_ | refine nE_ (fun hq => ?_) (fun hq => ?_) | refine nN_ (fun hq => ?_) (fun hq => ?_) | refine nD_ (fun hq => ?_) (fun hq => ?_) | refine rb1 ?_ | refine rb0 ?_ | refine rbx ?_ | refine rix ?_ | refine aS ?_ | refine nb_ _ rfl ?_ | fail)
        exact ⟨(), trivial, ⟨⟨.same _, .same _, .same _, trivial⟩, ⟨.same _, .same _, .same _, .same _, .same _, .v _ _ ⟨.same _, .same _, .data _ _ _ _, .same _, .same _, .same _, .same _, .same _, .same _, .same _, .same _, .same _, .same _, .same _, .same _, .same _, .same _, .same _, .same _, trivial⟩, trivial⟩, ⟨⟨.same _, .same _, .same _, trivial⟩, trivial⟩, rfl, fun _ _ _ => trivial, rfl⟩⟩
      | k + 3, h => omega
    rintro - -
    repeat' ((conv => whnf); first | exact trivial | refine k_call _ (hD1) ?_ | refine nT_ ?_ | refine aE1 ?_ | refine aE0 ?_ | refine aN1 ?_ | refine aN0 ?_ | refine aD1 ?_ | refine aD0 ?_ | refine nE_ (fun hq => ?_) (fun hq => ?_) | refine nN_ (fun hq => ?_) (fun hq => ?_) | refine nD_ (fun hq => ?_) (fun hq => ?_) | refine rb1 ?_ | refine rb0 ?_ | refine rbx ?_ | refine rix ?_ | refine aS ?_ | fail)
    refine ⟨[.t _, .t (I 0)], ⟨⟨rfl, trivial⟩, rfl, trivial⟩, ?_⟩
    repeat' ((conv => whnf); first | exact trivial | refine nT_ ?_ | refine aE1 ?_ | refine aE0 ?_ | refine aN1 ?_ | refine aN0 ?_ | refine aD1 ?_ | refine aD0 ?_ | refine nE_ (fun hq => ?_) (fun hq => ?_) | refine nN_ (fun hq => ?_) (fun hq => ?_) | refine nD_ (fun hq => ?_) (fun hq => ?_) | refine rb1 ?_ | refine rb0 ?_ | refine rbx ?_ | refine rix ?_ | refine aS ?_ | fail)
    exact ⟨(), trivial, ⟨⟨.same _, .same _, .same _, .same _, .same _, trivial⟩, ⟨.same _, .same _, .same _, .same _, .same _, trivial⟩, trivial, rfl, fun _ _ _ => trivial, rfl⟩⟩
  refine wpC_cut (β := Unit) (fun _ => {sl := [(6, .ptr 6 0), (7, .ptr 7 0), (10, .ptr 10 0), (11, .t (I 0)), (12, .ptr 12 0), (13, .t (I 0))], bx := [(6, .d 10 (ha.map I)), (7, .d 10 (hb.map I)), (10, .d 19 (rcC 3 0 [[1, 2, 1, 1, x0, x1, x2, x3], [2, 7, 1, 2, y0, y1, y2, y3]] zero16)), (12, .d 19 (rcC 3 1 [] [d0, d1, d2, d3, d4, d5, d6, d7, d8, d9, d10, d11, d12, d13, d14, d15]))]}) (fun _ => True) ?_ fun _ _ => ?_
  · repeat' ((conv => whnf); first | exact trivial | refine nT_ ?_ | refine aE1 ?_ | refine aE0 ?_ | refine aN1 ?_ | refine aN0 ?_ | refine aD1 ?_ | refine aD0 ?_ | refine nE_ (fun hq => ?_) (fun hq => ?_) | refine nN_ (fun hq => ?_) (fun hq => ?_) | refine nD_ (fun hq => ?_) (fun hq => ?_) | refine rb1 ?_ | refine rb0 ?_ | refine rbx ?_ | refine rix ?_ | refine aS ?_ | fail)
    refine WC_inlP mixed Tryd.func42 l42 rfl rfl (rs := [.cell 2 51, .tmp 3]) rfl 9000 (Nat.le_of_ble_eq_true rfl) ?_
    repeat' ((conv => whnf); first | exact trivial | refine now_D0 (by decide) ?_ | refine nT_ ?_ | refine aE1 ?_ | refine aE0 ?_ | refine aN1 ?_ | refine aN0 ?_ | refine aD1 ?_ | refine aD0 ?_ | refine nE_ (fun hq => ?_) (fun hq => ?_) | refine nN_ (fun hq => ?_) (fun hq => ?_) | refine nD_ (fun hq => ?_) (fun hq => ?_) | refine rb1 ?_ | refine rb0 ?_ | refine rbx ?_ | refine rix ?_ | refine aS ?_ | fail)
    refine WC_inl mixed Tryd.func71 l71 rfl rfl (rs := [.tmp 2]) rfl 11000 (Nat.le_of_ble_eq_true rfl) ?_
    repeat' ((conv => whnf); first | exact trivial | refine nT_ ?_ | refine aE1 ?_ | refine aE0 ?_ | refine aN1 ?_ | refine aN0 ?_ | refine aD1 ?_ | refine aD0 ?_ | refine nE_ (fun hq => ?_) (fun hq => ?_) | refine nN_ (fun hq => ?_) (fun hq => ?_) | refine nD_ (fun hq => ?_) (fun hq => ?_) | refine rb1 ?_ | refine rb0 ?_ | refine rbx ?_ | refine rix ?_ | refine aS ?_ | refine ⟨_, rfl, ?_⟩ | fail)
    have hNS := n_Sorted [] [] rfl (by decide)
    rw [show srt [] = [] by simp [srt]] at hNS
    refine WC_new rfl hNS ?_
    refine wpC_loopE 0 (α := Unit) (β := Unit) (fun _ => {sl := [(0, .ptr 1013 0), (2, .ptr 9002 0), (4, .ptr 9004 0), (33, .t (I 0)), (34, .t (I 0))], bx := [(6, .d 10 (ha.map I)), (7, .d 10 (hb.map I)), (10, .d 19 (rcC 3 0 [[1, 2, 1, 1, x0, x1, x2, x3], [2, 7, 1, 2, y0, y1, y2, y3]] zero16)), (1013, .v (lgC (.t (I 3)) (.t (I 1)) (pvV [d0, d1, d2, d3, d4, d5, d6, d7, d8, d9, d10, d11, d12, d13, d14, d15]))), (1011, .m true sh3 [] none), (9002, .d 19 z19), (9004, .d 19 (I 3 :: I 1 :: .nil :: [d0, d1, d2, d3, d4, d5, d6, d7, d8, d9, d10, d11, d12, d13, d14, d15].map Y))], gh := [(0, [(2, .ptr 1013 0), (6, .ptr 6 0), (7, .ptr 7 0), (10, .ptr 10 0), (11, .t (I 0))])], off := 9000})
      (fun _ => True) (fun _ => 0) (fun _ => {sl := [(0, .ptr 1013 0), (2, .ptr 9002 0), (4, .ptr 9004 0)], bx := [(6, .d 10 (ha.map I)), (7, .d 10 (hb.map I)), (10, .d 19 (rcC 3 0 [[1, 2, 1, 1, x0, x1, x2, x3], [2, 7, 1, 2, y0, y1, y2, y3]] zero16)), (1013, .v (lgC (.t (I 3)) (.t (I 1)) (pvV [d0, d1, d2, d3, d4, d5, d6, d7, d8, d9, d10, d11, d12, d13, d14, d15]))), (1011, .m true sh3 [] none), (9002, .d 19 z19), (9004, .v (.t (I 3) :: .t (I 1) :: .t (linesT []) :: pvV [d0, d1, d2, d3, d4, d5, d6, d7, d8, d9, d10, d11, d12, d13, d14, d15]))], gh := [(0, [(2, .ptr 1013 0), (6, .ptr 6 0), (7, .ptr 7 0), (10, .ptr 10 0), (11, .t (I 0))])], off := 9000}) (fun _ => True) () trivial ?_ ?_ ?_
    · exact ⟨⟨.same _, .same _, .same _, .same _, .same _, trivial⟩, ⟨.same _, .same _, .same _, .same _, .same _, .same _, .same _, trivial⟩, ⟨⟨.same _, .same _, .same _, .same _, .same _, trivial⟩, trivial⟩, rfl, fun _ _ _ => trivial, rfl⟩
    · rintro - -
      repeat' ((conv => whnf); first | exact trivial | refine nT_ ?_ | refine aE1 ?_ | refine aE0 ?_ | refine aN1 ?_ | refine aN0 ?_ | refine aD1 ?_ | refine aD0 ?_ | refine nE_ (fun hq => ?_) (fun hq => ?_) | refine nN_ (fun hq => ?_) (fun hq => ?_) | refine nD_ (fun hq => ?_) (fun hq => ?_) | refine rb1 ?_ | refine rb0 ?_ | refine rbx ?_ | refine rix ?_ | refine aS ?_ | refine nb_ _ rfl ?_ | fail)
      exact ⟨(), trivial, ⟨⟨.same _, .same _, .same _, trivial⟩, ⟨.same _, .same _, .same _, .same _, .same _, .same _, .dv _ _ _ ⟨.same _, .same _, .empty _, .same _, .same _, .same _, .same _, .same _, .same _, .same _, .same _, .same _, .same _, .same _, .same _, .same _, .same _, .same _, .same _, trivial⟩, trivial⟩, ⟨⟨.same _, .same _, .same _, .same _, .same _, trivial⟩, trivial⟩, rfl, fun _ _ _ => trivial, rfl⟩⟩
    rintro - -
    repeat' ((conv => whnf); first | exact trivial | refine k_call _ (hD2) ?_ | refine nT_ ?_ | refine aE1 ?_ | refine aE0 ?_ | refine aN1 ?_ | refine aN0 ?_ | refine aD1 ?_ | refine aD0 ?_ | refine nE_ (fun hq => ?_) (fun hq => ?_) | refine nN_ (fun hq => ?_) (fun hq => ?_) | refine nD_ (fun hq => ?_) (fun hq => ?_) | refine rb1 ?_ | refine rb0 ?_ | refine rbx ?_ | refine rix ?_ | (refine And.intro (by first | (exact ⟨(List.length_map _).trans hD2l, Nat.le_of_ble_eq_true rfl⟩; done) | fail) ?_) | refine aS ?_ | fail)
    refine ⟨[.t _, .t (I 0)], ⟨⟨rfl, trivial⟩, rfl, trivial⟩, ?_⟩
    repeat' ((conv => whnf); first | exact trivial | refine nT_ ?_ | refine aE1 ?_ | refine aE0 ?_ | refine aN1 ?_ | refine aN0 ?_ | refine aD1 ?_ | refine aD0 ?_ | refine nE_ (fun hq => ?_) (fun hq => ?_) | refine nN_ (fun hq => ?_) (fun hq => ?_) | refine nD_ (fun hq => ?_) (fun hq => ?_) | refine rb1 ?_ | refine rb0 ?_ | refine rbx ?_ | refine rix ?_ | refine aS ?_ | fail)
    exact ⟨(), trivial, ⟨⟨.same _, .same _, .same _, .same _, .same _, .same _, trivial⟩, ⟨.same _, .same _, .same _, .same _, trivial⟩, trivial, rfl, fun _ _ _ => trivial, rfl⟩⟩
  have k0 : okLn [1, 2, 1, 1, x0, x1, x2, x3] = true := by rw [okLn8, (isSb_ok rfl).2 ⟨rfl, xi⟩]; rfl
  have k1 : okLn [2, 7, 1, 2, y0, y1, y2, y3] = true := by rw [okLn8, (isSb_ok rfl).2 ⟨rfl, yi⟩]; rfl
  have kf : okFrom none [[1, 2, 1, 1, x0, x1, x2, x3], [2, 7, 1, 2, y0, y1, y2, y3]] = true := by
    show ((okLn _ && true) && ((okLn _ && decide (cmpN (1, 2, 1) (2, 7, 1) < 0)) && true)) = true
    rw [k0, k1]; rfl
  have c1 : chk 3 0 [[1, 2, 1, 1, x0, x1, x2, x3], [2, 7, 1, 2, y0, y1, y2, y3]] = 0 := by
    unfold chk
    rw [if_neg (by simp), if_neg (by omega), if_pos kf]
  have c2 : chk 3 1 [] = 0 := rfl
  have v1 : ver 3 0 zero16 [⟨3, 0, [[1, 2, 1, 1, x0, x1, x2, x3], [2, 7, 1, 2, y0, y1, y2, y3]], zero16⟩, ⟨3, 1, [], [d0, d1, d2, d3, d4, d5, d6, d7, d8, d9, d10, d11, d12, d13, d14, d15]⟩] = (2, 0) := by
    show (if chk 3 0 [[1, 2, 1, 1, x0, x1, x2, x3], [2, 7, 1, 2, y0, y1, y2, y3]] ≠ 0 then ((0 : Int), chk 3 0 [[1, 2, 1, 1, x0, x1, x2, x3], [2, 7, 1, 2, y0, y1, y2, y3]]) else if (3 : Int) ≠ 3 then (0, 1) else if (0 : Int) ≠ 0 then (0, 25) else if zero16 ≠ zero16 then (0, 7) else ver 3 1 (dgR 3 0 [[1, 2, 1, 1, x0, x1, x2, x3], [2, 7, 1, 2, y0, y1, y2, y3]] zero16) [⟨3, 1, [], [d0, d1, d2, d3, d4, d5, d6, d7, d8, d9, d10, d11, d12, d13, d14, d15]⟩]) = _
    rw [c1, if_neg (by simp), if_neg (by simp), if_neg (by simp), if_neg (by simp), hD]
    show (if chk 3 1 [] ≠ 0 then ((1 : Int), chk 3 1 []) else if (3 : Int) ≠ 3 then (1, 1) else if (1 : Int) ≠ 1 then (1, 25) else if [d0, d1, d2, d3, d4, d5, d6, d7, d8, d9, d10, d11, d12, d13, d14, d15] ≠ [d0, d1, d2, d3, d4, d5, d6, d7, d8, d9, d10, d11, d12, d13, d14, d15] then (1, 7) else (2, 0)) = _
    rw [c2, if_neg (by simp), if_neg (by simp), if_neg (by simp), if_neg (by simp)]
  have v2 : ver 3 0 zero16 [⟨3, 1, [], [d0, d1, d2, d3, d4, d5, d6, d7, d8, d9, d10, d11, d12, d13, d14, d15]⟩] = (0, 25) := rfl
  have hV1 := t_Verify 3 [⟨3, 0, [[1, 2, 1, 1, x0, x1, x2, x3], [2, 7, 1, 2, y0, y1, y2, y3]], zero16⟩, ⟨3, 1, [], [d0, d1, d2, d3, d4, d5, d6, d7, d8, d9, d10, d11, d12, d13, d14, d15]⟩] (Nat.le_of_ble_eq_true rfl) (fun r hr => by
    simp only [List.mem_cons, List.not_mem_nil, or_false] at hr
    rcases hr with rfl | rfl
    · exact hr1
    · exact hr2)
  rw [v1] at hV1
  have hV2 := t_Verify 3 [⟨3, 1, [], [d0, d1, d2, d3, d4, d5, d6, d7, d8, d9, d10, d11, d12, d13, d14, d15]⟩] (Nat.le_of_ble_eq_true rfl) (fun r hr => by
    simp only [List.mem_cons, List.not_mem_nil, or_false] at hr
    rw [hr]
    exact hr2)
  rw [v2] at hV2
  have hF := t_Find 3 0 [[1, 2, 1, 1, x0, x1, x2, x3], [2, 7, 1, 2, y0, y1, y2, y3]] zero16 2 7 1 (Nat.le_of_ble_eq_true rfl) (fun x h => (hL8 x h).1) rfl
  have hF2 : fnd [[1, 2, 1, 1, x0, x1, x2, x3], [2, 7, 1, 2, y0, y1, y2, y3]] 2 7 1 = .tup [ln [2, 7, 1, 2, y0, y1, y2, y3], .bool true] := rfl
  rw [hF2] at hF
  have hCk := t_Check 3 0 [[1, 2, 1, 1, x0, x1, x2, x3], [2, 7, 1, 2, y0, y1, y2, y3]] zero16 (Nat.le_of_ble_eq_true rfl) (fun x h => (hL8 x h).1) rfl
  rw [c1] at hCk
  have q1 : DCalls Tryd.prog 19 [ln [0, 0, 0, 5, 0, 0, 0, 0], ln [0, 0, 0, 3, 0, 0, 0, 0]] (verT (2, 0)) := t_Compare _ _ rfl rfl (by unfold i64; decide) (by unfold i64; decide) (by decide) (by decide)
  have q2 : DCalls Tryd.prog 19 [ln [0, 0, 0, 3, 0, 0, 0, 0], ln [0, 0, 0, 5, 0, 0, 0, 0]] (verT (0, 26)) := t_Compare _ _ rfl rfl (by unfold i64; decide) (by unfold i64; decide) (by decide) (by decide)
  have q3 : DCalls Tryd.prog 19 [ln [0, 0, 0, 5, 1, 0, 0, 0], ln [0, 0, 0, 5, 0, 0, 0, 0]] (verT (0, 26)) := t_Compare _ _ rfl rfl (by unfold i64; decide) (by unfold i64; decide) (by decide) (by decide)
  have o1 := t_OfH ha okHa
  have o2 := t_OfH hb okHb
  have o3 := t_sAdd _ _ (ofH_isS ha) (ofH_isS hb)
  rw [show sAdd (ofH ha) (ofH hb) = [y0, y1, y2, y3] by rw [← hy]; unfold Sab Sa; rw [sAdd0 (ofH_isS ha)]] at o3
  refine wpC_cut (β := Unit) (fun _ => {sl := [(6, .ptr 6 0), (7, .ptr 7 0), (10, .ptr 10 0), (11, .t (I 0)), (12, .ptr 12 0), (13, .t (I 0)), (14, .t (I 2)), (15, .t (I 0))], bx := [(6, .d 10 (ha.map I)), (7, .d 10 (hb.map I)), (10, .d 19 (rcC 3 0 [[1, 2, 1, 1, x0, x1, x2, x3], [2, 7, 1, 2, y0, y1, y2, y3]] zero16)), (12, .d 19 (rcC 3 1 [] [d0, d1, d2, d3, d4, d5, d6, d7, d8, d9, d10, d11, d12, d13, d14, d15]))]}) (fun _ => True) ?_ fun _ _ => ?_
  · repeat' ((conv => whnf); first | exact trivial | refine k_call _ (hV1) ?_ | refine nT_ ?_ | refine aE1 ?_ | refine aE0 ?_ | refine aN1 ?_ | refine aN0 ?_ | refine aD1 ?_ | refine aD0 ?_ | refine nE_ (fun hq => ?_) (fun hq => ?_) | refine nN_ (fun hq => ?_) (fun hq => ?_) | refine nD_ (fun hq => ?_) (fun hq => ?_) | refine rb1 ?_ | refine rb0 ?_ | refine rbx ?_ | refine rix ?_ | refine aS ?_ | fail)
    exact ⟨(), trivial, ⟨⟨.same _, .same _, .same _, .same _, .same _, .same _, .same _, .same _, trivial⟩, ⟨.same _, .same _, .same _, .same _, trivial⟩, trivial, rfl, fun _ _ _ => trivial, rfl⟩⟩
  refine wpC_cut (β := Unit) (fun _ => {sl := [(6, .ptr 6 0), (7, .ptr 7 0), (10, .ptr 10 0), (11, .t (I 0)), (12, .ptr 12 0), (13, .t (I 0)), (14, .t (I 2)), (15, .t (I 0)), (16, .t (I 0)), (17, .t (I 25))], bx := [(6, .d 10 (ha.map I)), (7, .d 10 (hb.map I)), (10, .d 19 (rcC 3 0 [[1, 2, 1, 1, x0, x1, x2, x3], [2, 7, 1, 2, y0, y1, y2, y3]] zero16)), (12, .d 19 (rcC 3 1 [] [d0, d1, d2, d3, d4, d5, d6, d7, d8, d9, d10, d11, d12, d13, d14, d15]))]}) (fun _ => True) ?_ fun _ _ => ?_
  · repeat' ((conv => whnf); first | exact trivial | refine k_call _ (hV2) ?_ | refine nT_ ?_ | refine aE1 ?_ | refine aE0 ?_ | refine aN1 ?_ | refine aN0 ?_ | refine aD1 ?_ | refine aD0 ?_ | refine nE_ (fun hq => ?_) (fun hq => ?_) | refine nN_ (fun hq => ?_) (fun hq => ?_) | refine nD_ (fun hq => ?_) (fun hq => ?_) | refine rb1 ?_ | refine rb0 ?_ | refine rbx ?_ | refine rix ?_ | refine aS ?_ | fail)
    exact ⟨(), trivial, ⟨⟨.same _, .same _, .same _, .same _, .same _, .same _, .same _, .same _, .same _, .same _, trivial⟩, ⟨.same _, .same _, .same _, .same _, trivial⟩, trivial, rfl, fun _ _ _ => trivial, rfl⟩⟩
  refine wpC_cut (β := Unit) (fun _ => {sl := [(6, .ptr 6 0), (7, .ptr 7 0), (10, .ptr 10 0), (11, .t (I 0)), (12, .ptr 12 0), (13, .t (I 0)), (14, .t (I 2)), (15, .t (I 0)), (16, .t (I 0)), (17, .t (I 25)), (18, .ptr 18 0), (19, .t (.bool true))], bx := [(6, .d 10 (ha.map I)), (7, .d 10 (hb.map I)), (10, .d 19 (rcC 3 0 [[1, 2, 1, 1, x0, x1, x2, x3], [2, 7, 1, 2, y0, y1, y2, y3]] zero16)), (12, .d 19 (rcC 3 1 [] [d0, d1, d2, d3, d4, d5, d6, d7, d8, d9, d10, d11, d12, d13, d14, d15])), (18, .d 8 ([2, 7, 1, 2, y0, y1, y2, y3].map I))]}) (fun _ => True) ?_ fun _ _ => ?_
  · repeat' ((conv => whnf); first | exact trivial | refine k_call _ (hF) ?_ | refine nT_ ?_ | refine aE1 ?_ | refine aE0 ?_ | refine aN1 ?_ | refine aN0 ?_ | refine aD1 ?_ | refine aD0 ?_ | refine nE_ (fun hq => ?_) (fun hq => ?_) | refine nN_ (fun hq => ?_) (fun hq => ?_) | refine nD_ (fun hq => ?_) (fun hq => ?_) | refine rb1 ?_ | refine rb0 ?_ | refine rbx ?_ | refine rix ?_ | refine aS ?_ | fail)
    exact ⟨(), trivial, ⟨⟨.same _, .same _, .same _, .same _, .same _, .same _, .same _, .same _, .same _, .same _, .same _, .same _, trivial⟩, ⟨.same _, .same _, .same _, .same _, .same _, trivial⟩, trivial, rfl, fun _ _ _ => trivial, rfl⟩⟩
  repeat' ((conv => whnf); first | exact trivial | refine k_call _ (q1) ?_ | refine k_call _ (q2) ?_ | refine nT_ ?_ | refine aE1 ?_ | refine aE0 ?_ | refine aN1 ?_ | refine aN0 ?_ | refine aD1 ?_ | refine aD0 ?_ | refine nE_ (fun hq => ?_) (fun hq => ?_) | refine nN_ (fun hq => ?_) (fun hq => ?_) | refine nD_ (fun hq => ?_) (fun hq => ?_) | refine rb1 ?_ | refine rb0 ?_ | refine rbx ?_ | refine rix ?_ | refine aS ?_ | fail)
  refine wpC_cut (β := Unit) (fun _ => {sl := [(6, .ptr 6 0), (7, .ptr 7 0), (10, .ptr 10 0), (11, .t (I 0)), (12, .ptr 12 0), (13, .t (I 0)), (14, .t (I 2)), (15, .t (I 0)), (16, .t (I 0)), (17, .t (I 25)), (18, .ptr 18 0), (19, .t (.bool true)), (20, .t (I 2)), (21, .t (I 0)), (23, .t (I 26)), (25, .t (I 26))], bx := [(6, .d 10 (ha.map I)), (7, .d 10 (hb.map I)), (10, .d 19 (rcC 3 0 [[1, 2, 1, 1, x0, x1, x2, x3], [2, 7, 1, 2, y0, y1, y2, y3]] zero16)), (12, .d 19 (rcC 3 1 [] [d0, d1, d2, d3, d4, d5, d6, d7, d8, d9, d10, d11, d12, d13, d14, d15])), (18, .d 8 ([2, 7, 1, 2, y0, y1, y2, y3].map I))]}) (fun _ => True) ?_ fun _ _ => ?_
  · repeat' ((conv => whnf); first | exact trivial | refine k_call _ (q3) ?_ | refine nT_ ?_ | refine aE1 ?_ | refine aE0 ?_ | refine aN1 ?_ | refine aN0 ?_ | refine aD1 ?_ | refine aD0 ?_ | refine nE_ (fun hq => ?_) (fun hq => ?_) | refine nN_ (fun hq => ?_) (fun hq => ?_) | refine nD_ (fun hq => ?_) (fun hq => ?_) | refine rb1 ?_ | refine rb0 ?_ | refine rbx ?_ | refine rix ?_ | refine aS ?_ | fail)
    exact ⟨(), trivial, ⟨⟨.same _, .same _, .same _, .same _, .same _, .same _, .same _, .same _, .same _, .same _, .same _, .same _, .same _, .same _, .same _, .same _, trivial⟩, ⟨.same _, .same _, .same _, .same _, .same _, trivial⟩, trivial, rfl, fun _ _ _ => trivial, rfl⟩⟩
  refine wpC_cut (β := Unit) (fun _ => {sl := [(6, .ptr 6 0), (7, .ptr 7 0), (14, .t (I 2)), (15, .t (I 0)), (16, .t (I 0)), (17, .t (I 25)), (18, .ptr 18 0), (19, .t (.bool true)), (20, .t (I 2)), (21, .t (I 0)), (23, .t (I 26)), (25, .t (I 26)), (26, .t (.bool true))], bx := [(6, .d 10 (ha.map I)), (7, .d 10 (hb.map I)), (18, .d 8 ([2, 7, 1, 2, y0, y1, y2, y3].map I))]}) (fun _ => True) ?_ fun _ _ => ?_
  · have eD : eqL ([d0, d1, d2, d3, d4, d5, d6, d7, d8, d9, d10, d11, d12, d13, d14, d15].map Y) ([d0, d1, d2, d3, d4, d5, d6, d7, d8, d9, d10, d11, d12, d13, d14, d15].map Y) = true := eqY (by simp)
    repeat' ((conv => whnf); first | exact trivial | refine k_call _ (hCk) ?_ | refine k_call _ (hD1) ?_ | refine nb_ true eD ?_ | refine nT_ ?_ | refine aE1 ?_ | refine aE0 ?_ | refine aN1 ?_ | refine aN0 ?_ | refine aD1 ?_ | refine aD0 ?_ | refine nE_ (fun hq => ?_) (fun hq => ?_) | refine nN_ (fun hq => ?_) (fun hq => ?_) | refine nD_ (fun hq => ?_) (fun hq => ?_) | refine rb1 ?_ | refine rb0 ?_ | refine rbx ?_ | refine rix ?_ | (refine And.intro (by first | (exact ⟨fits16 (a := [d0, d1, d2, d3, d4, d5, d6, d7, d8, d9, d10, d11, d12, d13, d14, d15]) rfl, fits16 (a := [d0, d1, d2, d3, d4, d5, d6, d7, d8, d9, d10, d11, d12, d13, d14, d15]) rfl⟩; done) | fail) ?_) | refine aS ?_ | refine nb_ _ rfl ?_ | fail)
    exact ⟨(), trivial, ⟨⟨.same _, .same _, .same _, .same _, .same _, .same _, .same _, .same _, .same _, .same _, .same _, .same _, .same _, trivial⟩, ⟨.same _, .same _, .same _, trivial⟩, trivial, rfl, fun _ _ _ => trivial, rfl⟩⟩
  have eY : eqL ([y0, y1, y2, y3].map I) ([y0, y1, y2, y3].map I) = true := eqI (by simp)
  repeat' ((conv => whnf); first | exact trivial | refine k_call _ (o1) ?_ | refine k_call _ (o2) ?_ | refine k_call _ (o3) ?_ | refine nb_ true eY ?_ | refine nT_ ?_ | refine aE1 ?_ | refine aE0 ?_ | refine aN1 ?_ | refine aN0 ?_ | refine aD1 ?_ | refine aD0 ?_ | refine nE_ (fun hq => ?_) (fun hq => ?_) | refine nN_ (fun hq => ?_) (fun hq => ?_) | refine nD_ (fun hq => ?_) (fun hq => ?_) | refine rb1 ?_ | refine rb0 ?_ | refine rbx ?_ | refine rix ?_ | (refine And.intro (by first | (exact ⟨fits4 (a := [y0, y1, y2, y3]) rfl, fits4 (a := [y0, y1, y2, y3]) rfl⟩; done) | fail) ?_) | refine aS ?_ | refine nb_ _ rfl ?_ | fail)
end Go.RC
end
section
namespace Go.RC
open Go Go.DL Go.Proofs
set_option maxRecDepth 100000
set_option maxHeartbeats 600000
theorem gints_u {b : List Int} (hb : areB b) (h : (gints b).2.2 = 0) : 0 ≤ (gints b).2.1 ∧ (gints b).2.1 ≤ b.length := by
  obtain ⟨-, h1, h2⟩ := gints_inv hb h
  have := congrArg List.length h2
  rw [List.length_append, List.length_drop] at this
  omega
theorem gsT0 {l : List Int} {u e : Int} (h : e = 0) : gsT (l, u, e) = .tup [.slice 1 (l.map I), I u, I 0] := by subst h; rfl
theorem gsT1 {l : List Int} {u e : Int} (h : e ≠ 0) : gsT (l, u, e) = .tup [.nil, I u, I e] := by unfold gsT; rw [if_pos h]
theorem gdT0 {l : List (List Int)} {u e : Int} (h : e = 0) : gdT (l, u, e) = .tup [.slice 16 (l.map dg16), I u, I 0] := by subst h; rfl
theorem gdT1 {l : List (List Int)} {u e : Int} (h : e ≠ 0) : gdT (l, u, e) = .tup [.nil, I u, I e] := by unfold gdT; rw [if_pos h]
theorem dec_ok (x : Rc) : decT (x, 0) = .tup [rc x, I 0] := rfl
theorem dec_err {x : Rc} {e : Int} (h : e ≠ 0) : decT (x, e) = .tup [.agg z19, I e] := by unfold decT; rw [if_pos h]
theorem decL_step {n : Nat} {b : List Int} {acc : List (List Int)} (k : Nat) (hk : k < n) : decL (n - k) b acc = if (gints b).2.2 ≠ 0 then ([], [], (gints b).2.2) else if (gints b).1.length ≠ 8 then ([], [], 6) else decL (n - (k + 1)) (b.drop (gints b).2.1.toNat) (acc ++ [(gints b).1]) := by
  obtain ⟨m, hm⟩ : ∃ m, n - k = m + 1 := ⟨n - k - 1, by omega⟩
  rw [hm, show n - (k + 1) = m by omega]; rfl
theorem sl_drop {b : List Int} {u : Int} (h0 : 0 ≤ u) (h1 : u ≤ b.length) : List.drop u.toNat (List.take ((((b.map Y).length : Nat) : Int)).toNat (b.map Y)) = (b.drop u.toNat).map Y := by
  rw [Int.toNat_natCast, List.take_length, List.map_drop]
theorem t_refDecode (b : List Int) (hb : areB b) (hl : b.length < 2 ^ 40) : DCalls Tryd.prog 36 [.slice 1 (b.map Y)] (decT (dec b)) := by
  obtain ⟨r1, r2, hR⟩ : ∃ r1 r2, decT (dec b) = .tup [r1, I r2] := ⟨_, _, rfl⟩
  rw [hR]
  refine dcalls_low (rs := [.cell 2 51, .tmp 3]) mixed Tryd.func36 l36 rfl rfl rfl (r := [r1, I r2]) (Nat.le_of_ble_eq_true rfl) ?_
  have hT := t_refGetInts b hb hl
  have hu := gints_u hb
  unfold dec at hR
  generalize gints b = t at *
  obtain ⟨l, u, e⟩ := t
  dsimp only at *
  by_cases e0 : e = 0
  case neg =>
    rw [if_pos e0, dec_err e0] at hR
    cases hR
    rw [gsT1 e0] at hT
    repeat' ((conv => whnf); first | exact trivial | refine k_call _ (hT) ?_ | refine now_N1 e0 ?_ | refine nT_ ?_ | refine aE1 ?_ | refine aE0 ?_ | refine aN1 ?_ | refine aN0 ?_ | refine aD1 ?_ | refine aD0 ?_ | refine nE_ (fun hq => ?_) (fun hq => ?_) | refine nN_ (fun hq => ?_) (fun hq => ?_) | refine nD_ (fun hq => ?_) (fun hq => ?_) | refine rb1 ?_ | refine rb0 ?_ | refine rbx ?_ | refine rix ?_ | refine aS ?_ | fail)
  rw [if_neg (fun h => h e0)] at hR
  rw [gsT0 e0] at hT
  obtain ⟨u0, u1⟩ := hu e0
  clear hu
  by_cases l2 : l.length = 2
  case neg =>
    rw [if_pos l2, dec_err (by decide)] at hR
    cases hR
    repeat' ((conv => whnf); first | exact trivial | refine k_call _ (hT) ?_ | refine now_N0 e0 ?_ | (refine now_N1 (by simp; omega) ?_) | refine nT_ ?_ | refine aE1 ?_ | refine aE0 ?_ | refine aN1 ?_ | refine aN0 ?_ | refine aD1 ?_ | refine aD0 ?_ | refine nE_ (fun hq => ?_) (fun hq => ?_) | refine nN_ (fun hq => ?_) (fun hq => ?_) | refine nD_ (fun hq => ?_) (fun hq => ?_) | refine rb1 ?_ | refine rb0 ?_ | refine rbx ?_ | refine rix ?_ | refine aS ?_ | fail)
  rw [if_neg (fun h => h l2)] at hR
  obtain ⟨n, i, rfl⟩ : ∃ n i, l = [n, i] := by
    match l, l2 with
    | [n, i], _ => exact ⟨n, i, rfl⟩
  have hb1 := areB_drop hb u.toNat
  have hl1 : (b.drop u.toNat).length < 2 ^ 40 := by rw [List.length_drop]; omega
  have hd1 := sl_drop u0 u1
  have hul : 0 ≤ u ∧ u ≤ ((b.map Y).length : Int) ∧ ((b.map Y).length : Int) ≤ ((b.map Y).length : Int) := by rw [List.length_map]; omega
  generalize b.drop u.toNat = b1 at *
  replace hR : decT (dec1 n i b1) = .tup [r1, I r2] := hR
  have hG := t_refGetInt b1 hb1 (by omega)
  obtain ⟨-, w0, w1, -, -, -⟩ := gi_ok hb1
  unfold dec1 at hR
  generalize gi b1 = t at *
  obtain ⟨k, w, f⟩ := t
  dsimp only at *
  by_cases f0 : f = 0
  case neg =>
    rw [if_pos f0, dec_err f0] at hR
    cases hR
    repeat' ((conv => whnf); first | exact trivial | refine k_call _ (hT) ?_ | refine now_N0 e0 ?_ | (refine nv_ (.slice 1 (b1.map Y)) (by first | (exact congrArg (T.slice 1) hd1; done) | fail) ?_) | refine k_call _ (hG) ?_ | refine now_N1 f0 ?_ | refine nT_ ?_ | refine aE1 ?_ | refine aE0 ?_ | refine aN1 ?_ | refine aN0 ?_ | refine aD1 ?_ | refine aD0 ?_ | refine nE_ (fun hq => ?_) (fun hq => ?_) | refine nN_ (fun hq => ?_) (fun hq => ?_) | refine nD_ (fun hq => ?_) (fun hq => ?_) | refine rb1 ?_ | refine rb0 ?_ | refine rbx ?_ | refine rix ?_ | (refine And.intro (by first | (exact hul; done) | fail) ?_) | refine aS ?_ | fail)
  rw [if_neg (fun h => h f0)] at hR
  by_cases k0 : k < 0
  · rw [if_pos k0, dec_err (by decide)] at hR
    cases hR
    repeat' ((conv => whnf); first | exact trivial | refine k_call _ (hT) ?_ | refine now_N0 e0 ?_ | (refine nv_ (.slice 1 (b1.map Y)) (by first | (exact congrArg (T.slice 1) hd1; done) | fail) ?_) | refine k_call _ (hG) ?_ | refine now_N0 f0 ?_ | refine now_D1 k0 ?_ | refine nT_ ?_ | refine aE1 ?_ | refine aE0 ?_ | refine aN1 ?_ | refine aN0 ?_ | refine aD1 ?_ | refine aD0 ?_ | refine nE_ (fun hq => ?_) (fun hq => ?_) | refine nN_ (fun hq => ?_) (fun hq => ?_) | refine nD_ (fun hq => ?_) (fun hq => ?_) | refine rb1 ?_ | refine rb0 ?_ | refine rbx ?_ | refine rix ?_ | (refine And.intro (by first | (exact hul; done) | fail) ?_) | refine aS ?_ | fail)
  rw [if_neg k0] at hR
  by_cases k1 : k > 1000
  · rw [if_pos k1, dec_err (by decide)] at hR
    cases hR
    repeat' ((conv => whnf); first | exact trivial | refine k_call _ (hT) ?_ | refine now_N0 e0 ?_ | (refine nv_ (.slice 1 (b1.map Y)) (by first | (exact congrArg (T.slice 1) hd1; done) | fail) ?_) | refine k_call _ (hG) ?_ | refine now_N0 f0 ?_ | refine now_D0 k0 ?_ | refine now_D1 k1 ?_ | refine nT_ ?_ | refine aE1 ?_ | refine aE0 ?_ | refine aN1 ?_ | refine aN0 ?_ | refine aD1 ?_ | refine aD0 ?_ | refine nE_ (fun hq => ?_) (fun hq => ?_) | refine nN_ (fun hq => ?_) (fun hq => ?_) | refine nD_ (fun hq => ?_) (fun hq => ?_) | refine rb1 ?_ | refine rb0 ?_ | refine rbx ?_ | refine rix ?_ | (refine And.intro (by first | (exact hul; done) | fail) ?_) | refine aS ?_ | fail)
  rw [if_neg k1] at hR
  have hb2 := areB_drop hb1 w.toNat
  have hl2 : (b1.drop w.toNat).length < 2 ^ 40 := by rw [List.length_drop]; omega
  have hd2 := sl_drop w0 w1
  have hwl : 0 ≤ w ∧ w ≤ ((b1.map Y).length : Int) ∧ ((b1.map Y).length : Int) ≤ ((b1.map Y).length : Int) := by rw [List.length_map]; omega
  generalize b1.drop w.toNat = b2 at *
  repeat' ((conv => whnf); first | exact trivial | refine k_call _ (hT) ?_ | refine now_N0 e0 ?_ | (refine nv_ (.slice 1 (b1.map Y)) (by first | (exact congrArg (T.slice 1) hd1; done) | fail) ?_) | refine k_call _ (hG) ?_ | refine now_N0 f0 ?_ | refine now_D0 k0 ?_ | refine now_D0 k1 ?_ | refine nT_ ?_ | refine aE1 ?_ | refine aE0 ?_ | refine aN1 ?_ | refine aN0 ?_ | refine aD1 ?_ | refine aD0 ?_ | refine nE_ (fun hq => ?_) (fun hq => ?_) | refine nN_ (fun hq => ?_) (fun hq => ?_) | refine nD_ (fun hq => ?_) (fun hq => ?_) | refine rb1 ?_ | refine rb0 ?_ | refine rbx ?_ | refine rix ?_ | (refine And.intro (by first | (exact hul; done) | fail) ?_) | refine aS ?_ | fail)
  refine wpC_cut (β := Unit) (fun _ => {sl := [(0, .t (.slice 1 (b2.map Y))), (2, .ptr 2 0), (3, .t (I 0)), (4, .t (.slice 1 ([n, i].map I))), (7, .t (I k))], bx := [(2, .d 19 z19)]}) (fun _ => True) ?_ fun _ _ => ?_
  · repeat' ((conv => whnf); first | exact trivial | (refine nv_ (.slice 1 (b2.map Y)) (by first | (exact congrArg (T.slice 1) hd2; done) | fail) ?_) | refine nT_ ?_ | refine aE1 ?_ | refine aE0 ?_ | refine aN1 ?_ | refine aN0 ?_ | refine aD1 ?_ | refine aD0 ?_ | refine nE_ (fun hq => ?_) (fun hq => ?_) | refine nN_ (fun hq => ?_) (fun hq => ?_) | refine nD_ (fun hq => ?_) (fun hq => ?_) | refine rb1 ?_ | refine rb0 ?_ | refine rbx ?_ | refine rix ?_ | (refine And.intro (by first | (exact hwl; done) | fail) ?_) | refine aS ?_ | fail)
    exact ⟨(), trivial, by repeat' (first | exact trivial | exact LeV.same _ | exact LeB.same _ | exact rfl | exact fun _ _ _ => trivial | exact lI | exact LeV.nil _ _ _ | exact lB | refine leBd ?_ | refine leOwn ?_ | refine And.intro ?_ ?_)⟩
  repeat' ((conv => whnf); first | exact trivial | refine nT_ ?_ | refine aE1 ?_ | refine aE0 ?_ | refine aN1 ?_ | refine aN0 ?_ | refine aD1 ?_ | refine aD0 ?_ | refine nE_ (fun hq => ?_) (fun hq => ?_) | refine nN_ (fun hq => ?_) (fun hq => ?_) | refine nD_ (fun hq => ?_) (fun hq => ?_) | refine rb1 ?_ | refine rb0 ?_ | refine rbx ?_ | refine rix ?_ | refine aS ?_ | fail)
  refine wpC_loopE 0 (α := Nat × List Int × List (List Int)) (β := List Int × List (List Int)) (fun q => {sl := [(0, .t (.slice 1 (q.2.1.map Y))), (2, .ptr 2 0), (3, .t (I 0)), (7, .t (I k)), (10, .ptr 10 0), (11, .t (I q.1))], bx := [(2, .d 19 z19), (10, .v (.t (I n) :: .t (I i) :: .own 112 36 8 (q.2.2.map ln) :: pvV zero16))]})
    (fun q => q.1 ≤ k.toNat ∧ q.2.2.length = q.1 ∧ areB q.2.1 ∧ q.2.1.length < 2 ^ 40 ∧ decL (k.toNat - q.1) q.2.1 q.2.2 = decL k.toNat b2 []) (fun q => k.toNat - q.1)
    (fun q => {sl := [(0, .t (.slice 1 (q.1.map Y))), (2, .ptr 2 0), (3, .t (I 0)), (10, .ptr 10 0)], bx := [(2, .d 19 z19), (10, .v (.t (I n) :: .t (I i) :: .t (linesT q.2) :: pvV zero16))]}) (fun q => decL k.toNat b2 [] = (q.2, q.1, 0) ∧ areB q.1 ∧ q.1.length < 2 ^ 40) (0, b2, []) ⟨by simp, rfl, hb2, hl2, rfl⟩ ?_ ?_ ?_
  · repeat' (first | (refine LeB.dv _ _ _ ?_) | exact trivial | exact LeV.same _ | exact LeB.same _ | exact rfl | exact fun _ _ _ => trivial | exact lI | exact LeV.nil _ _ _ | exact lB | refine leBd ?_ | refine leOwn ?_ | refine And.intro ?_ ?_)
  · rintro ⟨j, b', acc⟩ ⟨hj, hla, hb', hl', ho⟩
    dsimp only at hj hla hb' hl' ho
    rcases Nat.lt_or_ge j k.toNat with h2 | h2
    · rw [decL_step j h2] at ho
      have hT := t_refGetInts b' hb' hl'
      have hu := gints_u hb'
      generalize gints b' = t at *
      obtain ⟨l, v, g⟩ := t
      dsimp only at *
      by_cases g0 : g = 0
      case neg =>
        rw [if_pos g0] at ho
        rw [← ho, dec2, if_pos g0, dec_err g0] at hR
        rw [gsT1 g0] at hT
        cases hR
        repeat' ((conv => whnf); first | exact trivial | refine now_D1 (by omega) ?_ | refine k_call _ (hT) ?_ | refine now_N1 g0 ?_ | refine nT_ ?_ | refine aE1 ?_ | refine aE0 ?_ | refine aN1 ?_ | refine aN0 ?_ | refine aD1 ?_ | refine aD0 ?_ | refine nE_ (fun hq => ?_) (fun hq => ?_) | refine nN_ (fun hq => ?_) (fun hq => ?_) | refine nD_ (fun hq => ?_) (fun hq => ?_) | refine rb1 ?_ | refine rb0 ?_ | refine rbx ?_ | refine rix ?_ | refine aS ?_ | fail)
      rw [if_neg (fun h => h g0)] at ho
      rw [gsT0 g0] at hT
      obtain ⟨v0, v1⟩ := hu g0
      by_cases l8 : l.length = 8
      case neg =>
        rw [if_pos l8] at ho
        rw [← ho, dec2, if_pos (by decide), dec_err (by decide)] at hR
        cases hR
        repeat' ((conv => whnf); first | exact trivial | refine now_D1 (by omega) ?_ | refine k_call _ (hT) ?_ | refine now_N0 g0 ?_ | (refine now_N1 (by simp; omega) ?_) | refine nT_ ?_ | refine aE1 ?_ | refine aE0 ?_ | refine aN1 ?_ | refine aN0 ?_ | refine aD1 ?_ | refine aD0 ?_ | refine nE_ (fun hq => ?_) (fun hq => ?_) | refine nN_ (fun hq => ?_) (fun hq => ?_) | refine nD_ (fun hq => ?_) (fun hq => ?_) | refine rb1 ?_ | refine rb0 ?_ | refine rbx ?_ | refine rix ?_ | refine aS ?_ | fail)
      rw [if_neg (fun h => h l8)] at ho
      have hb3 := areB_drop hb' v.toNat
      have hl3 : (b'.drop v.toNat).length < 2 ^ 40 := by rw [List.length_drop]; omega
      have hd3 := sl_drop v0 v1
      have hvl : 0 ≤ v ∧ v ≤ ((b'.map Y).length : Int) ∧ ((b'.map Y).length : Int) ≤ ((b'.map Y).length : Int) := by rw [List.length_map]; omega
      generalize b'.drop v.toNat = b3 at *
      obtain ⟨a, b, c, d, e, f, g, h, rfl⟩ := ex8 l8
      repeat' ((conv => whnf); first | exact trivial | refine now_D1 (by omega) ?_ | refine k_call _ (hT) ?_ | refine now_N0 g0 ?_ | refine nT_ ?_ | refine aE1 ?_ | refine aE0 ?_ | refine aN1 ?_ | refine aN0 ?_ | refine aD1 ?_ | refine aD0 ?_ | refine nE_ (fun hq => ?_) (fun hq => ?_) | refine nN_ (fun hq => ?_) (fun hq => ?_) | refine nD_ (fun hq => ?_) (fun hq => ?_) | refine rb1 ?_ | refine rb0 ?_ | refine rbx ?_ | refine rix ?_ | refine aS ?_ | fail)
      refine wpC_cut (β := Unit) (fun _ => {sl := [(0, .t (.slice 1 (b3.map Y))), (2, .ptr 2 0), (3, .t (I 0)), (7, .t (I k)), (10, .ptr 10 0), (11, .t (I j)), (12, .t (.slice 1 ([a, b, c, d, e, f, g, h].map I)))], bx := [(2, .d 19 z19), (10, .v (.t (I n) :: .t (I i) :: .own 112 36 8 (acc.map ln) :: pvV zero16))]}) (fun _ => True) ?_ fun _ _ => ?_
      · repeat' ((conv => whnf); first | exact trivial | (refine nv_ (.slice 1 (b3.map Y)) (by first | (exact congrArg (T.slice 1) hd3; done) | fail) ?_) | refine nT_ ?_ | refine aE1 ?_ | refine aE0 ?_ | refine aN1 ?_ | refine aN0 ?_ | refine aD1 ?_ | refine aD0 ?_ | refine nE_ (fun hq => ?_) (fun hq => ?_) | refine nN_ (fun hq => ?_) (fun hq => ?_) | refine nD_ (fun hq => ?_) (fun hq => ?_) | refine rb1 ?_ | refine rb0 ?_ | refine rbx ?_ | refine rix ?_ | (refine And.intro (by first | (exact hvl; done) | fail) ?_) | refine aS ?_ | fail)
        exact ⟨(), trivial, by repeat' (first | exact trivial | exact LeV.same _ | exact LeB.same _ | exact rfl | exact fun _ _ _ => trivial | exact lI | exact LeV.nil _ _ _ | exact lB | refine leBd ?_ | refine leOwn ?_ | refine And.intro ?_ ?_)⟩
      repeat' ((conv => whnf); first | exact trivial | refine nT_ ?_ | refine aE1 ?_ | refine aE0 ?_ | refine aN1 ?_ | refine aN0 ?_ | refine aD1 ?_ | refine aD0 ?_ | refine nE_ (fun hq => ?_) (fun hq => ?_) | refine nN_ (fun hq => ?_) (fun hq => ?_) | refine nD_ (fun hq => ?_) (fun hq => ?_) | refine rb1 ?_ | refine rb0 ?_ | refine rbx ?_ | refine rix ?_ | (refine And.intro (by first | ((simp; omega); done) | fail) ?_) | refine aS ?_ | fail)
      refine ⟨(j + 1, b3, acc ++ [[a, b, c, d, e, f, g, h]]), ⟨by dsimp only; omega, by simp [hla], hb3, hl3, ho⟩, by dsimp only; omega, ?_⟩
      repeat' (first | (refine LeB.v _ _ ?_) | ((refine leOwn ?_; rw [List.map_append]; rfl)) | exact trivial | exact LeV.same _ | exact LeB.same _ | exact rfl | exact fun _ _ _ => trivial | exact lI | exact LeV.nil _ _ _ | exact lB | refine leBd ?_ | refine leOwn ?_ | refine And.intro ?_ ?_)
    · have : j = k.toNat := by omega
      subst this
      rw [Nat.sub_self] at ho
      repeat' ((conv => whnf); first | exact trivial | refine now_D0 (by omega) ?_ | refine nT_ ?_ | refine aE1 ?_ | refine aE0 ?_ | refine aN1 ?_ | refine aN0 ?_ | refine aD1 ?_ | refine aD0 ?_ | refine nE_ (fun hq => ?_) (fun hq => ?_) | refine nN_ (fun hq => ?_) (fun hq => ?_) | refine nD_ (fun hq => ?_) (fun hq => ?_) | refine rb1 ?_ | refine rb0 ?_ | refine rbx ?_ | refine rix ?_ | refine aS ?_ | fail)
      exact ⟨(b', acc), ⟨ho.symm, hb', hl'⟩, by repeat' (first | (refine LeB.v _ _ ?_) | (exact LeV.data _ _ _ _) | exact trivial | exact LeV.same _ | exact LeB.same _ | exact rfl | exact fun _ _ _ => trivial | exact lI | exact LeV.nil _ _ _ | exact lB | refine leBd ?_ | refine leOwn ?_ | refine And.intro ?_ ?_)⟩
  rintro ⟨b', acc⟩ ⟨ho, hb', hl'⟩
  rw [ho] at hR
  dsimp only at hb' hl'
  rw [dec2, if_neg (by simp)] at hR
  dsimp only at hR
  have hD := t_refGetDigests b' hb' hl'
  have hi := gdigs_inv hb'
  unfold dec3 at hR
  generalize gdigs b' = t at *
  obtain ⟨ds, v, g⟩ := t
  dsimp only at *
  by_cases g0 : g = 0
  case neg =>
    rw [if_pos g0, dec_err g0] at hR
    cases hR
    rw [gdT1 g0] at hD
    repeat' ((conv => whnf); first | exact trivial | refine k_call _ (hD) ?_ | refine now_N1 g0 ?_ | refine nT_ ?_ | refine aE1 ?_ | refine aE0 ?_ | refine aN1 ?_ | refine aN0 ?_ | refine aD1 ?_ | refine aD0 ?_ | refine nE_ (fun hq => ?_) (fun hq => ?_) | refine nN_ (fun hq => ?_) (fun hq => ?_) | refine nD_ (fun hq => ?_) (fun hq => ?_) | refine rb1 ?_ | refine rb0 ?_ | refine rbx ?_ | refine rix ?_ | refine aS ?_ | fail)
  rw [if_neg (fun h => h g0)] at hR
  rw [gdT0 g0] at hD
  obtain ⟨p1, p2, p3⟩ := hi g0
  have hvb : v ≤ b'.length := by
    have := congrArg List.length p3
    rw [List.length_append, List.length_drop] at this
    omega
  by_cases d1 : ds.length = 1
  case neg =>
    rw [if_pos (.inl d1), dec_err (by decide)] at hR
    cases hR
    repeat' ((conv => whnf); first | exact trivial | refine k_call _ (hD) ?_ | refine now_N0 g0 ?_ | (refine now_N1 (by simp; omega) ?_) | refine nT_ ?_ | refine aE1 ?_ | refine aE0 ?_ | refine aN1 ?_ | refine aN0 ?_ | refine aD1 ?_ | refine aD0 ?_ | refine nE_ (fun hq => ?_) (fun hq => ?_) | refine nN_ (fun hq => ?_) (fun hq => ?_) | refine nD_ (fun hq => ?_) (fun hq => ?_) | refine rb1 ?_ | refine rb0 ?_ | refine rbx ?_ | refine rix ?_ | refine aS ?_ | fail)
  obtain ⟨pv, rfl⟩ : ∃ pv, ds = [pv] := by
    match ds, d1 with
    | [pv], _ => exact ⟨pv, rfl⟩
  by_cases d2 : v = b'.length
  case neg =>
    rw [if_pos (.inr d2), dec_err (by decide)] at hR
    cases hR
    repeat' ((conv => whnf); first | exact trivial | refine k_call _ (hD) ?_ | refine now_N0 g0 ?_ | (refine now_D1 (by simp; omega) ?_) | refine nT_ ?_ | refine aE1 ?_ | refine aE0 ?_ | refine aN1 ?_ | refine aN0 ?_ | refine aD1 ?_ | refine aD0 ?_ | refine nE_ (fun hq => ?_) (fun hq => ?_) | refine nN_ (fun hq => ?_) (fun hq => ?_) | refine nD_ (fun hq => ?_) (fun hq => ?_) | refine rb1 ?_ | refine rb0 ?_ | refine rbx ?_ | refine rix ?_ | refine aS ?_ | fail)
  rw [if_neg (by simp [d2]), dec_ok] at hR
  obtain ⟨x0, x1, x2, x3, x4, x5, x6, x7, x8, x9, x10, x11, x12, x13, x14, x15, rfl⟩ := ex16 (p1 pv (by simp))
  cases hR
  repeat' ((conv => whnf); first | exact trivial | refine k_call _ (hD) ?_ | refine now_N0 g0 ?_ | (refine now_D0 (by simp; omega) ?_) | refine nT_ ?_ | refine aE1 ?_ | refine aE0 ?_ | refine aN1 ?_ | refine aN0 ?_ | refine aD1 ?_ | refine aD0 ?_ | refine nE_ (fun hq => ?_) (fun hq => ?_) | refine nN_ (fun hq => ?_) (fun hq => ?_) | refine nD_ (fun hq => ?_) (fun hq => ?_) | refine rb1 ?_ | refine rb0 ?_ | refine rbx ?_ | refine rix ?_ | refine aS ?_ | fail)
end Go.RC
end
section
namespace Go.RC
open Go Go.DL Go.Proofs
set_option maxRecDepth 100000
set_option maxHeartbeats 2000000
abbrev Rd := List Int × Int
def rI (m : Nat) (s : Rd) : List Int × Rd :=
  if s.2 ≠ 0 then (List.replicate m 0, s) else if (gints s.1).2.2 ≠ 0 then (List.replicate m 0, s.1, (gints s.1).2.2) else if (gints s.1).1.length ≠ m then (List.replicate m 0, s.1, 6) else ((gints s.1).1, s.1.drop (gints s.1).2.1.toNat, 0)
def rC (s : Rd) : Int × Rd :=
  if s.2 ≠ 0 then (0, s) else if (gi s.1).2.2 ≠ 0 then (0, s.1, (gi s.1).2.2) else if (gi s.1).1 < 0 then (0, s.1, 6) else if (gi s.1).1 > 1000 then (0, s.1, 2) else ((gi s.1).1, s.1.drop (gi s.1).2.1.toNat, 0)
def rL : Nat → Rd → List (List Int) → List (List Int) × Rd
  | 0, s, acc => (acc, s)
  | n + 1, s, acc => if s.2 ≠ 0 then (acc, s) else rL n (rI 8 s).2 (acc ++ [(rI 8 s).1])
def rD (s : Rd) : List Int × Rd :=
  if s.2 ≠ 0 then (zero16, s) else if (gdigs s.1).2.2 ≠ 0 then (zero16, s.1, (gdigs s.1).2.2) else if (gdigs s.1).1.length ≠ 1 ∨ (gdigs s.1).2.1 ≠ s.1.length then (zero16, s.1, 6) else ((gdigs s.1).1.headD [], s.1, 0)
def decF (n i : Int) (d : List (List Int) × Rd) : Rc × Int := if (rD d.2).2.2 ≠ 0 then (zRc, (rD d.2).2.2) else (⟨n, i, d.1, (rD d.2).1⟩, 0)
def decR (b : List Int) : Rc × Int := decF ((rI 2 (b, 0)).1.getD 0 0) ((rI 2 (b, 0)).1.getD 1 0) (rL (rC (rI 2 (b, 0)).2).1.toNat (rC (rI 2 (b, 0)).2).2 [])
theorem rL_err : ∀ {n : Nat} {s : Rd} {acc : List (List Int)}, s.2 ≠ 0 → (rL n s acc).2 = s
  | 0, _, _, _ => rfl
  | n + 1, s, acc, h => by rw [rL, if_pos h]
theorem rD_err {s : Rd} (h : s.2 ≠ 0) : rD s = (zero16, s) := by rw [rD, if_pos h]
theorem decF_err {n i : Int} {d : List (List Int) × Rd} (h : d.2.2 ≠ 0) : decF n i d = (zRc, d.2.2) := by
  unfold decF; rw [rD_err h, if_pos h]
theorem rL_decL : ∀ {n : Nat} {b : List Int} {acc : List (List Int)}, ((decL n b acc).2.2 = 0 → rL n (b, 0) acc = ((decL n b acc).1, (decL n b acc).2.1, 0)) ∧ ((decL n b acc).2.2 ≠ 0 → (rL n (b, 0) acc).2.2 = (decL n b acc).2.2)
  | 0, b, acc => ⟨fun _ => rfl, fun h => absurd rfl h⟩
  | n + 1, b, acc => by
    have e1 : rL (n + 1) (b, 0) acc = rL n (rI 8 (b, 0)).2 (acc ++ [(rI 8 (b, 0)).1]) := by rw [rL, if_neg (by simp)]
    rw [e1, decL]
    have e2 : rI 8 (b, 0) = if (gints b).2.2 ≠ 0 then (List.replicate 8 0, b, (gints b).2.2) else if (gints b).1.length ≠ 8 then (List.replicate 8 0, b, 6) else ((gints b).1, b.drop (gints b).2.1.toNat, 0) := by rw [rI, if_neg (by simp)]
    rw [e2]
    by_cases c : (gints b).2.2 ≠ 0
    · rw [if_pos c, if_pos c]
      refine ⟨fun h => absurd h c, fun _ => ?_⟩
      rw [rL_err (by exact c)]
    rw [if_neg c, if_neg c]
    by_cases c8 : (gints b).1.length ≠ 8
    · rw [if_pos c8, if_pos c8]
      refine ⟨fun h => absurd h (by simp), fun _ => ?_⟩
      rw [rL_err (by simp)]
    rw [if_neg c8, if_neg c8]
    exact rL_decL (n := n)
theorem decR_eq (b : List Int) : decR b = dec b := by
  unfold decR dec
  have e2 : rI 2 (b, 0) = if (gints b).2.2 ≠ 0 then (List.replicate 2 0, b, (gints b).2.2) else if (gints b).1.length ≠ 2 then (List.replicate 2 0, b, 6) else ((gints b).1, b.drop (gints b).2.1.toNat, 0) := by rw [rI, if_neg (by simp)]
  rw [e2]
  have er : ∀ (l : List Int) (e : Int) (he : e ≠ 0), decF (l.getD 0 0) (l.getD 1 0) (rL (rC (b, e)).1.toNat (rC (b, e)).2 []) = (zRc, e) := fun l e he => by
    have : rC (b, e) = (0, b, e) := by rw [rC, if_pos he]
    rw [this]
    exact decF_err he
  by_cases c : (gints b).2.2 ≠ 0
  · rw [if_pos c, if_pos c]; exact er _ _ c
  rw [if_neg c, if_neg c]
  by_cases c2 : (gints b).1.length ≠ 2
  · rw [if_pos c2, if_pos c2]; exact er _ _ (by simp)
  rw [if_neg c2, if_neg c2]
  generalize b.drop (gints b).2.1.toNat = b1
  generalize (gints b).1.getD 0 0 = n
  generalize (gints b).1.getD 1 0 = i
  show decF n i (rL (rC (b1, 0)).1.toNat (rC (b1, 0)).2 []) = dec1 n i b1
  have e3 : rC (b1, 0) = if (gi b1).2.2 ≠ 0 then (0, b1, (gi b1).2.2) else if (gi b1).1 < 0 then (0, b1, 6) else if (gi b1).1 > 1000 then (0, b1, 2) else ((gi b1).1, b1.drop (gi b1).2.1.toNat, 0) := by rw [rC, if_neg (by simp)]
  rw [e3]
  unfold dec1
  by_cases d : (gi b1).2.2 ≠ 0
  · rw [if_pos d, if_pos d]; exact decF_err d
  rw [if_neg d, if_neg d]
  by_cases d2 : (gi b1).1 < 0
  · rw [if_pos d2, if_pos d2]; exact decF_err (by simp [rL])
  rw [if_neg d2, if_neg d2]
  by_cases d3 : (gi b1).1 > 1000
  · rw [if_pos d3, if_pos d3]; exact decF_err (by simp [rL])
  rw [if_neg d3, if_neg d3]
  dsimp only
  generalize b1.drop (gi b1).2.1.toNat = b2
  obtain ⟨h1, h2⟩ := @rL_decL (gi b1).1.toNat b2 []
  unfold dec2
  by_cases d4 : (decL (gi b1).1.toNat b2 []).2.2 ≠ 0
  · rw [if_pos d4, decF_err (by rw [h2 d4]; exact d4), h2 d4]
  rw [if_neg d4, h1 (by simpa using d4)]
  generalize (decL (gi b1).1.toNat b2 []).1 = ls
  generalize (decL (gi b1).1.toNat b2 []).2.1 = b3
  unfold decF dec3
  have e4 : rD (b3, 0) = if (gdigs b3).2.2 ≠ 0 then (zero16, b3, (gdigs b3).2.2) else if (gdigs b3).1.length ≠ 1 ∨ (gdigs b3).2.1 ≠ b3.length then (zero16, b3, 6) else ((gdigs b3).1.headD [], b3, 0) := by rw [rD, if_neg (by simp)]
  dsimp only
  rw [e4]
  by_cases d5 : (gdigs b3).2.2 ≠ 0
  · rw [if_pos d5, if_pos d5, if_pos d5]
  rw [if_neg d5, if_neg d5]
  by_cases d6 : (gdigs b3).1.length ≠ 1 ∨ (gdigs b3).2.1 ≠ b3.length
  · rw [if_pos d6, if_pos d6, if_pos (by simp)]
  rw [if_neg d6, if_neg d6, if_neg (by simp)]
abbrev okRd (s : Rd) : Prop := areB s.1 ∧ s.1.length < 2 ^ 40
theorem rI_ok {m : Nat} {s : Rd} (h : okRd s) : okRd (rI m s).2 ∧ (rI m s).1.length = m := by
  unfold rI
  by_cases c : s.2 ≠ 0
  · rw [if_pos c]; exact ⟨h, by simp⟩
  rw [if_neg c]
  by_cases c1 : (gints s.1).2.2 ≠ 0
  · rw [if_pos c1]; exact ⟨h, by simp⟩
  rw [if_neg c1]
  by_cases c2 : (gints s.1).1.length ≠ m
  · rw [if_pos c2]; exact ⟨h, by simp⟩
  rw [if_neg c2]
  exact ⟨⟨areB_drop h.1 _, by have := h.2; dsimp only; rw [List.length_drop]; omega⟩, by simpa using c2⟩
theorem rC_ok {s : Rd} (h : okRd s) : okRd (rC s).2 ∧ 0 ≤ (rC s).1 ∧ (rC s).1 ≤ 1000 := by
  unfold rC
  by_cases c : s.2 ≠ 0
  · rw [if_pos c]; exact ⟨h, by simp⟩
  rw [if_neg c]
  by_cases c1 : (gi s.1).2.2 ≠ 0
  · rw [if_pos c1]; exact ⟨h, by simp⟩
  rw [if_neg c1]
  by_cases c2 : (gi s.1).1 < 0
  · rw [if_pos c2]; exact ⟨h, by simp⟩
  rw [if_neg c2]
  by_cases c3 : (gi s.1).1 > 1000
  · rw [if_pos c3]; exact ⟨h, by simp⟩
  rw [if_neg c3]
  exact ⟨⟨areB_drop h.1 _, by have := h.2; dsimp only; rw [List.length_drop]; omega⟩, by dsimp only; omega⟩
end Go.RC
end
section
namespace Go.RC
open Go Go.DL Go.Proofs
set_option maxRecDepth 100000
set_option maxHeartbeats 600000
theorem rD_ok {s : Rd} (h : okRd s) : okRd (rD s).2 ∧ (rD s).1.length = 16 := by
  have hi := gdigs_inv h.1
  unfold rD
  by_cases c : s.2 ≠ 0
  · rw [if_pos c]; exact ⟨h, rfl⟩
  rw [if_neg c]
  by_cases c1 : (gdigs s.1).2.2 ≠ 0
  · rw [if_pos c1]; exact ⟨h, rfl⟩
  rw [if_neg c1]
  by_cases c2 : (gdigs s.1).1.length ≠ 1 ∨ (gdigs s.1).2.1 ≠ s.1.length
  · rw [if_pos c2]; exact ⟨h, rfl⟩
  rw [if_neg c2]
  refine ⟨h, ?_⟩
  obtain ⟨h1, -⟩ := hi (by simpa using c1)
  have c3 : (gdigs s.1).1.length = 1 := by omega
  generalize (gdigs s.1).1 = l at *
  match l, c3 with
  | [x], _ => exact h1 x (by simp)
theorem t_Decode (b : List Int) (hb : areB b) (hl : b.length < 2 ^ 40) : DCalls Tryd.prog 35 [.slice 1 (b.map Y)] (decT (dec b)) := by
  obtain ⟨r1, r2, hR⟩ : ∃ r1 r2, decT (decR b) = .tup [r1, I r2] := ⟨_, _, rfl⟩
  rw [← decR_eq, hR]
  refine dcalls_low (rs := [.cell 2 51, .tmp 3]) mixed Tryd.func35 l35 rfl rfl rfl (r := [r1, I r2]) (Nat.le_of_ble_eq_true rfl) ?_
  unfold decR at hR
  have hT := t_GetInts b hb hl
  have hu := gints_u hb
  have hr : rI 2 (b, 0) = if (gints b).2.2 ≠ 0 then (List.replicate 2 0, b, (gints b).2.2) else if (gints b).1.length ≠ 2 then (List.replicate 2 0, b, 6) else ((gints b).1, b.drop (gints b).2.1.toNat, 0) := by rw [rI, if_neg (by simp)]
  obtain ⟨hok1, hl1⟩ := rI_ok (m := 2) (s := (b, 0)) ⟨hb, hl⟩
  generalize rI 2 (b, 0) = a at *
  obtain ⟨l', b1, e1⟩ := a
  dsimp only at *
  repeat' ((conv => whnf); first | exact trivial | refine nT_ ?_ | refine aE1 ?_ | refine aE0 ?_ | refine aN1 ?_ | refine aN0 ?_ | refine aD1 ?_ | refine aD0 ?_ | refine nE_ (fun hq => ?_) (fun hq => ?_) | refine nN_ (fun hq => ?_) (fun hq => ?_) | refine nD_ (fun hq => ?_) (fun hq => ?_) | refine rb1 ?_ | refine rb0 ?_ | refine rbx ?_ | refine rix ?_ | refine aS ?_ | fail)
  refine wpC_cut (β := Unit) (fun _ => {sl := [(2, .ptr 2 0), (3, .t (I 0)), (4, .ptr 11 0), (5, .t (.slice 1 (l'.map I)))], bx := [(2, .d 19 z19), (11, .d 2 [.slice 1 (b1.map Y), I e1])]}) (fun _ => True) ?_ fun _ _ => ?_
  · generalize gints b = t at *
    obtain ⟨l, u, e⟩ := t
    dsimp only at *
    by_cases e0 : e = 0
    case neg =>
      rw [if_pos e0] at hr
      rw [gsT1 e0] at hT
      cases hr
      repeat' ((conv => whnf); first | exact trivial | refine WC_inl mixed Tryd.func60 l60 rfl rfl (rs := [.tmp 4]) rfl 1000 (Nat.le_of_ble_eq_true rfl) ?_ | refine k_call _ (hT) ?_ | refine now_E0 e0 ?_ | refine nT_ ?_ | refine aE1 ?_ | refine aE0 ?_ | refine aN1 ?_ | refine aN0 ?_ | refine aD1 ?_ | refine aD0 ?_ | refine nE_ (fun hq => ?_) (fun hq => ?_) | refine nN_ (fun hq => ?_) (fun hq => ?_) | refine nD_ (fun hq => ?_) (fun hq => ?_) | refine rb1 ?_ | refine rb0 ?_ | refine rbx ?_ | refine rix ?_ | refine aS ?_ | refine ⟨_, rfl, ?_⟩ | fail)
      exact ⟨(), trivial, by repeat' (first | (exact LeV.conv _ _ [1047] rfl (by simp [Wk.keys])) | exact trivial | exact LeV.same _ | exact LeB.same _ | exact rfl | exact fun _ _ _ => trivial | exact lI | exact LeV.nil _ _ _ | exact lB | refine leBd ?_ | refine leOwn ?_ | refine And.intro ?_ ?_)⟩
    rw [if_neg (fun h => h e0)] at hr
    rw [gsT0 e0] at hT
    obtain ⟨u0, u1⟩ := hu e0
    have hd1 := sl_drop u0 u1
    have hul : 0 ≤ u ∧ u ≤ ((b.map Y).length : Int) ∧ ((b.map Y).length : Int) ≤ ((b.map Y).length : Int) := by rw [List.length_map]; omega
    by_cases l2 : l.length = 2
    case neg =>
      rw [if_pos l2] at hr
      cases hr
      repeat' ((conv => whnf); first | exact trivial | refine WC_inl mixed Tryd.func60 l60 rfl rfl (rs := [.tmp 4]) rfl 1000 (Nat.le_of_ble_eq_true rfl) ?_ | refine k_call _ (hT) ?_ | (refine now_N1 (by simp; omega) ?_) | refine nT_ ?_ | refine aE1 ?_ | refine aE0 ?_ | refine aN1 ?_ | refine aN0 ?_ | refine aD1 ?_ | refine aD0 ?_ | refine nE_ (fun hq => ?_) (fun hq => ?_) | refine nN_ (fun hq => ?_) (fun hq => ?_) | refine nD_ (fun hq => ?_) (fun hq => ?_) | refine rb1 ?_ | refine rb0 ?_ | refine rbx ?_ | refine rix ?_ | refine aS ?_ | refine ⟨_, rfl, ?_⟩ | fail)
      exact ⟨(), trivial, by repeat' (first | (exact LeV.conv _ _ [1047] rfl (by simp [Wk.keys])) | exact trivial | exact LeV.same _ | exact LeB.same _ | exact rfl | exact fun _ _ _ => trivial | exact lI | exact LeV.nil _ _ _ | exact lB | refine leBd ?_ | refine leOwn ?_ | refine And.intro ?_ ?_)⟩
    rw [if_neg (fun h => h l2)] at hr
    cases hr
    repeat' ((conv => whnf); first | exact trivial | refine WC_inl mixed Tryd.func60 l60 rfl rfl (rs := [.tmp 4]) rfl 1000 (Nat.le_of_ble_eq_true rfl) ?_ | refine k_call _ (hT) ?_ | (refine now_N0 (by simp; omega) ?_) | (refine nv_ (.slice 1 ((b.drop u.toNat).map Y)) (by first | (exact congrArg (T.slice 1) hd1; done) | fail) ?_) | refine nT_ ?_ | refine aE1 ?_ | refine aE0 ?_ | refine aN1 ?_ | refine aN0 ?_ | refine aD1 ?_ | refine aD0 ?_ | refine nE_ (fun hq => ?_) (fun hq => ?_) | refine nN_ (fun hq => ?_) (fun hq => ?_) | refine nD_ (fun hq => ?_) (fun hq => ?_) | refine rb1 ?_ | refine rb0 ?_ | refine rbx ?_ | refine rix ?_ | (refine And.intro (by first | (exact hul; done) | fail) ?_) | refine aS ?_ | refine ⟨_, rfl, ?_⟩ | fail)
    exact ⟨(), trivial, by repeat' (first | exact trivial | exact LeV.same _ | exact LeB.same _ | exact rfl | exact fun _ _ _ => trivial | exact lI | exact LeV.nil _ _ _ | exact lB | refine leBd ?_ | refine leOwn ?_ | refine And.intro ?_ ?_)⟩
  clear hT hu hr
  obtain ⟨n, i, rfl⟩ : ∃ n i, l' = [n, i] := by
    match l', hl1 with
    | [n, i], _ => exact ⟨n, i, rfl⟩
  replace hR : decT (decF n i (rL (rC (b1, e1)).1.toNat (rC (b1, e1)).2 [])) = .tup [r1, I r2] := hR
  have hG := t_GetInt b1 hok1.1 (by have := hok1.2; dsimp only at this; omega)
  obtain ⟨-, w0, w1, -, -, -⟩ := gi_ok hok1.1
  have hr : rC (b1, e1) = if e1 ≠ 0 then (0, b1, e1) else if (gi b1).2.2 ≠ 0 then (0, b1, (gi b1).2.2) else if (gi b1).1 < 0 then (0, b1, 6) else if (gi b1).1 > 1000 then (0, b1, 2) else ((gi b1).1, b1.drop (gi b1).2.1.toNat, 0) := rfl
  obtain ⟨hok2, k0, k1⟩ := rC_ok (s := (b1, e1)) hok1
  generalize rC (b1, e1) = a at *
  obtain ⟨k, b2, e2⟩ := a
  dsimp only at *
  repeat' ((conv => whnf); first | exact trivial | refine nT_ ?_ | refine aE1 ?_ | refine aE0 ?_ | refine aN1 ?_ | refine aN0 ?_ | refine aD1 ?_ | refine aD0 ?_ | refine nE_ (fun hq => ?_) (fun hq => ?_) | refine nN_ (fun hq => ?_) (fun hq => ?_) | refine nD_ (fun hq => ?_) (fun hq => ?_) | refine rb1 ?_ | refine rb0 ?_ | refine rbx ?_ | refine rix ?_ | refine aS ?_ | fail)
  refine wpC_cut (β := Unit) (fun _ => {sl := [(2, .ptr 2 0), (3, .t (I 0)), (4, .ptr 11 0), (6, .ptr 6 0), (7, .t (I k))], bx := [(2, .d 19 z19), (6, .d 19 [I n, I i, .nil, Y 0, Y 0, Y 0, Y 0, Y 0, Y 0, Y 0, Y 0, Y 0, Y 0, Y 0, Y 0, Y 0, Y 0, Y 0, Y 0]), (11, .d 2 [.slice 1 (b2.map Y), I e2])]}) (fun _ => True) ?_ fun _ _ => ?_
  · generalize gi b1 = t at *
    obtain ⟨m, w, f⟩ := t
    dsimp only at *
    by_cases c : e1 = 0
    case neg =>
      rw [if_pos c] at hr
      cases hr
      repeat' ((conv => whnf); first | exact trivial | refine WC_inl mixed Tryd.func61 l61 rfl rfl (rs := [.tmp 2]) rfl 2000 (Nat.le_of_ble_eq_true rfl) ?_ | refine now_N1 c ?_ | refine nT_ ?_ | refine aE1 ?_ | refine aE0 ?_ | refine aN1 ?_ | refine aN0 ?_ | refine aD1 ?_ | refine aD0 ?_ | refine nE_ (fun hq => ?_) (fun hq => ?_) | refine nN_ (fun hq => ?_) (fun hq => ?_) | refine nD_ (fun hq => ?_) (fun hq => ?_) | refine rb1 ?_ | refine rb0 ?_ | refine rbx ?_ | refine rix ?_ | refine aS ?_ | refine ⟨_, rfl, ?_⟩ | fail)
      exact ⟨(), trivial, by repeat' (first | exact trivial | exact LeV.same _ | exact LeB.same _ | exact rfl | exact fun _ _ _ => trivial | exact lI | exact LeV.nil _ _ _ | exact lB | refine leBd ?_ | refine leOwn ?_ | refine And.intro ?_ ?_)⟩
    rw [if_neg (fun h => h c)] at hr
    subst c
    by_cases f0 : f = 0
    case neg =>
      rw [if_pos f0] at hr
      cases hr
      repeat' ((conv => whnf); first | exact trivial | refine WC_inl mixed Tryd.func61 l61 rfl rfl (rs := [.tmp 2]) rfl 2000 (Nat.le_of_ble_eq_true rfl) ?_ | refine k_call _ (hG) ?_ | refine now_N1 f0 ?_ | refine nT_ ?_ | refine aE1 ?_ | refine aE0 ?_ | refine aN1 ?_ | refine aN0 ?_ | refine aD1 ?_ | refine aD0 ?_ | refine nE_ (fun hq => ?_) (fun hq => ?_) | refine nN_ (fun hq => ?_) (fun hq => ?_) | refine nD_ (fun hq => ?_) (fun hq => ?_) | refine rb1 ?_ | refine rb0 ?_ | refine rbx ?_ | refine rix ?_ | refine aS ?_ | refine ⟨_, rfl, ?_⟩ | fail)
      exact ⟨(), trivial, by repeat' (first | exact trivial | exact LeV.same _ | exact LeB.same _ | exact rfl | exact fun _ _ _ => trivial | exact lI | exact LeV.nil _ _ _ | exact lB | refine leBd ?_ | refine leOwn ?_ | refine And.intro ?_ ?_)⟩
    rw [if_neg (fun h => h f0)] at hr
    by_cases m0 : m < 0
    · rw [if_pos m0] at hr
      cases hr
      repeat' ((conv => whnf); first | exact trivial | refine WC_inl mixed Tryd.func61 l61 rfl rfl (rs := [.tmp 2]) rfl 2000 (Nat.le_of_ble_eq_true rfl) ?_ | refine k_call _ (hG) ?_ | refine now_N0 f0 ?_ | refine now_D1 m0 ?_ | refine nT_ ?_ | refine aE1 ?_ | refine aE0 ?_ | refine aN1 ?_ | refine aN0 ?_ | refine aD1 ?_ | refine aD0 ?_ | refine nE_ (fun hq => ?_) (fun hq => ?_) | refine nN_ (fun hq => ?_) (fun hq => ?_) | refine nD_ (fun hq => ?_) (fun hq => ?_) | refine rb1 ?_ | refine rb0 ?_ | refine rbx ?_ | refine rix ?_ | refine aS ?_ | refine ⟨_, rfl, ?_⟩ | fail)
      exact ⟨(), trivial, by repeat' (first | exact trivial | exact LeV.same _ | exact LeB.same _ | exact rfl | exact fun _ _ _ => trivial | exact lI | exact LeV.nil _ _ _ | exact lB | refine leBd ?_ | refine leOwn ?_ | refine And.intro ?_ ?_)⟩
    rw [if_neg m0] at hr
    by_cases m1 : m > 1000
    · rw [if_pos m1] at hr
      cases hr
      repeat' ((conv => whnf); first | exact trivial | refine WC_inl mixed Tryd.func61 l61 rfl rfl (rs := [.tmp 2]) rfl 2000 (Nat.le_of_ble_eq_true rfl) ?_ | refine k_call _ (hG) ?_ | refine now_N0 f0 ?_ | refine now_D0 m0 ?_ | refine now_D1 m1 ?_ | refine nT_ ?_ | refine aE1 ?_ | refine aE0 ?_ | refine aN1 ?_ | refine aN0 ?_ | refine aD1 ?_ | refine aD0 ?_ | refine nE_ (fun hq => ?_) (fun hq => ?_) | refine nN_ (fun hq => ?_) (fun hq => ?_) | refine nD_ (fun hq => ?_) (fun hq => ?_) | refine rb1 ?_ | refine rb0 ?_ | refine rbx ?_ | refine rix ?_ | refine aS ?_ | refine ⟨_, rfl, ?_⟩ | fail)
      exact ⟨(), trivial, by repeat' (first | exact trivial | exact LeV.same _ | exact LeB.same _ | exact rfl | exact fun _ _ _ => trivial | exact lI | exact LeV.nil _ _ _ | exact lB | refine leBd ?_ | refine leOwn ?_ | refine And.intro ?_ ?_)⟩
    rw [if_neg m1] at hr
    cases hr
    have hd2 := sl_drop w0 w1
    have hwl : 0 ≤ w ∧ w ≤ ((b1.map Y).length : Int) ∧ ((b1.map Y).length : Int) ≤ ((b1.map Y).length : Int) := by rw [List.length_map]; omega
    repeat' ((conv => whnf); first | exact trivial | refine WC_inl mixed Tryd.func61 l61 rfl rfl (rs := [.tmp 2]) rfl 2000 (Nat.le_of_ble_eq_true rfl) ?_ | refine k_call _ (hG) ?_ | refine now_N0 f0 ?_ | refine now_D0 m0 ?_ | refine now_D0 m1 ?_ | (refine nv_ (.slice 1 ((b1.drop w.toNat).map Y)) (by first | (exact congrArg (T.slice 1) hd2; done) | fail) ?_) | refine nT_ ?_ | refine aE1 ?_ | refine aE0 ?_ | refine aN1 ?_ | refine aN0 ?_ | refine aD1 ?_ | refine aD0 ?_ | refine nE_ (fun hq => ?_) (fun hq => ?_) | refine nN_ (fun hq => ?_) (fun hq => ?_) | refine nD_ (fun hq => ?_) (fun hq => ?_) | refine rb1 ?_ | refine rb0 ?_ | refine rbx ?_ | refine rix ?_ | (refine And.intro (by first | (exact hwl; done) | fail) ?_) | refine aS ?_ | refine ⟨_, rfl, ?_⟩ | fail)
    exact ⟨(), trivial, by repeat' (first | exact trivial | exact LeV.same _ | exact LeB.same _ | exact rfl | exact fun _ _ _ => trivial | exact lI | exact LeV.nil _ _ _ | exact lB | refine leBd ?_ | refine leOwn ?_ | refine And.intro ?_ ?_)⟩
  clear hG w0 w1 hr hok1
  obtain ⟨k, rfl⟩ := Int.eq_ofNat_of_zero_le k0
  rw [Int.toNat_natCast] at hR
  repeat' ((conv => whnf); first | exact trivial | refine nT_ ?_ | refine aE1 ?_ | refine aE0 ?_ | refine aN1 ?_ | refine aN0 ?_ | refine aD1 ?_ | refine aD0 ?_ | refine nE_ (fun hq => ?_) (fun hq => ?_) | refine nN_ (fun hq => ?_) (fun hq => ?_) | refine nD_ (fun hq => ?_) (fun hq => ?_) | refine rb1 ?_ | refine rb0 ?_ | refine rbx ?_ | refine rix ?_ | refine aS ?_ | fail)
  refine wpC_loopE 0 (α := Nat × List Int × Int × List (List Int)) (β := List Int × Int × List (List Int)) (fun q => {sl := [(2, .ptr 2 0), (3, .t (I 0)), (4, .ptr 11 0), (6, .ptr 6 0), (7, .t (I q.1))], bx := [(2, .d 19 z19), (6, .v (.t (I n) :: .t (I i) :: .own 56 36 8 (q.2.2.2.map ln) :: pvV zero16)), (11, .d 2 [.slice 1 (q.2.1.map Y), I q.2.2.1])]})
    (fun q => q.2.2.2.length + q.1 ≤ 1000 ∧ okRd (q.2.1, q.2.2.1) ∧ rL q.1 (q.2.1, q.2.2.1) q.2.2.2 = rL k (b2, e2) []) (fun q => q.1)
    (fun q => {sl := [(2, .ptr 2 0), (3, .t (I 0)), (4, .ptr 11 0), (6, .ptr 6 0)], bx := [(2, .d 19 z19), (6, .v (.t (I n) :: .t (I i) :: .t (linesT q.2.2) :: pvV zero16)), (11, .d 2 [.slice 1 (q.1.map Y), I q.2.1])]}) (fun q => rL k (b2, e2) [] = (q.2.2, q.1, q.2.1) ∧ okRd (q.1, q.2.1)) (k, b2, e2, []) ⟨by simp; omega, hok2, rfl⟩ ?_ ?_ ?_
  · repeat' (first | (refine LeB.dv _ _ _ ?_) | exact trivial | exact LeV.same _ | exact LeB.same _ | exact rfl | exact fun _ _ _ => trivial | exact lI | exact LeV.nil _ _ _ | exact lB | refine leBd ?_ | refine leOwn ?_ | refine And.intro ?_ ?_)
  · rintro ⟨j, b', e', acc⟩ ⟨hj, hok', ho⟩
    dsimp only at hj hok' ho
    match j, hj, ho with
    | 0, hj, ho =>
      repeat' ((conv => whnf); first | exact trivial | refine now_D0 (by simp) ?_ | refine nT_ ?_ | refine aE1 ?_ | refine aE0 ?_ | refine aN1 ?_ | refine aN0 ?_ | refine aD1 ?_ | refine aD0 ?_ | refine nE_ (fun hq => ?_) (fun hq => ?_) | refine nN_ (fun hq => ?_) (fun hq => ?_) | refine nD_ (fun hq => ?_) (fun hq => ?_) | refine rb1 ?_ | refine rb0 ?_ | refine rbx ?_ | refine rix ?_ | refine aS ?_ | fail)
      exact ⟨(b', e', acc), ⟨ho.symm, hok'⟩, by repeat' (first | (refine LeB.v _ _ ?_) | (exact LeV.data _ _ _ _) | exact trivial | exact LeV.same _ | exact LeB.same _ | exact rfl | exact fun _ _ _ => trivial | exact lI | exact LeV.nil _ _ _ | exact lB | refine leBd ?_ | refine leOwn ?_ | refine And.intro ?_ ?_)⟩
    | j + 1, hj, ho =>
      rw [rL] at ho
      by_cases c : e' = 0
      case neg =>
        rw [if_pos c] at ho
        repeat' ((conv => whnf); first | exact trivial | refine now_D1 (by omega) ?_ | refine now_E0 c ?_ | refine nT_ ?_ | refine aE1 ?_ | refine aE0 ?_ | refine aN1 ?_ | refine aN0 ?_ | refine aD1 ?_ | refine aD0 ?_ | refine nE_ (fun hq => ?_) (fun hq => ?_) | refine nN_ (fun hq => ?_) (fun hq => ?_) | refine nD_ (fun hq => ?_) (fun hq => ?_) | refine rb1 ?_ | refine rb0 ?_ | refine rbx ?_ | refine rix ?_ | refine aS ?_ | fail)
        exact ⟨(b', e', acc), ⟨ho.symm, hok'⟩, by repeat' (first | (refine LeB.v _ _ ?_) | (exact LeV.data _ _ _ _) | exact trivial | exact LeV.same _ | exact LeB.same _ | exact rfl | exact fun _ _ _ => trivial | exact lI | exact LeV.nil _ _ _ | exact lB | refine leBd ?_ | refine leOwn ?_ | refine And.intro ?_ ?_)⟩
      rw [if_neg (fun h => h c)] at ho
      subst c
      have hT := t_GetInts b' hok'.1 hok'.2
      have hu := gints_u hok'.1
      have hr : rI 8 (b', 0) = if (gints b').2.2 ≠ 0 then (List.replicate 8 0, b', (gints b').2.2) else if (gints b').1.length ≠ 8 then (List.replicate 8 0, b', 6) else ((gints b').1, b'.drop (gints b').2.1.toNat, 0) := by rw [rI, if_neg (by simp)]
      obtain ⟨hok1, hl1⟩ := rI_ok (m := 8) hok'
      generalize rI 8 (b', 0) = a at *
      obtain ⟨l', b1, e1⟩ := a
      dsimp only at *
      repeat' ((conv => whnf); first | exact trivial | refine now_D1 (by omega) ?_ | refine nT_ ?_ | refine aE1 ?_ | refine aE0 ?_ | refine aN1 ?_ | refine aN0 ?_ | refine aD1 ?_ | refine aD0 ?_ | refine nE_ (fun hq => ?_) (fun hq => ?_) | refine nN_ (fun hq => ?_) (fun hq => ?_) | refine nD_ (fun hq => ?_) (fun hq => ?_) | refine rb1 ?_ | refine rb0 ?_ | refine rbx ?_ | refine rix ?_ | refine aS ?_ | fail)
      refine wpC_cut (β := Unit) (fun _ => {sl := [(2, .ptr 2 0), (3, .t (I 0)), (4, .ptr 11 0), (6, .ptr 6 0), (7, .t (I (j + 1 : Nat))), (8, .t (.slice 1 (l'.map I)))], bx := [(2, .d 19 z19), (6, .v (.t (I n) :: .t (I i) :: .own 56 36 8 (acc.map ln) :: pvV zero16)), (11, .d 2 [.slice 1 (b1.map Y), I e1])]}) (fun _ => True) ?_ fun _ _ => ?_
      · generalize gints b' = t at *
        obtain ⟨l, u, e⟩ := t
        dsimp only at *
        by_cases e0 : e = 0
        case neg =>
          rw [if_pos e0] at hr
          rw [gsT1 e0] at hT
          cases hr
          repeat' ((conv => whnf); first | exact trivial | refine WC_inl mixed Tryd.func60 l60 rfl rfl (rs := [.tmp 4]) rfl 1000 (Nat.le_of_ble_eq_true rfl) ?_ | refine k_call _ (hT) ?_ | refine now_E0 e0 ?_ | refine nT_ ?_ | refine aE1 ?_ | refine aE0 ?_ | refine aN1 ?_ | refine aN0 ?_ | refine aD1 ?_ | refine aD0 ?_ | refine nE_ (fun hq => ?_) (fun hq => ?_) | refine nN_ (fun hq => ?_) (fun hq => ?_) | refine nD_ (fun hq => ?_) (fun hq => ?_) | refine rb1 ?_ | refine rb0 ?_ | refine rbx ?_ | refine rix ?_ | refine aS ?_ | refine ⟨_, rfl, ?_⟩ | fail)
          exact ⟨(), trivial, by repeat' (first | (exact LeV.conv _ _ [1047] rfl (by simp [Wk.keys])) | exact trivial | exact LeV.same _ | exact LeB.same _ | exact rfl | exact fun _ _ _ => trivial | exact lI | exact LeV.nil _ _ _ | exact lB | refine leBd ?_ | refine leOwn ?_ | refine And.intro ?_ ?_)⟩
        rw [if_neg (fun h => h e0)] at hr
        rw [gsT0 e0] at hT
        obtain ⟨u0, u1⟩ := hu e0
        have hd1 := sl_drop u0 u1
        have hul : 0 ≤ u ∧ u ≤ ((b'.map Y).length : Int) ∧ ((b'.map Y).length : Int) ≤ ((b'.map Y).length : Int) := by rw [List.length_map]; omega
        by_cases l2 : l.length = 8
        case neg =>
          rw [if_pos l2] at hr
          cases hr
          repeat' ((conv => whnf); first | exact trivial | refine WC_inl mixed Tryd.func60 l60 rfl rfl (rs := [.tmp 4]) rfl 1000 (Nat.le_of_ble_eq_true rfl) ?_ | refine k_call _ (hT) ?_ | (refine now_N1 (by simp; omega) ?_) | refine nT_ ?_ | refine aE1 ?_ | refine aE0 ?_ | refine aN1 ?_ | refine aN0 ?_ | refine aD1 ?_ | refine aD0 ?_ | refine nE_ (fun hq => ?_) (fun hq => ?_) | refine nN_ (fun hq => ?_) (fun hq => ?_) | refine nD_ (fun hq => ?_) (fun hq => ?_) | refine rb1 ?_ | refine rb0 ?_ | refine rbx ?_ | refine rix ?_ | refine aS ?_ | refine ⟨_, rfl, ?_⟩ | fail)
          exact ⟨(), trivial, by repeat' (first | (exact LeV.conv _ _ [1047] rfl (by simp [Wk.keys])) | exact trivial | exact LeV.same _ | exact LeB.same _ | exact rfl | exact fun _ _ _ => trivial | exact lI | exact LeV.nil _ _ _ | exact lB | refine leBd ?_ | refine leOwn ?_ | refine And.intro ?_ ?_)⟩
        rw [if_neg (fun h => h l2)] at hr
        cases hr
        repeat' ((conv => whnf); first | exact trivial | refine WC_inl mixed Tryd.func60 l60 rfl rfl (rs := [.tmp 4]) rfl 1000 (Nat.le_of_ble_eq_true rfl) ?_ | refine k_call _ (hT) ?_ | (refine now_N0 (by simp; omega) ?_) | (refine nv_ (.slice 1 ((b'.drop u.toNat).map Y)) (by first | (exact congrArg (T.slice 1) hd1; done) | fail) ?_) | refine nT_ ?_ | refine aE1 ?_ | refine aE0 ?_ | refine aN1 ?_ | refine aN0 ?_ | refine aD1 ?_ | refine aD0 ?_ | refine nE_ (fun hq => ?_) (fun hq => ?_) | refine nN_ (fun hq => ?_) (fun hq => ?_) | refine nD_ (fun hq => ?_) (fun hq => ?_) | refine rb1 ?_ | refine rb0 ?_ | refine rbx ?_ | refine rix ?_ | (refine And.intro (by first | (exact hul; done) | fail) ?_) | refine aS ?_ | refine ⟨_, rfl, ?_⟩ | fail)
        exact ⟨(), trivial, by repeat' (first | exact trivial | exact LeV.same _ | exact LeB.same _ | exact rfl | exact fun _ _ _ => trivial | exact lI | exact LeV.nil _ _ _ | exact lB | refine leBd ?_ | refine leOwn ?_ | refine And.intro ?_ ?_)⟩
      obtain ⟨x0, x1, x2, x3, x4, x5, x6, x7, rfl⟩ := ex8 hl1
      repeat' ((conv => whnf); first | exact trivial | refine nT_ ?_ | refine aE1 ?_ | refine aE0 ?_ | refine aN1 ?_ | refine aN0 ?_ | refine aD1 ?_ | refine aD0 ?_ | refine nE_ (fun hq => ?_) (fun hq => ?_) | refine nN_ (fun hq => ?_) (fun hq => ?_) | refine nD_ (fun hq => ?_) (fun hq => ?_) | refine rb1 ?_ | refine rb0 ?_ | refine rbx ?_ | refine rix ?_ | (refine And.intro (by first | ((simp; omega); done) | fail) ?_) | refine aS ?_ | fail)
      refine ⟨(j, b1, e1, acc ++ [[x0, x1, x2, x3, x4, x5, x6, x7]]), ⟨by simp; omega, hok1, ho⟩, by dsimp only; omega, ?_⟩
      repeat' (first | (refine LeB.v _ _ ?_) | ((refine leOwn ?_; rw [List.map_append]; rfl)) | exact trivial | exact LeV.same _ | exact LeB.same _ | exact rfl | exact fun _ _ _ => trivial | exact lI | exact LeV.nil _ _ _ | exact lB | refine leBd ?_ | refine leOwn ?_ | refine And.intro ?_ ?_)
  rintro ⟨b3, e3, acc⟩ ⟨ho, hok3⟩
  rw [ho, decF] at hR
  clear ho
  dsimp only at hok3 hR
  have hD := t_GetDigests b3 hok3.1 hok3.2
  have hi := gdigs_inv hok3.1
  have hr : rD (b3, e3) = if e3 ≠ 0 then (zero16, b3, e3) else if (gdigs b3).2.2 ≠ 0 then (zero16, b3, (gdigs b3).2.2) else if (gdigs b3).1.length ≠ 1 ∨ (gdigs b3).2.1 ≠ b3.length then (zero16, b3, 6) else ((gdigs b3).1.headD [], b3, 0) := rfl
  obtain ⟨-, hx⟩ := rD_ok (s := (b3, e3)) hok3
  generalize rD (b3, e3) = a at *
  obtain ⟨x, b4, e4⟩ := a
  dsimp only at *
  obtain ⟨x0, x1, x2, x3, x4, x5, x6, x7, x8, x9, x10, x11, x12, x13, x14, x15, rfl⟩ := ex16 hx
  refine wpC_cut (β := Unit) (fun _ => {sl := [(2, .ptr 2 0), (3, .t (I 0)), (4, .ptr 11 0), (6, .ptr 6 0)], bx := [(2, .d 19 z19), (6, .v (.t (I n) :: .t (I i) :: .t (linesT acc) :: pvV [x0, x1, x2, x3, x4, x5, x6, x7, x8, x9, x10, x11, x12, x13, x14, x15])), (11, .d 2 [.slice 1 (b4.map Y), I e4])]}) (fun _ => True) ?_ fun _ _ => ?_
  · generalize gdigs b3 = t at *
    obtain ⟨ds, v, g⟩ := t
    dsimp only at *
    by_cases c : e3 = 0
    case neg =>
      rw [if_pos c] at hr
      cases hr
      repeat' ((conv => whnf); first | exact trivial | refine WC_inlP mixed Tryd.func62 l62 rfl rfl (rs := [.cell 2 49]) rfl 4000 (Nat.le_of_ble_eq_true rfl) ?_ | refine now_N1 c ?_ | refine nT_ ?_ | refine aE1 ?_ | refine aE0 ?_ | refine aN1 ?_ | refine aN0 ?_ | refine aD1 ?_ | refine aD0 ?_ | refine nE_ (fun hq => ?_) (fun hq => ?_) | refine nN_ (fun hq => ?_) (fun hq => ?_) | refine nD_ (fun hq => ?_) (fun hq => ?_) | refine rb1 ?_ | refine rb0 ?_ | refine rbx ?_ | refine rix ?_ | refine aS ?_ | refine ⟨[.t _], ⟨⟨rfl, trivial⟩, trivial⟩, ?_⟩ | fail)
      exact ⟨(), trivial, by repeat' (first | exact trivial | exact LeV.same _ | exact LeB.same _ | exact rfl | exact fun _ _ _ => trivial | exact lI | exact LeV.nil _ _ _ | exact lB | refine leBd ?_ | refine leOwn ?_ | refine And.intro ?_ ?_)⟩
    rw [if_neg (fun h => h c)] at hr
    subst c
    by_cases g0 : g = 0
    case neg =>
      rw [if_pos g0] at hr
      rw [gdT1 g0] at hD
      cases hr
      repeat' ((conv => whnf); first | exact trivial | refine WC_inlP mixed Tryd.func62 l62 rfl rfl (rs := [.cell 2 49]) rfl 4000 (Nat.le_of_ble_eq_true rfl) ?_ | refine k_call _ (hD) ?_ | refine now_E0 g0 ?_ | refine now_N1 g0 ?_ | refine nT_ ?_ | refine aE1 ?_ | refine aE0 ?_ | refine aN1 ?_ | refine aN0 ?_ | refine aD1 ?_ | refine aD0 ?_ | refine nE_ (fun hq => ?_) (fun hq => ?_) | refine nN_ (fun hq => ?_) (fun hq => ?_) | refine nD_ (fun hq => ?_) (fun hq => ?_) | refine rb1 ?_ | refine rb0 ?_ | refine rbx ?_ | refine rix ?_ | refine aS ?_ | refine ⟨[.t _], ⟨⟨rfl, trivial⟩, trivial⟩, ?_⟩ | fail)
      exact ⟨(), trivial, by repeat' (first | exact trivial | exact LeV.same _ | exact LeB.same _ | exact rfl | exact fun _ _ _ => trivial | exact lI | exact LeV.nil _ _ _ | exact lB | refine leBd ?_ | refine leOwn ?_ | refine And.intro ?_ ?_)⟩
    rw [if_neg (fun h => h g0)] at hr
    rw [gdT0 g0] at hD
    obtain ⟨p1, p2, p3⟩ := hi g0
    by_cases d1 : ds.length = 1
    case neg =>
      rw [if_pos (.inl d1)] at hr
      cases hr
      repeat' ((conv => whnf); first | exact trivial | refine WC_inlP mixed Tryd.func62 l62 rfl rfl (rs := [.cell 2 49]) rfl 4000 (Nat.le_of_ble_eq_true rfl) ?_ | refine k_call _ (hD) ?_ | (refine now_N1 (by simp; omega) ?_) | refine nT_ ?_ | refine aE1 ?_ | refine aE0 ?_ | refine aN1 ?_ | refine aN0 ?_ | refine aD1 ?_ | refine aD0 ?_ | refine nE_ (fun hq => ?_) (fun hq => ?_) | refine nN_ (fun hq => ?_) (fun hq => ?_) | refine nD_ (fun hq => ?_) (fun hq => ?_) | refine rb1 ?_ | refine rb0 ?_ | refine rbx ?_ | refine rix ?_ | refine aS ?_ | refine ⟨[.t _], ⟨⟨rfl, trivial⟩, trivial⟩, ?_⟩ | fail)
      exact ⟨(), trivial, by repeat' (first | exact trivial | exact LeV.same _ | exact LeB.same _ | exact rfl | exact fun _ _ _ => trivial | exact lI | exact LeV.nil _ _ _ | exact lB | refine leBd ?_ | refine leOwn ?_ | refine And.intro ?_ ?_)⟩
    obtain ⟨pv, rfl⟩ : ∃ pv, ds = [pv] := by
      match ds, d1 with
      | [pv], _ => exact ⟨pv, rfl⟩
    by_cases d2 : v = b3.length
    case neg =>
      have d2' : v ≠ ((b3.map Y).length : Int) := by rw [List.length_map]; exact d2
      rw [if_pos (.inr d2)] at hr
      cases hr
      repeat' ((conv => whnf); first | exact trivial | refine WC_inlP mixed Tryd.func62 l62 rfl rfl (rs := [.cell 2 49]) rfl 4000 (Nat.le_of_ble_eq_true rfl) ?_ | refine k_call _ (hD) ?_ | refine now_N0 rfl ?_ | refine now_N1 d2' ?_ | refine nT_ ?_ | refine aE1 ?_ | refine aE0 ?_ | refine aN1 ?_ | refine aN0 ?_ | refine aD1 ?_ | refine aD0 ?_ | refine nE_ (fun hq => ?_) (fun hq => ?_) | refine nN_ (fun hq => ?_) (fun hq => ?_) | refine nD_ (fun hq => ?_) (fun hq => ?_) | refine rb1 ?_ | refine rb0 ?_ | refine rbx ?_ | refine rix ?_ | refine aS ?_ | refine ⟨[.t _], ⟨⟨rfl, trivial⟩, trivial⟩, ?_⟩ | fail)
      exact ⟨(), trivial, by repeat' (first | exact trivial | exact LeV.same _ | exact LeB.same _ | exact rfl | exact fun _ _ _ => trivial | exact lI | exact LeV.nil _ _ _ | exact lB | refine leBd ?_ | refine leOwn ?_ | refine And.intro ?_ ?_)⟩
    have d2' : v = ((b3.map Y).length : Int) := by rw [List.length_map]; exact d2
    rw [if_neg (by simp [d2])] at hr
    dsimp only [List.headD] at hr
    cases hr
    repeat' ((conv => whnf); first | exact trivial | refine WC_inlP mixed Tryd.func62 l62 rfl rfl (rs := [.cell 2 49]) rfl 4000 (Nat.le_of_ble_eq_true rfl) ?_ | refine k_call _ (hD) ?_ | refine now_N0 rfl ?_ | refine now_N0 d2' ?_ | refine nT_ ?_ | refine aE1 ?_ | refine aE0 ?_ | refine aN1 ?_ | refine aN0 ?_ | refine aD1 ?_ | refine aD0 ?_ | refine nE_ (fun hq => ?_) (fun hq => ?_) | refine nN_ (fun hq => ?_) (fun hq => ?_) | refine nD_ (fun hq => ?_) (fun hq => ?_) | refine rb1 ?_ | refine rb0 ?_ | refine rbx ?_ | refine rix ?_ | refine aS ?_ | refine ⟨[.t _], ⟨⟨rfl, trivial⟩, trivial⟩, ?_⟩ | fail)
    exact ⟨(), trivial, by repeat' (first | exact trivial | exact LeV.same _ | exact LeB.same _ | exact rfl | exact fun _ _ _ => trivial | exact lI | exact LeV.nil _ _ _ | exact lB | refine leBd ?_ | refine leOwn ?_ | refine And.intro ?_ ?_)⟩
  by_cases c : e4 = 0
  case neg =>
    rw [if_pos c, dec_err c] at hR
    cases hR
    repeat' ((conv => whnf); first | exact trivial | refine now_N1 c ?_ | refine nT_ ?_ | refine aE1 ?_ | refine aE0 ?_ | refine aN1 ?_ | refine aN0 ?_ | refine aD1 ?_ | refine aD0 ?_ | refine nE_ (fun hq => ?_) (fun hq => ?_) | refine nN_ (fun hq => ?_) (fun hq => ?_) | refine nD_ (fun hq => ?_) (fun hq => ?_) | refine rb1 ?_ | refine rb0 ?_ | refine rbx ?_ | refine rix ?_ | refine aS ?_ | fail)
  rw [if_neg (fun h => h c)] at hR
  subst c
  rw [dec_ok] at hR
  cases hR
  repeat' ((conv => whnf); first | exact trivial | refine nT_ ?_ | refine aE1 ?_ | refine aE0 ?_ | refine aN1 ?_ | refine aN0 ?_ | refine aD1 ?_ | refine aD0 ?_ | refine nE_ (fun hq => ?_) (fun hq => ?_) | refine nN_ (fun hq => ?_) (fun hq => ?_) | refine nD_ (fun hq => ?_) (fun hq => ?_) | refine rb1 ?_ | refine rb0 ?_ | refine rbx ?_ | refine rix ?_ | refine aS ?_ | fail)
end Go.RC
end
section
namespace Go.RC
open Go Go.DL Go.Proofs
set_option maxRecDepth 100000
noncomputable def c8 : DCode := (.seq (.region [oo 2 (.box 19 (tm 0)),oo 4 (.mov (.const (.bool false)))] []) (.seq (.seq (.region [oo 12 (.offA 2 (tm 2)),oo 13 (.load 1 false (tm 12)),oo 14 (.len (tm 13)),oo 15 (.bin .gtr (tm 14) (Kc 12)),mv 16 15,mF 17 1 16,oF 18 16 (.len (tm 17)),oF 19 16 (.bin .gtr (tm 18) (Kc 3000)),oo 20 (.pick (tm 16) (.const (.bool true)) (tm 19))] []) (.cond (tm 20) (.seq (.region [oo 21 (.call 11 []),mv 4 21] []) .ret) .skip)) (.seq (.cut (.region [oo 22 (.load 19 true (tm 2)),oo 23 (.call 34 [(tm 22)]),mv 5 23] [])) (.seq (.region [mv 25 5,oo 26 (.call 35 [(tm 25)]),mv 24 26,oo 27 (.ext (tm 24) 0),oo 28 (.ext (tm 24) 1),oo 6 (.alloc [(Zi 0), (Zi 0), .nil, (Ui 0), (Ui 0), (Ui 0), (Ui 0), (Ui 0), (Ui 0), (Ui 0), (Ui 0), (Ui 0), (Ui 0), (Ui 0), (Ui 0), (Ui 0), (Ui 0), (Ui 0), (Ui 0)]),o0 (.store 19 (tm 6) (tm 27)),mv 7 28] []) (.seq (.region [mv 30 1,oo 31 (.call 35 [(tm 30)]),mv 29 31,oo 32 (.ext (tm 29) 0),oo 33 (.ext (tm 29) 1),oo 8 (.alloc [(Zi 0), (Zi 0), .nil, (Ui 0), (Ui 0), (Ui 0), (Ui 0), (Ui 0), (Ui 0), (Ui 0), (Ui 0), (Ui 0), (Ui 0), (Ui 0), (Ui 0), (Ui 0), (Ui 0), (Ui 0), (Ui 0)]),o0 (.store 19 (tm 8) (tm 32)),mv 9 33] []) (.seq (.cut (.region [mv 35 1,oo 36 (.call 36 [(tm 35)]),mv 34 36,oo 37 (.ext (tm 34) 0),oo 38 (.ext (tm 34) 1),oo 10 (.alloc [(Zi 0), (Zi 0), .nil, (Ui 0), (Ui 0), (Ui 0), (Ui 0), (Ui 0), (Ui 0), (Ui 0), (Ui 0), (Ui 0), (Ui 0), (Ui 0), (Ui 0), (Ui 0), (Ui 0), (Ui 0), (Ui 0)]),o0 (.store 19 (tm 10) (tm 37)),mv 11 38] [])) (.seq (.seq (.region [mv 39 5,oo 40 (.load 19 true (tm 2)),oo 41 (.call 38 [(tm 40)]),oo 42 (.call 37 [(tm 39), (tm 41)]),oo 43 (.not (tm 42)),mv 44 43,mF 45 7 44,oF 46 44 (.bin .neq (tm 45) (Kc 0)),oo 47 (.pick (tm 44) (.const (.bool true)) (tm 46)),mv 48 47,oF 49 48 (.load 19 true (tm 6)),oF 50 48 (.load 19 true (tm 2)),oF 51 48 (.call 21 [(tm 49), (tm 50)]),oF 52 48 (.not (tm 51)),oo 53 (.pick (tm 48) (.const (.bool true)) (tm 52)),mv 54 53,oF 55 54 (.load 19 true (tm 8)),oF 56 54 (.load 19 true (tm 10)),oF 57 54 (.call 21 [(tm 55), (tm 56)]),oF 58 54 (.not (tm 57)),oo 59 (.pick (tm 54) (.const (.bool true)) (tm 58)),mv 60 59,mF 61 9 60,mF 62 11 60,oF 63 60 (.bin .neq (tm 61) (tm 62)),oo 64 (.pick (tm 60) (.const (.bool true)) (tm 63)),mv 65 64,oF 66 65 (.load 19 true (tm 2)),oF 67 65 (.call 24 [(tm 66)]),oF 68 65 (.load 19 true (tm 2)),oF 69 65 (.call 39 [(tm 68)]),oF 70 65 (.eqv true [.int .u8, .int .u8, .int .u8, .int .u8, .int .u8, .int .u8, .int .u8, .int .u8, .int .u8, .int .u8, .int .u8, .int .u8, .int .u8, .int .u8, .int .u8, .int .u8] (tm 67) (tm 69)),oo 71 (.pick (tm 65) (.const (.bool true)) (tm 70))] []) (.cond (tm 71) (.seq (.region [oo 4 (.mov (.const (.bool false)))] []) .ret) .skip)) (.seq (.region [oo 72 (.call 11 []),mv 73 72,mT 74 9 73,oT 75 73 (.bin .neq (tm 74) (Kc 0)),mT 76 75 73,oF 77 76 (.load 19 true (tm 8)),oF 78 76 (.call 34 [(tm 77)]),mF 79 1 76,oF 80 76 (.call 37 [(tm 78), (tm 79)]),oT 81 73 (.pick (tm 76) (.const (.bool true)) (tm 80)),oo 82 (.pick (tm 73) (tm 81) (.const (.bool false))),mv 4 82] []) .ret))))))))
theorem l8 : (Tryd.f8.body.bind (lowC Tryd.prog 83 [6000003, 6000006])) = some c8 := by kernel_rfl
end Go.RC
end
section
namespace Go.RC
open Go Go.DL Go.Proofs
set_option maxRecDepth 100000
set_option maxHeartbeats 1000000
theorem t_same01 (a : List Int) : DCalls Tryd.prog 37 [.slice 1 (a.map Y), .slice 1 (a.map Y)] (.bool true) := by
  refine dcalls_low (rs := [.tmp 4]) mixed Tryd.func37 l37 rfl rfl rfl (r := [.bool true]) (Nat.le_of_ble_eq_true rfl) ?_
  repeat' ((conv => whnf); first | exact trivial | refine nb_ true (by simp) ?_ | refine nT_ ?_ | refine aE1 ?_ | refine aE0 ?_ | refine aN1 ?_ | refine aN0 ?_ | refine aD1 ?_ | refine aD0 ?_ | refine nE_ (fun hq => ?_) (fun hq => ?_) | refine nN_ (fun hq => ?_) (fun hq => ?_) | refine nD_ (fun hq => ?_) (fun hq => ?_) | refine rb1 ?_ | refine rb0 ?_ | refine rbx ?_ | refine rix ?_ | (refine And.intro (by first | (exact areU8_Y _; done) | fail) ?_) | refine aS ?_ | fail)
theorem les_z19 : Les (.agg z19) (rcT 0 0 [] zero16) := Les.agg (.cons (Les.refl _) rfl (.cons (Les.refl _) rfl (.cons (Les.nil 8) rfl (lesL_refl _ (mones (fun _ => rfl) zero16)))))
theorem enc_len {n i : Int} {ls : List (List Int)} {pv : List Int} (h : okR n i ls pv) (hl : ls.length < 2 ^ 20) : (enc n i ls pv).length < 2 ^ 40 := by
  have hcl := encL_len h.hx
  have hdl := digs1_len h.hp
  have hel := enc0_len (k := ls.length) h.hn h.hi (by omega)
  unfold enc
  simp only [List.length_append]
  omega
theorem t_Encodes (r : Rc) (b : List Int) (hr : r.ok) (hb : areB b) (hl : b.length < 2 ^ 40) : DCalls Tryd.prog 8 [rc r, .slice 1 (b.map Y)] (.bool true) := by
  refine dcalls_low (rs := [.tmp 4]) mixed Tryd.func8 l8 rfl rfl rfl (r := [.bool true]) (Nat.le_of_ble_eq_true rfl) ?_
  obtain ⟨n, i, ls, pv⟩ := r
  have hlen : (rcC n i ls pv).length = 19 := rc_len hr
  obtain ⟨hr1, hr2⟩ := hr
  dsimp only at hr1 hr2
  by_cases c1 : ls.length > 12
  · repeat' ((conv => whnf); first | exact trivial | (refine now_D1 (by simp; omega) ?_) | refine k_call _ (t_sanity) ?_ | refine nT_ ?_ | refine aE1 ?_ | refine aE0 ?_ | refine aN1 ?_ | refine aN0 ?_ | refine aD1 ?_ | refine aD0 ?_ | refine nE_ (fun hq => ?_) (fun hq => ?_) | refine nN_ (fun hq => ?_) (fun hq => ?_) | refine nD_ (fun hq => ?_) (fun hq => ?_) | refine rb1 ?_ | refine rb0 ?_ | refine rbx ?_ | refine rix ?_ | (refine And.intro (by first | (exact hlen; done) | fail) ?_) | refine aS ?_ | fail)
  by_cases c2 : b.length > 3000
  · repeat' ((conv => whnf); first | exact trivial | (refine now_D0 (by simp; omega) ?_) | (refine now_D1 (by simp; omega) ?_) | refine k_call _ (t_sanity) ?_ | refine nT_ ?_ | refine aE1 ?_ | refine aE0 ?_ | refine aN1 ?_ | refine aN0 ?_ | refine aD1 ?_ | refine aD0 ?_ | refine nE_ (fun hq => ?_) (fun hq => ?_) | refine nN_ (fun hq => ?_) (fun hq => ?_) | refine nD_ (fun hq => ?_) (fun hq => ?_) | refine rb1 ?_ | refine rb0 ?_ | refine rbx ?_ | refine rix ?_ | (refine And.intro (by first | (exact hlen; done) | fail) ?_) | refine aS ?_ | fail)
  have hE := (f_Encode n i ls pv hr1 hr2).dcalls
  have hE2 := (f_refEncode n i ls pv hr1 hr2).dcalls
  have hS1 := t_same01 (enc n i ls pv)
  have hD := t_Decode (enc n i ls pv) (enc_areB hr1.hb) (enc_len hr1 hr2)
  rw [dec_enc hr1 (by omega), dec_ok] at hD
  have hX := t_Decode b hb hl
  have hY := t_refDecode b hb hl
  have hi := dec_inv hb
  have g1 := t_Digest n i ls pv hr1 hr2
  have g2 := t_refDigest n i ls pv hr1 hr2
  have gl := dgR_len n i ls pv
  have hS2 := t_refSame n i ls pv n i ls pv hr1.l8 hr1.l8 (by omega) hr1.hp hr1.hp
  have hs2 : sameB n i ls pv n i ls pv = true := by simp [sameB]
  rw [hs2] at hS2
  generalize dgR n i ls pv = dg at *
  generalize enc n i ls pv = code at *
  generalize dec b = x at *
  obtain ⟨⟨n', i', ls', pv'⟩, f⟩ := x
  have ey : eqL (dg.map Y) (dg.map Y) = true := eqY (by simp)
  by_cases f0 : f = 0
  case neg =>
    rw [dec_err f0] at hX hY
    have hS3 : DCalls Tryd.prog 21 [.agg z19, .agg z19] _ := (t_refSame 0 0 [] zero16 0 0 [] zero16 (by simp) (by simp) (by simp) rfl rfl).lesAll ⟨les_z19, les_z19, trivial⟩
    rw [show sameB 0 0 [] zero16 0 0 [] zero16 = true from rfl] at hS3
    repeat' ((conv => whnf); first | exact trivial | (refine now_D0 (by simp; omega) ?_) | (refine now_D0 (by simp; omega) ?_) | refine k_call _ (hE) ?_ | refine nT_ ?_ | refine aE1 ?_ | refine aE0 ?_ | refine aN1 ?_ | refine aN0 ?_ | refine aD1 ?_ | refine aD0 ?_ | refine nE_ (fun hq => ?_) (fun hq => ?_) | refine nN_ (fun hq => ?_) (fun hq => ?_) | refine nD_ (fun hq => ?_) (fun hq => ?_) | refine rb1 ?_ | refine rb0 ?_ | refine rbx ?_ | refine rix ?_ | (refine And.intro (by first | (exact hlen; done) | fail) ?_) | refine aS ?_ | fail)
    refine wpC_cut (β := Unit) (fun _ => {sl := [(1, .t (.slice 1 (b.map Y))), (2, .ptr 2 0), (5, .t (.slice 1 (code.map Y)))], bx := [(2, .d 19 (rcC n i ls pv))]}) (fun _ => True) ?_ fun _ _ => ?_
    · repeat' ((conv => whnf); first | exact trivial | refine k_call _ (hE) ?_ | refine nT_ ?_ | refine aE1 ?_ | refine aE0 ?_ | refine aN1 ?_ | refine aN0 ?_ | refine aD1 ?_ | refine aD0 ?_ | refine nE_ (fun hq => ?_) (fun hq => ?_) | refine nN_ (fun hq => ?_) (fun hq => ?_) | refine nD_ (fun hq => ?_) (fun hq => ?_) | refine rb1 ?_ | refine rb0 ?_ | refine rbx ?_ | refine rix ?_ | (refine And.intro (by first | (exact hlen; done) | fail) ?_) | refine aS ?_ | fail)
      exact ⟨(), trivial, by repeat' (first | exact trivial | exact LeV.same _ | exact LeB.same _ | exact rfl | exact fun _ _ _ => trivial | exact lI | exact LeV.nil _ _ _ | exact lB | refine leBd ?_ | refine leOwn ?_ | refine And.intro ?_ ?_)⟩
    repeat' ((conv => whnf); first | exact trivial | refine k_call _ (hD) ?_ | refine k_call _ (hX) ?_ | refine nT_ ?_ | refine aE1 ?_ | refine aE0 ?_ | refine aN1 ?_ | refine aN0 ?_ | refine aD1 ?_ | refine aD0 ?_ | refine nE_ (fun hq => ?_) (fun hq => ?_) | refine nN_ (fun hq => ?_) (fun hq => ?_) | refine nD_ (fun hq => ?_) (fun hq => ?_) | refine rb1 ?_ | refine rb0 ?_ | refine rbx ?_ | refine rix ?_ | (refine And.intro (by first | (exact ⟨hlen, Nat.le_of_ble_eq_true rfl⟩; done) | fail) ?_) | refine aS ?_ | fail)
    refine wpC_cut (β := Unit) (fun _ => {sl := [(1, .t (.slice 1 (b.map Y))), (2, .ptr 2 0), (5, .t (.slice 1 (code.map Y))), (6, .ptr 6 0), (7, .t (I 0)), (8, .ptr 8 0), (9, .t (I f)), (10, .ptr 10 0), (11, .t (I f))], bx := [(2, .d 19 (rcC n i ls pv)), (6, .d 19 (rcC n i ls pv)), (8, .d 19 z19), (10, .d 19 z19)]}) (fun _ => True) ?_ fun _ _ => ?_
    · repeat' ((conv => whnf); first | exact trivial | refine k_call _ (hD) ?_ | refine k_call _ (hX) ?_ | refine k_call _ (hY) ?_ | refine nT_ ?_ | refine aE1 ?_ | refine aE0 ?_ | refine aN1 ?_ | refine aN0 ?_ | refine aD1 ?_ | refine aD0 ?_ | refine nE_ (fun hq => ?_) (fun hq => ?_) | refine nN_ (fun hq => ?_) (fun hq => ?_) | refine nD_ (fun hq => ?_) (fun hq => ?_) | refine rb1 ?_ | refine rb0 ?_ | refine rbx ?_ | refine rix ?_ | (refine And.intro (by first | (exact ⟨hlen, Nat.le_of_ble_eq_true rfl⟩; done) | fail) ?_) | refine aS ?_ | fail)
      exact ⟨(), trivial, by repeat' (first | ((refine leBd ?_; exact (putL_all (n := 19) rfl).symm)) | exact trivial | exact LeV.same _ | exact LeB.same _ | exact rfl | exact fun _ _ _ => trivial | exact lI | exact LeV.nil _ _ _ | exact lB | refine leBd ?_ | refine leOwn ?_ | refine And.intro ?_ ?_)⟩
    repeat' ((conv => whnf); first | exact trivial | refine k_call _ (hE2) ?_ | refine k_call _ (hS1) ?_ | refine k_call _ (hS2) ?_ | refine k_call _ (hS3) ?_ | refine now_N0 rfl ?_ | refine k_call _ (g1) ?_ | refine k_call _ (g2) ?_ | refine nb_ false (congrArg (!·) ey) ?_ | refine k_call _ (t_sanity) ?_ | refine now_N1 f0 ?_ | refine nT_ ?_ | refine aE1 ?_ | refine aE0 ?_ | refine aN1 ?_ | refine aN0 ?_ | refine aD1 ?_ | refine aD0 ?_ | refine nE_ (fun hq => ?_) (fun hq => ?_) | refine nN_ (fun hq => ?_) (fun hq => ?_) | refine nD_ (fun hq => ?_) (fun hq => ?_) | refine rb1 ?_ | refine rb0 ?_ | refine rbx ?_ | refine rix ?_ | (refine And.intro (by first | (exact hlen; done) | (exact ⟨fits16 gl, fits16 gl⟩; done) | fail) ?_) | refine aS ?_ | fail)
  subst f0
  rw [dec_ok] at hX hY
  obtain ⟨q1, q2, q3⟩ := hi rfl
  dsimp only at q1 q2 q3
  have q4 : ls'.length < 2 ^ 20 := by omega
  have hlen' : (rcC n' i' ls' pv').length = 19 := rc_len (r := ⟨n', i', ls', pv'⟩) ⟨q2, q4⟩
  have hS3 := t_refSame n' i' ls' pv' n' i' ls' pv' q2.l8 q2.l8 (by omega) q2.hp q2.hp
  rw [show sameB n' i' ls' pv' n' i' ls' pv' = true by simp [sameB]] at hS3
  have hE3 := (f_Encode n' i' ls' pv' q2 q4).dcalls
  rw [q1] at hE3
  have hS4 := t_same01 b
  repeat' ((conv => whnf); first | exact trivial | (refine now_D0 (by simp; omega) ?_) | (refine now_D0 (by simp; omega) ?_) | refine k_call _ (hE) ?_ | refine nT_ ?_ | refine aE1 ?_ | refine aE0 ?_ | refine aN1 ?_ | refine aN0 ?_ | refine aD1 ?_ | refine aD0 ?_ | refine nE_ (fun hq => ?_) (fun hq => ?_) | refine nN_ (fun hq => ?_) (fun hq => ?_) | refine nD_ (fun hq => ?_) (fun hq => ?_) | refine rb1 ?_ | refine rb0 ?_ | refine rbx ?_ | refine rix ?_ | (refine And.intro (by first | (exact hlen; done) | fail) ?_) | refine aS ?_ | fail)
  refine wpC_cut (β := Unit) (fun _ => {sl := [(1, .t (.slice 1 (b.map Y))), (2, .ptr 2 0), (5, .t (.slice 1 (code.map Y)))], bx := [(2, .d 19 (rcC n i ls pv))]}) (fun _ => True) ?_ fun _ _ => ?_
  · repeat' ((conv => whnf); first | exact trivial | refine k_call _ (hE) ?_ | refine nT_ ?_ | refine aE1 ?_ | refine aE0 ?_ | refine aN1 ?_ | refine aN0 ?_ | refine aD1 ?_ | refine aD0 ?_ | refine nE_ (fun hq => ?_) (fun hq => ?_) | refine nN_ (fun hq => ?_) (fun hq => ?_) | refine nD_ (fun hq => ?_) (fun hq => ?_) | refine rb1 ?_ | refine rb0 ?_ | refine rbx ?_ | refine rix ?_ | (refine And.intro (by first | (exact hlen; done) | fail) ?_) | refine aS ?_ | fail)
    exact ⟨(), trivial, by repeat' (first | exact trivial | exact LeV.same _ | exact LeB.same _ | exact rfl | exact fun _ _ _ => trivial | exact lI | exact LeV.nil _ _ _ | exact lB | refine leBd ?_ | refine leOwn ?_ | refine And.intro ?_ ?_)⟩
  repeat' ((conv => whnf); first | exact trivial | refine k_call _ (hD) ?_ | refine k_call _ (hX) ?_ | refine nT_ ?_ | refine aE1 ?_ | refine aE0 ?_ | refine aN1 ?_ | refine aN0 ?_ | refine aD1 ?_ | refine aD0 ?_ | refine nE_ (fun hq => ?_) (fun hq => ?_) | refine nN_ (fun hq => ?_) (fun hq => ?_) | refine nD_ (fun hq => ?_) (fun hq => ?_) | refine rb1 ?_ | refine rb0 ?_ | refine rbx ?_ | refine rix ?_ | (refine And.intro (by first | (exact ⟨hlen, Nat.le_of_ble_eq_true rfl⟩; done) | (exact ⟨hlen', Nat.le_of_ble_eq_true rfl⟩; done) | fail) ?_) | refine aS ?_ | fail)
  refine wpC_cut (β := Unit) (fun _ => {sl := [(1, .t (.slice 1 (b.map Y))), (2, .ptr 2 0), (5, .t (.slice 1 (code.map Y))), (6, .ptr 6 0), (7, .t (I 0)), (8, .ptr 8 0), (9, .t (I 0)), (10, .ptr 10 0), (11, .t (I 0))], bx := [(2, .d 19 (rcC n i ls pv)), (6, .d 19 (rcC n i ls pv)), (8, .d 19 (rcC n' i' ls' pv')), (10, .d 19 (rcC n' i' ls' pv'))]}) (fun _ => True) ?_ fun _ _ => ?_
  · repeat' ((conv => whnf); first | exact trivial | refine k_call _ (hD) ?_ | refine k_call _ (hX) ?_ | refine k_call _ (hY) ?_ | refine nT_ ?_ | refine aE1 ?_ | refine aE0 ?_ | refine aN1 ?_ | refine aN0 ?_ | refine aD1 ?_ | refine aD0 ?_ | refine nE_ (fun hq => ?_) (fun hq => ?_) | refine nN_ (fun hq => ?_) (fun hq => ?_) | refine nD_ (fun hq => ?_) (fun hq => ?_) | refine rb1 ?_ | refine rb0 ?_ | refine rbx ?_ | refine rix ?_ | (refine And.intro (by first | (exact ⟨hlen, Nat.le_of_ble_eq_true rfl⟩; done) | (exact ⟨hlen', Nat.le_of_ble_eq_true rfl⟩; done) | fail) ?_) | refine aS ?_ | fail)
    exact ⟨(), trivial, by repeat' (first | ((refine leBd ?_; exact (putL_all (n := 19) rfl).symm)) | exact trivial | exact LeV.same _ | exact LeB.same _ | exact rfl | exact fun _ _ _ => trivial | exact lI | exact LeV.nil _ _ _ | exact lB | refine leBd ?_ | refine leOwn ?_ | refine And.intro ?_ ?_)⟩
  repeat' ((conv => whnf); first | exact trivial | refine k_call _ (hE2) ?_ | refine k_call _ (hS1) ?_ | refine k_call _ (hS2) ?_ | refine k_call _ (hS3) ?_ | refine now_N0 rfl ?_ | refine k_call _ (g1) ?_ | refine k_call _ (g2) ?_ | refine nb_ false (congrArg (!·) ey) ?_ | refine k_call _ (t_sanity) ?_ | refine k_call _ (hE3) ?_ | refine k_call _ (hS4) ?_ | refine nT_ ?_ | refine aE1 ?_ | refine aE0 ?_ | refine aN1 ?_ | refine aN0 ?_ | refine aD1 ?_ | refine aD0 ?_ | refine nE_ (fun hq => ?_) (fun hq => ?_) | refine nN_ (fun hq => ?_) (fun hq => ?_) | refine nD_ (fun hq => ?_) (fun hq => ?_) | refine rb1 ?_ | refine rb0 ?_ | refine rbx ?_ | refine rix ?_ | (refine And.intro (by first | (exact hlen; done) | (exact hlen'; done) | (exact ⟨fits16 gl, fits16 gl⟩; done) | fail) ?_) | refine aS ?_ | fail)
end Go.RC
end
