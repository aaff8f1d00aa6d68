/- Joined by program: parts of a data level over the model, of the program's functions over it, and of the statement's proof. -/
import Derived.Test.YtedccjcfafejdaaDoorGg
namespace Go.RC
open Go Go.DL Go.Proofs
set_option maxRecDepth 100000
set_option maxHeartbeats 2000000
theorem okFrom_all : ∀ {ls : List (List Int)} {p : Option (List Int)}, okFrom p ls = true → ∀ x ∈ ls, okLn x = true
  | [], _, _, x, hx => by simp at hx
  | y :: ls, p, h, x, hx => by
    rw [okFrom, Bool.and_eq_true] at h
    rcases List.mem_cons.1 hx with rfl | hx
    · have := h.1
      rw [okAt.eq_def, Bool.and_eq_true] at this
      exact this.1
    · exact okFrom_all h.2 x hx
theorem sums_of {l : List Rc} (hr : ∀ r ∈ l, r.ok) (h : ∀ r ∈ l, chkR r = 0) : sumsOk l := fun r hm x hx => by
  have h0 := h r hm
  unfold chkR chk at h0
  by_cases c1 : r.ls.length > 1000
  · rw [if_pos c1] at h0; simp at h0
  rw [if_neg c1] at h0
  by_cases c2 : r.n < 0 ∨ r.n ≥ 200 ∨ r.i < 0 ∨ r.i > 1048576
  · rw [if_pos c2] at h0; simp at h0
  rw [if_neg c2] at h0
  by_cases c3 : okFrom none r.ls = true
  · have h2 := okFrom_all c3 x hx
    simp only [okLn, Bool.and_eq_true, decide_eq_true_eq] at h2
    have h8 := (hr r hm).1.l8 x hx
    exact ⟨by omega, h2.2.2.1, (isSb_ok (by simp [h8])).1 h2.2.2.2⟩
  · rw [if_neg c3] at h0; simp at h0
theorem totS_len {s p f : Int} : ∀ {l : List Rc} {a : Int × List Int}, (∀ r ∈ l, r.ok) → a.2.length = 4 → (totS s p f l a).2.length = 4
  | [], _, _, h => h
  | r :: l, a, hr, h => by
    rw [totS]
    refine totS_len (fun x hx => hr x (by simp [hx])) ?_
    cases hfd : r.ls.find? (isN s p f) with
    | none => exact h
    | some x =>
      have h8 := (hr r (by simp)).1.l8 x (List.mem_of_find?_eq_some hfd)
      simp [sAdd, h, h8]
theorem tt : (!(true == true)) = false := rfl
theorem ff : (!(false == false)) = false := rfl
theorem with19S {f : FuncId} {n i : Int} {ls : List (List Int)} {pv : List Int} {a r : T} (h : DCalls Tryd.prog f [rcT n i ls pv, a] r) : DCalls Tryd.prog f [.agg (putL z19 0 19 (rcC n i ls pv)), a] r := by
  rw [putL_all (n := 19) (cs := z19) rfl]; exact h
theorem t_ChecksAsSpecified (l : List Rc) (g : Rc) (node s p f : Int) (a b : List Int) (ll : l.length < 2 ^ 40) (hr : ∀ r ∈ l, r.ok) (hg : g.ok) (a8 : a.length = 8) (b8 : b.length = 8) (ai : ∀ x ∈ a, i64 x) (bi : ∀ x ∈ b, i64 x) :
    DCalls Tryd.prog 7 [rcs l, rc g, I node, I s, I p, I f, ln a, ln b] (.bool true) := by
  refine dcalls_low (rs := [.tmp 16]) mixed Tryd.func7 l7 rfl rfl rfl (r := [.bool _]) (Nat.le_of_ble_eq_true rfl) ?_
  obtain ⟨gn, gi, gl, gp⟩ := g
  have hglen : (rcC gn gi gl gp).length = 19 := rc_len hg
  have fA := t_Few l 20 ll
  have al : (a.map I).length = 8 := (List.length_map _).trans a8
  have bl : (b.map I).length = 8 := (List.length_map _).trans b8
  cases f1 : few l 20
  case false =>
    rw [f1] at fA
    repeat' ((conv => whnf); first | exact trivial | refine k_call _ (fA) ?_ | refine k_call _ (t_sanity) ?_ | refine nT_ ?_ | refine aE1 ?_ | refine aE0 ?_ | refine aN1 ?_ | refine aN0 ?_ | refine aD1 ?_ | refine aD0 ?_ | refine nE_ (fun hq => ?_) (fun hq => ?_) | refine nN_ (fun hq => ?_) (fun hq => ?_) | refine nD_ (fun hq => ?_) (fun hq => ?_) | refine rb1 ?_ | refine rb0 ?_ | refine rbx ?_ | refine rix ?_ | (refine And.intro (by first | (exact ⟨hglen, al, bl⟩; done) | (exact hglen; done) | (exact al; done) | (exact bl; done) | fail) ?_) | refine aS ?_ | fail)
  rw [f1] at fA
  by_cases hbig : gl.length ≤ 1010
  case neg => repeat' ((conv => whnf); first | exact trivial | refine k_call _ (fA) ?_ | (refine now_D1 (by simp; omega) ?_) | refine k_call _ (t_sanity) ?_ | refine nT_ ?_ | refine aE1 ?_ | refine aE0 ?_ | refine aN1 ?_ | refine aN0 ?_ | refine aD1 ?_ | refine aD0 ?_ | refine nE_ (fun hq => ?_) (fun hq => ?_) | refine nN_ (fun hq => ?_) (fun hq => ?_) | refine nD_ (fun hq => ?_) (fun hq => ?_) | refine rb1 ?_ | refine rb0 ?_ | refine rbx ?_ | refine rix ?_ | (refine And.intro (by first | (exact hglen; done) | (exact al; done) | (exact bl; done) | fail) ?_) | refine aS ?_ | fail)
  obtain ⟨a0, a1, a2, a3, a4, a5, a6, a7, rfl⟩ := ex8 a8
  obtain ⟨b0, b1, b2, b3, b4, b5, b6, b7, rfl⟩ := ex8 b8
  by_cases ha3 : a3 < 0
  case pos => repeat' ((conv => whnf); first | exact trivial | refine k_call _ (fA) ?_ | (refine now_D0 (by simp; omega) ?_) | refine now_D1 ha3 ?_ | refine k_call _ (t_sanity) ?_ | refine nT_ ?_ | refine aE1 ?_ | refine aE0 ?_ | refine aN1 ?_ | refine aN0 ?_ | refine aD1 ?_ | refine aD0 ?_ | refine nE_ (fun hq => ?_) (fun hq => ?_) | refine nN_ (fun hq => ?_) (fun hq => ?_) | refine nD_ (fun hq => ?_) (fun hq => ?_) | refine rb1 ?_ | refine rb0 ?_ | refine rbx ?_ | refine rix ?_ | (refine And.intro (by first | (exact hglen; done) | fail) ?_) | refine aS ?_ | fail)
  by_cases hb3 : b3 < 0
  case pos => repeat' ((conv => whnf); first | exact trivial | refine k_call _ (fA) ?_ | (refine now_D0 (by simp; omega) ?_) | refine now_D0 ha3 ?_ | refine now_D1 hb3 ?_ | refine k_call _ (t_sanity) ?_ | refine nT_ ?_ | refine aE1 ?_ | refine aE0 ?_ | refine aN1 ?_ | refine aN0 ?_ | refine aD1 ?_ | refine aD0 ?_ | refine nE_ (fun hq => ?_) (fun hq => ?_) | refine nN_ (fun hq => ?_) (fun hq => ?_) | refine nD_ (fun hq => ?_) (fun hq => ?_) | refine rb1 ?_ | refine rb0 ?_ | refine rbx ?_ | refine rix ?_ | (refine And.intro (by first | (exact hglen; done) | fail) ?_) | refine aS ?_ | fail)
  have hb1 : ¬ ((gl.map ln).length : Int) > 1010 := by simp; omega
  have vA := t_Verify node l ll hr
  have vB := t_refVerify node l ll hr
  have cA := t_Compare [a0, a1, a2, a3, a4, a5, a6, a7] [b0, b1, b2, b3, b4, b5, b6, b7] rfl rfl ai bi (by show 0 ≤ a3; omega) (by show 0 ≤ b3; omega)
  have cB := t_refCompare [a0, a1, a2, a3, a4, a5, a6, a7] [b0, b1, b2, b3, b4, b5, b6, b7] rfl rfl ai bi (by show 0 ≤ a3; omega) (by show 0 ≤ b3; omega)
  have kA := t_Check gn gi gl gp (by have := hg.2; dsimp only at this; omega) hg.1.l8 hg.1.hp
  have kB := t_refCheck gn gi gl gp (by have := hg.2; dsimp only at this; omega) hg.1.l8 hg.1.hp
  generalize ver node 0 zero16 l = v at vA vB
  generalize cmpL _ _ _ _ = c at cA cB
  generalize chk gn gi gl = kk at kA kB
  obtain ⟨n, e⟩ := v
  obtain ⟨lost, c⟩ := c
  repeat' ((conv => whnf); first | exact trivial | refine k_call _ (fA) ?_ | refine now_D0 hb1 ?_ | refine now_D0 ha3 ?_ | refine now_D0 hb3 ?_ | refine k_call _ (vA) ?_ | refine k_call _ (vB) ?_ | refine k_call _ (cA) ?_ | refine k_call _ (cB) ?_ | refine k_call _ (kA) ?_ | refine k_call _ (kB) ?_ | refine now_N0 rfl ?_ | refine nT_ ?_ | refine aE1 ?_ | refine aE0 ?_ | refine aN1 ?_ | refine aN0 ?_ | refine aD1 ?_ | refine aD0 ?_ | refine nE_ (fun hq => ?_) (fun hq => ?_) | refine nN_ (fun hq => ?_) (fun hq => ?_) | refine nD_ (fun hq => ?_) (fun hq => ?_) | refine rb1 ?_ | refine rb0 ?_ | refine rbx ?_ | refine rix ?_ | (refine And.intro (by first | (exact hglen; done) | fail) ?_) | refine aS ?_ | fail)
  refine wpC_loopE 0 (α := Nat) (β := Unit) (fun k => {sl := [(0, .t (rcs l)), (3, .t (I s)), (4, .t (I p)), (5, .t (I f)), (25, .t (.bool ((l.take k).all fun r => chkR r == 0))), (101, .t (rcs l)), (102, .t (I l.length)), (103, .t (I k))], bx := []})
    (fun k => k ≤ l.length) (fun k => l.length - k) (fun _ => {sl := [(0, .t (rcs l)), (3, .t (I s)), (4, .t (I p)), (5, .t (I f)), (25, .t (.bool (l.all fun r => chkR r == 0)))], bx := []}) (fun _ => True) 0 (by omega) ?_ ?_ ?_
  · repeat' (first | ((refine leI ?_; simp; done)) | exact trivial | exact LeV.same _ | exact LeB.same _ | exact rfl | exact fun _ _ _ => trivial | exact lI | exact LeV.nil _ _ _ | exact lB | refine leBd ?_ | refine leOwn ?_ | refine And.intro ?_ ?_)
  · rintro k hk
    rcases Nat.lt_or_ge k l.length with h2 | h2
    · have h0 : 0 < l.length := by omega
      have hok := hr l[k] (List.getElem_mem h2)
      have hok0 := hr l[0] (List.getElem_mem h0)
      have hxe : l[k]? = some l[k] := List.getElem?_eq_getElem h2
      have hx0 : l[0]? = some l[0] := List.getElem?_eq_getElem h0
      have hta := all_take (p := fun r : Rc => chkR r == 0) (l := l) (i := k) h2
      have htk : ((l.take (k + 1)).all fun r => chkR r == 0) = (((l.take k).all fun r => chkR r == 0) && (chkR l[k] == 0)) := by
        rw [List.take_succ_eq_append_getElem h2, List.all_append]; simp
      generalize l[k] = r at hok hxe hta htk
      generalize l[0] = r' at hok0 hx0
      obtain ⟨n, i, ls, rp⟩ := r
      obtain ⟨n', i', ls', rp'⟩ := r'
      have hlen : (rcC n i ls rp).length = 19 := rc_len hok
      have hlen' : (rcC n' i' ls' rp').length = 19 := rc_len hok0
      have l1 : ls.length < 2 ^ 20 := hok.2
      have hC := with19 (t_Check n i ls rp (by omega) hok.1.l8 hok.1.hp)
      have hD := with19 (t_refCheck n i ls rp (by omega) hok.1.l8 hok.1.hp)
      have hF := with19F (t_Find n i ls rp s p f (by omega) hok.1.l8 hok.1.hp)
      have hG := with19F (t_refFind n i ls rp s p f (by omega) hok.1.l8 hok.1.hp)
      have hf : chk n i ls = chkR ⟨n, i, ls, rp⟩ := rfl
      rw [hf] at hC hD
      generalize chkR ⟨n, i, ls, rp⟩ = e at *
      have hS := with19S <| t_Same n i ls rp n' i' ls' rp' hok.1.l8 hok0.1.l8 (by omega) hok.1.hp hok0.1.hp
      have hT := with19S <| t_refSame n i ls rp n' i' ls' rp' hok.1.l8 hok0.1.l8 (by omega) hok.1.hp hok0.1.hp
      have hU := with19S <| t_Same n i ls rp n i ls rp hok.1.l8 hok.1.l8 (by omega) hok.1.hp hok.1.hp
      rw [show sameB n i ls rp n i ls rp = true by simp [sameB]] at hU
      generalize sameB n i ls rp n' i' ls' rp' = q at hS hT
      obtain ⟨c0, c1, c2, c3, c4, c5, c6, c7, is, hfd⟩ : ∃ c0 c1 c2 c3 c4 c5 c6 c7 is, fnd ls s p f = .tup [ln [c0, c1, c2, c3, c4, c5, c6, c7], .bool is] := by
        unfold fnd
        cases hfd : ls.find? (isN s p f) with
        | none => exact ⟨0, 0, 0, 0, 0, 0, 0, 0, false, rfl⟩
        | some x =>
          obtain ⟨c0, c1, c2, c3, c4, c5, c6, c7, rfl⟩ := ex8 (hok.1.l8 x (List.mem_of_find?_eq_some hfd))
          exact ⟨c0, c1, c2, c3, c4, c5, c6, c7, true, rfl⟩
      rw [hfd] at hF hG
      have fP := fits8 (a := [c0, c1, c2, c3, c4, c5, c6, c7]) rfl
      have eP := neI (a := [c0, c1, c2, c3, c4, c5, c6, c7]) (b := [c0, c1, c2, c3, c4, c5, c6, c7]) (decide_eq_true rfl)
      cases hfm : (l.take k).all fun r => chkR r == 0 with
      | false =>
        have hk1 : ((l.take (k + 1)).all fun r => chkR r == 0) = false := by rw [htk, hfm]; rfl
        cases is <;> cases q <;> repeat' ((conv => whnf); first | exact trivial | (refine nv_ (rcT n i ls rp) (by first | (exact eltRc (r := ⟨n, i, ls, rp⟩) (by simp only [Int.toNat_natCast]; exact hxe); done) | fail) ?_) | (refine nv_ (rcT n' i' ls' rp') (by first | (exact eltRc (r := ⟨n', i', ls', rp'⟩) hx0; done) | fail) ?_) | refine k_call _ (hF) ?_ | refine k_call _ (hG) ?_ | refine k_call _ (hC) ?_ | refine k_call _ (hD) ?_ | refine k_call _ (hS) ?_ | refine k_call _ (hT) ?_ | refine k_call _ (hU) ?_ | refine nb_ (!true) eP ?_ | refine now_N0 rfl ?_ | refine nb_ false tt ?_ | refine nb_ false ff ?_ | refine nT_ ?_ | refine aE1 ?_ | refine aE0 ?_ | refine aN1 ?_ | refine aN0 ?_ | refine aD1 ?_ | refine aD0 ?_ | refine nE_ (fun hq => ?_) (fun hq => ?_) | refine nN_ (fun hq => ?_) (fun hq => ?_) | refine nD_ (fun hq => ?_) (fun hq => ?_) | refine rb1 ?_ | refine rb0 ?_ | refine rbx ?_ | refine rix ?_ | (refine And.intro (by first | (exact ⟨by omega, by simp only [List.length_map]; omega⟩; done) | (exact hlen; done) | (exact hlen'; done) | (exact ⟨hlen, Nat.le_of_ble_eq_true rfl⟩; done) | (exact ⟨fP, fP⟩; done) | fail) ?_) | refine aS ?_ | fail)
        all_goals exact ⟨k + 1, by omega, by omega, by repeat' (first | ((refine leT ?_; exact congrArg T.bool hk1.symm)) | exact trivial | exact LeV.same _ | exact LeB.same _ | exact rfl | exact fun _ _ _ => trivial | exact lI | exact LeV.nil _ _ _ | exact lB | refine leBd ?_ | refine leOwn ?_ | refine And.intro ?_ ?_)⟩
      | true =>
        by_cases e0 : e = 0
        · have hk1 : ((l.take (k + 1)).all fun r => chkR r == 0) = true := by rw [htk, hfm, e0]; rfl
          cases is <;> cases q <;> repeat' ((conv => whnf); first | exact trivial | (refine nv_ (rcT n i ls rp) (by first | (exact eltRc (r := ⟨n, i, ls, rp⟩) (by simp only [Int.toNat_natCast]; exact hxe); done) | fail) ?_) | (refine nv_ (rcT n' i' ls' rp') (by first | (exact eltRc (r := ⟨n', i', ls', rp'⟩) hx0; done) | fail) ?_) | refine k_call _ (hF) ?_ | refine k_call _ (hG) ?_ | refine k_call _ (hC) ?_ | refine k_call _ (hD) ?_ | refine k_call _ (hS) ?_ | refine k_call _ (hT) ?_ | refine k_call _ (hU) ?_ | refine nb_ (!true) eP ?_ | refine now_N0 rfl ?_ | refine nb_ false tt ?_ | refine nb_ false ff ?_ | refine now_E1 e0 ?_ | refine nT_ ?_ | refine aE1 ?_ | refine aE0 ?_ | refine aN1 ?_ | refine aN0 ?_ | refine aD1 ?_ | refine aD0 ?_ | refine nE_ (fun hq => ?_) (fun hq => ?_) | refine nN_ (fun hq => ?_) (fun hq => ?_) | refine nD_ (fun hq => ?_) (fun hq => ?_) | refine rb1 ?_ | refine rb0 ?_ | refine rbx ?_ | refine rix ?_ | (refine And.intro (by first | (exact ⟨by omega, by simp only [List.length_map]; omega⟩; done) | (exact hlen; done) | (exact hlen'; done) | (exact ⟨hlen, Nat.le_of_ble_eq_true rfl⟩; done) | (exact ⟨fP, fP⟩; done) | fail) ?_) | refine aS ?_ | fail)
          all_goals exact ⟨k + 1, by omega, by omega, by repeat' (first | ((refine leT ?_; exact congrArg T.bool hk1.symm)) | exact trivial | exact LeV.same _ | exact LeB.same _ | exact rfl | exact fun _ _ _ => trivial | exact lI | exact LeV.nil _ _ _ | exact lB | refine leBd ?_ | refine leOwn ?_ | refine And.intro ?_ ?_)⟩
        · have hk1 : ((l.take (k + 1)).all fun r => chkR r == 0) = false := by rw [htk, hfm, beq_false_of_ne e0]; rfl
          cases is <;> cases q <;> repeat' ((conv => whnf); first | exact trivial | (refine nv_ (rcT n i ls rp) (by first | (exact eltRc (r := ⟨n, i, ls, rp⟩) (by simp only [Int.toNat_natCast]; exact hxe); done) | fail) ?_) | (refine nv_ (rcT n' i' ls' rp') (by first | (exact eltRc (r := ⟨n', i', ls', rp'⟩) hx0; done) | fail) ?_) | refine k_call _ (hF) ?_ | refine k_call _ (hG) ?_ | refine k_call _ (hC) ?_ | refine k_call _ (hD) ?_ | refine k_call _ (hS) ?_ | refine k_call _ (hT) ?_ | refine k_call _ (hU) ?_ | refine nb_ (!true) eP ?_ | refine now_N0 rfl ?_ | refine nb_ false tt ?_ | refine nb_ false ff ?_ | refine now_E0 e0 ?_ | refine nT_ ?_ | refine aE1 ?_ | refine aE0 ?_ | refine aN1 ?_ | refine aN0 ?_ | refine aD1 ?_ | refine aD0 ?_ | refine nE_ (fun hq => ?_) (fun hq => ?_) | refine nN_ (fun hq => ?_) (fun hq => ?_) | refine nD_ (fun hq => ?_) (fun hq => ?_) | refine rb1 ?_ | refine rb0 ?_ | refine rbx ?_ | refine rix ?_ | (refine And.intro (by first | (exact ⟨by omega, by simp only [List.length_map]; omega⟩; done) | (exact hlen; done) | (exact hlen'; done) | (exact ⟨hlen, Nat.le_of_ble_eq_true rfl⟩; done) | (exact ⟨fP, fP⟩; done) | fail) ?_) | refine aS ?_ | fail)
          all_goals exact ⟨k + 1, by omega, by omega, by repeat' (first | ((refine leT ?_; exact congrArg T.bool hk1.symm)) | exact trivial | exact LeV.same _ | exact LeB.same _ | exact rfl | exact fun _ _ _ => trivial | exact lI | exact LeV.nil _ _ _ | exact lB | refine leBd ?_ | refine leOwn ?_ | refine And.intro ?_ ?_)⟩
    · have : k = l.length := by omega
      subst this
      repeat' ((conv => whnf); first | exact trivial | refine nT_ ?_ | refine aE1 ?_ | refine aE0 ?_ | refine aN1 ?_ | refine aN0 ?_ | refine aD1 ?_ | refine aD0 ?_ | refine nE_ (fun hq => ?_) (fun hq => ?_) | refine nN_ (fun hq => ?_) (fun hq => ?_) | refine nD_ (fun hq => ?_) (fun hq => ?_) | refine rb1 ?_ | refine rb0 ?_ | refine rbx ?_ | refine rix ?_ | refine aS ?_ | fail)
      exact ⟨(), trivial, by repeat' (first | ((rw [List.take_length]; exact LeV.same _)) | exact trivial | exact LeV.same _ | exact LeB.same _ | exact rfl | exact fun _ _ _ => trivial | exact lI | exact LeV.nil _ _ _ | exact lB | refine leBd ?_ | refine leOwn ?_ | refine And.intro ?_ ?_)⟩
  rintro - -
  cases hfm : l.all fun r => chkR r == 0 with
  | false => repeat' ((conv => whnf); first | exact trivial | refine k_call _ (t_sanity) ?_ | refine nT_ ?_ | refine aE1 ?_ | refine aE0 ?_ | refine aN1 ?_ | refine aN0 ?_ | refine aD1 ?_ | refine aD0 ?_ | refine nE_ (fun hq => ?_) (fun hq => ?_) | refine nN_ (fun hq => ?_) (fun hq => ?_) | refine nD_ (fun hq => ?_) (fun hq => ?_) | refine rb1 ?_ | refine rb0 ?_ | refine rbx ?_ | refine rix ?_ | refine aS ?_ | fail)
  | true =>
    have h20 : l.length < 2 ^ 20 := by
      have : (l.length : Int) ≤ 20 := by
        unfold few at f1
        rw [Bool.and_eq_true] at f1
        exact of_decide_eq_true f1.2
      omega
    have hs := sums_of hr fun r hm => by simpa using List.all_eq_true.1 hfm r hm
    have tA := t_Total s p f l h20 hr hs
    have tB := t_refTotal s p f l h20 hr hs
    have tl : (totL s p f l).length = 8 := by
      unfold totL
      simp [totS_len (s := s) (p := p) (f := f) hr (a := (0, [0, 0, 0, 0])) rfl]
    generalize totL s p f l = t at tA tB tl
    repeat' ((conv => whnf); first | exact trivial | refine k_call _ (t_sanity) ?_ | refine k_call _ (tA) ?_ | refine k_call _ (tB) ?_ | refine nb_ true (eqI (decide_eq_true rfl)) ?_ | refine nT_ ?_ | refine aE1 ?_ | refine aE0 ?_ | refine aN1 ?_ | refine aN0 ?_ | refine aD1 ?_ | refine aD0 ?_ | refine nE_ (fun hq => ?_) (fun hq => ?_) | refine nN_ (fun hq => ?_) (fun hq => ?_) | refine nD_ (fun hq => ?_) (fun hq => ?_) | refine rb1 ?_ | refine rb0 ?_ | refine rbx ?_ | refine rix ?_ | (refine And.intro (by first | (exact ⟨fits8 tl, fits8 tl⟩; done) | fail) ?_) | refine aS ?_ | fail)
end Go.RC
