/- Joined by program: parts of a data level over the model, of the program's functions over it, and of the statement's proof. -/
import Derived.Test.YtedccjcfafejdaaDoorGf
import Derived.Test.YtedccjcfafejdaaDoorGd
import Derived.Shelf.SlLaysF0
import Derived.Shelf.SlGeneric
import Derived.Test.YtedccjcfafejdaaDoorProg
import Derived.KernelRfl
section
namespace Go.RC
open Go Go.DL Go.Proofs
set_option maxRecDepth 100000
set_option maxHeartbeats 1000000
structure okR (n i : Int) (ls : List (List Int)) (pv : List Int) : Prop where
  hn : i64 n
  hi : i64 i
  hx : ∀ x ∈ ls, x.length = 8 ∧ ∀ y ∈ x, i64 y
  hp : pv.length = 16
  hb : areB pv
theorem okR.two {n i : Int} {ls : List (List Int)} {pv : List Int} (h : okR n i ls pv) : ∀ x ∈ [n, i], i64 x := fun x hx => by
  rcases List.mem_cons.1 hx with rfl | hx
  · exact h.hn
  · rw [List.mem_singleton.1 hx]; exact h.hi
theorem okR.l8 {n i : Int} {ls : List (List Int)} {pv : List Int} (h : okR n i ls pv) : ∀ x ∈ ls, x.length = 8 := fun x hx => (h.hx x hx).1
def encL (ls : List (List Int)) : List Int := ls.flatMap vis
def enc0 (n i : Int) (k : Nat) : List Int := vis [n, i] ++ vi k
def enc (n i : Int) (ls : List (List Int)) (pv : List Int) : List Int := (enc0 n i ls.length ++ encL ls) ++ digs [pv]
theorem vis8 {x : List Int} (h : x.length = 8 ∧ ∀ y ∈ x, i64 y) : (vis x).length ≤ 90 := by
  have := vis_len h.2 (by omega)
  omega
theorem encL_len {ls : List (List Int)} (h : ∀ x ∈ ls, x.length = 8 ∧ ∀ y ∈ x, i64 y) : (encL ls).length ≤ 90 * ls.length := flat_le vis 90 (fun x hx => vis8 (h x hx))
theorem enc0_len {n i : Int} {k : Nat} (hn : i64 n) (hi : i64 i) (hk : k < 2 ^ 40) : (enc0 n i k).length ≤ 40 := by
  have h1 := vis_len (l := [n, i]) (fun x hx => by simp at hx; rcases hx with rfl | rfl <;> assumption) (Nat.le_of_ble_eq_true rfl)
  have h2 := vi_len (i64_nat (n := k) (by omega))
  unfold enc0
  rw [List.length_append]
  have : [n, i].length = 2 := rfl
  omega
theorem enc_step {ls : List (List Int)} {k : Nat} (h : k < ls.length) : encL (ls.take (k + 1)) = encL (ls.take k) ++ vis ls[k] := flat_take vis h
theorem encL_take {ls : List (List Int)} (h : ∀ x ∈ ls, x.length = 8 ∧ ∀ y ∈ x, i64 y) (k : Nat) : (encL (ls.take k)).length ≤ 90 * ls.length := by
  have h1 := encL_len (ls := ls.take k) (fun x hx => h x (List.mem_of_mem_take hx))
  rw [List.length_take] at h1
  omega
theorem digs1_len {pv : List Int} (h : pv.length = 16) : (digs [pv]).length ≤ 26 := by
  have := vi_len (i64_nat (n := 1) (by decide))
  unfold digs
  rw [List.length_append]
  simp only [List.length_cons, List.length_nil, List.flatten_cons, List.flatten_nil, List.append_nil, h]
  have h2 : (vi ((0 + 1 : Nat) : Int)).length ≤ 10 := this
  omega
theorem f_Encode (n i : Int) (ls : List (List Int)) (pv : List Int) (h : okR n i ls pv) (hl : ls.length < 2 ^ 20) : FCalls Tryd.prog 34 [rcT n i ls pv] 5 1 ((enc n i ls pv).map Y) [] := by
  have hlen : (rcC n i ls pv).length = 19 := by simp [h.hp]
  have h0 := f_Ints [n, i] (Nat.le_of_ble_eq_true rfl) h.two
  have h1 := (f_Int ls.length (i64_nat (by omega))).dcalls
  have hD := (f_Digests [pv] (Nat.le_of_ble_eq_true rfl) (fun x hx => by rw [List.mem_singleton.1 hx]; exact h.hp)).dcalls
  have hLl : (vis [n, i]).length ≤ 30 := vis_len h.two (Nat.le_of_ble_eq_true rfl)
  have hIl := vi_len (i64_nat (n := ls.length) (by omega))
  have hel := enc0_len (k := ls.length) h.hn h.hi (by omega)
  refine fcalls_low (rs := [.tmp 2]) mixed Tryd.func34 l34 rfl rfl rfl (Nat.le_of_ble_eq_true rfl) ?_
  have e0 : (linesT ls).cells = [linesT ls] := rfl
  repeat' ((conv => whnf); first | exact trivial | refine k_fcall (h0) (fun _ => ?_) | refine k_call _ (by simpa using h1) ?_ | refine nT_ ?_ | refine aE1 ?_ | refine aE0 ?_ | refine aN1 ?_ | refine aN0 ?_ | refine aD1 ?_ | refine aD0 ?_ | refine nE_ (fun hq => ?_) (fun hq => ?_) | refine nN_ (fun hq => ?_) (fun hq => ?_) | refine nD_ (fun hq => ?_) (fun hq => ?_) | refine rb1 ?_ | refine rb0 ?_ | refine rbx ?_ | refine rix ?_ | (refine And.intro (by first | (exact hlen; done) | ((simp only [List.length_map]; omega); done) | fail) ?_) | refine aS ?_ | fail)
  refine wpC_loopE 0 (α := Nat × Nat) (β := Nat) (fun q => {sl := [(1, .ptr 1 0), (3, .own q.1 5 1 ((enc0 n i ls.length ++ encL (ls.take q.2)).map Y)), (18, .t (linesT ls)), (19, .t (I ls.length)), (20, .t (I q.2))], bx := [(1, .d 19 (rcC n i ls pv))]})
    (fun q => q.2 ≤ ls.length ∧ (q.1 = 16 ∨ q.1 = 38)) (fun q => ls.length - q.2) (fun q => {sl := [(1, .ptr 1 0), (3, .own q 5 1 ((enc0 n i ls.length ++ encL ls).map Y))], bx := [(1, .d 19 (rcC n i ls pv))]}) (fun q => q = 16 ∨ q = 38) (16, 0) (by simp) ?_ ?_ ?_
  · repeat' (first | ((refine leI ?_; simp; done)) | exact trivial | exact LeV.same _ | exact LeB.same _ | exact rfl | exact fun _ _ _ => trivial | exact lI | exact LeV.nil _ _ _ | exact lB | refine leBd ?_ | refine leOwn ?_ | refine And.intro ?_ ?_)
    simp [enc0, encL]
  · rintro ⟨q, k⟩ ⟨hk, hq0⟩
    dsimp only at hk hq0
    rcases Nat.lt_or_ge k ls.length with h2 | h2
    · have hx8 := h.hx ls[k] (List.getElem_mem h2)
      have hst := enc_step h2
      generalize hxe : ls[k] = x at hx8 hst
      obtain ⟨a, b, c, d, e, f, g, j, rfl⟩ := ex8 hx8.1
      have hv := (f_Ints [a, b, c, d, e, f, g, j] (Nat.le_of_ble_eq_true rfl) hx8.2).dcalls
      have hvl := vis8 hx8
      have htl := encL_take h.hx k
      repeat' ((conv => whnf); first | exact trivial | (refine nv_ (ln [a, b, c, d, e, f, g, j]) (by first | ((simp [h2, hxe]; done); done) | fail) ?_) | refine k_call _ (hv) ?_ | refine nT_ ?_ | refine aE1 ?_ | refine aE0 ?_ | refine aN1 ?_ | refine aN0 ?_ | refine aD1 ?_ | refine aD0 ?_ | refine nE_ (fun hq => ?_) (fun hq => ?_) | refine nN_ (fun hq => ?_) (fun hq => ?_) | refine nD_ (fun hq => ?_) (fun hq => ?_) | refine rb1 ?_ | refine rb0 ?_ | refine rbx ?_ | refine rix ?_ | (refine And.intro (by first | ((simp; omega); done) | (exact ⟨.inl rfl, Nat.le_of_ble_eq_true rfl⟩; done) | ((simp only [List.length_map, List.length_append]; omega); done) | fail) ?_) | refine aS ?_ | fail)
      refine ⟨(38, k + 1), ⟨by dsimp only; omega, .inr rfl⟩, by dsimp only; omega, ?_⟩
      repeat' (first | exact trivial | exact LeV.same _ | exact LeB.same _ | exact rfl | exact fun _ _ _ => trivial | exact lI | exact LeV.nil _ _ _ | exact lB | refine leBd ?_ | refine leOwn ?_ | refine And.intro ?_ ?_)
      rw [hst]
      simp
    · have : k = ls.length := by omega
      subst this
      repeat' ((conv => whnf); first | exact trivial | refine nT_ ?_ | refine aE1 ?_ | refine aE0 ?_ | refine aN1 ?_ | refine aN0 ?_ | refine aD1 ?_ | refine aD0 ?_ | refine nE_ (fun hq => ?_) (fun hq => ?_) | refine nN_ (fun hq => ?_) (fun hq => ?_) | refine nD_ (fun hq => ?_) (fun hq => ?_) | refine rb1 ?_ | refine rb0 ?_ | refine rbx ?_ | refine rix ?_ | refine aS ?_ | fail)
      exact ⟨q, hq0, by repeat' (first | ((refine leOwn ?_; rw [List.take_length]; done)) | exact trivial | exact LeV.same _ | exact LeB.same _ | exact rfl | exact fun _ _ _ => trivial | exact lI | exact LeV.nil _ _ _ | exact lB | refine leBd ?_ | refine leOwn ?_ | refine And.intro ?_ ?_)⟩
  rintro q hq0
  have hcl := encL_len h.hx
  have hdl := digs1_len h.hp
  rcases hq0 with rfl | rfl
  all_goals repeat' ((conv => whnf); first | exact trivial | (refine nv_ (dg16 pv) (by first | (exact aggPv h.hp; done) | fail) ?_) | refine k_call _ (hD) ?_ | refine nT_ ?_ | refine aE1 ?_ | refine aE0 ?_ | refine aN1 ?_ | refine aN0 ?_ | refine aD1 ?_ | refine aD0 ?_ | refine nE_ (fun hq => ?_) (fun hq => ?_) | refine nN_ (fun hq => ?_) (fun hq => ?_) | refine nD_ (fun hq => ?_) (fun hq => ?_) | refine rb1 ?_ | refine rb0 ?_ | refine rbx ?_ | refine rix ?_ | (refine And.intro (by first | (exact hlen; done) | (exact ⟨trivial, (List.length_map _).trans h.hp⟩; done) | ((simp only [List.length_map, List.length_append]; omega); done) | (exact flY _; done) | fail) ?_) | refine aS ?_ | fail)
  all_goals exact ⟨_, rfl, .inl ⟨_, congrArg (V.own _ _ _) (List.map_append ..).symm⟩⟩
theorem f_refEncode (n i : Int) (ls : List (List Int)) (pv : List Int) (h : okR n i ls pv) (hl : ls.length < 2 ^ 20) : FCalls Tryd.prog 38 [rcT n i ls pv] 5 1 ((enc n i ls pv).map Y) [] := by
  have hlen : (rcC n i ls pv).length = 19 := by simp [h.hp]
  have h0 := f_refInts [n, i] (Nat.le_of_ble_eq_true rfl) h.two
  have h1 := (f_refInt ls.length (i64_nat (by omega))).dcalls
  have hD := (f_refDigests [pv] (Nat.le_of_ble_eq_true rfl) (fun x hx => by rw [List.mem_singleton.1 hx]; exact h.hp)).dcalls
  have hLl : (vis [n, i]).length ≤ 30 := vis_len h.two (Nat.le_of_ble_eq_true rfl)
  have hIl := vi_len (i64_nat (n := ls.length) (by omega))
  have hel := enc0_len (k := ls.length) h.hn h.hi (by omega)
  refine fcalls_low (rs := [.tmp 2]) mixed Tryd.func38 l38 rfl rfl rfl (Nat.le_of_ble_eq_true rfl) ?_
  repeat' ((conv => whnf); first | exact trivial | refine WC_own rfl h0 ?_ | refine k_call _ (by simpa using h1) ?_ | refine nT_ ?_ | refine aE1 ?_ | refine aE0 ?_ | refine aN1 ?_ | refine aN0 ?_ | refine aD1 ?_ | refine aD0 ?_ | refine nE_ (fun hq => ?_) (fun hq => ?_) | refine nN_ (fun hq => ?_) (fun hq => ?_) | refine nD_ (fun hq => ?_) (fun hq => ?_) | refine rb1 ?_ | refine rb0 ?_ | refine rbx ?_ | refine rix ?_ | (refine And.intro (by first | (exact hlen; done) | ((simp only [List.length_map]; omega); done) | fail) ?_) | refine aS ?_ | fail)
  refine wpC_loopE 0 (α := Nat × Nat) (β := Nat) (fun q => {sl := [(1, .ptr 1 0), (3, .own q.1 5 1 ((enc0 n i ls.length ++ encL (ls.take q.2)).map Y)), (4, .t (I q.2))], bx := [(1, .d 19 (rcC n i ls pv))]})
    (fun q => q.2 ≤ ls.length ∧ (q.1 = 17 ∨ q.1 = 53)) (fun q => ls.length - q.2) (fun q => {sl := [(1, .ptr 1 0), (3, .own q 5 1 ((enc0 n i ls.length ++ encL ls).map Y))], bx := [(1, .d 19 (rcC n i ls pv))]}) (fun q => q = 17 ∨ q = 53) (17, 0) (by simp) ?_ ?_ ?_
  · repeat' (first | exact trivial | exact LeV.same _ | exact LeB.same _ | exact rfl | exact fun _ _ _ => trivial | exact lI | exact LeV.nil _ _ _ | exact lB | refine leBd ?_ | refine leOwn ?_ | refine And.intro ?_ ?_)
    simp [enc0, encL]
  · rintro ⟨q, k⟩ ⟨hk, hq0⟩
    dsimp only at hk hq0
    rcases Nat.lt_or_ge k ls.length with h2 | h2
    · have hx8 := h.hx ls[k] (List.getElem_mem h2)
      have hst := enc_step h2
      generalize hxe : ls[k] = x at hx8 hst
      obtain ⟨a, b, c, d, e, f, g, j, rfl⟩ := ex8 hx8.1
      have hv := (f_refInts [a, b, c, d, e, f, g, j] (Nat.le_of_ble_eq_true rfl) hx8.2).dcalls
      have hvl := vis8 hx8
      have htl := encL_take h.hx k
      rcases hq0 with rfl | rfl
      all_goals repeat' ((conv => whnf); first | exact trivial | (refine now_D1 (by simp; omega) ?_) | (refine nv_ (ln [a, b, c, d, e, f, g, j]) (by first | ((simp [h2, hxe]; done); done) | fail) ?_) | refine WC_dc (rd := []) rfl hv (.inl rfl) ?_ | refine nT_ ?_ | refine aE1 ?_ | refine aE0 ?_ | refine aN1 ?_ | refine aN0 ?_ | refine aD1 ?_ | refine aD0 ?_ | refine nE_ (fun hq => ?_) (fun hq => ?_) | refine nN_ (fun hq => ?_) (fun hq => ?_) | refine nD_ (fun hq => ?_) (fun hq => ?_) | refine rb1 ?_ | refine rb0 ?_ | refine rbx ?_ | refine rix ?_ | (refine And.intro (by first | ((simp; omega); done) | (exact ⟨.inl rfl, Nat.le_of_ble_eq_true rfl⟩; done) | ((simp only [List.length_map, List.length_append]; omega); done) | fail) ?_) | refine aS ?_ | fail)
      all_goals refine ⟨(53, k + 1), ⟨by dsimp only; omega, .inr rfl⟩, by dsimp only; omega, ?_⟩
      all_goals repeat' (first | exact trivial | exact LeV.same _ | exact LeB.same _ | exact rfl | exact fun _ _ _ => trivial | exact lI | exact LeV.nil _ _ _ | exact lB | refine leBd ?_ | refine leOwn ?_ | refine And.intro ?_ ?_)
      all_goals rw [hst]
      all_goals simp
    · have : k = ls.length := by omega
      subst this
      repeat' ((conv => whnf); first | exact trivial | refine now_D0 (by simp) ?_ | refine nT_ ?_ | refine aE1 ?_ | refine aE0 ?_ | refine aN1 ?_ | refine aN0 ?_ | refine aD1 ?_ | refine aD0 ?_ | refine nE_ (fun hq => ?_) (fun hq => ?_) | refine nN_ (fun hq => ?_) (fun hq => ?_) | refine nD_ (fun hq => ?_) (fun hq => ?_) | refine rb1 ?_ | refine rb0 ?_ | refine rbx ?_ | refine rix ?_ | refine aS ?_ | fail)
      exact ⟨q, hq0, by repeat' (first | ((refine leOwn ?_; rw [List.take_length]; done)) | exact trivial | exact LeV.same _ | exact LeB.same _ | exact rfl | exact fun _ _ _ => trivial | exact lI | exact LeV.nil _ _ _ | exact lB | refine leBd ?_ | refine leOwn ?_ | refine And.intro ?_ ?_)⟩
  rintro q hq0
  have hcl := encL_len h.hx
  have hdl := digs1_len h.hp
  rcases hq0 with rfl | rfl
  all_goals repeat' ((conv => whnf); first | exact trivial | (refine nv_ (dg16 pv) (by first | (exact aggPv h.hp; done) | fail) ?_) | refine k_call _ (hD) ?_ | refine nT_ ?_ | refine aE1 ?_ | refine aE0 ?_ | refine aN1 ?_ | refine aN0 ?_ | refine aD1 ?_ | refine aD0 ?_ | refine nE_ (fun hq => ?_) (fun hq => ?_) | refine nN_ (fun hq => ?_) (fun hq => ?_) | refine nD_ (fun hq => ?_) (fun hq => ?_) | refine rb1 ?_ | refine rb0 ?_ | refine rbx ?_ | refine rix ?_ | (refine And.intro (by first | (exact hlen; done) | (exact ⟨trivial, (List.length_map _).trans h.hp⟩; done) | ((simp only [List.length_map, List.length_append]; omega); done) | (exact flY _; done) | fail) ?_) | refine aS ?_ | fail)
  all_goals exact ⟨_, rfl, .inl ⟨_, congrArg (V.own _ _ _) (List.map_append ..).symm⟩⟩
theorem enc_areB {n i : Int} {ls : List (List Int)} {pv : List Int} (hb : areB pv) : areB (enc n i ls pv) := fun b h => by
  unfold enc enc0 at h
  simp only [List.mem_append] at h
  rcases h with ((h | h) | h) | h
  · exact vis_areB _ b h
  · exact vi_areB _ b h
  · obtain ⟨x, _, hx⟩ := List.mem_flatMap.1 h
    exact vis_areB x b hx
  · unfold digs at h
    rcases List.mem_append.1 h with h | h
    · exact vi_areB _ b h
    · exact hb b (by simpa using h)
def txR (n i : Int) (ls : List (List Int)) (pv : List Int) : ByteArray := strT ((enc n i ls pv).map Y)
def dgR (n i : Int) (ls : List (List Int)) (pv : List Int) : List Int := H (msg 5 [txR n i ls pv])
theorem dgR_len (n i : Int) (ls : List (List Int)) (pv : List Int) : (dgR n i ls pv).length = 16 := H_len _
theorem dgR_areB (n i : Int) (ls : List (List Int)) (pv : List Int) : areB (dgR n i ls pv) := H_areB _
theorem txR_size {n i : Int} {ls : List (List Int)} {pv : List Int} (h : okR n i ls pv) (hl : ls.length < 2 ^ 20) : (txR n i ls pv).size < 2 ^ 33 := by
  rw [← sB_len, txR, sB_strT _ (enc_areB h.hb)]
  have hcl := encL_len h.hx
  have hdl := digs1_len h.hp
  have hel := enc0_len (k := ls.length) h.hn h.hi (by omega)
  unfold enc
  simp only [List.length_append]
  omega
theorem t_Digest (n i : Int) (ls : List (List Int)) (pv : List Int) (h : okR n i ls pv) (hl : ls.length < 2 ^ 20) : DCalls Tryd.prog 24 [rcT n i ls pv] (dg16 (dgR n i ls pv)) := by
  have hlen : (rcC n i ls pv).length = 19 := by simp [h.hp]
  have hE := (f_Encode n i ls pv h hl).dcalls
  have hsz := txR_size h hl
  have hO := t_Of 5 [txR n i ls pv] (fun s hs => by rw [List.mem_singleton.1 hs]; omega) (Nat.le_of_ble_eq_true rfl)
  have hdl : (dgR n i ls pv).length = 16 := dgR_len ..
  refine dcalls_low (rs := [.cell 2 49]) mixed Tryd.func24 l24 rfl rfl rfl (r := [.agg _]) (Nat.le_of_ble_eq_true rfl) ?_
  unfold dgR at *
  generalize H (msg 5 [txR n i ls pv]) = ds at hO hdl
  unfold txR at hO
  repeat' ((conv => whnf); first | exact trivial | refine k_call _ (hE) ?_ | refine k_call _ (hO) ?_ | refine nT_ ?_ | refine aE1 ?_ | refine aE0 ?_ | refine aN1 ?_ | refine aN0 ?_ | refine aD1 ?_ | refine aD0 ?_ | refine nE_ (fun hq => ?_) (fun hq => ?_) | refine nN_ (fun hq => ?_) (fun hq => ?_) | refine nD_ (fun hq => ?_) (fun hq => ?_) | refine rb1 ?_ | refine rb0 ?_ | refine rbx ?_ | refine rix ?_ | (refine And.intro (by first | (exact hlen; done) | (exact areU8_Y _; done) | (exact ⟨(List.length_map _).trans hdl, by decide⟩; done) | fail) ?_) | refine aS ?_ | refine rt ?_ trivial | fail)
  exact congrArg T.agg (putL_all rfl)
theorem t_refDigest (n i : Int) (ls : List (List Int)) (pv : List Int) (h : okR n i ls pv) (hl : ls.length < 2 ^ 20) : DCalls Tryd.prog 39 [rcT n i ls pv] (dg16 (dgR n i ls pv)) := by
  have hlen : (rcC n i ls pv).length = 19 := by simp [h.hp]
  have hE := (f_refEncode n i ls pv h hl).dcalls
  have hsz := txR_size h hl
  have hO := t_refOf 5 [txR n i ls pv] (fun s hs => by rw [List.mem_singleton.1 hs]; omega) (Nat.le_of_ble_eq_true rfl)
  rw [← H_eq _ (msg_areB _ _)] at hO
  have hdl : (dgR n i ls pv).length = 16 := dgR_len ..
  refine dcalls_low (rs := [.cell 2 49]) mixed Tryd.func39 l39 rfl rfl rfl (r := [.agg _]) (Nat.le_of_ble_eq_true rfl) ?_
  unfold dgR at *
  generalize H (msg 5 [txR n i ls pv]) = ds at hO hdl
  unfold txR at hO
  repeat' ((conv => whnf); first | exact trivial | refine k_call _ (hE) ?_ | refine k_call _ (hO) ?_ | refine nT_ ?_ | refine aE1 ?_ | refine aE0 ?_ | refine aN1 ?_ | refine aN0 ?_ | refine aD1 ?_ | refine aD0 ?_ | refine nE_ (fun hq => ?_) (fun hq => ?_) | refine nN_ (fun hq => ?_) (fun hq => ?_) | refine nD_ (fun hq => ?_) (fun hq => ?_) | refine rb1 ?_ | refine rb0 ?_ | refine rbx ?_ | refine rix ?_ | (refine And.intro (by first | (exact hlen; done) | (exact areU8_Y _; done) | (exact ⟨(List.length_map _).trans hdl, by decide⟩; done) | fail) ?_) | refine aS ?_ | refine rt ?_ trivial | fail)
  exact congrArg T.agg (putL_all rfl)
end Go.RC
end
section
namespace Go.RC
open Go Go.DL Go.Proofs
set_option maxRecDepth 100000
set_option maxHeartbeats 1000000
theorem t_key (s p f : Int) : DCalls Tryd.prog 82 [I s, I p, I f] (.bool (rightN s p f)) := by
  refine dcalls_low (rs := [.tmp 6]) mixed Tryd.func82 l82 rfl rfl rfl (r := [.bool _]) (Nat.le_of_ble_eq_true rfl) ?_
  unfold rightN
  repeat' ((conv => whnf); first | exact trivial | refine nD_ (fun hq => ?_) (fun hq => ?_) | refine nE_ (fun hq => ?_) (fun hq => ?_) | refine nT_ ?_ | refine aE1 ?_ | refine aE0 ?_ | refine aN1 ?_ | refine aN0 ?_ | refine aD1 ?_ | refine aD0 ?_ | refine nE_ (fun hq => ?_) (fun hq => ?_) | refine nN_ (fun hq => ?_) (fun hq => ?_) | refine nD_ (fun hq => ?_) (fun hq => ?_) | refine rb1 ?_ | refine rb0 ?_ | refine rbx ?_ | refine rix ?_ | refine aS ?_ | fail)
  all_goals (refine rb ?_ trivial; simp [*] <;> omega)
theorem t_line (x : List Int) (hx : x.length = 8) : DCalls Tryd.prog 53 [ln x] (.bool (okLn x)) := by
  obtain ⟨a, b, c, d, e, f, g, j, rfl⟩ := ex8 hx
  refine dcalls_low (rs := [.tmp 2]) mixed Tryd.func53 l53 rfl rfl rfl (r := [.bool _]) (Nat.le_of_ble_eq_true rfl) ?_
  have hk := t_key a b c
  have hS := t_IsSum [e, f, g, j] rfl
  rw [okLn8]
  cases h1 : rightN a b c with
  | false =>
    rw [h1] at hk
    repeat' ((conv => whnf); first | exact trivial | refine k_call _ (hk) ?_ | refine k_call _ (hS) ?_ | refine nT_ ?_ | refine aE1 ?_ | refine aE0 ?_ | refine aN1 ?_ | refine aN0 ?_ | refine aD1 ?_ | refine aD0 ?_ | refine nE_ (fun hq => ?_) (fun hq => ?_) | refine nN_ (fun hq => ?_) (fun hq => ?_) | refine nD_ (fun hq => ?_) (fun hq => ?_) | refine rb1 ?_ | refine rb0 ?_ | refine rbx ?_ | refine rix ?_ | refine aS ?_ | fail)
  | true =>
    rw [h1] at hk
    cases h2 : isSb [e, f, g, j] with
    | false =>
      rw [h2] at hS
      repeat' ((conv => whnf); first | exact trivial | refine k_call _ (hk) ?_ | refine k_call _ (hS) ?_ | refine nT_ ?_ | refine aE1 ?_ | refine aE0 ?_ | refine aN1 ?_ | refine aN0 ?_ | refine aD1 ?_ | refine aD0 ?_ | refine nE_ (fun hq => ?_) (fun hq => ?_) | refine nN_ (fun hq => ?_) (fun hq => ?_) | refine nD_ (fun hq => ?_) (fun hq => ?_) | refine rb1 ?_ | refine rb0 ?_ | refine rbx ?_ | refine rix ?_ | refine aS ?_ | fail)
    | true =>
      rw [h2] at hS
      repeat' ((conv => whnf); first | exact trivial | refine k_call _ (hk) ?_ | refine k_call _ (hS) ?_ | refine nD_ (fun hq => ?_) (fun hq => ?_) | refine nT_ ?_ | refine aE1 ?_ | refine aE0 ?_ | refine aN1 ?_ | refine aN0 ?_ | refine aD1 ?_ | refine aD0 ?_ | refine nE_ (fun hq => ?_) (fun hq => ?_) | refine nN_ (fun hq => ?_) (fun hq => ?_) | refine nD_ (fun hq => ?_) (fun hq => ?_) | refine rb1 ?_ | refine rb0 ?_ | refine rbx ?_ | refine rix ?_ | refine aS ?_ | fail)
      all_goals (refine rb ?_ trivial; simp [*] <;> omega)
theorem cmpN_lt (a b : N3) : (cmpN a b < 0) ↔ (a.1 < b.1 ∨ a.1 = b.1 ∧ (a.2.1 < b.2.1 ∨ a.2.1 = b.2.1 ∧ a.2.2 < b.2.2)) := by
  simp only [cmpN, orI, cmpI]
  repeat' split
  all_goals omega
theorem t_before (x y : List Int) (hx : x.length = 8) (hy : y.length = 8) : DCalls Tryd.prog 54 [ln x, ln y] (.bool (decide (cmpN (nmOf x) (nmOf y) < 0))) := by
  obtain ⟨a, b, c, d, e, f, g, j, rfl⟩ := ex8 hx
  obtain ⟨a', b', c', d', e', f', g', j', rfl⟩ := ex8 hy
  refine dcalls_low (rs := [.tmp 4]) mixed Tryd.func54 l54 rfl rfl rfl (r := [.bool _]) (Nat.le_of_ble_eq_true rfl) ?_
  have h0 : decide (cmpN (nmOf [a, b, c, d, e, f, g, j]) (nmOf [a', b', c', d', e', f', g', j']) < 0) = decide (a < a' ∨ a = a' ∧ (b < b' ∨ b = b' ∧ c < c')) := decide_eq_decide.2 (cmpN_lt _ _)
  rw [h0]
  repeat' ((conv => whnf); first | exact trivial | refine nD_ (fun hq => ?_) (fun hq => ?_) | refine nT_ ?_ | refine aE1 ?_ | refine aE0 ?_ | refine aN1 ?_ | refine aN0 ?_ | refine aD1 ?_ | refine aD0 ?_ | refine nE_ (fun hq => ?_) (fun hq => ?_) | refine nN_ (fun hq => ?_) (fun hq => ?_) | refine nD_ (fun hq => ?_) (fun hq => ?_) | refine rb1 ?_ | refine rb0 ?_ | refine rbx ?_ | refine rix ?_ | refine aS ?_ | fail)
  all_goals (refine rb ?_ trivial; simp only [true_eq_decide_iff, false_eq_decide_iff]; omega)
theorem t_refCheck (n i : Int) (ls : List (List Int)) (pv : List Int) (hl : ls.length < 2 ^ 40) (hx : ∀ x ∈ ls, x.length = 8) (hp : pv.length = 16) : DCalls Tryd.prog 29 [rcT n i ls pv] (I (chk n i ls)) := by
  refine dcalls_low (rs := [.tmp 2]) mixed Tryd.func29 l29 rfl rfl rfl (r := [I _]) (Nat.le_of_ble_eq_true rfl) ?_
  have hlen : (rcC n i ls pv).length = 19 := by simp [hp]
  unfold chk
  by_cases h1 : ls.length > 1000
  · rw [if_pos h1]
    repeat' ((conv => whnf); first | exact trivial | (refine now_D1 (by simp; omega) ?_) | refine nT_ ?_ | refine aE1 ?_ | refine aE0 ?_ | refine aN1 ?_ | refine aN0 ?_ | refine aD1 ?_ | refine aD0 ?_ | refine nE_ (fun hq => ?_) (fun hq => ?_) | refine nN_ (fun hq => ?_) (fun hq => ?_) | refine nD_ (fun hq => ?_) (fun hq => ?_) | refine rb1 ?_ | refine rb0 ?_ | refine rbx ?_ | refine rix ?_ | (refine And.intro (by first | (exact hlen; done) | fail) ?_) | refine aS ?_ | fail)
  rw [if_neg h1]
  by_cases h2 : n < 0 ∨ n ≥ 200 ∨ i < 0 ∨ i > 1048576
  · rw [if_pos h2]
    repeat' ((conv => whnf); first | exact trivial | (refine now_D0 (by simp; omega) ?_) | refine nT_ ?_ | refine aE1 ?_ | refine aE0 ?_ | refine aN1 ?_ | refine aN0 ?_ | refine aD1 ?_ | refine aD0 ?_ | refine nE_ (fun hq => ?_) (fun hq => ?_) | refine nN_ (fun hq => ?_) (fun hq => ?_) | refine nD_ (fun hq => ?_) (fun hq => ?_) | refine rb1 ?_ | refine rb0 ?_ | refine rbx ?_ | refine rix ?_ | (refine And.intro (by first | (exact hlen; done) | fail) ?_) | refine aS ?_ | fail)
    all_goals omega
  rw [if_neg h2]
  repeat' ((conv => whnf); first | exact trivial | (refine now_D0 (by simp; omega) ?_) | refine nT_ ?_ | refine aE1 ?_ | refine aE0 ?_ | refine aN1 ?_ | refine aN0 ?_ | refine aD1 ?_ | refine aD0 ?_ | refine nE_ (fun hq => ?_) (fun hq => ?_) | refine nN_ (fun hq => ?_) (fun hq => ?_) | refine nD_ (fun hq => ?_) (fun hq => ?_) | refine rb1 ?_ | refine rb0 ?_ | refine rbx ?_ | refine rix ?_ | (refine And.intro (by first | (exact hlen; done) | fail) ?_) | refine aS ?_ | fail)
  refine wpC_loopE 0 (α := Nat) (β := Unit) (fun k => {sl := [(1, .ptr 1 0), (3, .t (I k))], bx := [(1, .d 19 (rcC n i ls pv))]})
    (fun k => k ≤ ls.length ∧ okFrom (prevAt ls k) (ls.drop k) = okFrom none ls) (fun k => ls.length - k) (fun _ => {sl := [], bx := []}) (fun _ => okFrom none ls = true) 0 ⟨by omega, rfl⟩ ?_ ?_ ?_
  · repeat' (first | exact trivial | exact LeV.same _ | exact LeB.same _ | exact rfl | exact fun _ _ _ => trivial | exact lI | exact LeV.nil _ _ _ | exact lB | refine leBd ?_ | refine leOwn ?_ | refine And.intro ?_ ?_)
  · rintro k ⟨hk, ho⟩
    rcases Nat.lt_or_ge k ls.length with h3 | h3
    · rw [okFrom_drop h3] at ho
      have hgo : okAt (prevAt ls k) ls[k] = true → okFrom (prevAt ls (k + 1)) (ls.drop (k + 1)) = okFrom none ls := fun h => by rw [h] at ho; exact ho
      have hno : okAt (prevAt ls k) ls[k] = false → (1 : Int) = if okFrom none ls = true then (0 : Int) else 1 := fun h => by rw [← ho, h]; rfl
      have hx8 := hx ls[k] (List.getElem_mem h3)
      have hL := t_line ls[k] hx8
      generalize hxe : ls[k] = x at hgo hno hx8 hL
      cases h4 : okLn x with
      | false =>
        rw [h4] at hL
        have hf := hno (by unfold okAt; rw [h4]; rfl)
        repeat' ((conv => whnf); first | exact trivial | (refine now_D1 (by simp; omega) ?_) | (refine nv_ (ln x) (by first | (exact aggLn (by simp [h3, hxe]; done); done) | fail) ?_) | refine k_call _ (hL) ?_ | refine nT_ ?_ | refine aE1 ?_ | refine aE0 ?_ | refine aN1 ?_ | refine aN0 ?_ | refine aD1 ?_ | refine aD0 ?_ | refine nE_ (fun hq => ?_) (fun hq => ?_) | refine nN_ (fun hq => ?_) (fun hq => ?_) | refine nD_ (fun hq => ?_) (fun hq => ?_) | refine rb1 ?_ | refine rb0 ?_ | refine rbx ?_ | refine rix ?_ | (refine And.intro (by first | ((simp; omega); done) | (exact cells8 hx (by simp only [Int.toNat_natCast]; omega); done) | fail) ?_) | refine aS ?_ | (exact ri hf trivial) | fail)
      | true =>
        rw [h4] at hL
        by_cases h8 : 0 < k
        · have hp8 := hx ls[k - 1] (List.getElem_mem (by omega))
          have hB := t_before ls[k - 1] x hp8 hx8
          have hp3 : prevAt ls k = some ls[k - 1] := by
            obtain ⟨k, rfl⟩ : ∃ j, k = j + 1 := ⟨k - 1, by omega⟩
            exact List.getElem?_eq_getElem _
          have e1 : okAt (prevAt ls k) x = decide (cmpN (nmOf ls[k - 1]) (nmOf x) < 0) := by rw [hp3]; unfold okAt; rw [h4]; rfl
          rw [e1] at hno hgo
          generalize hpe : ls[k - 1] = p at hB hno hgo
          have e2 : (IntKind.i64.wrap ((k : Int) - 1)).toNat = k - 1 := by simp (disch := omega) only [wrap_id, w32, w8, w64]; omega
          have e3 : IntKind.i64.wrap ((k : Int) - 1) = k - 1 := by simp (disch := omega) only [wrap_id, w32, w8, w64]
          cases h9 : decide (cmpN (nmOf p) (nmOf x) < 0) with
          | true =>
            rw [h9] at hB
            repeat' ((conv => whnf); first | exact trivial | (refine now_D1 (by simp; omega) ?_) | (refine nv_ (ln x) (by first | (exact aggLn (by simp [h3, hxe]; done); done) | fail) ?_) | (refine nv_ (ln p) (by first | (exact aggLn (by rw [e2]; simp [hpe, show k - 1 < ls.length by omega]; done); done) | fail) ?_) | refine k_call _ (hL) ?_ | refine k_call _ (hB) ?_ | refine nT_ ?_ | refine aE1 ?_ | refine aE0 ?_ | refine aN1 ?_ | refine aN0 ?_ | refine aD1 ?_ | refine aD0 ?_ | refine nE_ (fun hq => ?_) (fun hq => ?_) | refine nN_ (fun hq => ?_) (fun hq => ?_) | refine nD_ (fun hq => ?_) (fun hq => ?_) | refine rb1 ?_ | refine rb0 ?_ | refine rbx ?_ | refine rix ?_ | (refine And.intro (by first | ((simp; omega); done) | ((rw [e3]; simp; omega); done) | (exact cells8 hx (by simp only [Int.toNat_natCast]; omega); done) | (exact cells8 hx (by rw [e2]; omega); done) | fail) ?_) | refine aS ?_ | fail)
            exact ⟨k + 1, ⟨by omega, hgo h9⟩, by omega, by repeat' (first | exact trivial | exact LeV.same _ | exact LeB.same _ | exact rfl | exact fun _ _ _ => trivial | exact lI | exact LeV.nil _ _ _ | exact lB | refine leBd ?_ | refine leOwn ?_ | refine And.intro ?_ ?_)⟩
          | false =>
            rw [h9] at hB
            have hf := hno h9
            repeat' ((conv => whnf); first | exact trivial | (refine now_D1 (by simp; omega) ?_) | (refine nv_ (ln x) (by first | (exact aggLn (by simp [h3, hxe]; done); done) | fail) ?_) | (refine nv_ (ln p) (by first | (exact aggLn (by rw [e2]; simp [hpe, show k - 1 < ls.length by omega]; done); done) | fail) ?_) | refine k_call _ (hL) ?_ | refine k_call _ (hB) ?_ | refine nT_ ?_ | refine aE1 ?_ | refine aE0 ?_ | refine aN1 ?_ | refine aN0 ?_ | refine aD1 ?_ | refine aD0 ?_ | refine nE_ (fun hq => ?_) (fun hq => ?_) | refine nN_ (fun hq => ?_) (fun hq => ?_) | refine nD_ (fun hq => ?_) (fun hq => ?_) | refine rb1 ?_ | refine rb0 ?_ | refine rbx ?_ | refine rix ?_ | (refine And.intro (by first | ((simp; omega); done) | ((rw [e3]; simp; omega); done) | (exact cells8 hx (by simp only [Int.toNat_natCast]; omega); done) | (exact cells8 hx (by rw [e2]; omega); done) | fail) ?_) | refine aS ?_ | (exact ri hf trivial) | fail)
        · have : k = 0 := by omega
          subst this
          repeat' ((conv => whnf); first | exact trivial | (refine now_D1 (by simp; omega) ?_) | (refine nv_ (ln x) (by first | (exact aggLn (by simp [h3, hxe]; done); done) | fail) ?_) | refine k_call _ (hL) ?_ | refine nT_ ?_ | refine aE1 ?_ | refine aE0 ?_ | refine aN1 ?_ | refine aN0 ?_ | refine aD1 ?_ | refine aD0 ?_ | refine nE_ (fun hq => ?_) (fun hq => ?_) | refine nN_ (fun hq => ?_) (fun hq => ?_) | refine nD_ (fun hq => ?_) (fun hq => ?_) | refine rb1 ?_ | refine rb0 ?_ | refine rbx ?_ | refine rix ?_ | (refine And.intro (by first | ((simp; omega); done) | (exact cells8 hx (by simp only [Int.toNat_natCast]; omega); done) | fail) ?_) | refine aS ?_ | fail)
          exact ⟨0 + 1, ⟨by omega, hgo (by unfold okAt; rw [h4]; rfl)⟩, by omega, by repeat' (first | exact trivial | exact LeV.same _ | exact LeB.same _ | exact rfl | exact fun _ _ _ => trivial | exact lI | exact LeV.nil _ _ _ | exact lB | refine leBd ?_ | refine leOwn ?_ | refine And.intro ?_ ?_)⟩
    · have : k = ls.length := by omega
      subst this
      rw [List.drop_length] at ho
      repeat' ((conv => whnf); first | exact trivial | refine now_D0 (by simp) ?_ | refine nT_ ?_ | refine aE1 ?_ | refine aE0 ?_ | refine aN1 ?_ | refine aN0 ?_ | refine aD1 ?_ | refine aD0 ?_ | refine nE_ (fun hq => ?_) (fun hq => ?_) | refine nN_ (fun hq => ?_) (fun hq => ?_) | refine nD_ (fun hq => ?_) (fun hq => ?_) | refine rb1 ?_ | refine rb0 ?_ | refine rbx ?_ | refine rix ?_ | refine aS ?_ | fail)
      exact ⟨(), ho.symm, by repeat' (first | exact trivial | exact LeV.same _ | exact LeB.same _ | exact rfl | exact fun _ _ _ => trivial | exact lI | exact LeV.nil _ _ _ | exact lB | refine leBd ?_ | refine leOwn ?_ | refine And.intro ?_ ?_)⟩
  rintro - hr
  rw [hr]
  repeat' ((conv => whnf); first | exact trivial | refine nT_ ?_ | refine aE1 ?_ | refine aE0 ?_ | refine aN1 ?_ | refine aN0 ?_ | refine aD1 ?_ | refine aD0 ?_ | refine nE_ (fun hq => ?_) (fun hq => ?_) | refine nN_ (fun hq => ?_) (fun hq => ?_) | refine nD_ (fun hq => ?_) (fun hq => ?_) | refine rb1 ?_ | refine rb0 ?_ | refine rbx ?_ | refine rix ?_ | refine aS ?_ | fail)
end Go.RC
end
section
namespace Go.RC
open Go Go.DL Go.Proofs
set_option maxRecDepth 100000
set_option maxHeartbeats 1000000
def isN (s p f : Int) (x : List Int) : Bool := x.getD 0 0 == s && (x.getD 1 0 == p && x.getD 2 0 == f)
theorem ixP_find {α : Type} (p : α → Bool) : ∀ (l : List α) (i : Int), 0 ≤ i → (ixP p l i = -1 ∧ l.find? p = none) ∨ (∃ (k : Nat) (x : α), ixP p l i = i + k ∧ l[k]? = some x ∧ k < l.length ∧ l.find? p = some x)
  | [], _, _ => .inl ⟨rfl, rfl⟩
  | x :: l, i, h => by
    unfold ixP
    rw [List.find?_cons]
    cases hp : p x with
    | true => exact .inr ⟨0, x, by simp, rfl, by simp, rfl⟩
    | false =>
      simp only [Bool.false_eq_true, if_false]
      rcases ixP_find p l (i + 1) (by omega) with ⟨h1, h2⟩ | ⟨k, y, h1, h2, h3, h4⟩
      · exact .inl ⟨h1, h2⟩
      · exact .inr ⟨k + 1, y, by rw [h1]; omega, h2, by simp; omega, h4⟩
theorem t_IndexLine (f : FuncId) (p : List Int → Bool) (c1 c2 c3 : T) (l : List (List Int)) (hl : l.length < 2 ^ 60) (h8 : ∀ x ∈ l, x.length = 8) (hf : ∀ x ∈ l, DCalls Tryd.prog f [ln x, c1, c2, c3] (.bool (p x))) : DCalls Tryd.prog 55 [.slice 8 (l.map ln), .clos f [c1, c2, c3]] (I (ixP p l 0)) := by
  refine dcalls_low (rs := [.tmp 4]) mixed Tryd.func55 l55 rfl rfl rfl (r := [I _]) (Nat.le_of_ble_eq_true rfl) ?_
  repeat' ((conv => whnf); first | exact trivial | refine nT_ ?_ | refine aE1 ?_ | refine aE0 ?_ | refine aN1 ?_ | refine aN0 ?_ | refine aD1 ?_ | refine aD0 ?_ | refine nE_ (fun hq => ?_) (fun hq => ?_) | refine nN_ (fun hq => ?_) (fun hq => ?_) | refine nD_ (fun hq => ?_) (fun hq => ?_) | refine rb1 ?_ | refine rb0 ?_ | refine rbx ?_ | refine rix ?_ | refine aS ?_ | fail)
  refine wpC_loopE 0 (α := Nat) (β := Unit) (fun i => {sl := [(0, .t (.slice 8 (l.map ln))), (1, .t (.clos f [c1, c2, c3])), (7, .t (I l.length)), (8, .t (I i))], bx := []})
    (fun i => i ≤ l.length ∧ ixP p (l.drop i) i = ixP p l 0) (fun i => l.length - i) (fun _ => {sl := [], bx := []}) (fun _ => ixP p l 0 = -1) 0 ⟨by omega, rfl⟩ ?_ ?_ ?_
  · repeat' (first | ((refine leI ?_; simp; done)) | exact trivial | exact LeV.same _ | exact LeB.same _ | exact rfl | exact fun _ _ _ => trivial | exact lI | exact LeV.nil _ _ _ | exact lB | refine leBd ?_ | refine leOwn ?_ | refine And.intro ?_ ?_)
  · rintro i ⟨hi, ho⟩
    rcases Nat.lt_or_ge i l.length with h2 | h2
    · rw [ixP_drop p h2] at ho
      have hc := hf l[i] (List.getElem_mem h2)
      generalize hxe : l[i] = x at ho hc
      cases hp : p x with
      | true =>
        rw [hp, if_pos rfl] at ho
        rw [hp] at hc
        repeat' ((conv => whnf); first | exact trivial | (refine nv_ (ln x) (by first | (exact aggLn (by simp [h2, hxe]; done); done) | fail) ?_) | refine k_call _ (hc) ?_ | refine nT_ ?_ | refine aE1 ?_ | refine aE0 ?_ | refine aN1 ?_ | refine aN0 ?_ | refine aD1 ?_ | refine aD0 ?_ | refine nE_ (fun hq => ?_) (fun hq => ?_) | refine nN_ (fun hq => ?_) (fun hq => ?_) | refine nD_ (fun hq => ?_) (fun hq => ?_) | refine rb1 ?_ | refine rb0 ?_ | refine rbx ?_ | refine rix ?_ | (refine And.intro (by first | ((simp; omega); done) | (exact cells8 h8 (by simp only [Int.toNat_natCast]; omega); done) | fail) ?_) | refine aS ?_ | fail)
      | false =>
        rw [hp, if_neg (by simp)] at ho
        rw [hp] at hc
        repeat' ((conv => whnf); first | exact trivial | (refine nv_ (ln x) (by first | (exact aggLn (by simp [h2, hxe]; done); done) | fail) ?_) | refine k_call _ (hc) ?_ | refine nT_ ?_ | refine aE1 ?_ | refine aE0 ?_ | refine aN1 ?_ | refine aN0 ?_ | refine aD1 ?_ | refine aD0 ?_ | refine nE_ (fun hq => ?_) (fun hq => ?_) | refine nN_ (fun hq => ?_) (fun hq => ?_) | refine nD_ (fun hq => ?_) (fun hq => ?_) | refine rb1 ?_ | refine rb0 ?_ | refine rbx ?_ | refine rix ?_ | (refine And.intro (by first | ((simp; omega); done) | (exact cells8 h8 (by simp only [Int.toNat_natCast]; omega); done) | fail) ?_) | refine aS ?_ | fail)
        exact ⟨i + 1, ⟨by omega, ho⟩, by omega, by repeat' (first | exact trivial | exact LeV.same _ | exact LeB.same _ | exact rfl | exact fun _ _ _ => trivial | exact lI | exact LeV.nil _ _ _ | exact lB | refine leBd ?_ | refine leOwn ?_ | refine And.intro ?_ ?_)⟩
    · have : i = l.length := by omega
      subst this
      rw [List.drop_length] at ho
      repeat' ((conv => whnf); first | exact trivial | refine nT_ ?_ | refine aE1 ?_ | refine aE0 ?_ | refine aN1 ?_ | refine aN0 ?_ | refine aD1 ?_ | refine aD0 ?_ | refine nE_ (fun hq => ?_) (fun hq => ?_) | refine nN_ (fun hq => ?_) (fun hq => ?_) | refine nD_ (fun hq => ?_) (fun hq => ?_) | refine rb1 ?_ | refine rb0 ?_ | refine rbx ?_ | refine rix ?_ | refine aS ?_ | fail)
      exact ⟨(), ho.symm, by repeat' (first | exact trivial | exact LeV.same _ | exact LeB.same _ | exact rfl | exact fun _ _ _ => trivial | exact lI | exact LeV.nil _ _ _ | exact lB | refine leBd ?_ | refine leOwn ?_ | refine And.intro ?_ ?_)⟩
  rintro - hr
  repeat' ((conv => whnf); first | exact trivial | refine nT_ ?_ | refine aE1 ?_ | refine aE0 ?_ | refine aN1 ?_ | refine aN0 ?_ | refine aD1 ?_ | refine aD0 ?_ | refine nE_ (fun hq => ?_) (fun hq => ?_) | refine nN_ (fun hq => ?_) (fun hq => ?_) | refine nD_ (fun hq => ?_) (fun hq => ?_) | refine rb1 ?_ | refine rb0 ?_ | refine rbx ?_ | refine rix ?_ | refine aS ?_ | (exact ri hr.symm trivial) | fail)
abbrev caps3 (s p f : Int) : List T := [.cptr [I s] 0, .cptr [I p] 0, .cptr [I f] 0]
theorem t_Find1 (x : List Int) (hx : x.length = 8) (s p f : Int) : DCalls Tryd.prog 56 (ln x :: caps3 s p f) (.bool (isN s p f x)) := by
  obtain ⟨a, b, c, d, e, f', g, j, rfl⟩ := ex8 hx
  have hO := t_of [a, b, c, d, e, f', g, j] rfl
  refine dcalls_low (rs := [.tmp 5]) mixed Tryd.func56 l56 rfl rfl rfl (r := [.bool _]) (Nat.le_of_ble_eq_true rfl) ?_
  repeat' ((conv => whnf); first | exact trivial | refine k_call _ (hO) ?_ | (refine nb_ (isN s p f [a, b, c, d, e, f', g, j]) (show (a == s && (b == p && (c == f && true))) = _ by rw [Bool.and_true]; rfl) ?_) | refine nT_ ?_ | refine aE1 ?_ | refine aE0 ?_ | refine aN1 ?_ | refine aN0 ?_ | refine aD1 ?_ | refine aD0 ?_ | refine nE_ (fun hq => ?_) (fun hq => ?_) | refine nN_ (fun hq => ?_) (fun hq => ?_) | refine nD_ (fun hq => ?_) (fun hq => ?_) | refine rb1 ?_ | refine rb0 ?_ | refine rbx ?_ | refine rix ?_ | (refine And.intro (by first | (exact ⟨⟨rfl, rfl, rfl, trivial⟩, ⟨rfl, rfl, rfl, trivial⟩⟩; done) | fail) ?_) | refine aS ?_ | fail)
def fnd (ls : List (List Int)) (s p f : Int) : T := match ls.find? (isN s p f) with
  | some x => .tup [ln x, .bool true]
  | none => .tup [ln [0, 0, 0, 0, 0, 0, 0, 0], .bool false]
theorem t_Find (n i : Int) (ls : List (List Int)) (pv : List Int) (s p f : Int) (hl : ls.length < 2 ^ 60) (hx : ∀ x ∈ ls, x.length = 8) (hp : pv.length = 16) : DCalls Tryd.prog 30 [rcT n i ls pv, I s, I p, I f] (fnd ls s p f) := by
  have hI := t_IndexLine 56 (isN s p f) (.cptr [I s] 0) (.cptr [I p] 0) (.cptr [I f] 0) ls hl hx (fun x h => t_Find1 x (hx x h) s p f)
  have hlen : (rcC n i ls pv).length = 19 := by simp [hp]
  unfold fnd
  rcases ixP_find (isN s p f) ls 0 (Int.le_refl 0) with ⟨h1, h2⟩ | ⟨k, x, h1, h2, h3, h4⟩
  · rw [h2]
    rw [h1] at hI
    refine dcalls_low (rs := [.cell 8 36, .tmp 9]) mixed Tryd.func30 l30 rfl rfl rfl (r := [_, _]) (Nat.le_of_ble_eq_true rfl) ?_
    repeat' ((conv => whnf); first | exact trivial | refine k_call _ (hI) ?_ | refine nT_ ?_ | refine aE1 ?_ | refine aE0 ?_ | refine aN1 ?_ | refine aN0 ?_ | refine aD1 ?_ | refine aD0 ?_ | refine nE_ (fun hq => ?_) (fun hq => ?_) | refine nN_ (fun hq => ?_) (fun hq => ?_) | refine nD_ (fun hq => ?_) (fun hq => ?_) | refine rb1 ?_ | refine rb0 ?_ | refine rbx ?_ | refine rix ?_ | (refine And.intro (by first | (exact hlen; done) | fail) ?_) | refine aS ?_ | fail)
  · rw [h4]
    rw [h1, Int.zero_add] at hI
    obtain ⟨a, b, c, d, e, f', g, j, rfl⟩ := ex8 (hx x (List.mem_of_getElem? h2))
    refine dcalls_low (rs := [.cell 8 36, .tmp 9]) mixed Tryd.func30 l30 rfl rfl rfl (r := [_, _]) (Nat.le_of_ble_eq_true rfl) ?_
    repeat' ((conv => whnf); first | exact trivial | refine k_call _ (hI) ?_ | (refine nv_ (ln [a, b, c, d, e, f', g, j]) (by first | ((simp [h2]; done); done) | fail) ?_) | refine nT_ ?_ | refine aE1 ?_ | refine aE0 ?_ | refine aN1 ?_ | refine aN0 ?_ | refine aD1 ?_ | refine aD0 ?_ | refine nE_ (fun hq => ?_) (fun hq => ?_) | refine nN_ (fun hq => ?_) (fun hq => ?_) | refine nD_ (fun hq => ?_) (fun hq => ?_) | refine rb1 ?_ | refine rb0 ?_ | refine rbx ?_ | refine rix ?_ | (refine And.intro (by first | (exact hlen; done) | ((simp; omega); done) | fail) ?_) | refine aS ?_ | fail)
theorem t_at (ls : List (List Int)) (s p f : Int) (hl : ls.length < 2 ^ 60) (hx : ∀ x ∈ ls, x.length = 8) : DCalls Tryd.prog 57 [linesT ls, I s, I p, I f] (I (ixP (isN s p f) ls 0)) := by
  refine dcalls_low (rs := [.tmp 8]) mixed Tryd.func57 l57 rfl rfl rfl (r := [I _]) (Nat.le_of_ble_eq_true rfl) ?_
  repeat' ((conv => whnf); first | exact trivial | refine nT_ ?_ | refine aE1 ?_ | refine aE0 ?_ | refine aN1 ?_ | refine aN0 ?_ | refine aD1 ?_ | refine aD0 ?_ | refine nE_ (fun hq => ?_) (fun hq => ?_) | refine nN_ (fun hq => ?_) (fun hq => ?_) | refine nD_ (fun hq => ?_) (fun hq => ?_) | refine rb1 ?_ | refine rb0 ?_ | refine rbx ?_ | refine rix ?_ | refine aS ?_ | fail)
  refine wpC_loopE 0 (α := Nat) (β := Unit) (fun i => {sl := [(0, .t (linesT ls)), (1, .t (I s)), (2, .t (I p)), (3, .t (I f)), (9, .t (I i))], bx := []})
    (fun i => i ≤ ls.length ∧ ixP (isN s p f) (ls.drop i) i = ixP (isN s p f) ls 0) (fun i => ls.length - i) (fun _ => {sl := [], bx := []}) (fun _ => ixP (isN s p f) ls 0 = -1) 0 ⟨by omega, rfl⟩ ?_ ?_ ?_
  · repeat' (first | exact trivial | exact LeV.same _ | exact LeB.same _ | exact rfl | exact fun _ _ _ => trivial | exact lI | exact LeV.nil _ _ _ | exact lB | refine leBd ?_ | refine leOwn ?_ | refine And.intro ?_ ?_)
  · rintro i ⟨hi, ho⟩
    rcases Nat.lt_or_ge i ls.length with h2 | h2
    · rw [ixP_drop _ h2] at ho
      obtain ⟨a, b, c, d, e, f', g, j, hxe⟩ := ex8 (hx ls[i] (List.getElem_mem h2))
      rw [hxe] at ho
      have hyes : (a = s ∧ b = p ∧ c = f) → (i : Int) = ixP (isN s p f) ls 0 := fun h => by
        rw [if_pos (by simp [isN, h])] at ho; exact ho
      have hno : ¬ (a = s ∧ b = p ∧ c = f) → ixP (isN s p f) (ls.drop (i + 1)) (i + 1 : Nat) = ixP (isN s p f) ls 0 := fun h => by
        rw [if_neg (by simpa [isN] using h)] at ho; exact ho
      repeat' ((conv => whnf); first | exact trivial | (refine now_D1 (by simp; omega) ?_) | (refine nv_ (ln [a, b, c, d, e, f', g, j]) (by first | ((simp [h2, hxe]; done); done) | fail) ?_) | refine nT_ ?_ | refine aE1 ?_ | refine aE0 ?_ | refine aN1 ?_ | refine aN0 ?_ | refine aD1 ?_ | refine aD0 ?_ | refine nE_ (fun hq => ?_) (fun hq => ?_) | refine nN_ (fun hq => ?_) (fun hq => ?_) | refine nD_ (fun hq => ?_) (fun hq => ?_) | refine rb1 ?_ | refine rb0 ?_ | refine rbx ?_ | refine rix ?_ | (refine And.intro (by first | ((simp; omega); done) | fail) ?_) | refine aS ?_ | (exact ri (hyes (by omega)) trivial) | (exact ⟨i + 1, ⟨by omega, hno (by omega)⟩, by omega, by repeat' (first | exact trivial | exact LeV.same _ | exact LeB.same _ | exact rfl | exact fun _ _ _ => trivial | exact lI | exact LeV.nil _ _ _ | exact lB | refine leBd ?_ | refine leOwn ?_ | refine And.intro ?_ ?_)⟩) | fail)
    · have : i = ls.length := by omega
      subst this
      rw [List.drop_length] at ho
      repeat' ((conv => whnf); first | exact trivial | refine now_D0 (by simp) ?_ | refine nT_ ?_ | refine aE1 ?_ | refine aE0 ?_ | refine aN1 ?_ | refine aN0 ?_ | refine aD1 ?_ | refine aD0 ?_ | refine nE_ (fun hq => ?_) (fun hq => ?_) | refine nN_ (fun hq => ?_) (fun hq => ?_) | refine nD_ (fun hq => ?_) (fun hq => ?_) | refine rb1 ?_ | refine rb0 ?_ | refine rbx ?_ | refine rix ?_ | refine aS ?_ | fail)
      exact ⟨(), ho.symm, by repeat' (first | exact trivial | exact LeV.same _ | exact LeB.same _ | exact rfl | exact fun _ _ _ => trivial | exact lI | exact LeV.nil _ _ _ | exact lB | refine leBd ?_ | refine leOwn ?_ | refine And.intro ?_ ?_)⟩
  rintro - hr
  repeat' ((conv => whnf); first | exact trivial | refine nT_ ?_ | refine aE1 ?_ | refine aE0 ?_ | refine aN1 ?_ | refine aN0 ?_ | refine aD1 ?_ | refine aD0 ?_ | refine nE_ (fun hq => ?_) (fun hq => ?_) | refine nN_ (fun hq => ?_) (fun hq => ?_) | refine nD_ (fun hq => ?_) (fun hq => ?_) | refine rb1 ?_ | refine rb0 ?_ | refine rbx ?_ | refine rix ?_ | refine aS ?_ | (exact ri hr.symm trivial) | fail)
theorem t_refFind (n i : Int) (ls : List (List Int)) (pv : List Int) (s p f : Int) (hl : ls.length < 2 ^ 60) (hx : ∀ x ∈ ls, x.length = 8) (hp : pv.length = 16) : DCalls Tryd.prog 31 [rcT n i ls pv, I s, I p, I f] (fnd ls s p f) := by
  have hI := t_at ls s p f hl hx
  have hlen : (rcC n i ls pv).length = 19 := by simp [hp]
  unfold fnd
  rcases ixP_find (isN s p f) ls 0 (Int.le_refl 0) with ⟨h1, h2⟩ | ⟨k, x, h1, h2, h3, h4⟩
  · rw [h2]
    rw [h1] at hI
    refine dcalls_low (rs := [.cell 8 36, .tmp 9]) mixed Tryd.func31 l31 rfl rfl rfl (r := [_, _]) (Nat.le_of_ble_eq_true rfl) ?_
    repeat' ((conv => whnf); first | exact trivial | refine k_call _ (hI) ?_ | refine nT_ ?_ | refine aE1 ?_ | refine aE0 ?_ | refine aN1 ?_ | refine aN0 ?_ | refine aD1 ?_ | refine aD0 ?_ | refine nE_ (fun hq => ?_) (fun hq => ?_) | refine nN_ (fun hq => ?_) (fun hq => ?_) | refine nD_ (fun hq => ?_) (fun hq => ?_) | refine rb1 ?_ | refine rb0 ?_ | refine rbx ?_ | refine rix ?_ | (refine And.intro (by first | (exact hlen; done) | fail) ?_) | refine aS ?_ | fail)
  · rw [h4]
    rw [h1, Int.zero_add] at hI
    obtain ⟨a, b, c, d, e, f', g, j, rfl⟩ := ex8 (hx x (List.mem_of_getElem? h2))
    refine dcalls_low (rs := [.cell 8 36, .tmp 9]) mixed Tryd.func31 l31 rfl rfl rfl (r := [_, _]) (Nat.le_of_ble_eq_true rfl) ?_
    repeat' ((conv => whnf); first | exact trivial | refine k_call _ (hI) ?_ | (refine nv_ (ln [a, b, c, d, e, f', g, j]) (by first | ((simp [h2]; done); done) | fail) ?_) | refine nT_ ?_ | refine aE1 ?_ | refine aE0 ?_ | refine aN1 ?_ | refine aN0 ?_ | refine aD1 ?_ | refine aD0 ?_ | refine nE_ (fun hq => ?_) (fun hq => ?_) | refine nN_ (fun hq => ?_) (fun hq => ?_) | refine nD_ (fun hq => ?_) (fun hq => ?_) | refine rb1 ?_ | refine rb0 ?_ | refine rbx ?_ | refine rix ?_ | (refine And.intro (by first | (exact hlen; done) | ((simp; omega); done) | fail) ?_) | refine aS ?_ | fail)
end Go.RC
end
section
namespace Go.RC
open Go Go.DL Go.Proofs
set_option maxRecDepth 100000
set_option maxHeartbeats 1000000
structure Rc where
  n : Int
  i : Int
  ls : List (List Int)
  pv : List Int
abbrev rc (r : Rc) : T := rcT r.n r.i r.ls r.pv
abbrev Rc.ok (r : Rc) : Prop := okR r.n r.i r.ls r.pv ∧ r.ls.length < 2 ^ 20
abbrev rcs (l : List Rc) : T := .slice 19 (l.map rc)
abbrev Rc.dg (r : Rc) : List Int := dgR r.n r.i r.ls r.pv
def chkR (r : Rc) : Int := chk r.n r.i r.ls
abbrev zero16 : List Int := [0, 0, 0, 0, 0, 0, 0, 0, 0, 0, 0, 0, 0, 0, 0, 0]
theorem rc_len {r : Rc} (h : r.ok) : (rcC r.n r.i r.ls r.pv).length = 19 := by simp [h.1.hp]
theorem eltRc {l : List Rc} {j : Nat} {r : Rc} (h : l[j]? = some r) : ((l.map rc)[j]?.getD .nil) = rc r := by
  rw [List.getElem?_map, h]; rfl
theorem aggPv2 {n i : Int} {ls : List (List Int)} {pv : List Int} {z : List T} (hz : z.length = 19) (hp : pv.length = 16) : T.agg (((putL z 0 19 (rcC n i ls pv)).drop 3).take 16) = dg16 pv := by
  rw [putL_all hz]; exact aggPv hp
abbrev z19 : List T := [I 0, I 0, .nil, Y 0, Y 0, Y 0, Y 0, Y 0, Y 0, Y 0, Y 0, Y 0, Y 0, Y 0, Y 0, Y 0, Y 0, Y 0, Y 0]
theorem with19 {f : FuncId} {n i : Int} {ls : List (List Int)} {pv : List Int} {r : T} (h : DCalls Tryd.prog f [rcT n i ls pv] r) : DCalls Tryd.prog f [.agg (putL z19 0 19 (rcC n i ls pv))] r := by
  rw [putL_all (n := 19) (cs := z19) rfl]; exact h
theorem with19F {f : FuncId} {n i : Int} {ls : List (List Int)} {pv : List Int} {a b c r : T} (h : DCalls Tryd.prog f [rcT n i ls pv, a, b, c] r) : DCalls Tryd.prog f [.agg (putL z19 0 19 (rcC n i ls pv)), a, b, c] r := by
  rw [putL_all (n := 19) (cs := z19) rfl]; exact h
def ver (node : Int) : Nat → List Int → List Rc → Int × Int
  | k, _, [] => (k, 0)
  | k, pv, r :: l => if chkR r ≠ 0 then (k, chkR r) else if r.n ≠ node then (k, 1) else if r.i ≠ k then (k, 25) else if r.pv ≠ pv then (k, 7) else ver node (k + 1) r.dg l
theorem ver_drop {node : Int} {l : List Rc} {k : Nat} {pv : List Int} (h : k < l.length) : ver node k pv (l.drop k) = if chkR l[k] ≠ 0 then ((k : Int), chkR l[k]) else if l[k].n ≠ node then ((k : Int), 1) else if l[k].i ≠ k then ((k : Int), 25) else if l[k].pv ≠ pv then ((k : Int), 7) else ver node (k + 1) l[k].dg (l.drop (k + 1)) := by
  rw [List.drop_eq_getElem_cons h]
  rfl
abbrev verT (x : Int × Int) : T := .tup [I x.1, I x.2]
theorem t_Verify (node : Int) (l : List Rc) (hl : l.length < 2 ^ 40) (hr : ∀ r ∈ l, r.ok) : DCalls Tryd.prog 22 [I node, rcs l] (verT (ver node 0 zero16 l)) := by
  refine dcalls_low (rs := [.tmp 4, .tmp 5]) mixed Tryd.func22 l22 rfl rfl rfl (r := [I _, I _]) (Nat.le_of_ble_eq_true rfl) ?_
  repeat' ((conv => whnf); first | exact trivial | refine nT_ ?_ | refine aE1 ?_ | refine aE0 ?_ | refine aN1 ?_ | refine aN0 ?_ | refine aD1 ?_ | refine aD0 ?_ | refine nE_ (fun hq => ?_) (fun hq => ?_) | refine nN_ (fun hq => ?_) (fun hq => ?_) | refine nD_ (fun hq => ?_) (fun hq => ?_) | refine rb1 ?_ | refine rb0 ?_ | refine rbx ?_ | refine rix ?_ | refine aS ?_ | fail)
  refine wpC_loopE 0 (α := Nat × List Int) (β := Unit) (fun q => {sl := [(0, .t (I node)), (1, .t (rcs l)), (6, .ptr 6 0), (10, .t (rcs l)), (11, .t (I l.length)), (12, .t (I q.1))], bx := [(6, .d 16 (q.2.map Y))]})
    (fun q => q.1 ≤ l.length ∧ q.2.length = 16 ∧ ver node q.1 q.2 (l.drop q.1) = ver node 0 zero16 l) (fun q => l.length - q.1) (fun _ => {sl := [(1, .t (rcs l))], bx := []}) (fun _ => ver node 0 zero16 l = ((l.length : Int), 0)) (0, zero16) ⟨by simp, rfl, rfl⟩ ?_ ?_ ?_
  · repeat' (first | ((refine leI ?_; simp; done)) | exact trivial | exact LeV.same _ | exact LeB.same _ | exact rfl | exact fun _ _ _ => trivial | exact lI | exact LeV.nil _ _ _ | exact lB | refine leBd ?_ | refine leOwn ?_ | refine And.intro ?_ ?_)
  · rintro ⟨k, pv⟩ ⟨hk, hpl, ho⟩
    dsimp only at hk hpl ho
    rcases Nat.lt_or_ge k l.length with h2 | h2
    · rw [ver_drop h2] at ho
      have hok := hr l[k] (List.getElem_mem h2)
      have hxe : l[k]? = some l[k] := List.getElem?_eq_getElem h2
      generalize l[k] = r at ho hok hxe
      obtain ⟨n, i, ls, rp⟩ := r
      have hC := with19 (t_Check n i ls rp (by have := hok.2; dsimp only at this; omega) hok.1.l8 hok.1.hp)
      have hD := with19 (t_Digest n i ls rp hok.1 hok.2)
      have hdl := dgR_len n i ls rp
      have hp1 : rp.length = 16 := hok.1.hp
      have hlen : (rcC n i ls rp).length = 19 := rc_len hok
      have hf : chk n i ls = chkR ⟨n, i, ls, rp⟩ := rfl
      dsimp only at ho
      rw [hf] at hC
      generalize chkR ⟨n, i, ls, rp⟩ = e at *
      by_cases c0 : e = 0
      case neg =>
        rw [if_pos c0] at ho
        repeat' ((conv => whnf); first | exact trivial | (refine nv_ (rcT n i ls rp) (by first | (exact eltRc (r := ⟨n, i, ls, rp⟩) (by simp only [Int.toNat_natCast]; exact hxe); done) | fail) ?_) | refine k_call _ (hC) ?_ | refine now_N1 c0 ?_ | refine nT_ ?_ | refine aE1 ?_ | refine aE0 ?_ | refine aN1 ?_ | refine aN0 ?_ | refine aD1 ?_ | refine aD0 ?_ | refine nE_ (fun hq => ?_) (fun hq => ?_) | refine nN_ (fun hq => ?_) (fun hq => ?_) | refine nD_ (fun hq => ?_) (fun hq => ?_) | refine rb1 ?_ | refine rb0 ?_ | refine rbx ?_ | refine rix ?_ | (refine And.intro (by first | ((simp; omega); done) | (exact hlen; done) | (exact ⟨hlen, Nat.le_of_ble_eq_true rfl⟩; done) | fail) ?_) | refine aS ?_ | (exact ri (by rw [← ho]) (ri (by rw [← ho]) trivial)) | (exact ri (by rw [← ho]) trivial) | fail)
      subst c0
      rw [if_neg (by simp)] at ho
      by_cases c1 : n = node
      case neg =>
        rw [if_pos c1] at ho
        repeat' ((conv => whnf); first | exact trivial | (refine nv_ (rcT n i ls rp) (by first | (exact eltRc (r := ⟨n, i, ls, rp⟩) (by simp only [Int.toNat_natCast]; exact hxe); done) | fail) ?_) | refine k_call _ (hC) ?_ | refine now_N1 c1 ?_ | refine nT_ ?_ | refine aE1 ?_ | refine aE0 ?_ | refine aN1 ?_ | refine aN0 ?_ | refine aD1 ?_ | refine aD0 ?_ | refine nE_ (fun hq => ?_) (fun hq => ?_) | refine nN_ (fun hq => ?_) (fun hq => ?_) | refine nD_ (fun hq => ?_) (fun hq => ?_) | refine rb1 ?_ | refine rb0 ?_ | refine rbx ?_ | refine rix ?_ | (refine And.intro (by first | ((simp; omega); done) | (exact hlen; done) | (exact ⟨hlen, Nat.le_of_ble_eq_true rfl⟩; done) | fail) ?_) | refine aS ?_ | (exact ri (by rw [← ho]) (ri (by rw [← ho]) trivial)) | (exact ri (by rw [← ho]) trivial) | fail)
      rw [if_neg (by simpa using c1)] at ho
      by_cases c2 : i = k
      case neg =>
        rw [if_pos c2] at ho
        repeat' ((conv => whnf); first | exact trivial | (refine nv_ (rcT n i ls rp) (by first | (exact eltRc (r := ⟨n, i, ls, rp⟩) (by simp only [Int.toNat_natCast]; exact hxe); done) | fail) ?_) | refine k_call _ (hC) ?_ | refine now_N0 c1 ?_ | refine now_N1 c2 ?_ | refine nT_ ?_ | refine aE1 ?_ | refine aE0 ?_ | refine aN1 ?_ | refine aN0 ?_ | refine aD1 ?_ | refine aD0 ?_ | refine nE_ (fun hq => ?_) (fun hq => ?_) | refine nN_ (fun hq => ?_) (fun hq => ?_) | refine nD_ (fun hq => ?_) (fun hq => ?_) | refine rb1 ?_ | refine rb0 ?_ | refine rbx ?_ | refine rix ?_ | (refine And.intro (by first | ((simp; omega); done) | (exact hlen; done) | (exact ⟨hlen, Nat.le_of_ble_eq_true rfl⟩; done) | fail) ?_) | refine aS ?_ | (exact ri (by rw [← ho]) (ri (by rw [← ho]) trivial)) | (exact ri (by rw [← ho]) trivial) | fail)
      rw [if_neg (by simpa using c2)] at ho
      by_cases c3 : rp = pv
      case neg =>
        rw [if_pos c3] at ho
        repeat' ((conv => whnf); first | exact trivial | (refine nv_ (rcT n i ls rp) (by first | (exact eltRc (r := ⟨n, i, ls, rp⟩) (by simp only [Int.toNat_natCast]; exact hxe); done) | fail) ?_) | refine k_call _ (hC) ?_ | refine now_N0 c1 ?_ | refine now_N0 c2 ?_ | (refine nv_ (dg16 rp) (by first | (exact aggPv2 rfl hp1; done) | fail) ?_) | refine nb_ (!false) (neY (decide_eq_false c3)) ?_ | refine nT_ ?_ | refine aE1 ?_ | refine aE0 ?_ | refine aN1 ?_ | refine aN0 ?_ | refine aD1 ?_ | refine aD0 ?_ | refine nE_ (fun hq => ?_) (fun hq => ?_) | refine nN_ (fun hq => ?_) (fun hq => ?_) | refine nD_ (fun hq => ?_) (fun hq => ?_) | refine rb1 ?_ | refine rb0 ?_ | refine rbx ?_ | refine rix ?_ | (refine And.intro (by first | ((simp; omega); done) | (exact hlen; done) | (exact ⟨hlen, Nat.le_of_ble_eq_true rfl⟩; done) | (exact ⟨fits16 hp1, fits16 hpl⟩; done) | fail) ?_) | refine aS ?_ | (exact ri (by rw [← ho]) (ri (by rw [← ho]) trivial)) | (exact ri (by rw [← ho]) trivial) | fail)
      rw [if_neg (by simpa using c3)] at ho
      repeat' ((conv => whnf); first | exact trivial | (refine nv_ (rcT n i ls rp) (by first | (exact eltRc (r := ⟨n, i, ls, rp⟩) (by simp only [Int.toNat_natCast]; exact hxe); done) | fail) ?_) | refine k_call _ (hC) ?_ | refine now_N0 c1 ?_ | refine now_N0 c2 ?_ | (refine nv_ (dg16 rp) (by first | (exact aggPv2 rfl hp1; done) | fail) ?_) | refine nb_ (!true) (neY (decide_eq_true c3)) ?_ | refine k_call _ (hD) ?_ | refine nT_ ?_ | refine aE1 ?_ | refine aE0 ?_ | refine aN1 ?_ | refine aN0 ?_ | refine aD1 ?_ | refine aD0 ?_ | refine nE_ (fun hq => ?_) (fun hq => ?_) | refine nN_ (fun hq => ?_) (fun hq => ?_) | refine nD_ (fun hq => ?_) (fun hq => ?_) | refine rb1 ?_ | refine rb0 ?_ | refine rbx ?_ | refine rix ?_ | (refine And.intro (by first | ((simp; omega); done) | (exact hlen; done) | (exact ⟨hlen, Nat.le_of_ble_eq_true rfl⟩; done) | (exact ⟨fits16 hp1, fits16 hpl⟩; done) | (exact ⟨(List.length_map _).trans hdl, Nat.le_of_ble_eq_true rfl⟩; done) | (exact ⟨(List.length_map _).trans hdl, (Nat.le_of_eq ((List.length_map _).trans hpl).symm)⟩; done) | fail) ?_) | refine aS ?_ | fail)
      refine ⟨(k + 1, dgR n i ls rp), ⟨by dsimp only; omega, hdl, ho⟩, by dsimp only; omega, ?_⟩
      repeat' (first | ((refine leBd ?_; exact (putL_all (by simpa using hpl)).symm)) | exact trivial | exact LeV.same _ | exact LeB.same _ | exact rfl | exact fun _ _ _ => trivial | exact lI | exact LeV.nil _ _ _ | exact lB | refine leBd ?_ | refine leOwn ?_ | refine And.intro ?_ ?_)
    · have : k = l.length := by omega
      subst this
      rw [List.drop_length] at ho
      repeat' ((conv => whnf); first | exact trivial | refine nT_ ?_ | refine aE1 ?_ | refine aE0 ?_ | refine aN1 ?_ | refine aN0 ?_ | refine aD1 ?_ | refine aD0 ?_ | refine nE_ (fun hq => ?_) (fun hq => ?_) | refine nN_ (fun hq => ?_) (fun hq => ?_) | refine nD_ (fun hq => ?_) (fun hq => ?_) | refine rb1 ?_ | refine rb0 ?_ | refine rbx ?_ | refine rix ?_ | refine aS ?_ | fail)
      exact ⟨(), ho.symm, by repeat' (first | exact trivial | exact LeV.same _ | exact LeB.same _ | exact rfl | exact fun _ _ _ => trivial | exact lI | exact LeV.nil _ _ _ | exact lB | refine leBd ?_ | refine leOwn ?_ | refine And.intro ?_ ?_)⟩
  rintro - hr
  rw [hr]
  repeat' ((conv => whnf); first | exact trivial | refine nT_ ?_ | refine aE1 ?_ | refine aE0 ?_ | refine aN1 ?_ | refine aN0 ?_ | refine aD1 ?_ | refine aD0 ?_ | refine nE_ (fun hq => ?_) (fun hq => ?_) | refine nN_ (fun hq => ?_) (fun hq => ?_) | refine nD_ (fun hq => ?_) (fun hq => ?_) | refine rb1 ?_ | refine rb0 ?_ | refine rbx ?_ | refine rix ?_ | refine aS ?_ | fail)
theorem t_refVerify (node : Int) (l : List Rc) (hl : l.length < 2 ^ 40) (hr : ∀ r ∈ l, r.ok) : DCalls Tryd.prog 26 [I node, rcs l] (verT (ver node 0 zero16 l)) := by
  refine dcalls_low (rs := [.tmp 4, .tmp 5]) mixed Tryd.func26 l26 rfl rfl rfl (r := [I _, I _]) (Nat.le_of_ble_eq_true rfl) ?_
  repeat' ((conv => whnf); first | exact trivial | refine nT_ ?_ | refine aE1 ?_ | refine aE0 ?_ | refine aN1 ?_ | refine aN0 ?_ | refine aD1 ?_ | refine aD0 ?_ | refine nE_ (fun hq => ?_) (fun hq => ?_) | refine nN_ (fun hq => ?_) (fun hq => ?_) | refine nD_ (fun hq => ?_) (fun hq => ?_) | refine rb1 ?_ | refine rb0 ?_ | refine rbx ?_ | refine rix ?_ | refine aS ?_ | fail)
  refine wpC_loopE 0 (α := Nat × List Int) (β := Unit) (fun q => {sl := [(0, .t (I node)), (1, .t (rcs l)), (6, .ptr 6 0), (7, .t (I q.1))], bx := [(6, .d 16 (q.2.map Y))]})
    (fun q => q.1 ≤ l.length ∧ q.2.length = 16 ∧ ver node q.1 q.2 (l.drop q.1) = ver node 0 zero16 l) (fun q => l.length - q.1) (fun _ => {sl := [(1, .t (rcs l))], bx := []}) (fun _ => ver node 0 zero16 l = ((l.length : Int), 0)) (0, zero16) ⟨by simp, rfl, rfl⟩ ?_ ?_ ?_
  · repeat' (first | exact trivial | exact LeV.same _ | exact LeB.same _ | exact rfl | exact fun _ _ _ => trivial | exact lI | exact LeV.nil _ _ _ | exact lB | refine leBd ?_ | refine leOwn ?_ | refine And.intro ?_ ?_)
  · rintro ⟨k, pv⟩ ⟨hk, hpl, ho⟩
    dsimp only at hk hpl ho
    rcases Nat.lt_or_ge k l.length with h2 | h2
    · rw [ver_drop h2] at ho
      have hok := hr l[k] (List.getElem_mem h2)
      have hxe : l[k]? = some l[k] := List.getElem?_eq_getElem h2
      generalize l[k] = r at ho hok hxe
      obtain ⟨n, i, ls, rp⟩ := r
      have hC := t_refCheck n i ls rp (by have := hok.2; dsimp only at this; omega) hok.1.l8 hok.1.hp
      have hD := t_refDigest n i ls rp hok.1 hok.2
      have hdl := dgR_len n i ls rp
      have hp1 : rp.length = 16 := hok.1.hp
      have hlen : (rcC n i ls rp).length = 19 := rc_len hok
      have hf : chk n i ls = chkR ⟨n, i, ls, rp⟩ := rfl
      dsimp only at ho
      rw [hf] at hC
      generalize chkR ⟨n, i, ls, rp⟩ = e at *
      by_cases c0 : e = 0
      case neg =>
        rw [if_pos c0] at ho
        repeat' ((conv => whnf); first | exact trivial | (refine now_D1 (by simp; omega) ?_) | (refine nv_ (rcT n i ls rp) (by first | (exact eltRc (r := ⟨n, i, ls, rp⟩) (by simp only [Int.toNat_natCast]; exact hxe); done) | fail) ?_) | refine k_call _ (hC) ?_ | refine now_N1 c0 ?_ | refine nT_ ?_ | refine aE1 ?_ | refine aE0 ?_ | refine aN1 ?_ | refine aN0 ?_ | refine aD1 ?_ | refine aD0 ?_ | refine nE_ (fun hq => ?_) (fun hq => ?_) | refine nN_ (fun hq => ?_) (fun hq => ?_) | refine nD_ (fun hq => ?_) (fun hq => ?_) | refine rb1 ?_ | refine rb0 ?_ | refine rbx ?_ | refine rix ?_ | (refine And.intro (by first | ((simp; omega); done) | (exact hlen; done) | (exact Nat.le_of_eq hlen.symm; done) | (exact ⟨hlen, Nat.le_of_ble_eq_true rfl⟩; done) | fail) ?_) | refine aS ?_ | (exact ri (by rw [← ho]) (ri (by rw [← ho]) trivial)) | (exact ri (by rw [← ho]) trivial) | fail)
      subst c0
      rw [if_neg (by simp)] at ho
      by_cases c1 : n = node
      case neg =>
        rw [if_pos c1] at ho
        repeat' ((conv => whnf); first | exact trivial | (refine now_D1 (by simp; omega) ?_) | (refine nv_ (rcT n i ls rp) (by first | (exact eltRc (r := ⟨n, i, ls, rp⟩) (by simp only [Int.toNat_natCast]; exact hxe); done) | fail) ?_) | refine k_call _ (hC) ?_ | refine now_N1 c1 ?_ | refine nT_ ?_ | refine aE1 ?_ | refine aE0 ?_ | refine aN1 ?_ | refine aN0 ?_ | refine aD1 ?_ | refine aD0 ?_ | refine nE_ (fun hq => ?_) (fun hq => ?_) | refine nN_ (fun hq => ?_) (fun hq => ?_) | refine nD_ (fun hq => ?_) (fun hq => ?_) | refine rb1 ?_ | refine rb0 ?_ | refine rbx ?_ | refine rix ?_ | (refine And.intro (by first | ((simp; omega); done) | (exact hlen; done) | (exact Nat.le_of_eq hlen.symm; done) | (exact ⟨hlen, Nat.le_of_ble_eq_true rfl⟩; done) | fail) ?_) | refine aS ?_ | (exact ri (by rw [← ho]) (ri (by rw [← ho]) trivial)) | (exact ri (by rw [← ho]) trivial) | fail)
      rw [if_neg (by simpa using c1)] at ho
      by_cases c2 : i = k
      case neg =>
        rw [if_pos c2] at ho
        repeat' ((conv => whnf); first | exact trivial | (refine now_D1 (by simp; omega) ?_) | (refine nv_ (rcT n i ls rp) (by first | (exact eltRc (r := ⟨n, i, ls, rp⟩) (by simp only [Int.toNat_natCast]; exact hxe); done) | fail) ?_) | refine k_call _ (hC) ?_ | refine now_N0 c1 ?_ | refine now_N1 c2 ?_ | refine nT_ ?_ | refine aE1 ?_ | refine aE0 ?_ | refine aN1 ?_ | refine aN0 ?_ | refine aD1 ?_ | refine aD0 ?_ | refine nE_ (fun hq => ?_) (fun hq => ?_) | refine nN_ (fun hq => ?_) (fun hq => ?_) | refine nD_ (fun hq => ?_) (fun hq => ?_) | refine rb1 ?_ | refine rb0 ?_ | refine rbx ?_ | refine rix ?_ | (refine And.intro (by first | ((simp; omega); done) | (exact hlen; done) | (exact Nat.le_of_eq hlen.symm; done) | (exact ⟨hlen, Nat.le_of_ble_eq_true rfl⟩; done) | fail) ?_) | refine aS ?_ | (exact ri (by rw [← ho]) (ri (by rw [← ho]) trivial)) | (exact ri (by rw [← ho]) trivial) | fail)
      rw [if_neg (by simpa using c2)] at ho
      by_cases c3 : rp = pv
      case neg =>
        rw [if_pos c3] at ho
        repeat' ((conv => whnf); first | exact trivial | (refine now_D1 (by simp; omega) ?_) | (refine nv_ (rcT n i ls rp) (by first | (exact eltRc (r := ⟨n, i, ls, rp⟩) (by simp only [Int.toNat_natCast]; exact hxe); done) | fail) ?_) | refine k_call _ (hC) ?_ | refine now_N0 c1 ?_ | refine now_N0 c2 ?_ | (refine nv_ (dg16 rp) (by first | (exact aggPv hp1; done) | fail) ?_) | refine nb_ (!false) (neY (decide_eq_false c3)) ?_ | refine nT_ ?_ | refine aE1 ?_ | refine aE0 ?_ | refine aN1 ?_ | refine aN0 ?_ | refine aD1 ?_ | refine aD0 ?_ | refine nE_ (fun hq => ?_) (fun hq => ?_) | refine nN_ (fun hq => ?_) (fun hq => ?_) | refine nD_ (fun hq => ?_) (fun hq => ?_) | refine rb1 ?_ | refine rb0 ?_ | refine rbx ?_ | refine rix ?_ | (refine And.intro (by first | ((simp; omega); done) | (exact hlen; done) | (exact Nat.le_of_eq hlen.symm; done) | (exact ⟨hlen, Nat.le_of_ble_eq_true rfl⟩; done) | (exact ⟨fits16 hp1, fits16 hpl⟩; done) | fail) ?_) | refine aS ?_ | (exact ri (by rw [← ho]) (ri (by rw [← ho]) trivial)) | (exact ri (by rw [← ho]) trivial) | fail)
      rw [if_neg (by simpa using c3)] at ho
      repeat' ((conv => whnf); first | exact trivial | (refine now_D1 (by simp; omega) ?_) | (refine nv_ (rcT n i ls rp) (by first | (exact eltRc (r := ⟨n, i, ls, rp⟩) (by simp only [Int.toNat_natCast]; exact hxe); done) | fail) ?_) | refine k_call _ (hC) ?_ | refine now_N0 c1 ?_ | refine now_N0 c2 ?_ | (refine nv_ (dg16 rp) (by first | (exact aggPv hp1; done) | fail) ?_) | refine nb_ (!true) (neY (decide_eq_true c3)) ?_ | refine k_call _ (hD) ?_ | refine nT_ ?_ | refine aE1 ?_ | refine aE0 ?_ | refine aN1 ?_ | refine aN0 ?_ | refine aD1 ?_ | refine aD0 ?_ | refine nE_ (fun hq => ?_) (fun hq => ?_) | refine nN_ (fun hq => ?_) (fun hq => ?_) | refine nD_ (fun hq => ?_) (fun hq => ?_) | refine rb1 ?_ | refine rb0 ?_ | refine rbx ?_ | refine rix ?_ | (refine And.intro (by first | ((simp; omega); done) | (exact hlen; done) | (exact Nat.le_of_eq hlen.symm; done) | (exact ⟨hlen, Nat.le_of_ble_eq_true rfl⟩; done) | (exact ⟨fits16 hp1, fits16 hpl⟩; done) | (exact ⟨(List.length_map _).trans hdl, Nat.le_of_ble_eq_true rfl⟩; done) | (exact ⟨(List.length_map _).trans hdl, (Nat.le_of_eq ((List.length_map _).trans hpl).symm)⟩; done) | fail) ?_) | refine aS ?_ | fail)
      refine ⟨(k + 1, dgR n i ls rp), ⟨by dsimp only; omega, hdl, ho⟩, by dsimp only; omega, ?_⟩
      repeat' (first | ((refine leBd ?_; exact (putL_all (by simpa using hpl)).symm)) | exact trivial | exact LeV.same _ | exact LeB.same _ | exact rfl | exact fun _ _ _ => trivial | exact lI | exact LeV.nil _ _ _ | exact lB | refine leBd ?_ | refine leOwn ?_ | refine And.intro ?_ ?_)
    · have : k = l.length := by omega
      subst this
      rw [List.drop_length] at ho
      repeat' ((conv => whnf); first | exact trivial | refine now_D0 (by simp) ?_ | refine nT_ ?_ | refine aE1 ?_ | refine aE0 ?_ | refine aN1 ?_ | refine aN0 ?_ | refine aD1 ?_ | refine aD0 ?_ | refine nE_ (fun hq => ?_) (fun hq => ?_) | refine nN_ (fun hq => ?_) (fun hq => ?_) | refine nD_ (fun hq => ?_) (fun hq => ?_) | refine rb1 ?_ | refine rb0 ?_ | refine rbx ?_ | refine rix ?_ | refine aS ?_ | fail)
      exact ⟨(), ho.symm, by repeat' (first | exact trivial | exact LeV.same _ | exact LeB.same _ | exact rfl | exact fun _ _ _ => trivial | exact lI | exact LeV.nil _ _ _ | exact lB | refine leBd ?_ | refine leOwn ?_ | refine And.intro ?_ ?_)⟩
  rintro - hr
  rw [hr]
  repeat' ((conv => whnf); first | exact trivial | refine nT_ ?_ | refine aE1 ?_ | refine aE0 ?_ | refine aN1 ?_ | refine aN0 ?_ | refine aD1 ?_ | refine aD0 ?_ | refine nE_ (fun hq => ?_) (fun hq => ?_) | refine nN_ (fun hq => ?_) (fun hq => ?_) | refine nD_ (fun hq => ?_) (fun hq => ?_) | refine rb1 ?_ | refine rb0 ?_ | refine rbx ?_ | refine rix ?_ | refine aS ?_ | fail)
end Go.RC
end
section
namespace Go.RC
open Go Go.DL Go.Proofs Go.RowKit
set_option maxRecDepth 100000
def typesR : List TypeId := [23, 25, 3, 4, 5, 36, 44, 47, 49, 51]
theorem typesR_ok : closedB Tryd.prog typesR = true := by kernel_rfl
theorem cells5 : Tryd.prog.cellsOf 5 = 1 := by kernel_rfl
theorem cells36 : Tryd.prog.cellsOf 36 = 8 := by kernel_rfl
theorem cells47 : Tryd.prog.cellsOf 47 = 1 := by kernel_rfl
theorem cells49 : Tryd.prog.cellsOf 49 = 16 := by kernel_rfl
theorem cells51 : Tryd.prog.cellsOf 51 = 19 := by kernel_rfl
theorem wf64 {n : Int} (h : (Lit.int .i64 n).wf = true) : i64 n := by
  simp only [Lit.wf, Bool.and_eq_true, decide_eq_true_eq] at h
  obtain ⟨h1, h2⟩ := h
  have e1 : IntKind.i64.min = -9223372036854775808 := by decide
  have e2 : IntKind.i64.max = 9223372036854775807 := by decide
  rw [e1] at h1; rw [e2] at h2
  unfold i64; omega
theorem wf8 {n : Int} (h : (Lit.int .u8 n).wf = true) : 0 ≤ n ∧ n < 256 := by
  simp only [Lit.wf, Bool.and_eq_true, decide_eq_true_eq] at h
  obtain ⟨h1, h2⟩ := h
  have e1 : IntKind.u8.min = 0 := by decide
  have e2 : IntKind.u8.max = 255 := by decide
  rw [e1] at h1; rw [e2] at h2
  omega
theorem aIntB {us : List T} (h : HasC Tryd.prog 3 us) : ∃ n, mkT Tryd.prog 3 us = I n ∧ 1 ≤ bulkL us := by
  obtain ⟨n, rfl, _⟩ := hasInt h
  exact ⟨n, by unfold mkT; rw [Tryd.underlying3]; rfl, by simp [bulkL, T.bulk]⟩
theorem hasU8 {us : List T} (h : HasC Tryd.prog 5 us) : ∃ n, us = [Y n] ∧ (Lit.int .u8 n).wf = true := by
  cases h with
  | int h n hw => rw [Tryd.underlying5] at h; cases h; exact ⟨n, rfl, hw⟩
  | bool h | str h | nil h | slice h | struct h | array h => rw [Tryd.underlying5] at h; cases h
theorem hasDig {us : List T} (h : HasC Tryd.prog 49 us) : ∃ x : List Int, us = x.map Y ∧ x.length = 16 ∧ areB x := by
  cases h with
  | array h us hl hf =>
    rw [Tryd.underlying49] at h
    cases h
    rw [cells49] at hl
    have key : ∀ i, i < 16 → ∃ n, us[i]? = some (Y n) ∧ (Lit.int .u8 n).wf = true := fun i hi => by
      obtain ⟨n, e, w⟩ := hasU8 (hf i hi)
      rw [cells5, Nat.mul_one, List.take_one] at e
      refine ⟨n, ?_, w⟩
      have : (us.drop i).head? = us[i]? := by rw [List.head?_drop]
      rw [this] at e
      cases hx : us[i]? with
      | none => rw [hx] at e; cases e
      | some x => rw [hx] at e; cases e; rfl
    refine ⟨us.map fun t => match t with | .int _ n => n | _ => 0, ?_, by simpa using hl, fun n hn => ?_⟩
    · refine List.ext_getElem? fun i => ?_
      rcases Nat.lt_or_ge i 16 with hi | hi
      · obtain ⟨n, e, _⟩ := key i hi
        rw [e]
        simp [e]
      · rw [List.getElem?_eq_none (by omega), List.getElem?_eq_none (by simp; omega)]
    · obtain ⟨t, ht, rfl⟩ := List.mem_map.1 hn
      obtain ⟨i, hi⟩ := List.mem_iff_getElem?.1 ht
      obtain ⟨n, e, w⟩ := key i (by have := (List.getElem?_eq_some_iff.1 hi).1; omega)
      rw [e] at hi
      cases hi
      exact wf8 w
  | int h | bool h | str h | nil h | slice h | struct h => rw [Tryd.underlying49] at h; cases h
theorem hasLine {us : List T} (h : HasC Tryd.prog 36 us) : ∃ x : List Int, us = x.map I ∧ x.length = 8 ∧ ∀ n ∈ x, i64 n := by
  cases h with
  | struct h us hl hf =>
    rw [Tryd.underlying36] at h
    cases h
    rw [cells36] at hl
    match us, hl with
    | [a, b, c, d, e, f, g, j], _ =>
      have f0 := hf ⟨ "Side", 3, 0, false, "", "", 0⟩ (by simp)
      have f1 := hf ⟨ "Port", 3, 1, false, "", "", 8⟩ (by simp)
      have f2 := hf ⟨ "Flow", 3, 2, false, "", "", 16⟩ (by simp)
      have f3 := hf ⟨ "Count", 3, 3, false, "", "", 24⟩ (by simp)
      have f4 := hf ⟨ "Sum", 25, 4, false, "", "", 32⟩ (by simp)
      simp only [cells3, cells25, List.drop, List.take] at f0 f1 f2 f3 f4
      obtain ⟨n0, e0, w0⟩ := hasInt f0
      obtain ⟨n1, e1, w1⟩ := hasInt f1
      obtain ⟨n2, e2, w2⟩ := hasInt f2
      obtain ⟨n3, e3, w3⟩ := hasInt f3
      obtain ⟨x, ex, hx, wx⟩ := hasInts Tryd.underlying25 cells25 f4
      simp only [List.cons.injEq, and_true] at e0 e1 e2 e3
      subst e0; subst e1; subst e2; subst e3
      refine ⟨n0 :: n1 :: n2 :: n3 :: x, by rw [ex]; rfl, by simp [hx], fun n hn => ?_⟩
      simp only [List.mem_cons] at hn
      rcases hn with rfl | rfl | rfl | rfl | hn
      · exact wf64 w0
      · exact wf64 w1
      · exact wf64 w2
      · exact wf64 w3
      · exact wf64 (wx n hn)
  | int h | bool h | str h | nil h | slice h | array h => rw [Tryd.underlying36] at h; cases h
theorem mk36 (us : List T) : mkT Tryd.prog 36 us = .agg us := by unfold mkT; rw [Tryd.underlying36]
theorem mk51 (us : List T) : mkT Tryd.prog 51 us = .agg us := by unfold mkT; rw [Tryd.underlying51]
theorem aLine {us : List T} (h : HasC Tryd.prog 36 us) : ∃ x : List Int, mkT Tryd.prog 36 us = ln x ∧ x.length = 8 ∧ ∀ n ∈ x, i64 n := by
  obtain ⟨x, rfl, hx, hw⟩ := hasLine h
  exact ⟨x, mk36 _, hx, hw⟩
theorem hasLines {us : List T} (h : HasC Tryd.prog 47 us) : ∃ (t : T) (ls : List (List Int)), us = [t] ∧ Les t (linesT ls) ∧ ls.length ≤ bulkL us ∧ ∀ x ∈ ls, x.length = 8 ∧ ∀ y ∈ x, i64 y := by
  cases h with
  | nil h => exact ⟨.nil, [], rfl, Les.nil 8, by simp, by simp⟩
  | slice h xs hx hl =>
    rw [Tryd.underlying47] at h
    cases h
    rw [cells36]
    have key : ∃ ls : List (List Int), xs.map (mkT Tryd.prog 36) = ls.map ln ∧ ls.length ≤ bulkL (xs.map (mkT Tryd.prog 36)) ∧ ∀ x ∈ ls, x.length = 8 ∧ ∀ y ∈ x, i64 y := by
      clear hl
      induction xs with
      | nil => exact ⟨[], rfl, by simp, by simp⟩
      | cons x xs ih =>
        obtain ⟨y, h1, h2, h3⟩ := aLine (hx x (by simp))
        obtain ⟨l, k2, k3, k4⟩ := ih fun y hy => hx y (by simp [hy])
        refine ⟨y :: l, by simp only [List.map_cons, k2, h1], ?_, fun z hz => ?_⟩
        · simp only [List.map_cons, bulkL, List.length_cons]
          rw [h1]
          obtain ⟨a, b, c, d, e, f, g, j, rfl⟩ := ex8 h2
          simp only [ln, T.bulk, List.map_cons, bulkL]
          omega
        · rcases List.mem_cons.1 hz with rfl | hz
          · exact ⟨h2, h3⟩
          · exact k4 z hz
    obtain ⟨ls, k2, k3, k4⟩ := key
    exact ⟨_, ls, rfl, by rw [k2]; exact Les.refl _, by simp only [bulkL, T.bulk]; omega, k4⟩
  | int h | bool h | str h | array h | struct h => rw [Tryd.underlying47] at h; cases h
theorem lesL_refl : ∀ (us : List T), (∀ u ∈ us, u.one = true) → LesL us us
  | [], _ => .nil
  | u :: us, h => .cons (Les.refl _) (h u (by simp)) (lesL_refl us fun x hx => h x (by simp [hx]))
theorem rd_receipt {us : List T} (h : HasC Tryd.prog 51 us) (hb : bulkL us < 2 ^ 20) : ∃ r : Rc, LesL us (rcC r.n r.i r.ls r.pv) ∧ r.ok ∧ 1 ≤ bulkL us := by
  cases h with
  | struct h us hl hf =>
    rw [Tryd.underlying51] at h
    cases h
    rw [cells51] at hl
    match us, hl with
    | a :: b :: c :: ps, hl =>
      have f0 := hf ⟨ "Node", 3, 0, false, "", "", 0⟩ (by simp)
      have f1 := hf ⟨ "Interval", 3, 1, false, "", "", 8⟩ (by simp)
      have f2 := hf ⟨ "Lines", 47, 2, false, "", "", 16⟩ (by simp)
      have f3 := hf ⟨ "Prev", 49, 3, false, "", "", 40⟩ (by simp)
      simp only [cells3, cells47, cells49, List.drop, List.take] at f0 f1 f2 f3
      have hp : ps.length = 16 := by simpa using hl
      rw [List.take_of_length_le (by omega)] at f3
      obtain ⟨n, e0, w0⟩ := hasInt f0
      obtain ⟨i, e1, w1⟩ := hasInt f1
      obtain ⟨t, ls, e2, l1, l2, l3⟩ := hasLines f2
      obtain ⟨pv, e3, p1, p2⟩ := hasDig f3
      simp only [List.cons.injEq, and_true] at e0 e1 e2
      subst e0; subst e1; subst e2; subst e3
      refine ⟨⟨n, i, ls, pv⟩, .cons (Les.refl _) rfl (.cons (Les.refl _) rfl (.cons l1 rfl (lesL_refl _ (mones (fun _ => rfl) pv)))), ⟨⟨wf64 w0, wf64 w1, l3, p1, p2⟩, ?_⟩, by simp only [bulkL, T.bulk]; omega⟩
      simp only [bulkL, T.bulk] at hb l2
      show ls.length < 2 ^ 20
      omega
    | [], hl => simp at hl
    | [_], hl => simp at hl
    | [_, _], hl => simp at hl
  | int h | bool h | str h | nil h | slice h | array h => rw [Tryd.underlying51] at h; cases h
theorem aRc {us : List T} (h : HasC Tryd.prog 51 us) (hb : bulkL us < 2 ^ 20) : ∃ r : Rc, Les (mkT Tryd.prog 51 us) (rc r) ∧ r.ok := by
  obtain ⟨r, h1, h2, _⟩ := rd_receipt h hb
  exact ⟨r, by rw [mk51]; exact Les.agg h1, h2⟩
theorem aRcs {us : List T} (h : HasC Tryd.prog 44 us) (hb : bulkL us < 2 ^ 20) : ∃ l : List Rc, Les (mkT Tryd.prog 44 us) (rcs l) ∧ l.length < 2 ^ 20 ∧ ∀ r ∈ l, r.ok := by
  have e : ∀ t, mkT Tryd.prog 44 [t] = t := fun t => by unfold mkT; rw [Tryd.underlying44]; rfl
  cases h with
  | nil h => exact ⟨[], by rw [e]; exact Les.nil 19, by simp, by simp⟩
  | slice h xs hx hl =>
    rw [Tryd.underlying44] at h
    cases h
    rw [e, cells51]
    have em : xs.map (mkT Tryd.prog 51) = xs.map .agg := List.map_congr_left fun x _ => mk51 x
    rw [em] at hb ⊢
    simp only [bulkL, T.bulk] at hb
    have key : ∃ l : List Rc, l.length = xs.length ∧ l.length ≤ bulkL (xs.map .agg) ∧ (∀ r ∈ l, r.ok) ∧ ∀ (i : Nat) x (r : Rc), xs[i]? = some x → l[i]? = some r → LesL x (rcC r.n r.i r.ls r.pv) := by
      clear hl em
      induction xs with
      | nil => exact ⟨[], rfl, by simp, by simp, by simp⟩
      | cons x xs ih =>
        simp only [List.map_cons, bulkL, T.bulk] at hb
        obtain ⟨r, h1, h2, hp⟩ := rd_receipt (hx x (by simp)) (by omega)
        obtain ⟨l, k1, k2, k3, k4⟩ := ih (fun y hy => hx y (by simp [hy])) (by omega)
        refine ⟨r :: l, by simp [k1], by simp only [List.map_cons, bulkL, T.bulk, List.length_cons]; omega, fun s hs => ?_, fun i y s hy hs => ?_⟩
        · rcases List.mem_cons.1 hs with rfl | hs
          · exact h2
          · exact k3 s hs
        · cases i with
          | zero => simp at hy hs; subst hy; subst hs; exact h1
          | succ i => exact k4 i y s (by simpa using hy) (by simpa using hs)
    obtain ⟨l, k1, k2, k3, k4⟩ := key
    refine ⟨l, Les.slice (by simp [k1]) fun i x y hx hy => ?_, by omega, k3⟩
    rw [List.getElem?_map] at hx hy
    obtain ⟨x', hx', rfl⟩ := Option.map_eq_some_iff.1 hx
    obtain ⟨r', hr', rfl⟩ := Option.map_eq_some_iff.1 hy
    exact ⟨k4 i x' r' hx' hr', rc_len (k3 r' (List.mem_of_getElem? hr'))⟩
  | int h | bool h | str h | array h | struct h => rw [Tryd.underlying44] at h; cases h
end Go.RC
end
section
namespace Go.RC
open Go Go.DL Go.Proofs
set_option maxRecDepth 100000
set_option maxHeartbeats 1000000
abbrev nk (k : N3) : T := nm k.1 k.2.1 k.2.2
abbrev sh3 : List Sh := [.int .i64, .int .i64, .int .i64]
abbrev mpT (ks : List N3) (vs : List T) : T := .mapd true sh3 (ks.map nk) vs
noncomputable def ropsOf (id : Nat) (c : Option Code) : Array Oper := match rg0 id c with
  | .region _ ops _ => ops
  | _ => #[]
noncomputable abbrev fA : Option Code := Tryd.f100.body
noncomputable abbrev fK : Option Code := Tryd.f91.body
theorem bA : fA = some (.seq (.region 0 (ropsOf 0 fA) false) (.seq (.seq (.region 1 (ropsOf 1 fA) false)
    (.block 0 (.rangeFunc (.tmp 6) #[7] (.region 2 (ropsOf 2 fA) false) (.block 1 (.region 3 (ropsOf 3 fA) false))))) (.seq (.region 4 (ropsOf 4 fA) false) .ret))) := by kernel_rfl
abbrev isA2 : List DI := [⟨some 5, .alloc [I 0, I 0, I 0], none, []⟩, ⟨none, .store 3 (.tmp 5) (.tmp 7), none, [0, 0]⟩]
abbrev isA3 : List DI := [⟨some 8, .load 1 false (.tmp 2), none, []⟩, ⟨some 9, .load 3 true (.tmp 5), none, []⟩, ⟨some 10, .buildS 83 3 1 [I 0, I 0, I 0] [(0, .tmp 9)], none, [1]⟩,
  ⟨some 11, .append 112 83 3 24 (.tmp 8) (.tmp 10), none, [0, 2]⟩, ⟨none, .store 1 (.tmp 2) (.tmp 11), none, [3, 3, 0, 1, 2, 3]⟩]
theorem bA_0 : lowIs Tryd.prog 13 [] (ropsOf 0 fA) (ropsOf 0 fA).toList = some [⟨some 2, .box 1 (.tmp 0), none, []⟩, ⟨some 4, .mov (.const .nil), none, []⟩] := by kernel_rfl
theorem bA_1 : lowIs Tryd.prog 13 [] (ropsOf 1 fA) (ropsOf 1 fA).toList = some [⟨some 6, .mov (.tmp 1), none, []⟩] := by kernel_rfl
theorem bA_2 : lowIs Tryd.prog 13 [] (ropsOf 2 fA) (ropsOf 2 fA).toList = some isA2 := by kernel_rfl
theorem bA_3 : lowIs Tryd.prog 13 [] (ropsOf 3 fA) (ropsOf 3 fA).toList = some isA3 := by kernel_rfl
theorem bA_4 : lowIs Tryd.prog 13 [] (ropsOf 4 fA) (ropsOf 4 fA).toList = some [⟨some 12, .load 1 false (.tmp 2), none, []⟩, ⟨some 4, .mov (.tmp 12), none, [0, 0]⟩] := by kernel_rfl
noncomputable abbrev yK : Array Oper := ropsOf 3 fK
theorem bK : rg0 3 fK = .region 3 yK false := by kernel_rfl
theorem bK_1 : lowK Tryd.prog 14 yK [0, 1] = some [⟨some 10, .mov (.tmp 0), none, []⟩, ⟨some 11, .load 3 true (.tmp 3), none, []⟩] := by kernel_rfl
theorem bK_2 : lowK Tryd.prog 14 yK [3] = some [⟨some 13, .not (.tmp 12), none, [2]⟩] := by kernel_rfl
theorem bK_o : ∃ o ats, yK[2]? = some o ∧ o.guard = none ∧ o.op = .call { callee := .value (.tmp 10), args := #[.tmp 11], argTypes := ats } ∧ o.dst = some 12 := by
  refine ⟨((ropsOf 3 fK)[2]?).getD default, (match (((ropsOf 3 fK)[2]?).getD default).op with | .call c => c.argTypes | _ => #[]), by kernel_rfl, by kernel_rfl, by kernel_rfl, by kernel_rfl⟩
noncomputable abbrev itA (l d : Nat) (f : FuncId) (tmps : Array Value) : Base → World → Prop := iterCx l (readyRec f tmps 7 (.region 2 (ropsOf 2 fA) false) (.block 1 (.region 3 (ropsOf 3 fA) false)) d)
end Go.RC
end
section
namespace Go.RC
open Go Go.DL Go.Proofs
set_option maxRecDepth 100000
set_option maxHeartbeats 1000000
def permOf (ks : List N3) (xs : List T) : Prop := ∃ js : List Nat, js.Perm (List.range ks.length) ∧ xs = js.map fun j => nk (ks.getD j (0, 0, 0))
theorem range_perm {ix : List Nat} {n : Nat} (hn : ix.Nodup) (hl : ∀ j ∈ ix, j < n) (ha : ∀ j, j < n → j ∈ ix) : ix.Perm (List.range n) :=
  (List.perm_ext_iff_of_nodup hn List.nodup_range).2 fun j => ⟨fun h => List.mem_range.2 (hl j h), fun h => ha j (List.mem_range.1 h)⟩
abbrev outK (ks : List N3) (ix : List Nat) : List T := ix.map fun j => nk (ks.getD j (0, 0, 0))
abbrev esK (ks : List N3) (vs : List T) : List (T × T) := (ks.map nk).zip vs
theorem esK_get {ks : List N3} {vs : List T} {j : Nat} {e : T × T} (h : (esK ks vs)[j]? = some e) : e.1 = nk (ks.getD j (0, 0, 0)) ∧ j < ks.length := by
  rw [List.getElem?_zip_eq_some] at h
  obtain ⟨h1, _⟩ := h
  rw [List.getElem?_map, Option.map_eq_some_iff] at h1
  obtain ⟨k, hk, hk2⟩ := h1
  refine ⟨?_, (List.getElem?_eq_some_iff.1 hk).1⟩
  rw [List.getD_eq_getElem?_getD, hk, ← hk2]; rfl
theorem ent_last (es : List (T × T)) (ix : List Nat) (j : Nat) (e : T × T) (h : es[j]? = some e) : entT es (ix ++ [j]) = .tup [e.1, e.2] := by
  unfold entT
  rw [List.getLast?_concat]
  simp [h]
abbrev WK (l : Nat) (C : Base → World → Prop) (ks : List N3) (vs : List T) (ix : List Nat) (sl : List (Nat × V)) (bx : List (Nat × BX)) : Wk :=
  { sl := (0, .raw (.func (.yield l) #[] #[])) :: (5, .ptr 2005 0) :: sl, bx := (2, .v [.own 3011 83 3 (outK ks ix)]) :: (2005, .itd (esK ks vs) ix) :: bx, gh := [(0, [(2, .ptr 2 0)])], off := 2000, cx := C }
theorem cK_wp (l d : Nat) (f : FuncId) (tmps : Array Value) (ht : tmps.size = 13) (ks : List N3) (vs : List T) (hvs : vs.length = ks.length) (hl : ks.length < 2 ^ 40) (st0 : St)
    (h0 : st0 = ({sl := [(2, .ptr 2 0), (6, .fn 91 [.t (.cptr [mpT ks vs] 0)])], bx := [(2, .v [.own 3011 83 3 []])]} : Wk).mk') :
    wpC Tryd.prog c91 (st0.iter l (readyRec f tmps 7 (.region 2 (ropsOf 2 fA) false) (.block 1 (.region 3 (ropsOf 3 fA) false)) d) [.t (.cptr [mpT ks vs] 0)] 2000)
      (PostI st0 fun st => st.sl 2 = .ptr 2 0 ∧ (∃ xs, permOf ks xs ∧ st.bx 2 = some (.v [.own 3011 83 3 xs])) ∧ ∀ S w, st.cx S w) := by
  subst h0
  have hes : (esK ks vs).length = ks.length := by simp [hvs]
  repeat' ((conv => whnf); first | exact trivial | refine nT_ ?_ | refine aE1 ?_ | refine aE0 ?_ | refine aN1 ?_ | refine aN0 ?_ | refine aD1 ?_ | refine aD0 ?_ | refine nE_ (fun hq => ?_) (fun hq => ?_) | refine nN_ (fun hq => ?_) (fun hq => ?_) | refine nD_ (fun hq => ?_) (fun hq => ?_) | refine rb1 ?_ | refine rb0 ?_ | refine rbx ?_ | refine rix ?_ | refine aS ?_ | fail)
  refine wpC_loopE 0 (α := List Nat) (β := List Nat) (fun ix => WK l (itA l d f tmps) ks vs ix [] []) (fun ix => ix.Nodup ∧ ∀ j ∈ ix, j < ks.length) (fun ix => ks.length - ix.length)
    (fun ix => WK l (itA l d f tmps) ks vs ix [] []) (fun ix => ix.Perm (List.range ks.length)) [] ⟨List.nodup_nil, by simp⟩ ?_ ?_ ?_
  · exact ⟨⟨.same _, .same _, trivial⟩, ⟨.same _, .same _, trivial⟩, ⟨⟨.same _, trivial⟩, trivial⟩, rfl, fun _ _ h => h, rfl⟩
  · rintro ix ⟨hnd, hix⟩
    refine And.intro (fun j hj => by rw [hes]; exact hix j hj) (And.intro ?_ ?_)
    · intro j e he hj
      obtain ⟨he1, hjl⟩ := esK_get he
      have hent := ent_last _ ix j e he
      have hje : (ix ++ [j]).getLast?.getD 0 < (esK ks vs).length := by rw [List.getLast?_concat, hes]; exact hjl
      obtain ⟨e1, e2⟩ := e
      dsimp only at he1 hent
      subst he1
      have hixl : ix.length ≤ ks.length := by
        have := hnd.length_le_of_subset (l₂ := List.range ks.length) (fun j hj => List.mem_range.2 (hix j hj))
        simpa using this
      have hnd' : (ix ++ [j]).Nodup := by
        rw [List.nodup_append]
        exact ⟨hnd, by simp, fun a ha b hb => by rw [List.mem_singleton.1 hb]; exact fun e => hj (e ▸ ha)⟩
      have hix' : ∀ i ∈ ix ++ [j], i < ks.length := fun i hi => by
        rcases List.mem_append.1 hi with h | h
        · exact hix i h
        · rw [List.mem_singleton.1 h]; exact hjl
      have hixl' : (ix ++ [j]).length ≤ ks.length := by
        have := hnd'.length_le_of_subset (l₂ := List.range ks.length) (fun j hj => List.mem_range.2 (hix' j hj))
        simpa using this
      repeat' ((conv => whnf); first | exact trivial | refine nv_ (.tup [nk (ks.getD j (0, 0, 0)), e2]) hent ?_ | refine nT_ ?_ | refine aE1 ?_ | refine aE0 ?_ | refine aN1 ?_ | refine aN0 ?_ | refine aD1 ?_ | refine aD0 ?_ | refine nE_ (fun hq => ?_) (fun hq => ?_) | refine nN_ (fun hq => ?_) (fun hq => ?_) | refine nD_ (fun hq => ?_) (fun hq => ?_) | refine rb1 ?_ | refine rb0 ?_ | refine rbx ?_ | refine rix ?_ | (refine And.intro (by first | (exact ⟨by simp, hje⟩; done) | fail) ?_) | refine aS ?_ | fail)
      obtain ⟨o, ats, o1, o2, o3, o4⟩ := bK_o
      have hsem : ∀ (st : St) (Q : DExit → St → Prop), SemC Tryd.prog 14 (.region 3 yK false) st Q → SemC Tryd.prog 14 (rg0 3 fK) st Q := fun st Q h => by rw [bK]; exact h
      refine hsem _ _ ?_
      refine yield_sem (P := Tryd.prog) (k1 := [0, 1]) (k := 2) (k2 := [3]) (by kernel_rfl) bK_1 rfl bK_2 rfl o1 o2 o3 o4 (by decide) (p := 7) ht (by decide) bA_2 rfl bA_3 rfl 3000 (l := l) (fn := f) (dd := d) (id1 := 2) (id2 := 3) (bl := 1) ?_
      refine ⟨fun _ _ h => h, rfl, ?_⟩
      repeat' ((conv => whnf); first | exact trivial | refine nT_ ?_ | refine aE1 ?_ | refine aE0 ?_ | refine aN1 ?_ | refine aN0 ?_ | refine aD1 ?_ | refine aD0 ?_ | refine nE_ (fun hq => ?_) (fun hq => ?_) | refine nN_ (fun hq => ?_) (fun hq => ?_) | refine nD_ (fun hq => ?_) (fun hq => ?_) | refine rb1 ?_ | refine rb0 ?_ | refine rbx ?_ | refine rix ?_ | (refine And.intro (by first | (exact fun _ _ => trivial; done) | (exact ⟨rfl, Nat.le_of_ble_eq_true rfl⟩; done) | ((simp; omega); done) | (exact .inl rfl; done) | fail) ?_) | refine aS ?_ | fail)
      refine ⟨ix ++ [j], ⟨hnd', hix'⟩, by rw [List.length_append]; simp at hixl' ⊢; omega, ?_⟩
      refine ⟨⟨.same _, .same _, trivial⟩, ⟨?_, .same _, trivial⟩, ⟨⟨.same _, trivial⟩, trivial⟩, rfl, fun _ _ h => h, rfl⟩
      refine .v _ _ ⟨leOwn ?_, trivial⟩
      simp [outK, putL]
    · intro hall
      repeat' ((conv => whnf); first | exact trivial | refine nT_ ?_ | refine aE1 ?_ | refine aE0 ?_ | refine aN1 ?_ | refine aN0 ?_ | refine aD1 ?_ | refine aD0 ?_ | refine nE_ (fun hq => ?_) (fun hq => ?_) | refine nN_ (fun hq => ?_) (fun hq => ?_) | refine nD_ (fun hq => ?_) (fun hq => ?_) | refine rb1 ?_ | refine rb0 ?_ | refine rbx ?_ | refine rix ?_ | refine aS ?_ | fail)
      refine ⟨ix, range_perm hnd hix (fun j hj => hall j (by rw [hes]; exact hj)), ?_⟩
      exact ⟨⟨.same _, .same _, trivial⟩, ⟨.same _, .same _, trivial⟩, ⟨⟨.same _, trivial⟩, trivial⟩, rfl, fun _ _ h => h, rfl⟩
  rintro ix hp
  repeat' ((conv => whnf); first | exact trivial | refine nT_ ?_ | refine aE1 ?_ | refine aE0 ?_ | refine aN1 ?_ | refine aN0 ?_ | refine aD1 ?_ | refine aD0 ?_ | refine nE_ (fun hq => ?_) (fun hq => ?_) | refine nN_ (fun hq => ?_) (fun hq => ?_) | refine nD_ (fun hq => ?_) (fun hq => ?_) | refine rb1 ?_ | refine rb0 ?_ | refine rbx ?_ | refine rix ?_ | refine aS ?_ | fail)
  exact ⟨⟨_, ⟨ix, hp, rfl⟩, rfl⟩, fun _ _ => trivial⟩
theorem upd_same_id {α : Type} {f : Nat → α} {n : Nat} {v : α} (h : f n = v) : upd f n v = f := by
  funext m
  by_cases e : m = n
  · rw [e, upd_same, h]
  · rw [upd_other _ _ _ _ e]
theorem nk_flat (js : List Nat) (ks : List N3) : ∀ t ∈ (js.map fun j => nk (ks.getD j (0, 0, 0))).flatMap T.cells, t.flat = true := fun t ht => by
  simp only [List.mem_flatMap, List.mem_map] at ht
  obtain ⟨x, ⟨j, _, rfl⟩, hx⟩ := ht
  simp only [T.cells, List.mem_cons, List.not_mem_nil, or_false] at hx
  rcases hx with rfl | rfl | rfl <;> rfl
abbrev keysC (ks : List N3) (vs : List T) : T := .clos 91 [.cptr [mpT ks vs] 0]
theorem f_AppendSeq (ks : List N3) (vs : List T) (hvs : vs.length = ks.length) (hl : ks.length < 2 ^ 40) : FCallsR Tryd.prog 100 [.nil, keysC ks vs] 83 3 (permOf ks) := by
  refine fcallsR_mark Tryd.func100 bA rfl (Nat.le_of_ble_eq_true rfl) ?_
  intro S w a0 hsr hdf
  let K0 : St → Prop := fun st => wpIs Tryd.prog [⟨some 6, .mov (.tmp 1), none, []⟩] st fun st =>
    weak { sl := [(2, .ptr 2 0), (6, .t (keysC ks vs))], bx := [(2, .d 1 [.nil])] } st
  have hK0 : wpIs Tryd.prog [⟨some 2, .box 1 (.tmp 0), none, []⟩, ⟨some 4, .mov (.const .nil), none, []⟩] (initSt [.nil, keysC ks vs]) K0 := by
    repeat' ((conv => whnf); first | exact trivial | refine nT_ ?_ | refine aE1 ?_ | refine aE0 ?_ | refine aN1 ?_ | refine aN0 ?_ | refine aD1 ?_ | refine aD0 ?_ | refine nE_ (fun hq => ?_) (fun hq => ?_) | refine nN_ (fun hq => ?_) (fun hq => ?_) | refine nD_ (fun hq => ?_) (fun hq => ?_) | refine rb1 ?_ | refine rb0 ?_ | refine rbx ?_ | refine rix ?_ | refine aS ?_ | fail)
    exact ⟨⟨.same _, .same _, trivial⟩, ⟨.same _, trivial⟩, trivial, rfl, fun _ _ _ => trivial, rfl⟩
  refine wp_seq (region_wp (X := []) (N := 13) hsr bA_0 (fun a1 w1 h1 => ?_) hK0)
  obtain ⟨E1, s1, rfl, k1, k2, k3⟩ := h1
  refine wp_seq (wp_seq (region_wp (X := []) k1 bA_1 (fun a2 w2 h2 => ?_) k3))
  obtain ⟨E2, s2, rfl, k4, k5, k6⟩ := h2
  obtain ⟨E3, e3, k7⟩ := k4.weak k6
  rw [← e3]
  have k8 := k7.reread (k := 6) (k7.sl 6).clos_fn
  obtain ⟨E4, e4, k10⟩ := SR.weak (a := a2) (s := {sl := [(2, .ptr 2 0), (6, .fn 91 [.t (.cptr [mpT ks vs] 0)])], bx := [(2, .v [.own 3011 83 3 []])]}) k8 ⟨⟨.same _, .same _, trivial⟩, ⟨.dv _ _ _ ⟨.nil _ _ _, trivial⟩, trivial⟩, trivial, rfl, fun _ _ _ => trivial, rfl⟩
  rw [← e4]
  refine wp_block ?_
  refine range_wp mixed k10 (fun _ _ => trivial) (y := .tmp 6) rfl (gf := 91) (caps := [.t (.cptr [mpT ks vs] 0)]) rfl Tryd.func91 l91 rfl rfl rfl (Nat.le_of_ble_eq_true rfl) 2000
    (K := fun st => st.sl 2 = .ptr 2 0 ∧ (∃ xs, permOf ks xs ∧ st.bx 2 = some (.v [.own 3011 83 3 xs])) ∧ ∀ S w, st.cx S w) (fun l d f tmps ht => ?_) (fun a5 w5 h5 => ?_)
  · exact cK_wp l d f tmps ht ks vs hvs hl _ rfl
  · obtain ⟨S0', E5, s5, D, rfl, q1, q2, q3, q4, q5, q6, r1, ⟨xs, hxs, r2⟩, r3⟩ := h5
    have q6' : a5.defers = [{ target := .collected D, args := #[] }] := by rw [q6, k5, k2, hdf]
    show Code.wp _ _ _ _ _
    refine wp_seq (region_wp (X := []) q1 bA_4 (K := fun st => (∀ S w, st.cx S w) ∧ st.sl 4 = .own 3011 83 3 xs) (fun a6 w6 h6 => ?_) ?_)
    · obtain ⟨E6, s6, rfl, p1, p2, p3, p4⟩ := h6
      obtain ⟨js, hjs, rfl⟩ := hxs
      refine wp_ret ⟨.inr rfl, S0', E6, s6, D, rfl, p1, q2, q3, q4, q5, by rw [p2, q6'], p3, _, _, ⟨js, hjs, rfl⟩, nk_flat js ks, ?_, .inl ⟨3011, rfl⟩⟩
      have : resV s6 Tryd.f100.results.toList = some [s6.sl 4] := by
        rw [show Tryd.f100.results.toList = [.tmp 4] from rfl]; rfl
      rw [this, p4]
    · obtain ⟨sl5, bx5, gh5, off5, cx5⟩ := s5
      dsimp only at r1 r2 r3
      obtain ⟨g, rfl⟩ : ∃ g, sl5 = upd g 2 (.ptr 2 0) := ⟨sl5, (upd_same_id r1).symm⟩
      obtain ⟨b, rfl⟩ : ∃ b, bx5 = upd b 2 (some (.v [.own 3011 83 3 xs])) := ⟨bx5, (upd_same_id r2).symm⟩
      exact ⟨r3, rfl⟩
theorem f_Collect (ks : List N3) (vs : List T) (hvs : vs.length = ks.length) (hl : ks.length < 2 ^ 40) : FCallsR Tryd.prog 89 [keysC ks vs] 83 3 (permOf ks) := by
  refine fcallsR_low (rs := [.tmp 2]) mixed Tryd.func89 l89 rfl rfl rfl (Nat.le_of_ble_eq_true rfl) ?_
  repeat' ((conv => whnf); first | exact trivial | refine WC_ownR (ts := [.nil, keysC ks vs]) rfl (f_AppendSeq ks vs hvs hl) (fun xs hx => ?_) | refine nT_ ?_ | refine aE1 ?_ | refine aE0 ?_ | refine aN1 ?_ | refine aN0 ?_ | refine aD1 ?_ | refine aD0 ?_ | refine nE_ (fun hq => ?_) (fun hq => ?_) | refine nN_ (fun hq => ?_) (fun hq => ?_) | refine nD_ (fun hq => ?_) (fun hq => ?_) | refine rb1 ?_ | refine rb0 ?_ | refine rbx ?_ | refine rix ?_ | refine aS ?_ | fail)
  obtain ⟨js, hjs, rfl⟩ := hx
  exact ⟨_, _, ⟨js, hjs, rfl⟩, nk_flat js ks, rfl, .inl ⟨_, rfl⟩⟩
end Go.RC
end
section
namespace Go.Proofs
open Go.Shelf
def Tryd.laysSort90_ren : Go.Shelf.Ren := ⟨fun | 6 => 90 | 15 => 102 | 14 => 101 | 28 => 117 | 29 => 118 | 20 => 109 | 21 => 110 | 22 => 111 | 23 => 112 | 24 => 113 | 25 => 114 | 26 => 115 | 27 => 116 | 46 => 120 | 47 => 121 | 48 => 122 | 49 => 123 | 50 => 124 | 57 => 125 | n => n, fun | 22 => 112 | 24 => 83 | 25 => 86 | 3 => 3 | 39 => 76 | 0 => 0 | 53 => 117 | 55 => 34 | 4 => 4 | 46 => 158 | 45 => 157 | 50 => 162 | 5 => 5 | 9 => 9 | 66 => 166 | 70 => 170 | 76 => 172 | 77 => 173 | n => n, fun | n => n⟩
theorem Tryd.laysSort90 : Go.Proofs.SlLaysF0.n6 Tryd.prog Tryd.laysSort90_ren := {
  mixed := by kernel_rfl
  f6 := ⟨Tryd.f90.name, by decide, Tryd.func90.trans (congrArg some (by kernel_rfl))⟩
  f14 := ⟨Tryd.f101.name, by decide, Tryd.func101.trans (congrArg some (by kernel_rfl))⟩
  f15 := Tryd.func102.trans (congrArg some (by kernel_rfl))
  f20 := ⟨Tryd.f109.name, by decide, Tryd.func109.trans (congrArg some (by kernel_rfl))⟩
  f21 := ⟨Tryd.f110.name, by decide, Tryd.func110.trans (congrArg some (by kernel_rfl))⟩
  f22 := ⟨Tryd.f111.name, by decide, Tryd.func111.trans (congrArg some (by kernel_rfl))⟩
  f23 := ⟨Tryd.f112.name, by decide, Tryd.func112.trans (congrArg some (by kernel_rfl))⟩
  f24 := ⟨Tryd.f113.name, by decide, Tryd.func113.trans (congrArg some (by kernel_rfl))⟩
  f25 := ⟨Tryd.f114.name, by decide, Tryd.func114.trans (congrArg some (by kernel_rfl))⟩
  f26 := ⟨Tryd.f115.name, by decide, Tryd.func115.trans (congrArg some (by kernel_rfl))⟩
  f27 := ⟨Tryd.f116.name, by decide, Tryd.func116.trans (congrArg some (by kernel_rfl))⟩
  f28 := Tryd.func117.trans (congrArg some (by kernel_rfl))
  f29 := Tryd.func118.trans (congrArg some (by kernel_rfl))
  f46 := ⟨Tryd.f120.name, by decide, Tryd.func120.trans (congrArg some (by kernel_rfl))⟩
  f47 := Tryd.func121.trans (congrArg some (by kernel_rfl))
  f48 := Tryd.func122.trans (congrArg some (by kernel_rfl))
  f49 := ⟨Tryd.f123.name, by decide, Tryd.func123.trans (congrArg some (by kernel_rfl))⟩
  f50 := ⟨Tryd.f124.name, by decide, Tryd.func124.trans (congrArg some (by kernel_rfl))⟩
  f57 := ⟨Tryd.f125.name, by decide, Tryd.func125.trans (congrArg some (by kernel_rfl))⟩
  t0 := Tryd.underlying0
  a0 := Tryd.isAgg0
  z0 := Tryd.sizeOf0
  v0 := Tryd.zeroValue0
  t3 := Tryd.underlying3
  a3 := Tryd.isAgg3
  z3 := Tryd.sizeOf3
  v3 := Tryd.zeroValue3
  t4 := Tryd.underlying4
  a4 := Tryd.isAgg4
  z4 := Tryd.sizeOf4
  v4 := Tryd.zeroValue4
  t5 := Tryd.underlying5
  a5 := Tryd.isAgg5
  z5 := Tryd.sizeOf5
  v5 := Tryd.zeroValue5
  t9 := Tryd.underlying9
  a9 := Tryd.isAgg9
  z9 := Tryd.sizeOf9
  v9 := Tryd.zeroValue9
  t22 := Tryd.underlying112
  a22 := Tryd.isAgg112
  z22 := Tryd.sizeOf112
  v22 := Tryd.zeroValue112
  t25 := Tryd.underlying86
  a25 := Tryd.isAgg86
  z25 := Tryd.sizeOf86
  v25 := Tryd.zeroValue86
  t39 := Tryd.underlying76
  a39 := Tryd.isAgg76
  z39 := Tryd.sizeOf76
  v39 := Tryd.zeroValue76
  t45 := Tryd.underlying157
  a45 := Tryd.isAgg157
  z45 := Tryd.sizeOf157
  v45 := Tryd.zeroValue157
  t46 := Tryd.underlying158
  a46 := Tryd.isAgg158
  z46 := Tryd.sizeOf158
  v46 := Tryd.zeroValue158
  t50 := Tryd.underlying162
  a50 := Tryd.isAgg162
  z50 := Tryd.sizeOf162
  v50 := Tryd.zeroValue162
  t53 := Tryd.underlying117
  a53 := Tryd.isAgg117
  z53 := Tryd.sizeOf117
  v53 := Tryd.zeroValue117
  t55 := Tryd.underlying34
  a55 := Tryd.isAgg34
  z55 := Tryd.sizeOf34
  v55 := Tryd.zeroValue34
  t66 := Tryd.underlying166
  a66 := Tryd.isAgg166
  z66 := Tryd.sizeOf166
  v66 := Tryd.zeroValue166
  t70 := Tryd.underlying170
  a70 := Tryd.isAgg170
  z70 := Tryd.sizeOf170
  v70 := Tryd.zeroValue170
  t76 := Tryd.underlying172
  a76 := Tryd.isAgg172
  z76 := Tryd.sizeOf172
  v76 := Tryd.zeroValue172
  t77 := Tryd.underlying173
  a77 := Tryd.isAgg173
  z77 := Tryd.sizeOf173
  v77 := Tryd.zeroValue173 }
end Go.Proofs
end
section
namespace Go.RC
open Go Go.DL Go.Proofs
set_option maxRecDepth 100000
set_option maxHeartbeats 1000000
theorem sortsN : SortsK Tryd.prog 90 3 :=
  SortsK.of Tryd.laysSort90 3 (fun w => Tryd.isAgg83 w) (fun w => Tryd.sizeOf83 w) (callable_of Tryd.func90 rfl rfl)
theorem WC_sort_nil {P : Program} {f : FuncId} {k : Nat} {u : V} {d : Option Nat} {st : St} {K : St → Prop} (hs : SortsK P f k) (hk : K (st.set d (.t (.tup [])))) : WC P f [.t .nil, u] d st K := by
  refine ⟨hs.callable, fun N w0 S0 E a vs h hvl hv hd => ?_⟩
  have hsz : vs.size = 2 := hvl
  have hv0 := (hv 0 vs[0] _ (by simp [hsz]) rfl).inv_t
  have hvs : vs = #[vs[0], vs[1]] := by
    apply Array.ext
    · simp [hsz]
    · intro i h1 h2
      match i, h1 with
      | 0, _ => rfl
      | 1, _ => rfl
      | i + 2, h1 => omega
  have hsl : vs[0] = .slice none 0 0 := by
    generalize vs[0] = v at hv0
    cases hv0; rfl
  have hcall := hs.none_ none 0 vs[1] E.w
  rw [← hsl, ← hvs] at hcall
  refine hcall.mono ?_
  rintro e' w' ⟨rfl, rfl⟩
  exact ⟨_, rfl, _, _, rfl, hk, set_put h hd (.t _ _ (.tup #[] [] rfl fun i x t hx => by simp at hx))⟩
def cfN : T → T → Int
  | .agg [.int _ a, .int _ b, .int _ c], .agg [.int _ a', .int _ b', .int _ c'] => cmpN (a, b, c) (a', b', c')
  | _, _ => 0
def unk : T → N3
  | .agg [.int _ a, .int _ b, .int _ c] => (a, b, c)
  | _ => (0, 0, 0)
theorem cmpN_irr (a : N3) : ¬ cmpN a a < 0 := by rw [cmpN_lt]; omega
theorem cmpN_tr {a b c : N3} (h : cmpN a b < 0) (k : cmpN b c < 0) : cmpN a c < 0 := by rw [cmpN_lt] at *; omega
theorem cmpN_ntr {a b c : N3} (h : ¬ cmpN a b < 0) (k : ¬ cmpN b c < 0) : ¬ cmpN a c < 0 := by rw [cmpN_lt] at *; omega
theorem cmpN_anti {a b : N3} (h : ¬ cmpN a b < 0) (k : ¬ cmpN b a < 0) : a = b := by
  obtain ⟨a1, a2, a3⟩ := a
  obtain ⟨b1, b2, b3⟩ := b
  rw [cmpN_lt] at *
  simp only at h k
  simp only [Prod.mk.injEq]
  omega
def srt (ks : List N3) : List N3 := ks.mergeSort fun a b => !decide (cmpN b a < 0)
theorem srt_perm (ks : List N3) : (srt ks).Perm ks := List.mergeSort_perm _ _
theorem srt_sorted (ks : List N3) : (srt ks).Pairwise fun a b => ¬ cmpN b a < 0 := by
  have := List.pairwise_mergeSort (le := fun a b : N3 => !decide (cmpN b a < 0)) (fun a b c h k => by
    simp only [Bool.not_eq_true', decide_eq_false_iff_not] at *
    exact cmpN_ntr k h) (fun a b => by
    simp only [Bool.or_eq_true, Bool.not_eq_true', decide_eq_false_iff_not]
    rw [cmpN_lt, cmpN_lt]; omega) ks
  exact this.imp (fun h => by simpa using h)
theorem srt_eq {ks zs : List N3} (hp : zs.Perm ks) (hs : zs.Pairwise fun a b => ¬ cmpN b a < 0) : zs = srt ks :=
  List.Perm.eq_of_pairwise (fun a b _ _ h k => cmpN_anti k h) hs (srt_sorted ks) (hp.trans (srt_perm ks).symm)
theorem permOf_zs {ks : List N3} {xs : List T} (h : permOf ks xs) : ∃ zs : List N3, zs.Perm ks ∧ xs = zs.map nk := by
  obtain ⟨js, hp, rfl⟩ := h
  refine ⟨js.map fun j => ks.getD j (0, 0, 0), ?_, by simp⟩
  have h1 : ((List.range ks.length).map fun j => ks.getD j (0, 0, 0)) = ks := by
    apply List.ext_getElem?
    intro i
    rw [List.getElem?_map]
    by_cases h : i < ks.length
    · simp [h]
    · simp [h]
  have := hp.map (fun j => ks.getD j (0, 0, 0))
  rwa [h1] at this
theorem perm_nk {zs : List N3} {ys : List T} (h : ys.Perm (zs.map nk)) : ∃ zs' : List N3, zs'.Perm zs ∧ ys = zs'.map nk := by
  refine ⟨ys.map unk, ?_, ?_⟩
  · have := h.map unk
    rw [List.map_map] at this
    rwa [show unk ∘ nk = id from rfl, List.map_id] at this
  · rw [List.map_map]
    have : ys.map (nk ∘ unk) = ys.map id := List.map_congr_left fun y hy => by
      obtain ⟨z, _, rfl⟩ := List.mem_map.1 (h.mem_iff.1 hy)
      rfl
    rw [this, List.map_id]
theorem chunk_nk : ∀ (zs : List N3) (n : Nat), zs.length = n → chunk 3 n ((zs.map nk).flatMap T.cells) = zs.map nk
  | [], 0, _ => rfl
  | z :: zs, n + 1, h => by
    show nk z :: chunk 3 n ((zs.map nk).flatMap T.cells) = _
    rw [chunk_nk zs n (by simpa using h)]
    rfl
  | z :: zs, 0, h => by simp at h
  | [], n + 1, h => by simp at h
theorem flat_nk : ∀ (zs : List N3), ((zs.map nk).flatMap T.cells).length = zs.length * 3
  | [] => rfl
  | z :: zs => by
    rw [List.map_cons, List.flatMap_cons, List.length_append, flat_nk zs, List.length_cons]
    show 3 + _ = _
    omega
theorem isnew_srt_nil {bx : Nat → Option BX} : IsNew bx (.t .nil) (.slice 3 ((srt []).map nk)) := by
  rw [show srt [] = [] by simp [srt]]
  exact .nil 3
theorem n_Sorted (ks : List N3) (vs : List T) (hvs : vs.length = ks.length) (hl : ks.length < 2 ^ 40) : NCalls Tryd.prog 70 [keysC ks vs, .clos 52 []] (.slice 3 ((srt ks).map nk)) := by
  refine ncalls_low (rs := [.tmp 4]) mixed Tryd.func70 l70 rfl rfl rfl (Nat.le_of_ble_eq_true rfl) ?_
  repeat' ((conv => whnf); first | exact trivial | refine WC_viewR (ts := [keysC ks vs]) rfl (f_Collect ks vs hvs hl) rfl (fun h0 => ?_) (fun xs hx hc => ?_) | refine nT_ ?_ | refine aE1 ?_ | refine aE0 ?_ | refine aN1 ?_ | refine aN0 ?_ | refine aD1 ?_ | refine aD0 ?_ | refine nE_ (fun hq => ?_) (fun hq => ?_) | refine nN_ (fun hq => ?_) (fun hq => ?_) | refine nD_ (fun hq => ?_) (fun hq => ?_) | refine rb1 ?_ | refine rb0 ?_ | refine rbx ?_ | refine rix ?_ | refine aS ?_ | fail)
  · obtain ⟨zs, hp, h0⟩ := permOf_zs h0
    have : zs = [] := by
      cases zs with
      | nil => rfl
      | cons z zs => cases h0
    subst this
    have : ks = [] := List.nil_perm.1 hp
    subst this
    repeat' ((conv => whnf); first | exact trivial | refine WC_sort_nil sortsN ?_ | refine nT_ ?_ | refine aE1 ?_ | refine aE0 ?_ | refine aN1 ?_ | refine aN0 ?_ | refine aD1 ?_ | refine aD0 ?_ | refine nE_ (fun hq => ?_) (fun hq => ?_) | refine nN_ (fun hq => ?_) (fun hq => ?_) | refine nD_ (fun hq => ?_) (fun hq => ?_) | refine rb1 ?_ | refine rb0 ?_ | refine rbx ?_ | refine rix ?_ | refine aS ?_ | fail)
    exact ⟨.t .nil, rfl, isnew_srt_nil⟩
  · obtain ⟨zs, hp, rfl⟩ := permOf_zs hx
    have hzl : zs.length < 2 ^ 40 := by rw [hp.length_eq]; exact hl
    have hch : chunk 3 (zs.map nk).length (((zs.map nk).flatMap T.cells).drop 0) = zs.map nk := chunk_nk zs _ (by simp)
    repeat' ((conv => whnf); first | exact trivial | (refine WC_sort (n := 7) (off := 0) (len := (zs.map nk).length) (k := 3) (m := (zs.map nk).length * 3) (ts := (zs.map nk).flatMap T.cells) sortsN rfl (by omega) (by decide) (by simp; omega) (.inl rfl) (callable_of Tryd.func52 rfl rfl) cfN ?_ ?_ ?_ ?_ (fun ys hy hps => ?_)) | refine nT_ ?_ | refine aE1 ?_ | refine aE0 ?_ | refine aN1 ?_ | refine aN0 ?_ | refine aD1 ?_ | refine aD0 ?_ | refine nE_ (fun hq => ?_) (fun hq => ?_) | refine nN_ (fun hq => ?_) (fun hq => ?_) | refine nD_ (fun hq => ?_) (fun hq => ?_) | refine rb1 ?_ | refine rb0 ?_ | refine rbx ?_ | refine rix ?_ | refine aS ?_ | fail)
    · rw [hch]
      intro x hx y hy
      obtain ⟨a, _, rfl⟩ := List.mem_map.1 hx
      obtain ⟨b, _, rfl⟩ := List.mem_map.1 hy
      exact t_compare a b
    · rw [hch]
      intro x hx
      obtain ⟨a, _, rfl⟩ := List.mem_map.1 hx
      exact cmpN_irr a
    · rw [hch]
      intro x hx y hy z hz
      obtain ⟨a, _, rfl⟩ := List.mem_map.1 hx
      obtain ⟨b, _, rfl⟩ := List.mem_map.1 hy
      obtain ⟨c, _, rfl⟩ := List.mem_map.1 hz
      exact cmpN_tr
    · rw [hch]
      intro x hx y hy z hz
      obtain ⟨a, _, rfl⟩ := List.mem_map.1 hx
      obtain ⟨b, _, rfl⟩ := List.mem_map.1 hy
      obtain ⟨c, _, rfl⟩ := List.mem_map.1 hz
      exact cmpN_ntr
    · rw [hch] at hy
      obtain ⟨us, hu, rfl⟩ := perm_nk hy
      have hus : us = srt ks := srt_eq (hu.trans hp) ((List.pairwise_map.1 hps).imp fun h => h)
      subst hus
      have hul : (srt ks).length = zs.length := hu.length_eq
      repeat' ((conv => whnf); first | exact trivial | refine nT_ ?_ | refine aE1 ?_ | refine aE0 ?_ | refine aN1 ?_ | refine aN0 ?_ | refine aD1 ?_ | refine aD0 ?_ | refine nE_ (fun hq => ?_) (fun hq => ?_) | refine nN_ (fun hq => ?_) (fun hq => ?_) | refine nD_ (fun hq => ?_) (fun hq => ?_) | refine rb1 ?_ | refine rb0 ?_ | refine rbx ?_ | refine rix ?_ | refine aS ?_ | fail)
      have hln : (zs.map nk).length = (srt ks).length := by rw [List.length_map]; exact hul.symm
      have hpu : putL ((zs.map nk).flatMap T.cells) 0 ((zs.map nk).length * 3) (((srt ks).map nk).flatMap T.cells) = ((srt ks).map nk).flatMap T.cells := putL_all (by rw [flat_nk, List.length_map])
      refine ⟨.view 7 0 (zs.map nk).length 3, rfl, .view 7 0 (zs.map nk).length 3 ((zs.map nk).length * 3) (putL ((zs.map nk).flatMap T.cells) 0 ((zs.map nk).length * 3) (((srt ks).map nk).flatMap T.cells)) _ [7] rfl ?_ ?_⟩
      · rw [hpu]
        intro t ht
        simp only [List.mem_flatMap, List.mem_map] at ht
        obtain ⟨x, ⟨z, _, rfl⟩, hx⟩ := ht
        simp only [T.cells, List.mem_cons, List.not_mem_nil, or_false] at hx
        rcases hx with rfl | rfl | rfl <;> rfl
      · show (cond (Nat.blt 0 3 && Nat.ble (0 + (zs.map nk).length * 3) ((zs.map nk).length * 3)) (some (T.slice 3 (chunk 3 (zs.map nk).length ((putL ((zs.map nk).flatMap T.cells) 0 ((zs.map nk).length * 3) (((srt ks).map nk).flatMap T.cells)).drop 0)), [7])) none) = _
        rw [hpu, Nat.zero_add, List.drop_zero, hln, chunk_nk _ _ rfl]
        have : Nat.ble ((srt ks).length * 3) ((srt ks).length * 3) = true := Nat.ble_eq_true_of_le (Nat.le_refl _)
        rw [this]
        rfl
end Go.RC
end
section
namespace Go.RC
open Go Go.DL Go.Proofs
set_option maxRecDepth 100000
set_option maxHeartbeats 1000000
def cmpL (c d : Int) (s t : List Int) : Int × Int := if c < d ∨ (c = d ∧ s ≠ t) then (0, 26) else (c - d, 0)
theorem t_Compare (x y : List Int) (hx : x.length = 8) (hy : y.length = 8) (hxi : ∀ a ∈ x, i64 a) (hyi : ∀ a ∈ y, i64 a) (hx0 : 0 ≤ x.getD 3 0) (hy0 : 0 ≤ y.getD 3 0) : DCalls Tryd.prog 19 [ln x, ln y] (verT (cmpL (x.getD 3 0) (y.getD 3 0) (x.drop 4) (y.drop 4))) := by
  obtain ⟨a, b, c, d, e, f, g, j, rfl⟩ := ex8 hx
  obtain ⟨a', b', c', d', e', f', g', j', rfl⟩ := ex8 hy
  have hd := hxi d (by simp)
  have hd' := hyi d' (by simp)
  have hx0 : 0 ≤ d := hx0
  have hy0 : 0 ≤ d' := hy0
  obtain ⟨q1, q2⟩ := hd
  obtain ⟨q3, q4⟩ := hd'
  have hw : IntKind.i64.wrap (d - d') = d - d' := wrap_id (by omega) (by omega)
  refine dcalls_low (rs := [.tmp 4, .tmp 5]) mixed Tryd.func19 l19 rfl rfl rfl (r := [I _, I _]) (Nat.le_of_ble_eq_true rfl) ?_
  show wpC _ _ _ (Post _ _ [I (cmpL d d' [e, f, g, j] [e', f', g', j']).1, I (cmpL d d' [e, f, g, j] [e', f', g', j']).2])
  unfold cmpL
  by_cases h1 : d < d'
  · rw [if_pos (.inl h1)]
    repeat' ((conv => whnf); first | exact trivial | (refine now_D1 (by rw [hw]; omega) ?_) | refine nT_ ?_ | refine aE1 ?_ | refine aE0 ?_ | refine aN1 ?_ | refine aN0 ?_ | refine aD1 ?_ | refine aD0 ?_ | refine nE_ (fun hq => ?_) (fun hq => ?_) | refine nN_ (fun hq => ?_) (fun hq => ?_) | refine nD_ (fun hq => ?_) (fun hq => ?_) | refine rb1 ?_ | refine rb0 ?_ | refine rbx ?_ | refine rix ?_ | refine aS ?_ | fail)
  by_cases h2 : d = d'
  · by_cases h3 : [e, f, g, j] = [e', f', g', j']
    · rw [if_neg (fun h => h.elim h1 fun h => h.2 h3)]
      repeat' ((conv => whnf); first | exact trivial | (refine now_D0 (by rw [hw]; omega) ?_) | (refine now_E1 (by rw [hw]; omega) ?_) | refine nb_ (!true) (neI (a := [e, f, g, j]) (b := [e', f', g', j']) (decide_eq_true h3)) ?_ | refine nT_ ?_ | refine aE1 ?_ | refine aE0 ?_ | refine aN1 ?_ | refine aN0 ?_ | refine aD1 ?_ | refine aD0 ?_ | refine nE_ (fun hq => ?_) (fun hq => ?_) | refine nN_ (fun hq => ?_) (fun hq => ?_) | refine nD_ (fun hq => ?_) (fun hq => ?_) | refine rb1 ?_ | refine rb0 ?_ | refine rbx ?_ | refine rix ?_ | (refine And.intro (by first | (exact ⟨fits4 (a := [e, f, g, j]) rfl, fits4 (a := [e', f', g', j']) rfl⟩; done) | fail) ?_) | refine aS ?_ | (exact ri hw (ri rfl trivial)) | fail)
    · rw [if_pos (.inr ⟨h2, h3⟩)]
      repeat' ((conv => whnf); first | exact trivial | (refine now_D0 (by rw [hw]; omega) ?_) | (refine now_E1 (by rw [hw]; omega) ?_) | refine nb_ (!false) (neI (a := [e, f, g, j]) (b := [e', f', g', j']) (decide_eq_false h3)) ?_ | refine nT_ ?_ | refine aE1 ?_ | refine aE0 ?_ | refine aN1 ?_ | refine aN0 ?_ | refine aD1 ?_ | refine aD0 ?_ | refine nE_ (fun hq => ?_) (fun hq => ?_) | refine nN_ (fun hq => ?_) (fun hq => ?_) | refine nD_ (fun hq => ?_) (fun hq => ?_) | refine rb1 ?_ | refine rb0 ?_ | refine rbx ?_ | refine rix ?_ | (refine And.intro (by first | (exact ⟨fits4 (a := [e, f, g, j]) rfl, fits4 (a := [e', f', g', j']) rfl⟩; done) | fail) ?_) | refine aS ?_ | fail)
  · rw [if_neg (fun h => h.elim h1 fun h => h2 h.1)]
    repeat' ((conv => whnf); first | exact trivial | (refine now_D0 (by rw [hw]; omega) ?_) | (refine now_E0 (by rw [hw]; omega) ?_) | refine nT_ ?_ | refine aE1 ?_ | refine aE0 ?_ | refine aN1 ?_ | refine aN0 ?_ | refine aD1 ?_ | refine aD0 ?_ | refine nE_ (fun hq => ?_) (fun hq => ?_) | refine nN_ (fun hq => ?_) (fun hq => ?_) | refine nD_ (fun hq => ?_) (fun hq => ?_) | refine rb1 ?_ | refine rb0 ?_ | refine rbx ?_ | refine rix ?_ | refine aS ?_ | (exact ri hw (ri rfl trivial)) | fail)
theorem t_refCompare (x y : List Int) (hx : x.length = 8) (hy : y.length = 8) (hxi : ∀ a ∈ x, i64 a) (hyi : ∀ a ∈ y, i64 a) (hx0 : 0 ≤ x.getD 3 0) (hy0 : 0 ≤ y.getD 3 0) : DCalls Tryd.prog 27 [ln x, ln y] (verT (cmpL (x.getD 3 0) (y.getD 3 0) (x.drop 4) (y.drop 4))) := by
  obtain ⟨a, b, c, d, e, f, g, j, rfl⟩ := ex8 hx
  obtain ⟨a', b', c', d', e', f', g', j', rfl⟩ := ex8 hy
  have hd := hxi d (by simp)
  have hd' := hyi d' (by simp)
  have hx0 : 0 ≤ d := hx0
  have hy0 : 0 ≤ d' := hy0
  obtain ⟨q1, q2⟩ := hd
  obtain ⟨q3, q4⟩ := hd'
  have hw : IntKind.i64.wrap (d - d') = d - d' := wrap_id (by omega) (by omega)
  refine dcalls_low (rs := [.tmp 4, .tmp 5]) mixed Tryd.func27 l27 rfl rfl rfl (r := [I _, I _]) (Nat.le_of_ble_eq_true rfl) ?_
  show wpC _ _ _ (Post _ _ [I (cmpL d d' [e, f, g, j] [e', f', g', j']).1, I (cmpL d d' [e, f, g, j] [e', f', g', j']).2])
  unfold cmpL
  by_cases h1 : d < d'
  · rw [if_pos (.inl h1)]
    repeat' ((conv => whnf); first | exact trivial | refine nT_ ?_ | refine aE1 ?_ | refine aE0 ?_ | refine aN1 ?_ | refine aN0 ?_ | refine aD1 ?_ | refine aD0 ?_ | refine nE_ (fun hq => ?_) (fun hq => ?_) | refine nN_ (fun hq => ?_) (fun hq => ?_) | refine nD_ (fun hq => ?_) (fun hq => ?_) | refine rb1 ?_ | refine rb0 ?_ | refine rbx ?_ | refine rix ?_ | refine aS ?_ | fail)
  by_cases h2 : d = d'
  · by_cases h3 : [e, f, g, j] = [e', f', g', j']
    · rw [if_neg (fun h => h.elim h1 fun h => h.2 h3)]
      repeat' ((conv => whnf); first | exact trivial | refine nb_ (!true) (neI (a := [e', f', g', j']) (b := [e, f, g, j]) (decide_eq_true h3.symm)) ?_ | refine nT_ ?_ | refine aE1 ?_ | refine aE0 ?_ | refine aN1 ?_ | refine aN0 ?_ | refine aD1 ?_ | refine aD0 ?_ | refine nE_ (fun hq => ?_) (fun hq => ?_) | refine nN_ (fun hq => ?_) (fun hq => ?_) | refine nD_ (fun hq => ?_) (fun hq => ?_) | refine rb1 ?_ | refine rb0 ?_ | refine rbx ?_ | refine rix ?_ | (refine And.intro (by first | (exact ⟨fits4 (a := [e', f', g', j']) rfl, fits4 (a := [e, f, g, j]) rfl⟩; done) | fail) ?_) | refine aS ?_ | (exact ri hw (ri rfl trivial)) | fail)
    · rw [if_pos (.inr ⟨h2, h3⟩)]
      repeat' ((conv => whnf); first | exact trivial | refine nb_ (!false) (neI (a := [e', f', g', j']) (b := [e, f, g, j]) (decide_eq_false (fun h => h3 h.symm))) ?_ | refine nT_ ?_ | refine aE1 ?_ | refine aE0 ?_ | refine aN1 ?_ | refine aN0 ?_ | refine aD1 ?_ | refine aD0 ?_ | refine nE_ (fun hq => ?_) (fun hq => ?_) | refine nN_ (fun hq => ?_) (fun hq => ?_) | refine nD_ (fun hq => ?_) (fun hq => ?_) | refine rb1 ?_ | refine rb0 ?_ | refine rbx ?_ | refine rix ?_ | (refine And.intro (by first | (exact ⟨fits4 (a := [e', f', g', j']) rfl, fits4 (a := [e, f, g, j]) rfl⟩; done) | fail) ?_) | refine aS ?_ | fail)
  · rw [if_neg (fun h => h.elim h1 fun h => h2 h.1)]
    repeat' ((conv => whnf); first | exact trivial | refine nT_ ?_ | refine aE1 ?_ | refine aE0 ?_ | refine aN1 ?_ | refine aN0 ?_ | refine aD1 ?_ | refine aD0 ?_ | refine nE_ (fun hq => ?_) (fun hq => ?_) | refine nN_ (fun hq => ?_) (fun hq => ?_) | refine nD_ (fun hq => ?_) (fun hq => ?_) | refine rb1 ?_ | refine rb0 ?_ | refine rbx ?_ | refine rix ?_ | refine aS ?_ | (exact ri hw (ri rfl trivial)) | fail)
def few (l : List Rc) (most : Int) : Bool := l.all (fun r => decide (r.ls.length ≤ 12)) && decide ((l.length : Int) ≤ most)
theorem t_Few (l : List Rc) (most : Int) (hl : l.length < 2 ^ 40) : DCalls Tryd.prog 20 [rcs l, I most] (.bool (few l most)) := by
  refine dcalls_low (rs := [.tmp 4]) mixed Tryd.func20 l20 rfl rfl rfl (r := [.bool _]) (Nat.le_of_ble_eq_true rfl) ?_
  repeat' ((conv => whnf); first | exact trivial | refine nT_ ?_ | refine aE1 ?_ | refine aE0 ?_ | refine aN1 ?_ | refine aN0 ?_ | refine aD1 ?_ | refine aD0 ?_ | refine nE_ (fun hq => ?_) (fun hq => ?_) | refine nN_ (fun hq => ?_) (fun hq => ?_) | refine nD_ (fun hq => ?_) (fun hq => ?_) | refine rb1 ?_ | refine rb0 ?_ | refine rbx ?_ | refine rix ?_ | refine aS ?_ | fail)
  refine wpC_loopE 0 (α := Nat) (β := Unit) (fun k => {sl := [(0, .t (rcs l)), (1, .t (I most)), (5, .t (I k))], bx := []})
    (fun k => k ≤ l.length ∧ (l.take k).all (fun r => decide (r.ls.length ≤ 12)) = true) (fun k => l.length - k) (fun _ => {sl := [(0, .t (rcs l)), (1, .t (I most))], bx := []}) (fun _ => l.all (fun r => decide (r.ls.length ≤ 12)) = true) 0 ⟨by omega, rfl⟩ ?_ ?_ ?_
  · repeat' (first | exact trivial | exact LeV.same _ | exact LeB.same _ | exact rfl | exact fun _ _ _ => trivial | exact lI | exact LeV.nil _ _ _ | exact lB | refine leBd ?_ | refine leOwn ?_ | refine And.intro ?_ ?_)
  · rintro k ⟨hk, ha⟩
    rcases Nat.lt_or_ge k l.length with h2 | h2
    · have hno := all_no (p := fun r : Rc => decide (r.ls.length ≤ 12)) (l := l) (i := k) h2
      have hye := all_take (p := fun r : Rc => decide (r.ls.length ≤ 12)) (l := l) (i := k) h2 ha
      have hxe : l[k]? = some l[k] := List.getElem?_eq_getElem h2
      generalize l[k] = r at hno hye hxe
      obtain ⟨n, i, ls, rp⟩ := r
      by_cases h3 : ls.length ≤ 12
      · repeat' ((conv => whnf); first | exact trivial | (refine now_D1 (by simp; omega) ?_) | (refine nv_ (rcT n i ls rp) (by first | (exact eltRc (r := ⟨n, i, ls, rp⟩) (by simp only [Int.toNat_natCast]; exact hxe); done) | fail) ?_) | (refine now_D0 (by simp; omega) ?_) | refine nT_ ?_ | refine aE1 ?_ | refine aE0 ?_ | refine aN1 ?_ | refine aN0 ?_ | refine aD1 ?_ | refine aD0 ?_ | refine nE_ (fun hq => ?_) (fun hq => ?_) | refine nN_ (fun hq => ?_) (fun hq => ?_) | refine nD_ (fun hq => ?_) (fun hq => ?_) | refine rb1 ?_ | refine rb0 ?_ | refine rbx ?_ | refine rix ?_ | (refine And.intro (by first | ((simp; omega); done) | fail) ?_) | refine aS ?_ | fail)
        exact ⟨k + 1, ⟨by omega, hye (by simpa using h3)⟩, by omega, by repeat' (first | exact trivial | exact LeV.same _ | exact LeB.same _ | exact rfl | exact fun _ _ _ => trivial | exact lI | exact LeV.nil _ _ _ | exact lB | refine leBd ?_ | refine leOwn ?_ | refine And.intro ?_ ?_)⟩
      · have hf : false = few l most := by unfold few; rw [hno (by simpa using h3)]; rfl
        repeat' ((conv => whnf); first | exact trivial | (refine now_D1 (by simp; omega) ?_) | (refine nv_ (rcT n i ls rp) (by first | (exact eltRc (r := ⟨n, i, ls, rp⟩) (by simp only [Int.toNat_natCast]; exact hxe); done) | fail) ?_) | refine nT_ ?_ | refine aE1 ?_ | refine aE0 ?_ | refine aN1 ?_ | refine aN0 ?_ | refine aD1 ?_ | refine aD0 ?_ | refine nE_ (fun hq => ?_) (fun hq => ?_) | refine nN_ (fun hq => ?_) (fun hq => ?_) | refine nD_ (fun hq => ?_) (fun hq => ?_) | refine rb1 ?_ | refine rb0 ?_ | refine rbx ?_ | refine rix ?_ | (refine And.intro (by first | ((simp; omega); done) | fail) ?_) | refine aS ?_ | (exact rb hf trivial) | fail)
    · have : k = l.length := by omega
      subst this
      rw [List.take_length] at ha
      repeat' ((conv => whnf); first | exact trivial | refine now_D0 (by simp) ?_ | refine nT_ ?_ | refine aE1 ?_ | refine aE0 ?_ | refine aN1 ?_ | refine aN0 ?_ | refine aD1 ?_ | refine aD0 ?_ | refine nE_ (fun hq => ?_) (fun hq => ?_) | refine nN_ (fun hq => ?_) (fun hq => ?_) | refine nD_ (fun hq => ?_) (fun hq => ?_) | refine rb1 ?_ | refine rb0 ?_ | refine rbx ?_ | refine rix ?_ | refine aS ?_ | fail)
      exact ⟨(), ha, by repeat' (first | exact trivial | exact LeV.same _ | exact LeB.same _ | exact rfl | exact fun _ _ _ => trivial | exact lI | exact LeV.nil _ _ _ | exact lB | refine leBd ?_ | refine leOwn ?_ | refine And.intro ?_ ?_)⟩
  rintro - hr
  unfold few
  rw [hr]
  repeat' ((conv => whnf); first | exact trivial | refine nD_ (fun hq => ?_) (fun hq => ?_) | refine nT_ ?_ | refine aE1 ?_ | refine aE0 ?_ | refine aN1 ?_ | refine aN0 ?_ | refine aD1 ?_ | refine aD0 ?_ | refine nE_ (fun hq => ?_) (fun hq => ?_) | refine nN_ (fun hq => ?_) (fun hq => ?_) | refine nD_ (fun hq => ?_) (fun hq => ?_) | refine rb1 ?_ | refine rb0 ?_ | refine rbx ?_ | refine rix ?_ | refine aS ?_ | fail)
  all_goals (refine rb ?_ trivial; simpa using hq)
def totS (s p f : Int) : List Rc → Int × List Int → Int × List Int
  | [], a => a
  | r :: l, a => totS s p f l (match r.ls.find? (isN s p f) with
    | some x => (a.1 + x.getD 3 0, sAdd a.2 (x.drop 4))
    | none => a)
def totL (s p f : Int) (l : List Rc) : List Int := let a := totS s p f l (0, [0, 0, 0, 0]); [s, p, f, a.1] ++ a.2
def sumsOk (l : List Rc) : Prop := ∀ r ∈ l, ∀ x ∈ r.ls, 0 ≤ x.getD 3 0 ∧ x.getD 3 0 ≤ 1073741824 ∧ isS (x.drop 4)
theorem totS_drop {s p f : Int} {l : List Rc} {k : Nat} {a : Int × List Int} (h : k < l.length) : totS s p f (l.drop k) a = totS s p f (l.drop (k + 1)) (match l[k].ls.find? (isN s p f) with
    | some x => (a.1 + x.getD 3 0, sAdd a.2 (x.drop 4))
    | none => a) := by
  rw [List.drop_eq_getElem_cons h]
  rfl
theorem t_Total (s p f : Int) (l : List Rc) (hl : l.length < 2 ^ 20) (hr : ∀ r ∈ l, r.ok) (hs : sumsOk l) : DCalls Tryd.prog 32 [rcs l, I s, I p, I f] (ln (totL s p f l)) := by
  refine dcalls_low (rs := [.cell 8 36]) mixed Tryd.func32 l32 rfl rfl rfl (r := [.agg _]) (Nat.le_of_ble_eq_true rfl) ?_
  repeat' ((conv => whnf); first | exact trivial | refine nT_ ?_ | refine aE1 ?_ | refine aE0 ?_ | refine aN1 ?_ | refine aN0 ?_ | refine aD1 ?_ | refine aD0 ?_ | refine nE_ (fun hq => ?_) (fun hq => ?_) | refine nN_ (fun hq => ?_) (fun hq => ?_) | refine nD_ (fun hq => ?_) (fun hq => ?_) | refine rb1 ?_ | refine rb0 ?_ | refine rbx ?_ | refine rix ?_ | refine aS ?_ | fail)
  refine wpC_loopE 0 (α := Nat × Int × List Int) (β := Unit) (fun q => {sl := [(0, .t (rcs l)), (1, .t (I s)), (2, .t (I p)), (3, .t (I f)), (8, .ptr 8 0), (9, .ptr 9 0), (18, .t (rcs l)), (19, .t (I l.length)), (20, .t (I q.1))], bx := [(8, .d 8 [I 0, I 0, I 0, I 0, I 0, I 0, I 0, I 0]), (9, .d 8 (I s :: I p :: I f :: I q.2.1 :: q.2.2.map I))]})
    (fun q => q.1 ≤ l.length ∧ isS q.2.2 ∧ 0 ≤ q.2.1 ∧ q.2.1 ≤ 1073741824 * q.1 ∧ totS s p f (l.drop q.1) q.2 = totS s p f l (0, [0, 0, 0, 0])) (fun q => l.length - q.1)
    (fun _ => {sl := [(8, .ptr 8 0), (9, .ptr 9 0)], bx := [(8, .d 8 [I 0, I 0, I 0, I 0, I 0, I 0, I 0, I 0]), (9, .d 8 ((totL s p f l).map I))]}) (fun _ => isS (totS s p f l (0, [0, 0, 0, 0])).2) (0, 0, [0, 0, 0, 0]) ⟨by simp, ⟨rfl, by simp [M32]⟩, by simp, by simp, rfl⟩ ?_ ?_ ?_
  · repeat' (first | ((refine leI ?_; simp; done)) | exact trivial | exact LeV.same _ | exact LeB.same _ | exact rfl | exact fun _ _ _ => trivial | exact lI | exact LeV.nil _ _ _ | exact lB | refine leBd ?_ | refine leOwn ?_ | refine And.intro ?_ ?_)
  · rintro ⟨k, c, t⟩ ⟨hk, ht, hc0, hc1, ho⟩
    dsimp only at hk ht hc0 hc1 ho
    rcases Nat.lt_or_ge k l.length with h2 | h2
    · rw [totS_drop h2] at ho
      have hok := hr l[k] (List.getElem_mem h2)
      have hso := hs l[k] (List.getElem_mem h2)
      have hxe : l[k]? = some l[k] := List.getElem?_eq_getElem h2
      generalize l[k] = r at ho hok hxe hso
      obtain ⟨n, i, ls, rp⟩ := r
      have hlen : (rcC n i ls rp).length = 19 := rc_len hok
      have hF := with19F (t_Find n i ls rp s p f (by have := hok.2; dsimp only at this; omega) hok.1.l8 hok.1.hp)
      dsimp only at ho hso
      unfold fnd at hF
      cases hfd : ls.find? (isN s p f) with
      | none =>
        rw [hfd] at ho hF
        repeat' ((conv => whnf); first | exact trivial | (refine nv_ (rcT n i ls rp) (by first | (exact eltRc (r := ⟨n, i, ls, rp⟩) (by simp only [Int.toNat_natCast]; exact hxe); done) | fail) ?_) | refine k_call _ (hF) ?_ | refine nT_ ?_ | refine aE1 ?_ | refine aE0 ?_ | refine aN1 ?_ | refine aN0 ?_ | refine aD1 ?_ | refine aD0 ?_ | refine nE_ (fun hq => ?_) (fun hq => ?_) | refine nN_ (fun hq => ?_) (fun hq => ?_) | refine nD_ (fun hq => ?_) (fun hq => ?_) | refine rb1 ?_ | refine rb0 ?_ | refine rbx ?_ | refine rix ?_ | (refine And.intro (by first | ((simp; omega); done) | (exact hlen; done) | (exact ⟨hlen, Nat.le_of_ble_eq_true rfl⟩; done) | fail) ?_) | refine aS ?_ | fail)
        refine ⟨(k + 1, c, t), ⟨by dsimp only; omega, ht, hc0, by dsimp only; omega, ho⟩, by dsimp only; omega, ?_⟩
        repeat' (first | exact trivial | exact LeV.same _ | exact LeB.same _ | exact rfl | exact fun _ _ _ => trivial | exact lI | exact LeV.nil _ _ _ | exact lB | refine leBd ?_ | refine leOwn ?_ | refine And.intro ?_ ?_)
      | some x =>
        rw [hfd] at ho hF
        have hxm := List.mem_of_find?_eq_some hfd
        obtain ⟨x0, x1, x2⟩ := hso x hxm
        obtain ⟨a, b, c', d, e, f', g, j, rfl⟩ := ex8 (hok.1.l8 x hxm)
        have x2 : isS [e, f', g, j] := x2
        have x0 : 0 ≤ d := x0
        have x1 : d ≤ 1073741824 := x1
        obtain ⟨t0, t1, t2, t3, rfl⟩ : ∃ t0 t1 t2 t3, t = [t0, t1, t2, t3] := by
          match t, ht.1 with
          | [a, b, c, d], _ => exact ⟨a, b, c, d, rfl⟩
        have hA := t_sAdd [t0, t1, t2, t3] [e, f', g, j] ht x2
        have hAi := isS_add ht x2
        have ho : totS s p f (l.drop (k + 1)) (c + d, sAdd [t0, t1, t2, t3] [e, f', g, j]) = totS s p f l (0, [0, 0, 0, 0]) := ho
        repeat' ((conv => whnf); first | exact trivial | (refine nv_ (rcT n i ls rp) (by first | (exact eltRc (r := ⟨n, i, ls, rp⟩) (by simp only [Int.toNat_natCast]; exact hxe); done) | fail) ?_) | refine k_call _ (hF) ?_ | refine k_call _ (hA) ?_ | refine nT_ ?_ | refine aE1 ?_ | refine aE0 ?_ | refine aN1 ?_ | refine aN0 ?_ | refine aD1 ?_ | refine aD0 ?_ | refine nE_ (fun hq => ?_) (fun hq => ?_) | refine nN_ (fun hq => ?_) (fun hq => ?_) | refine nD_ (fun hq => ?_) (fun hq => ?_) | refine rb1 ?_ | refine rb0 ?_ | refine rbx ?_ | refine rix ?_ | (refine And.intro (by first | ((simp; omega); done) | (exact hlen; done) | (exact ⟨hlen, Nat.le_of_ble_eq_true rfl⟩; done) | fail) ?_) | refine aS ?_ | fail)
        refine ⟨(k + 1, c + d, sAdd [t0, t1, t2, t3] [e, f', g, j]), ⟨by dsimp only; omega, hAi, by dsimp only; omega, by dsimp only; omega, ho⟩, by dsimp only; omega, ?_⟩
        have hw : IntKind.i64.wrap (c + d) = c + d := wrap_id (by omega) (by omega)
        repeat' (first | exact trivial | exact LeV.same _ | exact LeB.same _ | exact rfl | exact fun _ _ _ => trivial | exact lI | exact LeV.nil _ _ _ | exact lB | refine leBd ?_ | refine leOwn ?_ | refine And.intro ?_ ?_)
        dsimp only
        rw [hw]
        rfl
    · have : k = l.length := by omega
      subst this
      rw [List.drop_length] at ho
      repeat' ((conv => whnf); first | exact trivial | refine nT_ ?_ | refine aE1 ?_ | refine aE0 ?_ | refine aN1 ?_ | refine aN0 ?_ | refine aD1 ?_ | refine aD0 ?_ | refine nE_ (fun hq => ?_) (fun hq => ?_) | refine nN_ (fun hq => ?_) (fun hq => ?_) | refine nD_ (fun hq => ?_) (fun hq => ?_) | refine rb1 ?_ | refine rb0 ?_ | refine rbx ?_ | refine rix ?_ | refine aS ?_ | fail)
      refine ⟨(), by rw [← ho]; exact ht, by repeat' (first | ((refine leBd ?_; unfold totL; rw [← ho]; rfl)) | exact trivial | exact LeV.same _ | exact LeB.same _ | exact rfl | exact fun _ _ _ => trivial | exact lI | exact LeV.nil _ _ _ | exact lB | refine leBd ?_ | refine leOwn ?_ | refine And.intro ?_ ?_)⟩
  rintro - hS
  have htl : (totL s p f l).length = 8 := by
    unfold totL
    simp [hS.1]
  repeat' ((conv => whnf); first | exact trivial | refine nT_ ?_ | refine aE1 ?_ | refine aE0 ?_ | refine aN1 ?_ | refine aN0 ?_ | refine aD1 ?_ | refine aD0 ?_ | refine nE_ (fun hq => ?_) (fun hq => ?_) | refine nN_ (fun hq => ?_) (fun hq => ?_) | refine nD_ (fun hq => ?_) (fun hq => ?_) | refine rb1 ?_ | refine rb0 ?_ | refine rbx ?_ | refine rix ?_ | (refine And.intro (by first | (exact ⟨(List.length_map _).trans htl, by decide⟩; done) | fail) ?_) | refine aS ?_ | refine rt ?_ trivial | fail)
  exact congrArg T.agg (putL_all rfl)
theorem t_refTotal (s p f : Int) (l : List Rc) (hl : l.length < 2 ^ 20) (hr : ∀ r ∈ l, r.ok) (hs : sumsOk l) : DCalls Tryd.prog 33 [rcs l, I s, I p, I f] (ln (totL s p f l)) := by
  refine dcalls_low (rs := [.cell 8 36]) mixed Tryd.func33 l33 rfl rfl rfl (r := [.agg _]) (Nat.le_of_ble_eq_true rfl) ?_
  repeat' ((conv => whnf); first | exact trivial | refine nT_ ?_ | refine aE1 ?_ | refine aE0 ?_ | refine aN1 ?_ | refine aN0 ?_ | refine aD1 ?_ | refine aD0 ?_ | refine nE_ (fun hq => ?_) (fun hq => ?_) | refine nN_ (fun hq => ?_) (fun hq => ?_) | refine nD_ (fun hq => ?_) (fun hq => ?_) | refine rb1 ?_ | refine rb0 ?_ | refine rbx ?_ | refine rix ?_ | refine aS ?_ | fail)
  refine wpC_loopE 0 (α := Nat × Int × List Int) (β := Unit) (fun q => {sl := [(0, .t (rcs l)), (1, .t (I s)), (2, .t (I p)), (3, .t (I f)), (8, .ptr 8 0), (9, .ptr 9 0), (10, .t (I q.1))], bx := [(8, .d 8 [I 0, I 0, I 0, I 0, I 0, I 0, I 0, I 0]), (9, .d 8 (I s :: I p :: I f :: I q.2.1 :: q.2.2.map I))]})
    (fun q => q.1 ≤ l.length ∧ isS q.2.2 ∧ 0 ≤ q.2.1 ∧ q.2.1 ≤ 1073741824 * q.1 ∧ totS s p f (l.drop q.1) q.2 = totS s p f l (0, [0, 0, 0, 0])) (fun q => l.length - q.1)
    (fun _ => {sl := [(8, .ptr 8 0), (9, .ptr 9 0)], bx := [(8, .d 8 [I 0, I 0, I 0, I 0, I 0, I 0, I 0, I 0]), (9, .d 8 ((totL s p f l).map I))]}) (fun _ => isS (totS s p f l (0, [0, 0, 0, 0])).2) (0, 0, [0, 0, 0, 0]) ⟨by simp, ⟨rfl, by simp [M32]⟩, by simp, by simp, rfl⟩ ?_ ?_ ?_
  · repeat' (first | exact trivial | exact LeV.same _ | exact LeB.same _ | exact rfl | exact fun _ _ _ => trivial | exact lI | exact LeV.nil _ _ _ | exact lB | refine leBd ?_ | refine leOwn ?_ | refine And.intro ?_ ?_)
  · rintro ⟨k, c, t⟩ ⟨hk, ht, hc0, hc1, ho⟩
    dsimp only at hk ht hc0 hc1 ho
    rcases Nat.lt_or_ge k l.length with h2 | h2
    · rw [totS_drop h2] at ho
      have hok := hr l[k] (List.getElem_mem h2)
      have hso := hs l[k] (List.getElem_mem h2)
      have hxe : l[k]? = some l[k] := List.getElem?_eq_getElem h2
      generalize l[k] = r at ho hok hxe hso
      obtain ⟨n, i, ls, rp⟩ := r
      have hlen : (rcC n i ls rp).length = 19 := rc_len hok
      have hF := t_refFind n i ls rp s p f (by have := hok.2; dsimp only at this; omega) hok.1.l8 hok.1.hp
      dsimp only at ho hso
      unfold fnd at hF
      cases hfd : ls.find? (isN s p f) with
      | none =>
        rw [hfd] at ho hF
        repeat' ((conv => whnf); first | exact trivial | (refine now_D1 (by simp; omega) ?_) | (refine nv_ (rcT n i ls rp) (by first | (exact eltRc (r := ⟨n, i, ls, rp⟩) (by simp only [Int.toNat_natCast]; exact hxe); done) | fail) ?_) | refine k_call _ (hF) ?_ | refine nT_ ?_ | refine aE1 ?_ | refine aE0 ?_ | refine aN1 ?_ | refine aN0 ?_ | refine aD1 ?_ | refine aD0 ?_ | refine nE_ (fun hq => ?_) (fun hq => ?_) | refine nN_ (fun hq => ?_) (fun hq => ?_) | refine nD_ (fun hq => ?_) (fun hq => ?_) | refine rb1 ?_ | refine rb0 ?_ | refine rbx ?_ | refine rix ?_ | (refine And.intro (by first | ((simp; omega); done) | (exact hlen; done) | (exact ⟨hlen, Nat.le_of_ble_eq_true rfl⟩; done) | fail) ?_) | refine aS ?_ | fail)
        refine ⟨(k + 1, c, t), ⟨by dsimp only; omega, ht, hc0, by dsimp only; omega, ho⟩, by dsimp only; omega, ?_⟩
        repeat' (first | exact trivial | exact LeV.same _ | exact LeB.same _ | exact rfl | exact fun _ _ _ => trivial | exact lI | exact LeV.nil _ _ _ | exact lB | refine leBd ?_ | refine leOwn ?_ | refine And.intro ?_ ?_)
      | some x =>
        rw [hfd] at ho hF
        have hxm := List.mem_of_find?_eq_some hfd
        obtain ⟨x0, x1, x2⟩ := hso x hxm
        obtain ⟨a, b, c', d, e, f', g, j, rfl⟩ := ex8 (hok.1.l8 x hxm)
        have x2 : isS [e, f', g, j] := x2
        have x0 : 0 ≤ d := x0
        have x1 : d ≤ 1073741824 := x1
        obtain ⟨t0, t1, t2, t3, rfl⟩ : ∃ t0 t1 t2 t3, t = [t0, t1, t2, t3] := by
          match t, ht.1 with
          | [a, b, c, d], _ => exact ⟨a, b, c, d, rfl⟩
        have hA := t_refAdd [t0, t1, t2, t3] [e, f', g, j] ht x2
        have hAi := isS_add ht x2
        have ho : totS s p f (l.drop (k + 1)) (c + d, sAdd [t0, t1, t2, t3] [e, f', g, j]) = totS s p f l (0, [0, 0, 0, 0]) := ho
        repeat' ((conv => whnf); first | exact trivial | (refine now_D1 (by simp; omega) ?_) | (refine nv_ (rcT n i ls rp) (by first | (exact eltRc (r := ⟨n, i, ls, rp⟩) (by simp only [Int.toNat_natCast]; exact hxe); done) | fail) ?_) | refine k_call _ (hF) ?_ | refine k_call _ (hA) ?_ | refine nT_ ?_ | refine aE1 ?_ | refine aE0 ?_ | refine aN1 ?_ | refine aN0 ?_ | refine aD1 ?_ | refine aD0 ?_ | refine nE_ (fun hq => ?_) (fun hq => ?_) | refine nN_ (fun hq => ?_) (fun hq => ?_) | refine nD_ (fun hq => ?_) (fun hq => ?_) | refine rb1 ?_ | refine rb0 ?_ | refine rbx ?_ | refine rix ?_ | (refine And.intro (by first | ((simp; omega); done) | (exact hlen; done) | (exact ⟨hlen, Nat.le_of_ble_eq_true rfl⟩; done) | fail) ?_) | refine aS ?_ | fail)
        refine ⟨(k + 1, c + d, sAdd [t0, t1, t2, t3] [e, f', g, j]), ⟨by dsimp only; omega, hAi, by dsimp only; omega, by dsimp only; omega, ho⟩, by dsimp only; omega, ?_⟩
        have hw : IntKind.i64.wrap (c + d) = c + d := wrap_id (by omega) (by omega)
        repeat' (first | exact trivial | exact LeV.same _ | exact LeB.same _ | exact rfl | exact fun _ _ _ => trivial | exact lI | exact LeV.nil _ _ _ | exact lB | refine leBd ?_ | refine leOwn ?_ | refine And.intro ?_ ?_)
        dsimp only
        rw [hw]
        rfl
    · have : k = l.length := by omega
      subst this
      rw [List.drop_length] at ho
      repeat' ((conv => whnf); first | exact trivial | refine now_D0 (by simp) ?_ | refine nT_ ?_ | refine aE1 ?_ | refine aE0 ?_ | refine aN1 ?_ | refine aN0 ?_ | refine aD1 ?_ | refine aD0 ?_ | refine nE_ (fun hq => ?_) (fun hq => ?_) | refine nN_ (fun hq => ?_) (fun hq => ?_) | refine nD_ (fun hq => ?_) (fun hq => ?_) | refine rb1 ?_ | refine rb0 ?_ | refine rbx ?_ | refine rix ?_ | refine aS ?_ | fail)
      refine ⟨(), by rw [← ho]; exact ht, by repeat' (first | ((refine leBd ?_; unfold totL; rw [← ho]; rfl)) | exact trivial | exact LeV.same _ | exact LeB.same _ | exact rfl | exact fun _ _ _ => trivial | exact lI | exact LeV.nil _ _ _ | exact lB | refine leBd ?_ | refine leOwn ?_ | refine And.intro ?_ ?_)⟩
  rintro - hS
  have htl : (totL s p f l).length = 8 := by
    unfold totL
    simp [hS.1]
  repeat' ((conv => whnf); first | exact trivial | refine nT_ ?_ | refine aE1 ?_ | refine aE0 ?_ | refine aN1 ?_ | refine aN0 ?_ | refine aD1 ?_ | refine aD0 ?_ | refine nE_ (fun hq => ?_) (fun hq => ?_) | refine nN_ (fun hq => ?_) (fun hq => ?_) | refine nD_ (fun hq => ?_) (fun hq => ?_) | refine rb1 ?_ | refine rb0 ?_ | refine rbx ?_ | refine rix ?_ | (refine And.intro (by first | (exact ⟨(List.length_map _).trans htl, by decide⟩; done) | fail) ?_) | refine aS ?_ | refine rt ?_ trivial | fail)
  exact congrArg T.agg (putL_all rfl)
end Go.RC
end
section
namespace Go.RC
open Go Go.DL Go.Proofs
set_option maxRecDepth 100000
noncomputable def c11 : DCode := (.seq (.region [oo 0 (.mov (.const (.bool false)))] []) (.seq (.region [oo 1 (.mov (Kc 4294967295))] []) (.seq (.seq (.region [mv 27 1,oo 28 (.build [(Zi 0), (Zi 0), (Zi 0), (Zi 0)] [(0, 1, (tm 27)), (1, 1, (Kc 0)), (2, 1, (Kc 0)), (3, 1, (Kc 5))]),oo 29 (.build [(Zi 0), (Zi 0), (Zi 0), (Zi 0)] [(0, 1, (Kc 1)), (1, 1, (Kc 2)), (2, 1, (Kc 0)), (3, 1, (Kc 5))]),oo 30 (.call 14 [(tm 28), (tm 29)]),oo 31 (.build [(Zi 0), (Zi 0), (Zi 0), (Zi 0)] [(0, 1, (Kc 0)), (1, 1, (Kc 2)), (2, 1, (Kc 0)), (3, 1, (Kc 10))]),oo 32 (.eqv true [.int .i64, .int .i64, .int .i64, .int .i64] (tm 30) (tm 31)),mv 33 32,oF 34 33 (.build [(Zi 0), (Zi 0), (Zi 0), (Zi 0)] []),oF 35 33 (.build [(Zi 0), (Zi 0), (Zi 0), (Zi 0)] [(0, 1, (Kc 1))]),oF 36 33 (.call 16 [(tm 34), (tm 35)]),mF 37 1 33,oF 38 33 (.build [(Zi 0), (Zi 0), (Zi 0), (Zi 0)] [(0, 1, (tm 37)), (1, 1, (Kc 0)), (2, 1, (Kc 0)), (3, 1, (Kc 0))]),oF 39 33 (.eqv true [.int .i64, .int .i64, .int .i64, .int .i64] (tm 36) (tm 38)),oo 40 (.pick (tm 33) (.const (.bool true)) (tm 39))] []) (.cond (tm 40) (.seq (.region [oo 0 (.mov (.const (.bool false)))] []) .ret) .skip)) (.seq (.region [oo 42 (.inl 40 [(Kc 3)]),mv 41 42,oo 43 (.ext (tm 41) 0),oo 44 (.ext (tm 41) 1),mv 2 43,mv 3 44] []) (.seq (.region [oo 46 (.inl 40 [(Kc 200)]),mv 45 46,oo 47 (.ext (tm 45) 0),oo 48 (.ext (tm 45) 1),mv 4 47,mv 5 48] []) (.seq (.seq (.region [mv 49 3,oo 50 (.bin .neq (tm 49) (Kc 0)),mv 51 50,mF 52 5 51,oF 53 51 (.bin .neq (tm 52) (Kc 1)),oo 54 (.pick (tm 51) (.const (.bool true)) (tm 53)),mv 55 54,mF 56 2 55,oF 57 55 (.isnil 0 false (tm 56)),oo 58 (.pick (tm 55) (.const (.bool true)) (tm 57))] []) (.cond (tm 58) (.seq (.region [oo 0 (.mov (.const (.bool false)))] []) .ret) .skip)) (.seq (.region [oo 59 (.build [(Zi 0), (Zi 0), (Zi 0), (Zi 0), (Zi 0), (Zi 0), (Zi 0), (Zi 0), (Zi 0), (Zi 0)] [(0, 1, (Kc 7)), (1, 1, (Kc 5))]),oo 60 (.build [(Zi 0), (Zi 0), (Zi 0), (Zi 0), (Zi 0), (Zi 0), (Zi 0), (Zi 0), (Zi 0), (Zi 0)] [(0, 1, (Kc 7)), (1, 1, (Kc 6))]),oo 6 (.alloc [(Zi 0), (Zi 0), (Zi 0), (Zi 0), (Zi 0), (Zi 0), (Zi 0), (Zi 0), (Zi 0), (Zi 0)]),oo 7 (.alloc [(Zi 0), (Zi 0), (Zi 0), (Zi 0), (Zi 0), (Zi 0), (Zi 0), (Zi 0), (Zi 0), (Zi 0)]),o0 (.store 10 (tm 6) (tm 59)),o0 (.store 10 (tm 7) (tm 60))] []) (.seq (.seq (.region [mv 61 2,oo 62 (.load 10 true (tm 6)),oo 63 (.mcall [1013, 1011] 41 [(tm 61), (Kc 2), (Kc 7), (Kc 1), (tm 62)]),mv 64 2,oo 65 (.load 10 true (tm 6)),oo 66 (.mcall [1013, 1011] 41 [(tm 64), (Kc 1), (Kc 2), (Kc 1), (tm 65)]),mv 67 2,oo 68 (.load 10 true (tm 7)),oo 69 (.mcall [1013, 1011] 41 [(tm 67), (Kc 2), (Kc 7), (Kc 1), (tm 68)]),oo 70 (.buildT 1 3 [(Zi 0)] [(0, (tm 63)), (1, (tm 66)), (2, (tm 69))]),oo 71 (.len (tm 70)),oo 72 (.mov (Kc 0))] [[], [], [], [], [2], [], [], [2, 5], [], [], [], []]) (.block 0 (.loop (.seq (.region [oo 73 (.bin .lss (tm 72) (tm 71))] []) (.seq (.cond (tm 73) .skip (.exit 0)) (.seq (.block 1 (.seq (.region [oo 74 (.idxL 1 (tm 70) (tm 72)),oo 75 (.load 1 false (tm 74)),mv 9 75] []) (.seq (.region [mv 76 9,oo 77 (.bin .neq (tm 76) (Kc 0))] []) (.cond (tm 77) (.seq (.region [oo 0 (.mov (.const (.bool false)))] []) .ret) .skip)))) (.region [oo 78 (.bin .add (tm 72) (Kc 1)),mv 72 78] []))))))) (.seq (.cut (.region [mv 80 2,oo 81 (.inl 42 [(tm 80)]),mv 79 81,oo 82 (.ext (tm 79) 0),oo 83 (.ext (tm 79) 1),oo 10 (.alloc [(Zi 0), (Zi 0), .nil, (Ui 0), (Ui 0), (Ui 0), (Ui 0), (Ui 0), (Ui 0), (Ui 0), (Ui 0), (Ui 0), (Ui 0), (Ui 0), (Ui 0), (Ui 0), (Ui 0), (Ui 0), (Ui 0)]),o0 (.store 19 (tm 10) (tm 82)),mv 11 83] [])) (.seq (.cut (.region [mv 85 2,oo 86 (.inl 42 [(tm 85)]),mv 84 86,oo 87 (.ext (tm 84) 0),oo 88 (.ext (tm 84) 1),oo 12 (.alloc [(Zi 0), (Zi 0), .nil, (Ui 0), (Ui 0), (Ui 0), (Ui 0), (Ui 0), (Ui 0), (Ui 0), (Ui 0), (Ui 0), (Ui 0), (Ui 0), (Ui 0), (Ui 0), (Ui 0), (Ui 0), (Ui 0)]),o0 (.store 19 (tm 12) (tm 87)),mv 13 88] [])) (.seq (.cut (.region [oo 90 (.load 19 true (tm 10)),oo 91 (.load 19 true (tm 12)),oo 92 (.buildS 51 19 2 [(Zi 0), (Zi 0), .nil, (Ui 0), (Ui 0), (Ui 0), (Ui 0), (Ui 0), (Ui 0), (Ui 0), (Ui 0), (Ui 0), (Ui 0), (Ui 0), (Ui 0), (Ui 0), (Ui 0), (Ui 0), (Ui 0)] [(0, (tm 90)), (1, (tm 91))]),oo 93 (.call 22 [(Kc 3), (tm 92)]),mv 89 93,oo 94 (.ext (tm 89) 0),oo 95 (.ext (tm 89) 1),mv 14 94,mv 15 95] [])) (.seq (.cut (.region [oo 97 (.load 19 true (tm 12)),oo 98 (.buildS 51 19 1 [(Zi 0), (Zi 0), .nil, (Ui 0), (Ui 0), (Ui 0), (Ui 0), (Ui 0), (Ui 0), (Ui 0), (Ui 0), (Ui 0), (Ui 0), (Ui 0), (Ui 0), (Ui 0), (Ui 0), (Ui 0), (Ui 0)] [(0, (tm 97))]),oo 99 (.call 22 [(Kc 3), (tm 98)]),mv 96 99,oo 100 (.ext (tm 96) 0),oo 101 (.ext (tm 96) 1),mv 16 100,mv 17 101] [])) (.seq (.cut (.region [oo 103 (.load 19 true (tm 10)),oo 104 (.call 30 [(tm 103), (Kc 2), (Kc 7), (Kc 1)]),mv 102 104,oo 105 (.ext (tm 102) 0),oo 106 (.ext (tm 102) 1),oo 18 (.alloc [(Zi 0), (Zi 0), (Zi 0), (Zi 0), (Zi 0), (Zi 0), (Zi 0), (Zi 0)]),o0 (.store 8 (tm 18) (tm 105)),mv 19 106] [])) (.seq (.region [oo 108 (.build [(Zi 0), (Zi 0), (Zi 0), (Zi 0), (Zi 0), (Zi 0), (Zi 0), (Zi 0)] [(3, 1, (Kc 5))]),oo 109 (.build [(Zi 0), (Zi 0), (Zi 0), (Zi 0), (Zi 0), (Zi 0), (Zi 0), (Zi 0)] [(3, 1, (Kc 3))]),oo 110 (.call 19 [(tm 108), (tm 109)]),mv 107 110,oo 111 (.ext (tm 107) 0),oo 112 (.ext (tm 107) 1),mv 20 111,mv 21 112] []) (.seq (.region [oo 114 (.build [(Zi 0), (Zi 0), (Zi 0), (Zi 0), (Zi 0), (Zi 0), (Zi 0), (Zi 0)] [(3, 1, (Kc 3))]),oo 115 (.build [(Zi 0), (Zi 0), (Zi 0), (Zi 0), (Zi 0), (Zi 0), (Zi 0), (Zi 0)] [(3, 1, (Kc 5))]),oo 116 (.call 19 [(tm 114), (tm 115)]),mv 113 116,oo 117 (.ext (tm 113) 0),oo 118 (.ext (tm 113) 1),mv 22 117,mv 23 118] []) (.seq (.cut (.region [oo 120 (.build [(Zi 0), (Zi 0), (Zi 0), (Zi 0)] [(0, 1, (Kc 1))]),oo 121 (.build [(Zi 0), (Zi 0), (Zi 0), (Zi 0), (Zi 0), (Zi 0), (Zi 0), (Zi 0)] [(3, 1, (Kc 5)), (4, 4, (tm 120))]),oo 122 (.build [(Zi 0), (Zi 0), (Zi 0), (Zi 0), (Zi 0), (Zi 0), (Zi 0), (Zi 0)] [(3, 1, (Kc 5))]),oo 123 (.call 19 [(tm 121), (tm 122)]),mv 119 123,oo 124 (.ext (tm 119) 0),oo 125 (.ext (tm 119) 1),mv 24 124,mv 25 125] [])) (.seq (.cut (.region [mv 126 11,oo 127 (.bin .eql (tm 126) (Kc 0)),mv 128 127,mT 129 13 128,oT 130 128 (.bin .eql (tm 129) (Kc 0)),oo 131 (.pick (tm 128) (tm 130) (.const (.bool false))),mv 132 131,oT 133 132 (.offA 2 (tm 10)),oT 134 132 (.load 1 false (tm 133)),oT 135 132 (.len (tm 134)),oT 136 132 (.bin .eql (tm 135) (Kc 2)),oo 137 (.pick (tm 132) (tm 136) (.const (.bool false))),mv 138 137,oT 139 138 (.offA 2 (tm 10)),oT 140 138 (.load 1 false (tm 139)),oT 141 138 (.idxL 8 (tm 140) (Kc 0)),oT 142 138 (.offA 0 (tm 141)),oT 143 138 (.load 1 false (tm 142)),oT 144 138 (.bin .eql (tm 143) (Kc 1)),oo 145 (.pick (tm 138) (tm 144) (.const (.bool false))),mv 146 145,oT 147 146 (.offA 2 (tm 10)),oT 148 146 (.load 1 false (tm 147)),oT 149 146 (.idxL 8 (tm 148) (Kc 0)),oT 150 146 (.offA 3 (tm 149)),oT 151 146 (.load 1 false (tm 150)),oT 152 146 (.bin .eql (tm 151) (Kc 1)),oo 153 (.pick (tm 146) (tm 152) (.const (.bool false))),mv 154 153,oT 155 154 (.offA 1 (tm 10)),oT 156 154 (.load 1 false (tm 155)),oT 157 154 (.bin .eql (tm 156) (Kc 0)),oo 158 (.pick (tm 154) (tm 157) (.const (.bool false))),mv 159 158,oT 160 159 (.offA 1 (tm 12)),oT 161 159 (.load 1 false (tm 160)),oT 162 159 (.bin .eql (tm 161) (Kc 1)),oo 163 (.pick (tm 159) (tm 162) (.const (.bool false))),mv 164 163,oT 165 164 (.offA 2 (tm 12)),oT 166 164 (.load 1 false (tm 165)),oT 167 164 (.len (tm 166)),oT 168 164 (.bin .eql (tm 167) (Kc 0)),oo 169 (.pick (tm 164) (tm 168) (.const (.bool false))),mv 170 169,oT 171 170 (.offA 3 (tm 12)),oT 172 170 (.load 16 true (tm 171)),oT 173 170 (.load 19 true (tm 10)),oT 174 170 (.call 24 [(tm 173)]),oT 175 170 (.eqv false [.int .u8, .int .u8, .int .u8, .int .u8, .int .u8, .int .u8, .int .u8, .int .u8, .int .u8, .int .u8, .int .u8, .int .u8, .int .u8, .int .u8, .int .u8, .int .u8] (tm 172) (tm 174)),oo 176 (.pick (tm 170) (tm 175) (.const (.bool false))),mv 177 176,oT 178 177 (.load 19 true (tm 10)),oT 179 177 (.call 28 [(tm 178)]),oT 180 177 (.bin .eql (tm 179) (Kc 0)),oo 181 (.pick (tm 177) (tm 180) (.const (.bool false))),mv 26 181] [])) (.seq (.region [mv 182 26,mv 183 182,mT 184 14 183,oT 185 183 (.bin .eql (tm 184) (Kc 2)),oo 186 (.pick (tm 183) (tm 185) (.const (.bool false))),mv 187 186,mT 188 15 187,oT 189 187 (.bin .eql (tm 188) (Kc 0)),oo 190 (.pick (tm 187) (tm 189) (.const (.bool false))),mv 191 190,mT 192 16 191,oT 193 191 (.bin .eql (tm 192) (Kc 0)),oo 194 (.pick (tm 191) (tm 193) (.const (.bool false))),mv 195 194,mT 196 17 195,oT 197 195 (.bin .eql (tm 196) (Kc 25)),oo 198 (.pick (tm 195) (tm 197) (.const (.bool false))),mv 199 198,mT 200 19 199,oo 201 (.pick (tm 199) (tm 200) (.const (.bool false))),mv 202 201,oT 203 202 (.offA 3 (tm 18)),oT 204 202 (.load 1 false (tm 203)),oT 205 202 (.bin .eql (tm 204) (Kc 2)),oo 206 (.pick (tm 202) (tm 205) (.const (.bool false))),mv 207 206,oT 208 207 (.offA 4 (tm 18)),oT 209 207 (.load 4 true (tm 208)),oT 210 207 (.load 10 true (tm 6)),oT 211 207 (.call 12 [(tm 210)]),oT 212 207 (.load 10 true (tm 7)),oT 213 207 (.call 12 [(tm 212)]),oT 214 207 (.call 14 [(tm 211), (tm 213)]),oT 215 207 (.eqv false [.int .i64, .int .i64, .int .i64, .int .i64] (tm 209) (tm 214)),oo 216 (.pick (tm 207) (tm 215) (.const (.bool false))),mv 217 216,mT 218 20 217,oT 219 217 (.bin .eql (tm 218) (Kc 2)),oo 220 (.pick (tm 217) (tm 219) (.const (.bool false))),mv 221 220,mT 222 21 221,oT 223 221 (.bin .eql (tm 222) (Kc 0)),oo 224 (.pick (tm 221) (tm 223) (.const (.bool false))),mv 225 224,mT 226 23 225,oT 227 225 (.bin .eql (tm 226) (Kc 26)),oo 228 (.pick (tm 225) (tm 227) (.const (.bool false))),mv 229 228,mT 230 25 229,oT 231 229 (.bin .eql (tm 230) (Kc 26)),oo 232 (.pick (tm 229) (tm 231) (.const (.bool false))),mv 0 232] []) .ret))))))))))))))))))
theorem l11 : (Tryd.f11.body.bind (lowC Tryd.prog 233 [40, 42, 6000015, 6000016, 6000017, 6000018, 6000019, 6000022, 6000023, 1000063001013, 1000063001011, 1000066001013, 1000066001011, 1000069001013, 1000069001011])) = some c11 := by kernel_rfl
noncomputable def c3 : DCode := (.seq (.region [oo 4 (.box 10 (tm 0)),oo 5 (.box 4 (tm 1)),oo 6 (.box 4 (tm 2)),oo 7 (.box 4 (tm 3)),oo 8 (.mov (.const (.bool false)))] []) (.seq (.seq (.region [oo 11 (.load 10 true (tm 4)),oo 12 (.call 9 [(tm 11)]),oo 13 (.not (tm 12)),mv 14 13,oF 15 14 (.load 4 true (tm 5)),oF 16 14 (.call 10 [(tm 15)]),oF 17 14 (.not (tm 16)),oo 18 (.pick (tm 14) (.const (.bool true)) (tm 17)),mv 19 18,oF 20 19 (.load 4 true (tm 6)),oF 21 19 (.call 10 [(tm 20)]),oF 22 19 (.not (tm 21)),oo 23 (.pick (tm 19) (.const (.bool true)) (tm 22)),mv 24 23,oF 25 24 (.load 4 true (tm 7)),oF 26 24 (.call 10 [(tm 25)]),oF 27 24 (.not (tm 26)),oo 28 (.pick (tm 24) (.const (.bool true)) (tm 27))] []) (.cond (tm 28) (.seq (.region [oo 29 (.call 11 []),mv 8 29] []) .ret) .skip)) (.seq (.seq (.region [oo 30 (.load 10 true (tm 4)),oo 31 (.call 12 [(tm 30)]),oo 32 (.load 10 true (tm 4)),oo 33 (.call 13 [(tm 32)]),oo 34 (.eqv true [.int .i64, .int .i64, .int .i64, .int .i64] (tm 31) (tm 33)),mv 35 34,oF 36 35 (.load 4 true (tm 5)),oF 37 35 (.load 4 true (tm 6)),oF 38 35 (.call 14 [(tm 36), (tm 37)]),oF 39 35 (.load 4 true (tm 5)),oF 40 35 (.load 4 true (tm 6)),oF 41 35 (.call 15 [(tm 39), (tm 40)]),oF 42 35 (.eqv true [.int .i64, .int .i64, .int .i64, .int .i64] (tm 38) (tm 41)),oo 43 (.pick (tm 35) (.const (.bool true)) (tm 42)),mv 44 43,oF 45 44 (.load 4 true (tm 5)),oF 46 44 (.load 4 true (tm 6)),oF 47 44 (.call 16 [(tm 45), (tm 46)]),oF 48 44 (.load 4 true (tm 5)),oF 49 44 (.load 4 true (tm 6)),oF 50 44 (.call 17 [(tm 48), (tm 49)]),oF 51 44 (.eqv true [.int .i64, .int .i64, .int .i64, .int .i64] (tm 47) (tm 50)),oo 52 (.pick (tm 44) (.const (.bool true)) (tm 51)),mv 53 52,oF 54 53 (.load 10 true (tm 4)),oF 55 53 (.call 12 [(tm 54)]),oF 56 53 (.call 10 [(tm 55)]),oF 57 53 (.not (tm 56)),oo 58 (.pick (tm 53) (.const (.bool true)) (tm 57))] []) (.cond (tm 58) (.seq (.region [oo 8 (.mov (.const (.bool false)))] []) .ret) .skip)) (.seq (.region [oo 59 (.load 4 true (tm 5)),oo 60 (.load 4 true (tm 6)),oo 61 (.call 14 [(tm 59), (tm 60)]),oo 62 (.load 4 true (tm 7)),oo 63 (.call 14 [(tm 61), (tm 62)]),oo 64 (.load 4 true (tm 5)),oo 65 (.load 4 true (tm 6)),oo 66 (.load 4 true (tm 7)),oo 67 (.call 14 [(tm 65), (tm 66)]),oo 68 (.call 14 [(tm 64), (tm 67)]),oo 9 (.alloc [(Zi 0), (Zi 0), (Zi 0), (Zi 0)]),oo 10 (.alloc [(Zi 0), (Zi 0), (Zi 0), (Zi 0)]),o0 (.store 4 (tm 9) (tm 63)),o0 (.store 4 (tm 10) (tm 68))] []) (.seq (.region [oo 69 (.call 11 []),mv 70 69,oT 71 70 (.load 4 true (tm 5)),oT 72 70 (.load 4 true (tm 6)),oT 73 70 (.call 14 [(tm 71), (tm 72)]),oT 74 70 (.load 4 true (tm 6)),oT 75 70 (.load 4 true (tm 5)),oT 76 70 (.call 14 [(tm 74), (tm 75)]),oT 77 70 (.eqv false [.int .i64, .int .i64, .int .i64, .int .i64] (tm 73) (tm 76)),oo 78 (.pick (tm 70) (tm 77) (.const (.bool false))),mv 79 78,oT 80 79 (.load 4 true (tm 9)),oT 81 79 (.load 4 true (tm 10)),oT 82 79 (.eqv false [.int .i64, .int .i64, .int .i64, .int .i64] (tm 80) (tm 81)),oo 83 (.pick (tm 79) (tm 82) (.const (.bool false))),mv 84 83,oT 85 84 (.load 4 true (tm 5)),oT 86 84 (.load 4 true (tm 6)),oT 87 84 (.call 14 [(tm 85), (tm 86)]),oT 88 84 (.load 4 true (tm 6)),oT 89 84 (.call 16 [(tm 87), (tm 88)]),oT 90 84 (.load 4 true (tm 5)),oT 91 84 (.eqv false [.int .i64, .int .i64, .int .i64, .int .i64] (tm 89) (tm 90)),oo 92 (.pick (tm 84) (tm 91) (.const (.bool false))),mv 93 92,oT 94 93 (.load 4 true (tm 5)),oT 95 93 (.build [(Zi 0), (Zi 0), (Zi 0), (Zi 0)] []),oT 96 93 (.call 14 [(tm 94), (tm 95)]),oT 97 93 (.load 4 true (tm 5)),oT 98 93 (.eqv false [.int .i64, .int .i64, .int .i64, .int .i64] (tm 96) (tm 97)),oo 99 (.pick (tm 93) (tm 98) (.const (.bool false))),mv 8 99] []) .ret)))))
theorem l3 : (Tryd.f3.body.bind (lowC Tryd.prog 100 [])) = some c3 := by kernel_rfl
noncomputable def c6 : DCode := (.seq (.region [oo 6 (.mov (.const (.bool false)))] []) (.seq (.seq (.region [mv 12 1,oo 13 (.call 20 [(tm 12), (Kc 12)]),oo 14 (.not (tm 13)),mv 15 14,mF 16 2 15,oF 17 15 (.call 20 [(tm 16), (Kc 12)]),oF 18 15 (.not (tm 17)),oo 19 (.pick (tm 15) (.const (.bool true)) (tm 18)),mv 20 19,mF 21 1 20,oF 22 20 (.len (tm 21)),mF 23 2 20,oF 24 20 (.len (tm 23)),oF 25 20 (.bin .neq (tm 22) (tm 24)),oo 26 (.pick (tm 20) (.const (.bool true)) (tm 25)),mv 27 26,mF 28 1 27,oF 29 27 (.len (tm 28)),oF 30 27 (.bin .eql (tm 29) (Kc 0)),oo 31 (.pick (tm 27) (.const (.bool true)) (tm 30)),mv 32 31,mF 33 1 32,mF 34 1 32,oF 35 32 (.len (tm 34)),oF 36 32 (.bin .sub (tm 35) (Kc 1)),oF 37 32 (.idxL 19 (tm 33) (tm 36)),oF 38 32 (.load 19 true (tm 37)),mF 39 2 32,mF 40 2 32,oF 41 32 (.len (tm 40)),oF 42 32 (.bin .sub (tm 41) (Kc 1)),oF 43 32 (.idxL 19 (tm 39) (tm 42)),oF 44 32 (.load 19 true (tm 43)),oF 45 32 (.call 21 [(tm 38), (tm 44)]),oF 46 32 (.not (tm 45)),oo 47 (.pick (tm 32) (.const (.bool true)) (tm 46))] []) (.cond (tm 47) (.seq (.region [oo 48 (.call 11 []),mv 6 48] []) .ret) .skip)) (.seq (.region [mv 50 0,mv 51 1,oo 52 (.call 22 [(tm 50), (tm 51)]),mv 49 52,oo 53 (.ext (tm 49) 0),oo 54 (.ext (tm 49) 1),mv 7 53,mv 8 54] []) (.seq (.region [mv 56 0,mv 57 2,oo 58 (.call 22 [(tm 56), (tm 57)]),mv 55 58,oo 59 (.ext (tm 55) 0),oo 60 (.ext (tm 55) 1),mv 9 59,mv 10 60] []) (.seq (.seq (.region [mv 61 8,oo 62 (.bin .neq (tm 61) (Kc 0)),mv 63 62,mF 64 10 63,oF 65 63 (.bin .neq (tm 64) (Kc 0)),oo 66 (.pick (tm 63) (.const (.bool true)) (tm 65)),mv 67 66,mF 68 7 67,mF 69 1 67,oF 70 67 (.len (tm 69)),oF 71 67 (.bin .neq (tm 68) (tm 70)),oo 72 (.pick (tm 67) (.const (.bool true)) (tm 71)),mv 73 72,mF 74 9 73,mF 75 2 73,oF 76 73 (.len (tm 75)),oF 77 73 (.bin .neq (tm 74) (tm 76)),oo 78 (.pick (tm 73) (.const (.bool true)) (tm 77))] []) (.cond (tm 78) (.seq (.region [oo 79 (.call 11 []),mv 6 79] []) .ret) .skip)) (.seq (.seq (.region [mv 80 1,oo 81 (.len (tm 80)),oo 82 (.mov (Kc 0))] []) (.block 0 (.loop (.seq (.region [oo 83 (.bin .lss (tm 82) (tm 81))] []) (.seq (.cond (tm 83) .skip (.exit 0)) (.seq (.block 1 (.seq (.region [mv 84 82,mv 11 84] []) (.seq (.region [mv 85 1,mv 86 11,oo 87 (.idxL 19 (tm 85) (tm 86)),oo 88 (.load 19 true (tm 87)),mv 89 2,mv 90 11,oo 91 (.idxL 19 (tm 89) (tm 90)),oo 92 (.load 19 true (tm 91)),oo 93 (.call 23 [(tm 88), (tm 92)]),oo 94 (.not (tm 93)),mv 95 94,mT 96 1 95,mT 97 11 95,oT 98 95 (.idxL 19 (tm 96) (tm 97)),oT 99 95 (.load 19 true (tm 98)),oT 100 95 (.call 24 [(tm 99)]),mT 101 2 95,mT 102 11 95,oT 103 95 (.idxL 19 (tm 101) (tm 102)),oT 104 95 (.load 19 true (tm 103)),oT 105 95 (.call 24 [(tm 104)]),oT 106 95 (.eqv false [.int .u8, .int .u8, .int .u8, .int .u8, .int .u8, .int .u8, .int .u8, .int .u8, .int .u8, .int .u8, .int .u8, .int .u8, .int .u8, .int .u8, .int .u8, .int .u8] (tm 100) (tm 105)),oo 107 (.pick (tm 95) (tm 106) (.const (.bool false)))] []) (.cond (tm 107) (.seq (.region [oo 108 (.call 11 []),mv 6 108] []) .ret) .skip)))) (.region [oo 109 (.bin .add (tm 82) (Kc 1)),mv 82 109] []))))))) (.seq (.region [oo 110 (.call 11 []),mv 111 110,mT 112 1 111,mT 113 2 111,oT 114 111 (.call 25 [(tm 112), (tm 113)]),oo 115 (.pick (tm 111) (tm 114) (.const (.bool false))),mv 6 115] []) .ret)))))))
noncomputable def c7 : DCode := (.seq (.region [oo 9 (.box 19 (tm 1)),oo 14 (.box 8 (tm 6)),oo 15 (.box 8 (tm 7)),oo 16 (.mov (.const (.bool false)))] []) (.seq (.seq (.region [mv 32 0,oo 33 (.call 20 [(tm 32), (Kc 20)]),oo 34 (.not (tm 33)),mv 35 34,oF 36 35 (.offA 2 (tm 9)),oF 37 35 (.load 1 false (tm 36)),oF 38 35 (.len (tm 37)),oF 39 35 (.bin .gtr (tm 38) (Kc 1010)),oo 40 (.pick (tm 35) (.const (.bool true)) (tm 39)),mv 41 40,oF 42 41 (.offA 3 (tm 14)),oF 43 41 (.load 1 false (tm 42)),oF 44 41 (.bin .lss (tm 43) (Kc 0)),oo 45 (.pick (tm 41) (.const (.bool true)) (tm 44)),mv 46 45,oF 47 46 (.offA 3 (tm 15)),oF 48 46 (.load 1 false (tm 47)),oF 49 46 (.bin .lss (tm 48) (Kc 0)),oo 50 (.pick (tm 46) (.const (.bool true)) (tm 49))] []) (.cond (tm 50) (.seq (.region [oo 51 (.call 11 []),mv 16 51] []) .ret) .skip)) (.seq (.region [mv 53 2,mv 54 0,oo 55 (.call 22 [(tm 53), (tm 54)]),mv 52 55,oo 56 (.ext (tm 52) 0),oo 57 (.ext (tm 52) 1),mv 17 56,mv 18 57] []) (.seq (.region [mv 59 2,mv 60 0,oo 61 (.call 26 [(tm 59), (tm 60)]),mv 58 61,oo 62 (.ext (tm 58) 0),oo 63 (.ext (tm 58) 1),mv 19 62,mv 20 63] []) (.seq (.region [oo 65 (.load 8 true (tm 14)),oo 66 (.load 8 true (tm 15)),oo 67 (.call 19 [(tm 65), (tm 66)]),mv 64 67,oo 68 (.ext (tm 64) 0),oo 69 (.ext (tm 64) 1),mv 21 68,mv 22 69] []) (.seq (.region [oo 71 (.load 8 true (tm 14)),oo 72 (.load 8 true (tm 15)),oo 73 (.call 27 [(tm 71), (tm 72)]),mv 70 73,oo 74 (.ext (tm 70) 0),oo 75 (.ext (tm 70) 1),mv 23 74,mv 24 75] []) (.seq (.seq (.region [mv 76 17,mv 77 19,oo 78 (.bin .neq (tm 76) (tm 77)),mv 79 78,mF 80 18 79,mF 81 20 79,oF 82 79 (.bin .neq (tm 80) (tm 81)),oo 83 (.pick (tm 79) (.const (.bool true)) (tm 82)),mv 84 83,mF 85 21 84,mF 86 23 84,oF 87 84 (.bin .neq (tm 85) (tm 86)),oo 88 (.pick (tm 84) (.const (.bool true)) (tm 87)),mv 89 88,mF 90 22 89,mF 91 24 89,oF 92 89 (.bin .neq (tm 90) (tm 91)),oo 93 (.pick (tm 89) (.const (.bool true)) (tm 92)),mv 94 93,oF 95 94 (.load 19 true (tm 9)),oF 96 94 (.call 28 [(tm 95)]),oF 97 94 (.load 19 true (tm 9)),oF 98 94 (.call 29 [(tm 97)]),oF 99 94 (.bin .neq (tm 96) (tm 98)),oo 100 (.pick (tm 94) (.const (.bool true)) (tm 99))] []) (.cond (tm 100) (.seq (.region [oo 16 (.mov (.const (.bool false)))] []) .ret) .skip)) (.seq (.region [oo 25 (.mov (.const (.bool true)))] []) (.seq (.seq (.region [mv 101 0,oo 102 (.len (tm 101)),oo 103 (.mov (Kc 0))] []) (.block 0 (.loop (.seq (.region [oo 104 (.bin .lss (tm 103) (tm 102))] []) (.seq (.cond (tm 104) .skip (.exit 0)) (.seq (.block 1 (.seq (.region [mv 105 103,oo 106 (.idxL 19 (tm 101) (tm 103)),oo 107 (.load 19 true (tm 106)),oo 27 (.alloc [(Zi 0), (Zi 0), .nil, (Ui 0), (Ui 0), (Ui 0), (Ui 0), (Ui 0), (Ui 0), (Ui 0), (Ui 0), (Ui 0), (Ui 0), (Ui 0), (Ui 0), (Ui 0), (Ui 0), (Ui 0), (Ui 0)]),mv 26 105,o0 (.store 19 (tm 27) (tm 107))] []) (.seq (.region [oo 109 (.load 19 true (tm 27)),mv 110 3,mv 111 4,mv 112 5,oo 113 (.call 30 [(tm 109), (tm 110), (tm 111), (tm 112)]),mv 108 113,oo 114 (.ext (tm 108) 0),oo 115 (.ext (tm 108) 1),oo 28 (.alloc [(Zi 0), (Zi 0), (Zi 0), (Zi 0), (Zi 0), (Zi 0), (Zi 0), (Zi 0)]),o0 (.store 8 (tm 28) (tm 114)),mv 29 115] []) (.seq (.region [oo 117 (.load 19 true (tm 27)),mv 118 3,mv 119 4,mv 120 5,oo 121 (.call 31 [(tm 117), (tm 118), (tm 119), (tm 120)]),mv 116 121,oo 122 (.ext (tm 116) 0),oo 123 (.ext (tm 116) 1),oo 30 (.alloc [(Zi 0), (Zi 0), (Zi 0), (Zi 0), (Zi 0), (Zi 0), (Zi 0), (Zi 0)]),o0 (.store 8 (tm 30) (tm 122)),mv 31 123] []) (.seq (.seq (.region [oo 124 (.load 8 true (tm 28)),oo 125 (.load 8 true (tm 30)),oo 126 (.eqv true [.int .i64, .int .i64, .int .i64, .int .i64, .int .i64, .int .i64, .int .i64, .int .i64] (tm 124) (tm 125)),mv 127 126,mF 128 29 127,mF 129 31 127,oF 130 127 (.eqB true (tm 128) (tm 129)),oo 131 (.pick (tm 127) (.const (.bool true)) (tm 130)),mv 132 131,oF 133 132 (.load 19 true (tm 27)),oF 134 132 (.call 28 [(tm 133)]),oF 135 132 (.load 19 true (tm 27)),oF 136 132 (.call 29 [(tm 135)]),oF 137 132 (.bin .neq (tm 134) (tm 136)),oo 138 (.pick (tm 132) (.const (.bool true)) (tm 137)),mv 139 138,oF 140 139 (.load 19 true (tm 27)),mF 141 0 139,oF 142 139 (.idxL 19 (tm 141) (Kc 0)),oF 143 139 (.load 19 true (tm 142)),oF 144 139 (.call 23 [(tm 140), (tm 143)]),oF 145 139 (.load 19 true (tm 27)),mF 146 0 139,oF 147 139 (.idxL 19 (tm 146) (Kc 0)),oF 148 139 (.load 19 true (tm 147)),oF 149 139 (.call 21 [(tm 145), (tm 148)]),oF 150 139 (.eqB true (tm 144) (tm 149)),oo 151 (.pick (tm 139) (.const (.bool true)) (tm 150)),mv 152 151,oF 153 152 (.load 19 true (tm 27)),mF 154 0 152,mF 155 26 152,oF 156 152 (.idxL 19 (tm 154) (tm 155)),oF 157 152 (.load 19 true (tm 156)),oF 158 152 (.call 23 [(tm 153), (tm 157)]),oF 159 152 (.not (tm 158)),oo 160 (.pick (tm 152) (.const (.bool true)) (tm 159))] []) (.cond (tm 160) (.seq (.region [oo 16 (.mov (.const (.bool false)))] []) .ret) .skip)) (.region [mv 161 25,mv 162 161,oT 163 162 (.load 19 true (tm 27)),oT 164 162 (.call 29 [(tm 163)]),oT 165 162 (.bin .eql (tm 164) (Kc 0)),oo 166 (.pick (tm 162) (tm 165) (.const (.bool false))),mv 25 166] [])))))) (.region [oo 167 (.bin .add (tm 103) (Kc 1)),mv 103 167] []))))))) (.seq (.region [oo 168 (.call 11 []),mv 169 168,mT 170 25 169,oT 171 169 (.not (tm 170)),mT 172 171 169,mF 173 0 172,mF 174 3 172,mF 175 4 172,mF 176 5 172,oF 177 172 (.call 32 [(tm 173), (tm 174), (tm 175), (tm 176)]),mF 178 0 172,mF 179 3 172,mF 180 4 172,mF 181 5 172,oF 182 172 (.call 33 [(tm 178), (tm 179), (tm 180), (tm 181)]),oF 183 172 (.eqv false [.int .i64, .int .i64, .int .i64, .int .i64, .int .i64, .int .i64, .int .i64, .int .i64] (tm 177) (tm 182)),oT 184 169 (.pick (tm 172) (.const (.bool true)) (tm 183)),oo 185 (.pick (tm 169) (tm 184) (.const (.bool false))),mv 16 185] []) .ret))))))))))
theorem l7 : (Tryd.f7.body.bind (lowC Tryd.prog 186 [])) = some c7 := by kernel_rfl
end Go.RC
end
section
namespace Go.DL
open Go.RowKit
section
variable [Glb] {P : Program} {X : List FuncId} {N : Nat} {w0 : World} {S0 : Base} {a : Act} {E : Env} {st : St}
def resVP (sz : TypeId → Option (Nat × Bool)) (st : St) : List ResultVar → List V → Prop
  | [], [] => True
  | .tmp t :: rs, u :: us => st.sl t = u ∧ resVP sz st rs us
  | .cell c ty :: rs, .t x :: us => resP sz st [.cell c ty] [x] ∧ resVP sz st rs us
  | _, _ => False
theorem resVP_run (h : SR N w0 S0 E st a.tmps) : ∀ {rs : List ResultVar} {us : List V}, resVP (sizesOf P) st rs us → ∃ vs : List Value, (rs.mapM (readRes a.tmps)).run P E.w = .ok vs E.w ∧ vs.length = us.length ∧ ∀ (i : Nat) (v : Value) (u : V), vs[i]? = some v → us[i]? = some u → VR E v u
  | [], [], _ => ⟨[], by simp, rfl, fun i v x hv => by simp at hv⟩
  | .tmp t :: rs, u :: us, hr => by
    obtain ⟨hu, hr'⟩ := hr
    obtain ⟨vs, h1, h2, h3⟩ := resVP_run h hr'
    refine ⟨a.tmps.getD t undef :: vs, ?_, by simp [h2], fun i v y hv hy => ?_⟩
    · rw [List.mapM_cons, Sem.run_bind]
      have : (readRes a.tmps (.tmp t)).run P E.w = .ok (a.tmps.getD t undef) E.w := rfl
      rw [this]
      simp [h1]
    · cases i with
      | zero => simp only [List.getElem?_cons_zero, Option.some.injEq] at hv hy; subst hv; subst hy; rw [← hu]; exact h.sl t
      | succ i => simp at hv hy; exact h3 i v y hv hy
  | .cell c ty :: rs, .t x :: us, hr => by
    obtain ⟨⟨hp1, _⟩, hr'⟩ := hr
    obtain ⟨vs, h1, h2, h3⟩ := resVP_run h hr'
    have key : ∃ v, (readRes a.tmps (.cell c ty)).run P E.w = .ok v E.w ∧ Rep E.S E.w v x := by
      have hs := h.sl c
      split at hp1
      · rename_i b off n agg hb hz
        rw [hb] at hs
        obtain ⟨hv, hl⟩ := hs.inv_ptr
        unfold sizesOf at hz
        split at hz
        · rename_i d i hu hi
          simp only [cond_eq_ite] at hz
          split at hz
          · simp only [Option.some.injEq, Prod.mk.injEq] at hz
            obtain ⟨rfl, rfl⟩ := hz
            split at hp1
            · rename_i cs hcs
              obtain ⟨v, k1, k2⟩ := load_res h hu hi (off := off) hcs (x := x) hp1
              refine ⟨v, ?_, k2⟩
              show (asAddr (a.tmps.getD c undef) >>= fun d => loadVar ty d).run P E.w = _
              rw [hv]
              simp [asAddr, k1]
            · exact hp1.elim
          · cases hz
        · cases hz
      · exact hp1.elim
    obtain ⟨v0, k1, k2⟩ := key
    refine ⟨v0 :: vs, ?_, by simp [h2], fun i v y hv hy => ?_⟩
    · rw [List.mapM_cons, Sem.run_bind, k1]
      simp [h1]
    · cases i with
      | zero => simp only [List.getElem?_cons_zero, Option.some.injEq] at hv hy; subst hv; subst hy; exact .t _ _ k2
      | succ i => simp at hv hy; exact h3 i v y hv hy
theorem resultsVP_run (h : SR N w0 S0 E st a.tmps) {fn : Func} {us : List V} (hr : resVP (sizesOf P) st fn.results.toList us) : ∃ v, (results fn a.tmps).run P E.w = .ok v E.w ∧ VR E v (oneV us) := by
  obtain ⟨vs, h1, h2, h3⟩ := resVP_run (P := P) h hr
  have hr : (results fn a.tmps).run P E.w = .ok (if h : vs.toArray.size = 1 then vs.toArray[0] else .tuple vs.toArray) E.w := by
    have : results fn a.tmps = (do let vs ← fn.results.mapM (readRes a.tmps); pure (if h : vs.size = 1 then vs[0] else .tuple vs)) := rfl
    rw [this, Array.mapM_eq_mapM_toList]
    rw [Sem.run_bind]
    have h2 : (Functor.map List.toArray (fn.results.toList.mapM (readRes a.tmps))).run P E.w = .ok vs.toArray E.w := by
      rw [map_eq_pure_bind, Sem.run_bind, h1]; rfl
    rw [h2]; rfl
  refine ⟨_, hr, ?_⟩
  match vs, us, h2, h3 with
  | [v], [x], _, h3 => exact h3 0 v x rfl rfl
  | [], [], _, h3 => exact .tup _ _ rfl fun i x t hx ht => by simp at ht
  | v :: u :: vs, x :: y :: xs, h2, h3 =>
    have hne : ¬ (v :: u :: vs).toArray.size = 1 := by simp
    rw [dif_neg hne]
    exact .tup _ _ (by simpa using h2) fun i z t hz ht => h3 i z t (by simpa using hz) ht
def PostVP (sz : TypeId → Option (Nat × Bool)) (rs : List ResultVar) (st : St) (d : Option Nat) (K : St → Prop) : DExit → St → Prop
  | .normal, st2 => ∃ us, resVP sz st2 rs us ∧ K ((st2.back st).set d (oneV us))
  | .ret, st2 => ∃ us, resVP sz st2 rs us ∧ K ((st2.back st).set d (oneV us))
  | .exit _, _ => False
theorem WC_inlP (hm : P.follows .mixedOrders = true) {f : FuncId} {fn : Func} {dc : DCode} {N' : Nat} {rs : List ResultVar} (hf : P.funcs[f]? = some fn) (hl : (fn.body.bind (lowC P N' X)) = some dc) (hN : fn.ntmps = N') (hn : (fn.name == "runtime.NumGoroutine") = false)
    (hr : fn.results.toList = rs) {us : List V} (off : Nat) (ha : us.length ≤ N') {d : Option Nat} {K : St → Prop} (hw : wpC P dc (st.enter us off) (PostVP (sizesOf P) rs st d K)) : WC P f us d st K := by
  cases hb : fn.body with
  | none => rw [hb] at hl; cases hl
  | some c =>
    rw [hb] at hl
    subst hN; subst hr
    refine ⟨callable_of hf (by rw [hb]; rfl) hn, fun N w0 S0 E a vs h hlen hv hd => calls_of_wp hf hb ?_⟩
    have hsr : SR fn.ntmps w0 { S0 with vals := pushB (fun m => a.getD m undef) S0.vals } E (st.enter us off) (vs ++ Array.replicate (fn.ntmps - vs.size) undef) := by
      refine ⟨by simp; omega, h.base, h.glob, fun m => ?_, fun k m => ?_, h.bx, h.live, h.inj, h.rows, h.rinj, h.lt, h.below, h.s0, h.s1, h.obj, ⟨S0.vals, h.cx⟩⟩
      · show VR _ _ (us[m]?.getD .top)
        cases ht : us[m]? with
        | none => exact .top _
        | some t =>
          have hlt : m < vs.size := by rw [hlen]; exact (List.getElem?_eq_some_iff.1 ht).1
          have hv := hv m vs[m] t (Array.getElem?_eq_getElem hlt) ht
          have : (vs ++ Array.replicate (fn.ntmps - vs.size) undef).getD m undef = vs[m] := by
            rw [Array.getD_eq_getD_getElem?, Array.getElem?_append_left hlt]
            simp [hlt]
          rw [this]
          exact hv
      · cases k with
        | zero => exact h.sl m
        | succ k => exact h.gh k m
    refine wp_mono (wpC_wp hm hl (a := { tmps := vs ++ Array.replicate (fn.ntmps - vs.size) undef, defers := [] }) hsr hw) ?_
    have fin : ∀ {a' : Act} {w' : World}, EndIs fn.ntmps w0 { S0 with vals := pushB (fun m => a.getD m undef) S0.vals } [] (fun st2 => ∃ us, resVP (sizesOf P) st2 fn.results.toList us ∧ K ((st2.back st).set d (oneV us))) a' w' → a'.defers = [] ∧ ∃ v, (results fn a'.tmps).run P w' = .ok v w' ∧
        ∃ v', Ending.returned v = .returned v' ∧ ∃ (E' : Env) (st' : St), E'.w = w' ∧ K st' ∧ SR N w0 S0 E' st' (putA a d v') := by
      rintro a' w' ⟨E', st2, rfl, hsr', hdf, us', hus, hk⟩
      obtain ⟨v, h1, h2⟩ := resultsVP_run (P := P) hsr' hus
      have hback : SR N w0 S0 E' (st2.back st) a := by
        refine ⟨h.size, hsr'.base, hsr'.glob, fun m => hsr'.gh 0 m, fun k m => hsr'.gh (k + 1) m, hsr'.bx, hsr'.live, hsr'.inj, hsr'.rows, hsr'.rinj, hsr'.lt, hsr'.below, hsr'.s0, hsr'.s1, hsr'.obj, h.cx⟩
      exact ⟨hdf, v, h1, v, rfl, E', _, rfl, hk, set_put hback hd h2⟩
    intro e a' w' hh
    cases e with
    | normal => exact fin hh
    | ret => exact fin hh
    | exit id =>
      obtain ⟨_, _, _, _, _, hk⟩ := hh
      exact hk.elim
    | goto l => exact hh.elim
    | panic ch => exact hh.elim
    | outgrown => exact hh.elim
end
end Go.DL
end
section
namespace Go.RC
open Go Go.DL Go.Proofs
set_option maxRecDepth 100000
set_option maxHeartbeats 2000000
abbrev Ent := N3 × Int × List Int
abbrev tly (c : Int) (s : List Int) : T := .agg (I c :: s.map I)
abbrev esM (es : List Ent) : List (T × T) := es.map fun e => (nk e.1, tly e.2.1 e.2.2)
def getM (k : N3) : List Ent → Option (Int × List Int)
  | [] => none
  | e :: es => if k = e.1 then some e.2 else getM k es
def putM (k : N3) (v : Int × List Int) : List Ent → List Ent
  | [] => [(k, v)]
  | e :: es => if k = e.1 then (k, v) :: es else e :: putM k v es
theorem getM_cons (k : N3) (e : Ent) (es : List Ent) : getM k (e :: es) = if k = e.1 then some e.2 else getM k es := rfl
theorem putM_cons (k : N3) (v : Int × List Int) (e : Ent) (es : List Ent) : putM k v (e :: es) = if k = e.1 then (k, v) :: es else e :: putM k v es := rfl
theorem eqL_nk (k k' : N3) : eqL (nk k).cells (nk k').cells = decide (k = k') := by
  obtain ⟨a, b, c⟩ := k
  obtain ⟨a', b', c'⟩ := k'
  show (a == a' && (b == b' && (c == c' && true))) = _
  by_cases h1 : a = a' <;> by_cases h2 : b = b' <;> by_cases h3 : c = c' <;> simp [h1, h2, h3]
theorem mfind_esM (k : N3) : ∀ es : List Ent, mfind (nk k).cells (esM es) = (getM k es).map fun v => tly v.1 v.2
  | [] => rfl
  | e :: es => by
    show cond (eqL (nk k).cells (nk e.1).cells) (some (tly e.2.1 e.2.2)) (mfind (nk k).cells (esM es)) = _
    rw [eqL_nk, mfind_esM k es, getM_cons]
    by_cases h : k = e.1
    · simp [h]
    · simp [h]
theorem mput_esM (k : N3) (v : Int × List Int) : ∀ es : List Ent, mput (nk k) (tly v.1 v.2) (esM es) = esM (putM k v es)
  | [] => rfl
  | e :: es => by
    show cond (eqL (nk k).cells (nk e.1).cells) ((nk k, tly v.1 v.2) :: esM es) ((nk e.1, tly e.2.1 e.2.2) :: mput (nk k) (tly v.1 v.2) (esM es)) = _
    rw [eqL_nk, mput_esM k v es, putM_cons]
    by_cases h : k = e.1
    · simp [h]
    · simp [h]
def noteM (k : N3) (h : List Int) (es : List Ent) : Int × List Ent :=
  if rightN k.1 k.2.1 k.2.2 && rightH h then match getM k es with
    | none => if es.length ≥ 1000 then (2, es) else (0, putM k (1, sAdd [0, 0, 0, 0] (ofH h)) es)
    | some v => if v.1 ≥ 1073741824 then (2, es) else (0, putM k (v.1 + 1, sAdd v.2 (ofH h)) es)
  else (1, es)
def okE (es : List Ent) : Prop := ∀ e ∈ es, isS e.2.2 ∧ 0 ≤ e.2.1 ∧ e.2.1 ≤ 1073741824
theorem getM_mem {k : N3} {v : Int × List Int} : ∀ {es : List Ent}, getM k es = some v → (k, v) ∈ es
  | [], h => by cases h
  | e :: es, h => by
    rw [getM_cons] at h
    split at h
    · rename_i hk
      cases h
      rw [hk]; simp
    · exact List.mem_cons_of_mem _ (getM_mem h)
abbrev lgC (a b : V) (rest : List V) : List V := a :: b :: .mp 1011 :: rest
theorem mc_Note (a b : V) (rest : List V) (es : List Ent) (he : okE es) (hel : es.length < 2 ^ 40) (s p f : Int) (h : List Int) (hl : h.length = 10) :
    MC Tryd.prog 41 [.ptr 1013 0, .t (I s), .t (I p), .t (I f), .t (hd h)] [(1013, .v (lgC a b rest)), (1011, .m true sh3 (esM es) none)] [5009, 5011, 5012] 1011 (.m true sh3 (esM (noteM (s, p, f) h es).2) none) (I (noteM (s, p, f) h es).1) := by
  refine MC_of mixed Tryd.func41 l41 rfl rfl (rs := [.tmp 10]) rfl 5000 (Nat.le_of_ble_eq_true rfl) (fun _ => trivial) (by decide) ?_
  intro st d hneed hfr
  obtain ⟨sl, bx, gh, o, cx⟩ := st
  have e1 : bx 1013 = some (.v (lgC a b rest)) := hneed (1013, _) (by simp)
  have e2 : bx 1011 = some (.m true sh3 (esM es) none) := hneed (1011, _) (by simp)
  have e3 : bx 5009 = none := hfr 5009 (by simp)
  have e4 : bx 5011 = none := hfr 5011 (by simp)
  have e5 : bx 5012 = none := hfr 5012 (by simp)
  clear hneed hfr
  obtain ⟨g, hg⟩ : ∃ g, bx = upd (upd (upd (upd (upd g 5009 none) 5011 none) 5012 none) 1013 (some (.v (lgC a b rest)))) 1011 (some (.m true sh3 (esM es) none)) :=
    ⟨bx, by rw [upd_same_id e3, upd_same_id e4, upd_same_id e5, upd_same_id e1, upd_same_id e2]⟩
  subst hg
  clear e1 e2 e3 e4 e5
  have hR := t_right s p f
  have hO := fun (hh : okH h) => t_OfH h hh
  have hC := t_ContainsFunc 69 _ h (by rw [hl]; decide) (fun x _ => t_wide x)
  have hci : (h.any fun x => decide (x < 0) || decide (x > 65535)) = !rightH h := by
    unfold rightH
    rw [List.not_all_eq_any_not]
    congr 1
    funext x
    by_cases h1 : x < 0 <;> by_cases h2 : x > 65535 <;> simp [h1, h2] <;> omega
  rw [hci] at hC
  rw [← chunk1 (f := I) h 10 hl] at hC
  unfold noteM
  cases h1 : rightN s p f with
  | false =>
    rw [h1] at hR
    repeat' ((conv => whnf); first | exact trivial | refine k_call _ (hR) ?_ | refine nT_ ?_ | refine aE1 ?_ | refine aE0 ?_ | refine aN1 ?_ | refine aN0 ?_ | refine aD1 ?_ | refine aD0 ?_ | refine nE_ (fun hq => ?_) (fun hq => ?_) | refine nN_ (fun hq => ?_) (fun hq => ?_) | refine nD_ (fun hq => ?_) (fun hq => ?_) | refine rb1 ?_ | refine rb0 ?_ | refine rbx ?_ | refine rix ?_ | (refine And.intro (by first | (exact (List.length_map _).trans hl; done) | fail) ?_) | refine aS ?_ | fail)
    refine ⟨[.t (I 1)], rfl, ?_⟩
    cases d <;> refine ⟨rfl, rfl, rfl, rfl, rfl, fun n h1 h2 => ?_⟩
    all_goals
      simp only [List.mem_cons, List.not_mem_nil, or_false, not_or] at h2
      show upd (upd (upd _ 5009 _) 5011 _) 5011 _ n = _
      rw [upd_other _ _ _ _ h2.2.1, upd_other _ _ _ _ h2.2.1, upd_other _ _ _ _ h2.1]
      rfl
  | true =>
    rw [h1] at hR
    cases h2 : rightH h with
    | false =>
      rw [h2] at hC
      repeat' ((conv => whnf); first | exact trivial | refine k_call _ (hR) ?_ | refine k_call _ (hC) ?_ | refine nT_ ?_ | refine aE1 ?_ | refine aE0 ?_ | refine aN1 ?_ | refine aN0 ?_ | refine aD1 ?_ | refine aD0 ?_ | refine nE_ (fun hq => ?_) (fun hq => ?_) | refine nN_ (fun hq => ?_) (fun hq => ?_) | refine nD_ (fun hq => ?_) (fun hq => ?_) | refine rb1 ?_ | refine rb0 ?_ | refine rbx ?_ | refine rix ?_ | (refine And.intro (by first | (exact (List.length_map _).trans hl; done) | fail) ?_) | refine aS ?_ | fail)
      refine ⟨[.t (I 1)], rfl, ?_⟩
      cases d <;> refine ⟨rfl, rfl, rfl, rfl, rfl, fun n h1 h2 => ?_⟩
      all_goals
        simp only [List.mem_cons, List.not_mem_nil, or_false, not_or] at h2
        show upd (upd (upd _ 5009 _) 5011 _) 5011 _ n = _
        rw [upd_other _ _ _ _ h2.2.1, upd_other _ _ _ _ h2.2.1, upd_other _ _ _ _ h2.1]
        rfl
    | true =>
      rw [h2] at hC
      have hok := (rightH_ok hl).1 h2
      have hOf := hO hok
      have hofS := ofH_isS h
      generalize ofH h = oh at hOf hofS
      have hkey : keyOk true sh3 (nk (s, p, f)) := ⟨rfl, rfl, rfl, rfl, trivial⟩
      have hmf := mfind_esM (s, p, f) es
      rw [if_pos (show (true && true) = true from rfl)]
      cases h3 : getM (s, p, f) es with
      | none =>
        rw [h3] at hmf
        have hz : isS [0, 0, 0, 0] := ⟨rfl, by simp [M32]⟩
        have hA := t_sAdd [0, 0, 0, 0] oh hz hofS
        have hpu := mput_esM (s, p, f) (1, sAdd [0, 0, 0, 0] oh) es
        have hAl := (isS_add hz hofS).1
        show wpC _ _ _ (PostV _ _ _ (Ended _ _ _ _ (.m true sh3 (esM (if es.length ≥ 1000 then ((2 : Int), es) else (0, putM (s, p, f) (1, sAdd [0, 0, 0, 0] oh) es)).2) none) (I (if es.length ≥ 1000 then ((2 : Int), es) else (0, putM (s, p, f) (1, sAdd [0, 0, 0, 0] oh) es)).1)))
        generalize sAdd [0, 0, 0, 0] oh = sa at *
        obtain ⟨a0, a1, a2, a3, rfl⟩ : ∃ a b c d, sa = [a, b, c, d] := by
          match sa, hAl with
          | [a, b, c, d], _ => exact ⟨a, b, c, d, rfl⟩
        by_cases h4 : es.length ≥ 1000
        · rw [if_pos h4]
          repeat' ((conv => whnf); first | exact trivial | refine k_call _ (hR) ?_ | refine k_call _ (hC) ?_ | (refine nv_ (.tup [.agg [I 0, I 0, I 0, I 0, I 0], .bool false]) (by show mres _ _ (mfind (nk (s, p, f)).cells (esM es)) = _; rw [hmf]; rfl) ?_) | (refine now_D1 (by simp; omega) ?_) | refine nT_ ?_ | refine aE1 ?_ | refine aE0 ?_ | refine aN1 ?_ | refine aN0 ?_ | refine aD1 ?_ | refine aD0 ?_ | refine nE_ (fun hq => ?_) (fun hq => ?_) | refine nN_ (fun hq => ?_) (fun hq => ?_) | refine nD_ (fun hq => ?_) (fun hq => ?_) | refine rb1 ?_ | refine rb0 ?_ | refine rbx ?_ | refine rix ?_ | (refine And.intro (by first | (exact (List.length_map _).trans hl; done) | (exact hkey; done) | fail) ?_) | refine aS ?_ | fail)
          refine ⟨[.t (I 2)], rfl, ?_⟩
          cases d <;> refine ⟨rfl, rfl, rfl, rfl, rfl, fun n h1 h2 => ?_⟩
          all_goals
            simp only [List.mem_cons, List.not_mem_nil, or_false, not_or] at h2
            show upd (upd (upd (upd (upd _ 5009 _) 5011 _) 5011 _) 5012 _) 5012 _ n = _
            rw [upd_other _ _ _ _ h2.2.2, upd_other _ _ _ _ h2.2.2, upd_other _ _ _ _ h2.2.1, upd_other _ _ _ _ h2.2.1, upd_other _ _ _ _ h2.1]
            rfl
        · rw [if_neg h4]
          repeat' ((conv => whnf); first | exact trivial | refine k_call _ (hR) ?_ | refine k_call _ (hC) ?_ | (refine nv_ (.tup [.agg [I 0, I 0, I 0, I 0, I 0], .bool false]) (by show mres _ _ (mfind (nk (s, p, f)).cells (esM es)) = _; rw [hmf]; rfl) ?_) | (refine now_D0 (by simp; omega) ?_) | refine k_call _ (hOf) ?_ | refine k_call _ (hA) ?_ | refine nT_ ?_ | refine aE1 ?_ | refine aE0 ?_ | refine aN1 ?_ | refine aN0 ?_ | refine aD1 ?_ | refine aD0 ?_ | refine nE_ (fun hq => ?_) (fun hq => ?_) | refine nN_ (fun hq => ?_) (fun hq => ?_) | refine nD_ (fun hq => ?_) (fun hq => ?_) | refine rb1 ?_ | refine rb0 ?_ | refine rbx ?_ | refine rix ?_ | (refine And.intro (by first | (exact (List.length_map _).trans hl; done) | (exact hkey; done) | fail) ?_) | refine aS ?_ | fail)
          refine ⟨[.t (I 0)], rfl, ?_⟩
          cases d <;> refine ⟨rfl, rfl, rfl, rfl, congrArg (fun es => some (BX.m true sh3 es none)) hpu, fun n h1 h2 => ?_⟩
          all_goals
            simp only [List.mem_cons, List.not_mem_nil, or_false, not_or] at h2
            show upd (upd (upd (upd (upd (upd _ 5009 _) 5011 _) 5011 _) 5012 _) 5012 _) 1011 _ n = _
            rw [upd_other _ _ _ _ h1, upd_other _ _ _ _ h2.2.2, upd_other _ _ _ _ h2.2.2, upd_other _ _ _ _ h2.2.1, upd_other _ _ _ _ h2.2.1, upd_other _ _ _ _ h2.1]
            rfl
      | some v =>
        obtain ⟨c, t⟩ := v
        rw [h3] at hmf
        obtain ⟨hts, hc0, hc1⟩ := he _ (getM_mem h3)
        dsimp only at hts hc0 hc1
        have hA := t_sAdd t oh hts hofS
        have hpu := mput_esM (s, p, f) (c + 1, sAdd t oh) es
        have hAl := (isS_add hts hofS).1
        show wpC _ _ _ (PostV _ _ _ (Ended _ _ _ _ (.m true sh3 (esM (if c ≥ 1073741824 then ((2 : Int), es) else (0, putM (s, p, f) (c + 1, sAdd t oh) es)).2) none) (I (if c ≥ 1073741824 then ((2 : Int), es) else (0, putM (s, p, f) (c + 1, sAdd t oh) es)).1)))
        generalize sAdd t oh = sa at *
        obtain ⟨a0, a1, a2, a3, rfl⟩ : ∃ a b c d, sa = [a, b, c, d] := by
          match sa, hAl with
          | [a, b, c, d], _ => exact ⟨a, b, c, d, rfl⟩
        obtain ⟨t0, t1, t2, t3, rfl⟩ : ∃ a b c d, t = [a, b, c, d] := by
          match t, hts.1 with
          | [a, b, c, d], _ => exact ⟨a, b, c, d, rfl⟩
        have hw : IntKind.i64.wrap (c + 1) = c + 1 := wrap_id (by omega) (by omega)
        by_cases h4 : c ≥ 1073741824
        · rw [if_pos h4]
          repeat' ((conv => whnf); first | exact trivial | refine k_call _ (hR) ?_ | refine k_call _ (hC) ?_ | (refine nv_ (.tup [tly c [t0, t1, t2, t3], .bool true]) (by show mres _ _ (mfind (nk (s, p, f)).cells (esM es)) = _; rw [hmf]; rfl) ?_) | refine nT_ ?_ | refine aE1 ?_ | refine aE0 ?_ | refine aN1 ?_ | refine aN0 ?_ | refine aD1 ?_ | refine aD0 ?_ | refine nE_ (fun hq => ?_) (fun hq => ?_) | refine nN_ (fun hq => ?_) (fun hq => ?_) | refine nD_ (fun hq => ?_) (fun hq => ?_) | refine rb1 ?_ | refine rb0 ?_ | refine rbx ?_ | refine rix ?_ | (refine And.intro (by first | (exact (List.length_map _).trans hl; done) | (exact hkey; done) | fail) ?_) | refine aS ?_ | fail)
          refine ⟨[.t (I 2)], rfl, ?_⟩
          cases d <;> refine ⟨rfl, rfl, rfl, rfl, rfl, fun n h1 h2 => ?_⟩
          all_goals
            simp only [List.mem_cons, List.not_mem_nil, or_false, not_or] at h2
            show upd (upd (upd (upd (upd _ 5009 _) 5011 _) 5011 _) 5012 _) 5012 _ n = _
            rw [upd_other _ _ _ _ h2.2.2, upd_other _ _ _ _ h2.2.2, upd_other _ _ _ _ h2.2.1, upd_other _ _ _ _ h2.2.1, upd_other _ _ _ _ h2.1]
            rfl
        · rw [if_neg h4]
          repeat' ((conv => whnf); first | exact trivial | refine k_call _ (hR) ?_ | refine k_call _ (hC) ?_ | (refine nv_ (.tup [tly c [t0, t1, t2, t3], .bool true]) (by show mres _ _ (mfind (nk (s, p, f)).cells (esM es)) = _; rw [hmf]; rfl) ?_) | refine k_call _ (hOf) ?_ | refine k_call _ (hA) ?_ | refine nT_ ?_ | refine aE1 ?_ | refine aE0 ?_ | refine aN1 ?_ | refine aN0 ?_ | refine aD1 ?_ | refine aD0 ?_ | refine nE_ (fun hq => ?_) (fun hq => ?_) | refine nN_ (fun hq => ?_) (fun hq => ?_) | refine nD_ (fun hq => ?_) (fun hq => ?_) | refine rb1 ?_ | refine rb0 ?_ | refine rbx ?_ | refine rix ?_ | (refine And.intro (by first | (exact (List.length_map _).trans hl; done) | (exact hkey; done) | fail) ?_) | refine aS ?_ | fail)
          refine ⟨[.t (I 0)], rfl, ?_⟩
          cases d <;> refine ⟨rfl, rfl, rfl, rfl, (congrArg (fun c => some (BX.m true sh3 (mput (nk (s, p, f)) (tly c [a0, a1, a2, a3]) (esM es)) none)) hw).trans (congrArg (fun es => some (BX.m true sh3 es none)) hpu), fun n h1 h2 => ?_⟩
          all_goals
            simp only [List.mem_cons, List.not_mem_nil, or_false, not_or] at h2
            show upd (upd (upd (upd (upd (upd _ 5009 _) 5011 _) 5011 _) 5012 _) 5012 _) 1011 _ n = _
            rw [upd_other _ _ _ _ h1, upd_other _ _ _ _ h2.2.2, upd_other _ _ _ _ h2.2.2, upd_other _ _ _ _ h2.2.1, upd_other _ _ _ _ h2.2.1, upd_other _ _ _ _ h2.1]
            rfl
end Go.RC
end
section
namespace Go.RC
open Go Go.DL Go.Proofs
set_option maxRecDepth 100000
set_option maxHeartbeats 4000000
abbrev ha : List Int := [7, 5, 0, 0, 0, 0, 0, 0, 0, 0]
abbrev hb : List Int := [7, 6, 0, 0, 0, 0, 0, 0, 0, 0]
theorem okHa : okH ha := ⟨rfl, by decide⟩
theorem okHb : okH hb := ⟨rfl, by decide⟩
abbrev S0' : List Int := [0, 0, 0, 0]
theorem isS0 : isS S0' := ⟨rfl, by simp [M32]⟩
def Sa : List Int := sAdd S0' (ofH ha)
def Sab : List Int := sAdd Sa (ofH hb)
theorem isSa : isS Sa := isS_add isS0 (ofH_isS _)
theorem isSab : isS Sab := isS_add isSa (ofH_isS _)
def es1 : List Ent := [((2, 7, 1), 1, Sa)]
def es2 : List Ent := [((2, 7, 1), 1, Sa), ((1, 2, 1), 1, Sa)]
def es3 : List Ent := [((2, 7, 1), 2, Sab), ((1, 2, 1), 1, Sa)]
theorem n1 : noteM (2, 7, 1) ha [] = (0, es1) := rfl
theorem n2 : noteM (1, 2, 1) ha es1 = (0, es2) := rfl
theorem n3 : noteM (2, 7, 1) hb es2 = (0, es3) := rfl
theorem okE0 : okE [] := fun e h => by cases h
theorem okE1 : okE es1 := fun e h => by
  simp only [es1, List.mem_singleton] at h; subst h; exact ⟨isSa, by decide, by decide⟩
theorem okE2 : okE es2 := fun e h => by
  simp only [es2, List.mem_cons, List.not_mem_nil, or_false] at h
  rcases h with rfl | rfl <;> exact ⟨isSa, by decide, by decide⟩
abbrev lg0 (rest : List V) : List V := lgC (.t (I 3)) (.t (I 0)) rest
theorem m1 (rest : List V) : MC Tryd.prog 41 [.ptr 1013 0, .t (I 2), .t (I 7), .t (I 1), .t (hd ha)] [(1013, .v (lg0 rest)), (1011, .m true sh3 [] none)] [5009, 5011, 5012] 1011 (.m true sh3 (esM es1) none) (I 0) := by
  have := mc_Note (.t (I 3)) (.t (I 0)) rest [] okE0 (by decide) 2 7 1 ha rfl
  rwa [n1] at this
theorem m2 (rest : List V) : MC Tryd.prog 41 [.ptr 1013 0, .t (I 1), .t (I 2), .t (I 1), .t (hd ha)] [(1013, .v (lg0 rest)), (1011, .m true sh3 (esM es1) none)] [5009, 5011, 5012] 1011 (.m true sh3 (esM es2) none) (I 0) := by
  have := mc_Note (.t (I 3)) (.t (I 0)) rest es1 okE1 (by decide) 1 2 1 ha rfl
  rwa [n2] at this
theorem m3 (rest : List V) : MC Tryd.prog 41 [.ptr 1013 0, .t (I 2), .t (I 7), .t (I 1), .t (hd hb)] [(1013, .v (lg0 rest)), (1011, .m true sh3 (esM es2) none)] [5009, 5011, 5012] 1011 (.m true sh3 (esM es3) none) (I 0) := by
  have := mc_Note (.t (I 3)) (.t (I 0)) rest es2 okE2 (by decide) 2 7 1 hb rfl
  rwa [n3] at this
theorem srt3 : srt [(2, 7, 1), (1, 2, 1)] = [(1, 2, 1), (2, 7, 1)] := (srt_eq (ks := [(2, 7, 1), (1, 2, 1)]) (zs := [(1, 2, 1), (2, 7, 1)]) (.swap _ _ _) (by simp [cmpN, orI, cmpI])).symm
abbrev pvV (pv : List Int) : List V := pv.map fun x => .t (Y x)
theorem sAdd0 {a : List Int} (h : isS a) : sAdd S0' a = a := by
  obtain ⟨hl, hx⟩ := h
  match a, hl, hx with
  | [a, b, c, d], _, hx =>
    have h1 := hx a (by simp)
    have h2 := hx b (by simp)
    have h3 := hx c (by simp)
    have h4 := hx d (by simp)
    show [(0 + a) % M32, (0 + b) % M32, (0 + c) % M32, (0 + d) % M32] = _
    unfold M32 at *
    rw [Int.zero_add, Int.zero_add, Int.zero_add, Int.zero_add, Int.emod_eq_of_lt h1.1 h1.2, Int.emod_eq_of_lt h2.1 h2.2, Int.emod_eq_of_lt h3.1 h3.2, Int.emod_eq_of_lt h4.1 h4.2]
theorem ex16 {l : List Int} (h : l.length = 16) : ∃ d0 d1 d2 d3 d4 d5 d6 d7 d8 d9 d10 d11 d12 d13 d14 d15, l = [d0, d1, d2, d3, d4, d5, d6, d7, d8, d9, d10, d11, d12, d13, d14, d15] := by
  match l, h with
  | [d0, d1, d2, d3, d4, d5, d6, d7, d8, d9, d10, d11, d12, d13, d14, d15], _ => exact ⟨d0, d1, d2, d3, d4, d5, d6, d7, d8, d9, d10, d11, d12, d13, d14, d15, rfl⟩
theorem four {l : List Int} (h : l.length = 4) : ∃ a b c d, l = [a, b, c, d] := by
  match l, h with
  | [a, b, c, d], _ => exact ⟨a, b, c, d, rfl⟩
theorem t_sanity : DCalls Tryd.prog 11 [] (.bool true) := by
  refine dcalls_low (rs := [.tmp 0]) mixed Tryd.func11 l11 rfl rfl rfl (r := [.bool true]) (Nat.le_of_ble_eq_true rfl) ?_
  obtain ⟨x0, x1, x2, x3, hx⟩ := four isSa.1
  obtain ⟨y0, y1, y2, y3, hy⟩ := four isSab.1
  have m3' := m3 (pvV zero16)
  have he3 : esM es3 = [(nk (2, 7, 1), tly 2 [y0, y1, y2, y3]), (nk (1, 2, 1), tly 1 [x0, x1, x2, x3])] := by simp only [es3, esM, hx, hy, List.map_cons, List.map_nil]
  rw [he3] at m3'
  have xi : ∀ y ∈ [x0, x1, x2, x3], 0 ≤ y ∧ y < M32 := fun y hy => (isSa.2 y (by rw [hx]; exact hy))
  have yi : ∀ z ∈ [y0, y1, y2, y3], 0 ≤ z ∧ z < M32 := fun y hh => (isSab.2 y (by rw [hy]; exact hh))
  have hL8 : ∀ x ∈ [[1, 2, 1, 1, x0, x1, x2, x3], [2, 7, 1, 2, y0, y1, y2, y3]], x.length = 8 ∧ ∀ y ∈ x, i64 y := fun x hh => by
    simp only [List.mem_cons, List.not_mem_nil, or_false] at hh
    rcases hh with rfl | rfl
    · refine ⟨rfl, fun y h => ?_⟩
      rcases List.mem_append.1 (show y ∈ [1, 2, 1, 1] ++ [x0, x1, x2, x3] from h) with h | h
      · simp only [List.mem_cons, List.not_mem_nil, or_false] at h
        unfold i64; omega
      · have := xi y h
        unfold M32 at this; unfold i64; omega
    · refine ⟨rfl, fun y h => ?_⟩
      rcases List.mem_append.1 (show y ∈ [2, 7, 1, 2] ++ [y0, y1, y2, y3] from h) with h | h
      · simp only [List.mem_cons, List.not_mem_nil, or_false] at h
        unfold i64; omega
      · have := yi y h
        unfold M32 at this; unfold i64; omega
  have hr1 : Rc.ok ⟨3, 0, [[1, 2, 1, 1, x0, x1, x2, x3], [2, 7, 1, 2, y0, y1, y2, y3]], zero16⟩ := ⟨⟨(show i64 3 by unfold i64; decide), (show i64 0 by unfold i64; decide), hL8, rfl, (show areB zero16 by unfold areB; decide)⟩, Nat.le_of_ble_eq_true rfl⟩
  obtain ⟨d0, d1, d2, d3, d4, d5, d6, d7, d8, d9, d10, d11, d12, d13, d14, d15, hD⟩ := ex16 (dgR_len 3 0 [[1, 2, 1, 1, x0, x1, x2, x3], [2, 7, 1, 2, y0, y1, y2, y3]] zero16)
  have hDb := dgR_areB 3 0 [[1, 2, 1, 1, x0, x1, x2, x3], [2, 7, 1, 2, y0, y1, y2, y3]] zero16
  rw [hD] at hDb
  have hr2 : Rc.ok ⟨3, 1, [], [d0, d1, d2, d3, d4, d5, d6, d7, d8, d9, d10, d11, d12, d13, d14, d15]⟩ := ⟨⟨(show i64 3 by unfold i64; decide), (show i64 1 by unfold i64; decide), fun x h => by simp at h, rfl, hDb⟩, Nat.le_of_ble_eq_true rfl⟩
  have hD1 := t_Digest 3 0 [[1, 2, 1, 1, x0, x1, x2, x3], [2, 7, 1, 2, y0, y1, y2, y3]] zero16 hr1.1 hr1.2
  rw [hD] at hD1
  have hD2 := t_Digest 3 1 [] [d0, d1, d2, d3, d4, d5, d6, d7, d8, d9, d10, d11, d12, d13, d14, d15] hr2.1 hr2.2
  have hD2l := dgR_len 3 1 [] [d0, d1, d2, d3, d4, d5, d6, d7, d8, d9, d10, d11, d12, d13, d14, d15]
  generalize dgR 3 1 [] [d0, d1, d2, d3, d4, d5, d6, d7, d8, d9, d10, d11, d12, d13, d14, d15] = D2 at hD2 hD2l
  have a1 := t_sAdd [4294967295, 0, 0, 5] [1, 2, 0, 5] ⟨rfl, by simp [M32]⟩ ⟨rfl, by simp [M32]⟩
  have a2 := t_sSub [0, 0, 0, 0] [1, 0, 0, 0] ⟨rfl, by simp [M32]⟩ ⟨rfl, by simp [M32]⟩
  repeat' ((conv => whnf); first | exact trivial | refine k_call _ (a1) ?_ | refine k_call _ (a2) ?_ | refine nb_ false rfl ?_ | refine nT_ ?_ | refine aE1 ?_ | refine aE0 ?_ | refine aN1 ?_ | refine aN0 ?_ | refine aD1 ?_ | refine aD0 ?_ | refine nE_ (fun hq => ?_) (fun hq => ?_) | refine nN_ (fun hq => ?_) (fun hq => ?_) | refine nD_ (fun hq => ?_) (fun hq => ?_) | refine rb1 ?_ | refine rb0 ?_ | refine rbx ?_ | refine rix ?_ | (refine And.intro (by first | (exact ⟨⟨rfl, rfl, rfl, rfl, trivial⟩, ⟨rfl, rfl, rfl, rfl, trivial⟩⟩; done) | fail) ?_) | refine aS ?_ | fail)
  refine WC_inl mixed Tryd.func40 l40 rfl rfl (rs := [.tmp 2, .tmp 3]) rfl 1000 (Nat.le_of_ble_eq_true rfl) ?_
  repeat' ((conv => whnf); first | exact trivial | refine nT_ ?_ | refine aE1 ?_ | refine aE0 ?_ | refine aN1 ?_ | refine aN0 ?_ | refine aD1 ?_ | refine aD0 ?_ | refine nE_ (fun hq => ?_) (fun hq => ?_) | refine nN_ (fun hq => ?_) (fun hq => ?_) | refine nD_ (fun hq => ?_) (fun hq => ?_) | refine rb1 ?_ | refine rb0 ?_ | refine rbx ?_ | refine rix ?_ | refine aS ?_ | refine ⟨_, rfl, ?_⟩ | fail)
  refine WC_inl mixed Tryd.func40 l40 rfl rfl (rs := [.tmp 2, .tmp 3]) rfl 2000 (Nat.le_of_ble_eq_true rfl) ?_
  repeat' ((conv => whnf); first | exact trivial | refine nT_ ?_ | refine aE1 ?_ | refine aE0 ?_ | refine aN1 ?_ | refine aN0 ?_ | refine aD1 ?_ | refine aD0 ?_ | refine nE_ (fun hq => ?_) (fun hq => ?_) | refine nN_ (fun hq => ?_) (fun hq => ?_) | refine nD_ (fun hq => ?_) (fun hq => ?_) | refine rb1 ?_ | refine rb0 ?_ | refine rbx ?_ | refine rix ?_ | refine aS ?_ | refine ⟨_, rfl, ?_⟩ | fail)
  (conv => whnf)
  refine ⟨_, _, _, _, _, m1 (pvV zero16), ?_, ?_, by decide, ?_, ?_⟩
  · intro p hp
    simp only [List.mem_cons, List.not_mem_nil, or_false] at hp
    rcases hp with rfl | rfl <;> rfl
  · intro n hn
    simp only [List.mem_cons, List.not_mem_nil, or_false] at hn
    rcases hn with rfl | rfl | rfl <;> rfl
  · rfl
  repeat' ((conv => whnf); first | exact trivial | refine nT_ ?_ | refine aE1 ?_ | refine aE0 ?_ | refine aN1 ?_ | refine aN0 ?_ | refine aD1 ?_ | refine aD0 ?_ | refine nE_ (fun hq => ?_) (fun hq => ?_) | refine nN_ (fun hq => ?_) (fun hq => ?_) | refine nD_ (fun hq => ?_) (fun hq => ?_) | refine rb1 ?_ | refine rb0 ?_ | refine rbx ?_ | refine rix ?_ | refine aS ?_ | fail)
  (conv => whnf)
  refine ⟨_, _, _, _, _, m2 (pvV zero16), ?_, ?_, by decide, ?_, ?_⟩
  · intro p hp
    simp only [List.mem_cons, List.not_mem_nil, or_false] at hp
    rcases hp with rfl | rfl <;> rfl
  · intro n hn
    simp only [List.mem_cons, List.not_mem_nil, or_false] at hn
    rcases hn with rfl | rfl | rfl <;> rfl
  · rfl
  repeat' ((conv => whnf); first | exact trivial | refine nT_ ?_ | refine aE1 ?_ | refine aE0 ?_ | refine aN1 ?_ | refine aN0 ?_ | refine aD1 ?_ | refine aD0 ?_ | refine nE_ (fun hq => ?_) (fun hq => ?_) | refine nN_ (fun hq => ?_) (fun hq => ?_) | refine nD_ (fun hq => ?_) (fun hq => ?_) | refine rb1 ?_ | refine rb0 ?_ | refine rbx ?_ | refine rix ?_ | refine aS ?_ | fail)
  (conv => whnf)
  refine ⟨_, _, _, _, _, m3', ?_, ?_, by decide, ?_, ?_⟩
  · intro p hp
    simp only [List.mem_cons, List.not_mem_nil, or_false] at hp
    rcases hp with rfl | rfl <;> rfl
  · intro n hn
    simp only [List.mem_cons, List.not_mem_nil, or_false] at hn
    rcases hn with rfl | rfl | rfl <;> rfl
  · rfl
  repeat' ((conv => whnf); first | exact trivial | refine nT_ ?_ | refine aE1 ?_ | refine aE0 ?_ | refine aN1 ?_ | refine aN0 ?_ | refine aD1 ?_ | refine aD0 ?_ | refine nE_ (fun hq => ?_) (fun hq => ?_) | refine nN_ (fun hq => ?_) (fun hq => ?_) | refine nD_ (fun hq => ?_) (fun hq => ?_) | refine rb1 ?_ | refine rb0 ?_ | refine rbx ?_ | refine rix ?_ | refine aS ?_ | fail)
  refine wpC_loopE 0 (α := Nat) (β := Unit) (fun k => {sl := [(2, .ptr 1013 0), (6, .ptr 6 0), (7, .ptr 7 0), (70, .t (.slice 1 [I 0, I 0, I 0])), (71, .t (I 3)), (72, .t (I k))], bx := [(6, .d 10 (ha.map I)), (7, .d 10 (hb.map I)), (1013, .v (lg0 (pvV zero16))), (1011, .m true sh3 [(nk (2, 7, 1), tly 2 [y0, y1, y2, y3]), (nk (1, 2, 1), tly 1 [x0, x1, x2, x3])] none)]})
    (fun k => k ≤ 3) (fun k => 3 - k) (fun _ => {sl := [(2, .ptr 1013 0), (6, .ptr 6 0), (7, .ptr 7 0)], bx := [(6, .d 10 (ha.map I)), (7, .d 10 (hb.map I)), (1013, .v (lg0 (pvV zero16))), (1011, .m true sh3 [(nk (2, 7, 1), tly 2 [y0, y1, y2, y3]), (nk (1, 2, 1), tly 1 [x0, x1, x2, x3])] none)]}) (fun _ => True) 0 (by omega) ?_ ?_ ?_
  · repeat' (first | exact trivial | exact LeV.same _ | exact LeB.same _ | exact rfl | exact fun _ _ _ => trivial | exact lI | exact LeV.nil _ _ _ | exact lB | refine leBd ?_ | refine leOwn ?_ | refine And.intro ?_ ?_)
  · rintro k hk
    rcases Nat.lt_or_ge k 3 with h | h
    · have hg : ([I 0, I 0, I 0] : List T)[k]?.getD .nil = I 0 := by
        match k, h with
        | 0, _ => rfl
        | 1, _ => rfl
        | 2, _ => rfl
      repeat' ((conv => whnf); first | exact trivial | (refine nv_ (I 0) (by first | (exact hg; done) | fail) ?_) | refine nT_ ?_ | refine aE1 ?_ | refine aE0 ?_ | refine aN1 ?_ | refine aN0 ?_ | refine aD1 ?_ | refine aD0 ?_ | refine nE_ (fun hq => ?_) (fun hq => ?_) | refine nN_ (fun hq => ?_) (fun hq => ?_) | refine nD_ (fun hq => ?_) (fun hq => ?_) | refine rb1 ?_ | refine rb0 ?_ | refine rbx ?_ | refine rix ?_ | (refine And.intro (by first | ((simp; omega); done) | fail) ?_) | refine aS ?_ | fail)
      exact ⟨k + 1, by omega, by omega, by repeat' (first | exact trivial | exact LeV.same _ | exact LeB.same _ | exact rfl | exact fun _ _ _ => trivial | exact lI | exact LeV.nil _ _ _ | exact lB | refine leBd ?_ | refine leOwn ?_ | refine And.intro ?_ ?_)⟩
    · have : k = 3 := by omega
      subst this
      repeat' ((conv => whnf); first | exact trivial | refine nT_ ?_ | refine aE1 ?_ | refine aE0 ?_ | refine aN1 ?_ | refine aN0 ?_ | refine aD1 ?_ | refine aD0 ?_ | refine nE_ (fun hq => ?_) (fun hq => ?_) | refine nN_ (fun hq => ?_) (fun hq => ?_) | refine nD_ (fun hq => ?_) (fun hq => ?_) | refine rb1 ?_ | refine rb0 ?_ | refine rbx ?_ | refine rix ?_ | refine aS ?_ | fail)
      exact ⟨(), trivial, by repeat' (first | exact trivial | exact LeV.same _ | exact LeB.same _ | exact rfl | exact fun _ _ _ => trivial | exact lI | exact LeV.nil _ _ _ | exact lB | refine leBd ?_ | refine leOwn ?_ | refine And.intro ?_ ?_)⟩
  rintro - -
  refine wpC_cut (β := Unit) (fun _ => {sl := [(2, .ptr 1013 0), (6, .ptr 6 0), (7, .ptr 7 0), (10, .ptr 10 0), (11, .t (I 0))], bx := [(6, .d 10 (ha.map I)), (7, .d 10 (hb.map I)), (10, .d 19 (rcC 3 0 [[1, 2, 1, 1, x0, x1, x2, x3], [2, 7, 1, 2, y0, y1, y2, y3]] zero16)), (1013, .v (lgC (.t (I 3)) (.t (I 1)) (pvV [d0, d1, d2, d3, d4, d5, d6, d7, d8, d9, d10, d11, d12, d13, d14, d15]))), (1011, .m true sh3 [] none)]}) (fun _ => True) ?_ fun _ _ => ?_
  · repeat' ((conv => whnf); first | exact trivial | refine nT_ ?_ | refine aE1 ?_ | refine aE0 ?_ | refine aN1 ?_ | refine aN0 ?_ | refine aD1 ?_ | refine aD0 ?_ | refine nE_ (fun hq => ?_) (fun hq => ?_) | refine nN_ (fun hq => ?_) (fun hq => ?_) | refine nD_ (fun hq => ?_) (fun hq => ?_) | refine rb1 ?_ | refine rb0 ?_ | refine rbx ?_ | refine rix ?_ | refine aS ?_ | fail)
    refine WC_inlP mixed Tryd.func42 l42 rfl rfl (rs := [.cell 2 51, .tmp 3]) rfl 6000 (Nat.le_of_ble_eq_true rfl) ?_
    repeat' ((conv => whnf); first | exact trivial | refine nT_ ?_ | refine aE1 ?_ | refine aE0 ?_ | refine aN1 ?_ | refine aN0 ?_ | refine aD1 ?_ | refine aD0 ?_ | refine nE_ (fun hq => ?_) (fun hq => ?_) | refine nN_ (fun hq => ?_) (fun hq => ?_) | refine nD_ (fun hq => ?_) (fun hq => ?_) | refine rb1 ?_ | refine rb0 ?_ | refine rbx ?_ | refine rix ?_ | refine aS ?_ | fail)
    refine WC_inl mixed Tryd.func71 l71 rfl rfl (rs := [.tmp 2]) rfl 8000 (Nat.le_of_ble_eq_true rfl) ?_
    repeat' ((conv => whnf); first | exact trivial | refine nT_ ?_ | refine aE1 ?_ | refine aE0 ?_ | refine aN1 ?_ | refine aN0 ?_ | refine aD1 ?_ | refine aD0 ?_ | refine nE_ (fun hq => ?_) (fun hq => ?_) | refine nN_ (fun hq => ?_) (fun hq => ?_) | refine nD_ (fun hq => ?_) (fun hq => ?_) | refine rb1 ?_ | refine rb0 ?_ | refine rbx ?_ | refine rix ?_ | refine aS ?_ | refine ⟨_, rfl, ?_⟩ | fail)
    have hNS := n_Sorted [(2, 7, 1), (1, 2, 1)] [tly 2 [y0, y1, y2, y3], tly 1 [x0, x1, x2, x3]] rfl (by decide)
    rw [srt3] at hNS
    refine WC_new rfl hNS ?_
    refine wpC_loopE 0 (α := Nat) (β := Unit) (fun k => {sl := [(0, .ptr 1013 0), (2, .ptr 6002 0), (4, .ptr 6004 0), (32, .t (.slice 3 ([(1, 2, 1), (2, 7, 1)].map nk))), (33, .t (I 2)), (34, .t (I k))], bx := [(6, .d 10 (ha.map I)), (7, .d 10 (hb.map I)), (1013, .v (lg0 (pvV zero16))), (1011, .m true sh3 [(nk (2, 7, 1), tly 2 [y0, y1, y2, y3]), (nk (1, 2, 1), tly 1 [x0, x1, x2, x3])] none), (6002, .d 19 z19), (6004, .v (.t (I 3) :: .t (I 0) :: .own 6058 36 8 (([[1, 2, 1, 1, x0, x1, x2, x3], [2, 7, 1, 2, y0, y1, y2, y3]].take k).map ln) :: pvV zero16))], gh := [(0, [(2, .ptr 1013 0), (6, .ptr 6 0), (7, .ptr 7 0)])], off := 6000})
      (fun k => k ≤ 2) (fun k => 2 - k) (fun _ => {sl := [(0, .ptr 1013 0), (2, .ptr 6002 0), (4, .ptr 6004 0)], bx := [(6, .d 10 (ha.map I)), (7, .d 10 (hb.map I)), (1013, .v (lg0 (pvV zero16))), (1011, .m true sh3 [(nk (2, 7, 1), tly 2 [y0, y1, y2, y3]), (nk (1, 2, 1), tly 1 [x0, x1, x2, x3])] none), (6002, .d 19 z19), (6004, .v (.t (I 3) :: .t (I 0) :: .t (linesT [[1, 2, 1, 1, x0, x1, x2, x3], [2, 7, 1, 2, y0, y1, y2, y3]]) :: pvV zero16))], gh := [(0, [(2, .ptr 1013 0), (6, .ptr 6 0), (7, .ptr 7 0)])], off := 6000}) (fun _ => True) 0 (by omega) ?_ ?_ ?_
    · refine ⟨⟨.same _, .same _, .same _, .same _, .same _, .same _, trivial⟩, ⟨.same _, .same _, .same _, .same _, .same _, .dv _ _ _ ⟨.same _, .same _, .nil _ _ _, .same _, .same _, .same _, .same _, .same _, .same _, .same _, .same _, .same _, .same _, .same _, .same _, .same _, .same _, .same _, .same _, trivial⟩, trivial⟩, ⟨⟨.same _, .same _, .same _, trivial⟩, trivial⟩, rfl, fun _ _ _ => trivial, rfl⟩
    · rintro k hk
      match k, hk with
      | 0, _ =>
        repeat' ((conv => whnf); first | exact trivial | refine nT_ ?_ | refine aE1 ?_ | refine aE0 ?_ | refine aN1 ?_ | refine aN0 ?_ | refine aD1 ?_ | refine aD0 ?_ | refine nE_ (fun hq => ?_) (fun hq => ?_) | refine nN_ (fun hq => ?_) (fun hq => ?_) | refine nD_ (fun hq => ?_) (fun hq => ?_) | refine rb1 ?_ | refine rb0 ?_ | refine rbx ?_ | refine rix ?_ | (refine And.intro (by first | (exact ⟨rfl, rfl, rfl, rfl, trivial⟩; done) | fail) ?_) | refine aS ?_ | refine nb_ _ rfl ?_ | fail)
        exact ⟨1, by omega, by omega, ⟨⟨.same _, .same _, .same _, .same _, .same _, lI, trivial⟩, ⟨.same _, .same _, .same _, .same _, .same _, .same _, trivial⟩, ⟨⟨.same _, .same _, .same _, trivial⟩, trivial⟩, rfl, fun _ _ _ => trivial, rfl⟩⟩
      | 1, _ =>
        repeat' ((conv => whnf); first | exact trivial | refine nT_ ?_ | refine aE1 ?_ | refine aE0 ?_ | refine aN1 ?_ | refine aN0 ?_ | refine aD1 ?_ | refine aD0 ?_ | refine nE_ (fun hq => ?_) (fun hq => ?_) | refine nN_ (fun hq => ?_) (fun hq => ?_) | refine nD_ (fun hq => ?_) (fun hq => ?_) | refine rb1 ?_ | refine rb0 ?_ | refine rbx ?_ | refine rix ?_ | (refine And.intro (by first | (exact ⟨rfl, rfl, rfl, rfl, trivial⟩; done) | fail) ?_) | refine aS ?_ | refine nb_ _ rfl ?_ | fail)
        exact ⟨2, by omega, by omega, ⟨⟨.same _, .same _, .same _, .same _, .same _, lI, trivial⟩, ⟨.same _, .same _, .same _, .same _, .same _, .same _, trivial⟩, ⟨⟨.same _, .same _, .same _, trivial⟩, trivial⟩, rfl, fun _ _ _ => trivial, rfl⟩⟩
      | 2, _ =>
        repeat' ((conv => whnf); first | exact trivial | refine nT_ ?_ | refine aE1 ?_ | refine aE0 ?_ | refine aN1 ?_ | refine aN0 ?_ | refine aD1 ?_ | refine aD0 ?_ | refine nE_ (fun hq => ?_) (fun hq => ?_) | refine nN_ (fun hq => ?_) (fun hq => ?_) | refine nD_ (fun hq => ?_) (fun hq => ?_) | refine rb1 ?_ | refine rb0 ?_ | refine rbx ?_ | refine rix ?_ | refine aS ?_ | refine nb_ _ rfl ?_ | fail)
        exact ⟨(), trivial, ⟨⟨.same _, .same _, .same _, trivial⟩, ⟨.same _, .same _, .same _, .same _, .same _, .v _ _ ⟨.same _, .same _, .data _ _ _ _, .same _, .same _, .same _, .same _, .same _, .same _, .same _, .same _, .same _, .same _, .same _, .same _, .same _, .same _, .same _, .same _, trivial⟩, trivial⟩, ⟨⟨.same _, .same _, .same _, trivial⟩, trivial⟩, rfl, fun _ _ _ => trivial, rfl⟩⟩
      | k + 3, h => omega
    rintro - -
    repeat' ((conv => whnf); first | exact trivial | refine k_call _ (hD1) ?_ | refine nT_ ?_ | refine aE1 ?_ | refine aE0 ?_ | refine aN1 ?_ | refine aN0 ?_ | refine aD1 ?_ | refine aD0 ?_ | refine nE_ (fun hq => ?_) (fun hq => ?_) | refine nN_ (fun hq => ?_) (fun hq => ?_) | refine nD_ (fun hq => ?_) (fun hq => ?_) | refine rb1 ?_ | refine rb0 ?_ | refine rbx ?_ | refine rix ?_ | refine aS ?_ | fail)
    refine ⟨[.t _, .t (I 0)], ⟨⟨rfl, trivial⟩, rfl, trivial⟩, ?_⟩
    repeat' ((conv => whnf); first | exact trivial | refine nT_ ?_ | refine aE1 ?_ | refine aE0 ?_ | refine aN1 ?_ | refine aN0 ?_ | refine aD1 ?_ | refine aD0 ?_ | refine nE_ (fun hq => ?_) (fun hq => ?_) | refine nN_ (fun hq => ?_) (fun hq => ?_) | refine nD_ (fun hq => ?_) (fun hq => ?_) | refine rb1 ?_ | refine rb0 ?_ | refine rbx ?_ | refine rix ?_ | refine aS ?_ | fail)
    exact ⟨(), trivial, ⟨⟨.same _, .same _, .same _, .same _, .same _, trivial⟩, ⟨.same _, .same _, .same _, .same _, .same _, trivial⟩, trivial, rfl, fun _ _ _ => trivial, rfl⟩⟩
  refine wpC_cut (β := Unit) (fun _ => {sl := [(6, .ptr 6 0), (7, .ptr 7 0), (10, .ptr 10 0), (11, .t (I 0)), (12, .ptr 12 0), (13, .t (I 0))], bx := [(6, .d 10 (ha.map I)), (7, .d 10 (hb.map I)), (10, .d 19 (rcC 3 0 [[1, 2, 1, 1, x0, x1, x2, x3], [2, 7, 1, 2, y0, y1, y2, y3]] zero16)), (12, .d 19 (rcC 3 1 [] [d0, d1, d2, d3, d4, d5, d6, d7, d8, d9, d10, d11, d12, d13, d14, d15]))]}) (fun _ => True) ?_ fun _ _ => ?_
  · repeat' ((conv => whnf); first | exact trivial | refine nT_ ?_ | refine aE1 ?_ | refine aE0 ?_ | refine aN1 ?_ | refine aN0 ?_ | refine aD1 ?_ | refine aD0 ?_ | refine nE_ (fun hq => ?_) (fun hq => ?_) | refine nN_ (fun hq => ?_) (fun hq => ?_) | refine nD_ (fun hq => ?_) (fun hq => ?_) | refine rb1 ?_ | refine rb0 ?_ | refine rbx ?_ | refine rix ?_ | refine aS ?_ | fail)
    refine WC_inlP mixed Tryd.func42 l42 rfl rfl (rs := [.cell 2 51, .tmp 3]) rfl 9000 (Nat.le_of_ble_eq_true rfl) ?_
    repeat' ((conv => whnf); first | exact trivial | refine now_D0 (by decide) ?_ | refine nT_ ?_ | refine aE1 ?_ | refine aE0 ?_ | refine aN1 ?_ | refine aN0 ?_ | refine aD1 ?_ | refine aD0 ?_ | refine nE_ (fun hq => ?_) (fun hq => ?_) | refine nN_ (fun hq => ?_) (fun hq => ?_) | refine nD_ (fun hq => ?_) (fun hq => ?_) | refine rb1 ?_ | refine rb0 ?_ | refine rbx ?_ | refine rix ?_ | refine aS ?_ | fail)
    refine WC_inl mixed Tryd.func71 l71 rfl rfl (rs := [.tmp 2]) rfl 11000 (Nat.le_of_ble_eq_true rfl) ?_
    repeat' ((conv => whnf); first | exact trivial | refine nT_ ?_ | refine aE1 ?_ | refine aE0 ?_ | refine aN1 ?_ | refine aN0 ?_ | refine aD1 ?_ | refine aD0 ?_ | refine nE_ (fun hq => ?_) (fun hq => ?_) | refine nN_ (fun hq => ?_) (fun hq => ?_) | refine nD_ (fun hq => ?_) (fun hq => ?_) | refine rb1 ?_ | refine rb0 ?_ | refine rbx ?_ | refine rix ?_ | refine aS ?_ | refine ⟨_, rfl, ?_⟩ | fail)
    have hNS := n_Sorted [] [] rfl (by decide)
    rw [show srt [] = [] by simp [srt]] at hNS
    refine WC_new rfl hNS ?_
    refine wpC_loopE 0 (α := Unit) (β := Unit) (fun _ => {sl := [(0, .ptr 1013 0), (2, .ptr 9002 0), (4, .ptr 9004 0), (33, .t (I 0)), (34, .t (I 0))], bx := [(6, .d 10 (ha.map I)), (7, .d 10 (hb.map I)), (10, .d 19 (rcC 3 0 [[1, 2, 1, 1, x0, x1, x2, x3], [2, 7, 1, 2, y0, y1, y2, y3]] zero16)), (1013, .v (lgC (.t (I 3)) (.t (I 1)) (pvV [d0, d1, d2, d3, d4, d5, d6, d7, d8, d9, d10, d11, d12, d13, d14, d15]))), (1011, .m true sh3 [] none), (9002, .d 19 z19), (9004, .d 19 (I 3 :: I 1 :: .nil :: [d0, d1, d2, d3, d4, d5, d6, d7, d8, d9, d10, d11, d12, d13, d14, d15].map Y))], gh := [(0, [(2, .ptr 1013 0), (6, .ptr 6 0), (7, .ptr 7 0), (10, .ptr 10 0), (11, .t (I 0))])], off := 9000})
      (fun _ => True) (fun _ => 0) (fun _ => {sl := [(0, .ptr 1013 0), (2, .ptr 9002 0), (4, .ptr 9004 0)], bx := [(6, .d 10 (ha.map I)), (7, .d 10 (hb.map I)), (10, .d 19 (rcC 3 0 [[1, 2, 1, 1, x0, x1, x2, x3], [2, 7, 1, 2, y0, y1, y2, y3]] zero16)), (1013, .v (lgC (.t (I 3)) (.t (I 1)) (pvV [d0, d1, d2, d3, d4, d5, d6, d7, d8, d9, d10, d11, d12, d13, d14, d15]))), (1011, .m true sh3 [] none), (9002, .d 19 z19), (9004, .v (.t (I 3) :: .t (I 1) :: .t (linesT []) :: pvV [d0, d1, d2, d3, d4, d5, d6, d7, d8, d9, d10, d11, d12, d13, d14, d15]))], gh := [(0, [(2, .ptr 1013 0), (6, .ptr 6 0), (7, .ptr 7 0), (10, .ptr 10 0), (11, .t (I 0))])], off := 9000}) (fun _ => True) () trivial ?_ ?_ ?_
    · exact ⟨⟨.same _, .same _, .same _, .same _, .same _, trivial⟩, ⟨.same _, .same _, .same _, .same _, .same _, .same _, .same _, trivial⟩, ⟨⟨.same _, .same _, .same _, .same _, .same _, trivial⟩, trivial⟩, rfl, fun _ _ _ => trivial, rfl⟩
    · rintro - -
      repeat' ((conv => whnf); first | exact trivial | refine nT_ ?_ | refine aE1 ?_ | refine aE0 ?_ | refine aN1 ?_ | refine aN0 ?_ | refine aD1 ?_ | refine aD0 ?_ | refine nE_ (fun hq => ?_) (fun hq => ?_) | refine nN_ (fun hq => ?_) (fun hq => ?_) | refine nD_ (fun hq => ?_) (fun hq => ?_) | refine rb1 ?_ | refine rb0 ?_ | refine rbx ?_ | refine rix ?_ | refine aS ?_ | refine nb_ _ rfl ?_ | fail)
      exact ⟨(), trivial, ⟨⟨.same _, .same _, .same _, trivial⟩, ⟨.same _, .same _, .same _, .same _, .same _, .same _, .dv _ _ _ ⟨.same _, .same _, .empty _, .same _, .same _, .same _, .same _, .same _, .same _, .same _, .same _, .same _, .same _, .same _, .same _, .same _, .same _, .same _, .same _, trivial⟩, trivial⟩, ⟨⟨.same _, .same _, .same _, .same _, .same _, trivial⟩, trivial⟩, rfl, fun _ _ _ => trivial, rfl⟩⟩
    rintro - -
    repeat' ((conv => whnf); first | exact trivial | refine k_call _ (hD2) ?_ | refine nT_ ?_ | refine aE1 ?_ | refine aE0 ?_ | refine aN1 ?_ | refine aN0 ?_ | refine aD1 ?_ | refine aD0 ?_ | refine nE_ (fun hq => ?_) (fun hq => ?_) | refine nN_ (fun hq => ?_) (fun hq => ?_) | refine nD_ (fun hq => ?_) (fun hq => ?_) | refine rb1 ?_ | refine rb0 ?_ | refine rbx ?_ | refine rix ?_ | (refine And.intro (by first | (exact ⟨(List.length_map _).trans hD2l, Nat.le_of_ble_eq_true rfl⟩; done) | fail) ?_) | refine aS ?_ | fail)
    refine ⟨[.t _, .t (I 0)], ⟨⟨rfl, trivial⟩, rfl, trivial⟩, ?_⟩
    repeat' ((conv => whnf); first | exact trivial | refine nT_ ?_ | refine aE1 ?_ | refine aE0 ?_ | refine aN1 ?_ | refine aN0 ?_ | refine aD1 ?_ | refine aD0 ?_ | refine nE_ (fun hq => ?_) (fun hq => ?_) | refine nN_ (fun hq => ?_) (fun hq => ?_) | refine nD_ (fun hq => ?_) (fun hq => ?_) | refine rb1 ?_ | refine rb0 ?_ | refine rbx ?_ | refine rix ?_ | refine aS ?_ | fail)
    exact ⟨(), trivial, ⟨⟨.same _, .same _, .same _, .same _, .same _, .same _, trivial⟩, ⟨.same _, .same _, .same _, .same _, trivial⟩, trivial, rfl, fun _ _ _ => trivial, rfl⟩⟩
  have k0 : okLn [1, 2, 1, 1, x0, x1, x2, x3] = true := by rw [okLn8, (isSb_ok rfl).2 ⟨rfl, xi⟩]; rfl
  have k1 : okLn [2, 7, 1, 2, y0, y1, y2, y3] = true := by rw [okLn8, (isSb_ok rfl).2 ⟨rfl, yi⟩]; rfl
  have kf : okFrom none [[1, 2, 1, 1, x0, x1, x2, x3], [2, 7, 1, 2, y0, y1, y2, y3]] = true := by
    show ((okLn _ && true) && ((okLn _ && decide (cmpN (1, 2, 1) (2, 7, 1) < 0)) && true)) = true
    rw [k0, k1]; rfl
  have c1 : chk 3 0 [[1, 2, 1, 1, x0, x1, x2, x3], [2, 7, 1, 2, y0, y1, y2, y3]] = 0 := by
    unfold chk
    rw [if_neg (by simp), if_neg (by omega), if_pos kf]
  have c2 : chk 3 1 [] = 0 := rfl
  have v1 : ver 3 0 zero16 [⟨3, 0, [[1, 2, 1, 1, x0, x1, x2, x3], [2, 7, 1, 2, y0, y1, y2, y3]], zero16⟩, ⟨3, 1, [], [d0, d1, d2, d3, d4, d5, d6, d7, d8, d9, d10, d11, d12, d13, d14, d15]⟩] = (2, 0) := by
    show (if chk 3 0 [[1, 2, 1, 1, x0, x1, x2, x3], [2, 7, 1, 2, y0, y1, y2, y3]] ≠ 0 then ((0 : Int), chk 3 0 [[1, 2, 1, 1, x0, x1, x2, x3], [2, 7, 1, 2, y0, y1, y2, y3]]) else if (3 : Int) ≠ 3 then (0, 1) else if (0 : Int) ≠ 0 then (0, 25) else if zero16 ≠ zero16 then (0, 7) else ver 3 1 (dgR 3 0 [[1, 2, 1, 1, x0, x1, x2, x3], [2, 7, 1, 2, y0, y1, y2, y3]] zero16) [⟨3, 1, [], [d0, d1, d2, d3, d4, d5, d6, d7, d8, d9, d10, d11, d12, d13, d14, d15]⟩]) = _
    rw [c1, if_neg (by simp), if_neg (by simp), if_neg (by simp), if_neg (by simp), hD]
    show (if chk 3 1 [] ≠ 0 then ((1 : Int), chk 3 1 []) else if (3 : Int) ≠ 3 then (1, 1) else if (1 : Int) ≠ 1 then (1, 25) else if [d0, d1, d2, d3, d4, d5, d6, d7, d8, d9, d10, d11, d12, d13, d14, d15] ≠ [d0, d1, d2, d3, d4, d5, d6, d7, d8, d9, d10, d11, d12, d13, d14, d15] then (1, 7) else (2, 0)) = _
    rw [c2, if_neg (by simp), if_neg (by simp), if_neg (by simp), if_neg (by simp)]
  have v2 : ver 3 0 zero16 [⟨3, 1, [], [d0, d1, d2, d3, d4, d5, d6, d7, d8, d9, d10, d11, d12, d13, d14, d15]⟩] = (0, 25) := rfl
  have hV1 := t_Verify 3 [⟨3, 0, [[1, 2, 1, 1, x0, x1, x2, x3], [2, 7, 1, 2, y0, y1, y2, y3]], zero16⟩, ⟨3, 1, [], [d0, d1, d2, d3, d4, d5, d6, d7, d8, d9, d10, d11, d12, d13, d14, d15]⟩] (Nat.le_of_ble_eq_true rfl) (fun r hr => by
    simp only [List.mem_cons, List.not_mem_nil, or_false] at hr
    rcases hr with rfl | rfl
    · exact hr1
    · exact hr2)
  rw [v1] at hV1
  have hV2 := t_Verify 3 [⟨3, 1, [], [d0, d1, d2, d3, d4, d5, d6, d7, d8, d9, d10, d11, d12, d13, d14, d15]⟩] (Nat.le_of_ble_eq_true rfl) (fun r hr => by
    simp only [List.mem_cons, List.not_mem_nil, or_false] at hr
    rw [hr]
    exact hr2)
  rw [v2] at hV2
  have hF := t_Find 3 0 [[1, 2, 1, 1, x0, x1, x2, x3], [2, 7, 1, 2, y0, y1, y2, y3]] zero16 2 7 1 (Nat.le_of_ble_eq_true rfl) (fun x h => (hL8 x h).1) rfl
  have hF2 : fnd [[1, 2, 1, 1, x0, x1, x2, x3], [2, 7, 1, 2, y0, y1, y2, y3]] 2 7 1 = .tup [ln [2, 7, 1, 2, y0, y1, y2, y3], .bool true] := rfl
  rw [hF2] at hF
  have hCk := t_Check 3 0 [[1, 2, 1, 1, x0, x1, x2, x3], [2, 7, 1, 2, y0, y1, y2, y3]] zero16 (Nat.le_of_ble_eq_true rfl) (fun x h => (hL8 x h).1) rfl
  rw [c1] at hCk
  have q1 : DCalls Tryd.prog 19 [ln [0, 0, 0, 5, 0, 0, 0, 0], ln [0, 0, 0, 3, 0, 0, 0, 0]] (verT (2, 0)) := t_Compare _ _ rfl rfl (by unfold i64; decide) (by unfold i64; decide) (by decide) (by decide)
  have q2 : DCalls Tryd.prog 19 [ln [0, 0, 0, 3, 0, 0, 0, 0], ln [0, 0, 0, 5, 0, 0, 0, 0]] (verT (0, 26)) := t_Compare _ _ rfl rfl (by unfold i64; decide) (by unfold i64; decide) (by decide) (by decide)
  have q3 : DCalls Tryd.prog 19 [ln [0, 0, 0, 5, 1, 0, 0, 0], ln [0, 0, 0, 5, 0, 0, 0, 0]] (verT (0, 26)) := t_Compare _ _ rfl rfl (by unfold i64; decide) (by unfold i64; decide) (by decide) (by decide)
  have o1 := t_OfH ha okHa
  have o2 := t_OfH hb okHb
  have o3 := t_sAdd _ _ (ofH_isS ha) (ofH_isS hb)
  rw [show sAdd (ofH ha) (ofH hb) = [y0, y1, y2, y3] by rw [← hy]; unfold Sab Sa; rw [sAdd0 (ofH_isS ha)]] at o3
  refine wpC_cut (β := Unit) (fun _ => {sl := [(6, .ptr 6 0), (7, .ptr 7 0), (10, .ptr 10 0), (11, .t (I 0)), (12, .ptr 12 0), (13, .t (I 0)), (14, .t (I 2)), (15, .t (I 0))], bx := [(6, .d 10 (ha.map I)), (7, .d 10 (hb.map I)), (10, .d 19 (rcC 3 0 [[1, 2, 1, 1, x0, x1, x2, x3], [2, 7, 1, 2, y0, y1, y2, y3]] zero16)), (12, .d 19 (rcC 3 1 [] [d0, d1, d2, d3, d4, d5, d6, d7, d8, d9, d10, d11, d12, d13, d14, d15]))]}) (fun _ => True) ?_ fun _ _ => ?_
  · repeat' ((conv => whnf); first | exact trivial | refine k_call _ (hV1) ?_ | refine nT_ ?_ | refine aE1 ?_ | refine aE0 ?_ | refine aN1 ?_ | refine aN0 ?_ | refine aD1 ?_ | refine aD0 ?_ | refine nE_ (fun hq => ?_) (fun hq => ?_) | refine nN_ (fun hq => ?_) (fun hq => ?_) | refine nD_ (fun hq => ?_) (fun hq => ?_) | refine rb1 ?_ | refine rb0 ?_ | refine rbx ?_ | refine rix ?_ | refine aS ?_ | fail)
    exact ⟨(), trivial, ⟨⟨.same _, .same _, .same _, .same _, .same _, .same _, .same _, .same _, trivial⟩, ⟨.same _, .same _, .same _, .same _, trivial⟩, trivial, rfl, fun _ _ _ => trivial, rfl⟩⟩
  refine wpC_cut (β := Unit) (fun _ => {sl := [(6, .ptr 6 0), (7, .ptr 7 0), (10, .ptr 10 0), (11, .t (I 0)), (12, .ptr 12 0), (13, .t (I 0)), (14, .t (I 2)), (15, .t (I 0)), (16, .t (I 0)), (17, .t (I 25))], bx := [(6, .d 10 (ha.map I)), (7, .d 10 (hb.map I)), (10, .d 19 (rcC 3 0 [[1, 2, 1, 1, x0, x1, x2, x3], [2, 7, 1, 2, y0, y1, y2, y3]] zero16)), (12, .d 19 (rcC 3 1 [] [d0, d1, d2, d3, d4, d5, d6, d7, d8, d9, d10, d11, d12, d13, d14, d15]))]}) (fun _ => True) ?_ fun _ _ => ?_
  · repeat' ((conv => whnf); first | exact trivial | refine k_call _ (hV2) ?_ | refine nT_ ?_ | refine aE1 ?_ | refine aE0 ?_ | refine aN1 ?_ | refine aN0 ?_ | refine aD1 ?_ | refine aD0 ?_ | refine nE_ (fun hq => ?_) (fun hq => ?_) | refine nN_ (fun hq => ?_) (fun hq => ?_) | refine nD_ (fun hq => ?_) (fun hq => ?_) | refine rb1 ?_ | refine rb0 ?_ | refine rbx ?_ | refine rix ?_ | refine aS ?_ | fail)
    exact ⟨(), trivial, ⟨⟨.same _, .same _, .same _, .same _, .same _, .same _, .same _, .same _, .same _, .same _, trivial⟩, ⟨.same _, .same _, .same _, .same _, trivial⟩, trivial, rfl, fun _ _ _ => trivial, rfl⟩⟩
  refine wpC_cut (β := Unit) (fun _ => {sl := [(6, .ptr 6 0), (7, .ptr 7 0), (10, .ptr 10 0), (11, .t (I 0)), (12, .ptr 12 0), (13, .t (I 0)), (14, .t (I 2)), (15, .t (I 0)), (16, .t (I 0)), (17, .t (I 25)), (18, .ptr 18 0), (19, .t (.bool true))], bx := [(6, .d 10 (ha.map I)), (7, .d 10 (hb.map I)), (10, .d 19 (rcC 3 0 [[1, 2, 1, 1, x0, x1, x2, x3], [2, 7, 1, 2, y0, y1, y2, y3]] zero16)), (12, .d 19 (rcC 3 1 [] [d0, d1, d2, d3, d4, d5, d6, d7, d8, d9, d10, d11, d12, d13, d14, d15])), (18, .d 8 ([2, 7, 1, 2, y0, y1, y2, y3].map I))]}) (fun _ => True) ?_ fun _ _ => ?_
  · repeat' ((conv => whnf); first | exact trivial | refine k_call _ (hF) ?_ | refine nT_ ?_ | refine aE1 ?_ | refine aE0 ?_ | refine aN1 ?_ | refine aN0 ?_ | refine aD1 ?_ | refine aD0 ?_ | refine nE_ (fun hq => ?_) (fun hq => ?_) | refine nN_ (fun hq => ?_) (fun hq => ?_) | refine nD_ (fun hq => ?_) (fun hq => ?_) | refine rb1 ?_ | refine rb0 ?_ | refine rbx ?_ | refine rix ?_ | refine aS ?_ | fail)
    exact ⟨(), trivial, ⟨⟨.same _, .same _, .same _, .same _, .same _, .same _, .same _, .same _, .same _, .same _, .same _, .same _, trivial⟩, ⟨.same _, .same _, .same _, .same _, .same _, trivial⟩, trivial, rfl, fun _ _ _ => trivial, rfl⟩⟩
  repeat' ((conv => whnf); first | exact trivial | refine k_call _ (q1) ?_ | refine k_call _ (q2) ?_ | refine nT_ ?_ | refine aE1 ?_ | refine aE0 ?_ | refine aN1 ?_ | refine aN0 ?_ | refine aD1 ?_ | refine aD0 ?_ | refine nE_ (fun hq => ?_) (fun hq => ?_) | refine nN_ (fun hq => ?_) (fun hq => ?_) | refine nD_ (fun hq => ?_) (fun hq => ?_) | refine rb1 ?_ | refine rb0 ?_ | refine rbx ?_ | refine rix ?_ | refine aS ?_ | fail)
  refine wpC_cut (β := Unit) (fun _ => {sl := [(6, .ptr 6 0), (7, .ptr 7 0), (10, .ptr 10 0), (11, .t (I 0)), (12, .ptr 12 0), (13, .t (I 0)), (14, .t (I 2)), (15, .t (I 0)), (16, .t (I 0)), (17, .t (I 25)), (18, .ptr 18 0), (19, .t (.bool true)), (20, .t (I 2)), (21, .t (I 0)), (23, .t (I 26)), (25, .t (I 26))], bx := [(6, .d 10 (ha.map I)), (7, .d 10 (hb.map I)), (10, .d 19 (rcC 3 0 [[1, 2, 1, 1, x0, x1, x2, x3], [2, 7, 1, 2, y0, y1, y2, y3]] zero16)), (12, .d 19 (rcC 3 1 [] [d0, d1, d2, d3, d4, d5, d6, d7, d8, d9, d10, d11, d12, d13, d14, d15])), (18, .d 8 ([2, 7, 1, 2, y0, y1, y2, y3].map I))]}) (fun _ => True) ?_ fun _ _ => ?_
  · repeat' ((conv => whnf); first | exact trivial | refine k_call _ (q3) ?_ | refine nT_ ?_ | refine aE1 ?_ | refine aE0 ?_ | refine aN1 ?_ | refine aN0 ?_ | refine aD1 ?_ | refine aD0 ?_ | refine nE_ (fun hq => ?_) (fun hq => ?_) | refine nN_ (fun hq => ?_) (fun hq => ?_) | refine nD_ (fun hq => ?_) (fun hq => ?_) | refine rb1 ?_ | refine rb0 ?_ | refine rbx ?_ | refine rix ?_ | refine aS ?_ | fail)
    exact ⟨(), trivial, ⟨⟨.same _, .same _, .same _, .same _, .same _, .same _, .same _, .same _, .same _, .same _, .same _, .same _, .same _, .same _, .same _, .same _, trivial⟩, ⟨.same _, .same _, .same _, .same _, .same _, trivial⟩, trivial, rfl, fun _ _ _ => trivial, rfl⟩⟩
  refine wpC_cut (β := Unit) (fun _ => {sl := [(6, .ptr 6 0), (7, .ptr 7 0), (14, .t (I 2)), (15, .t (I 0)), (16, .t (I 0)), (17, .t (I 25)), (18, .ptr 18 0), (19, .t (.bool true)), (20, .t (I 2)), (21, .t (I 0)), (23, .t (I 26)), (25, .t (I 26)), (26, .t (.bool true))], bx := [(6, .d 10 (ha.map I)), (7, .d 10 (hb.map I)), (18, .d 8 ([2, 7, 1, 2, y0, y1, y2, y3].map I))]}) (fun _ => True) ?_ fun _ _ => ?_
  · have eD : eqL ([d0, d1, d2, d3, d4, d5, d6, d7, d8, d9, d10, d11, d12, d13, d14, d15].map Y) ([d0, d1, d2, d3, d4, d5, d6, d7, d8, d9, d10, d11, d12, d13, d14, d15].map Y) = true := eqY (by simp)
    repeat' ((conv => whnf); first | exact trivial | refine k_call _ (hCk) ?_ | refine k_call _ (hD1) ?_ | refine nb_ true eD ?_ | refine nT_ ?_ | refine aE1 ?_ | refine aE0 ?_ | refine aN1 ?_ | refine aN0 ?_ | refine aD1 ?_ | refine aD0 ?_ | refine nE_ (fun hq => ?_) (fun hq => ?_) | refine nN_ (fun hq => ?_) (fun hq => ?_) | refine nD_ (fun hq => ?_) (fun hq => ?_) | refine rb1 ?_ | refine rb0 ?_ | refine rbx ?_ | refine rix ?_ | (refine And.intro (by first | (exact ⟨fits16 (a := [d0, d1, d2, d3, d4, d5, d6, d7, d8, d9, d10, d11, d12, d13, d14, d15]) rfl, fits16 (a := [d0, d1, d2, d3, d4, d5, d6, d7, d8, d9, d10, d11, d12, d13, d14, d15]) rfl⟩; done) | fail) ?_) | refine aS ?_ | refine nb_ _ rfl ?_ | fail)
    exact ⟨(), trivial, ⟨⟨.same _, .same _, .same _, .same _, .same _, .same _, .same _, .same _, .same _, .same _, .same _, .same _, .same _, trivial⟩, ⟨.same _, .same _, .same _, trivial⟩, trivial, rfl, fun _ _ _ => trivial, rfl⟩⟩
  have eY : eqL ([y0, y1, y2, y3].map I) ([y0, y1, y2, y3].map I) = true := eqI (by simp)
  repeat' ((conv => whnf); first | exact trivial | refine k_call _ (o1) ?_ | refine k_call _ (o2) ?_ | refine k_call _ (o3) ?_ | refine nb_ true eY ?_ | refine nT_ ?_ | refine aE1 ?_ | refine aE0 ?_ | refine aN1 ?_ | refine aN0 ?_ | refine aD1 ?_ | refine aD0 ?_ | refine nE_ (fun hq => ?_) (fun hq => ?_) | refine nN_ (fun hq => ?_) (fun hq => ?_) | refine nD_ (fun hq => ?_) (fun hq => ?_) | refine rb1 ?_ | refine rb0 ?_ | refine rbx ?_ | refine rix ?_ | (refine And.intro (by first | (exact ⟨fits4 (a := [y0, y1, y2, y3]) rfl, fits4 (a := [y0, y1, y2, y3]) rfl⟩; done) | fail) ?_) | refine aS ?_ | refine nb_ _ rfl ?_ | fail)
end Go.RC
end
