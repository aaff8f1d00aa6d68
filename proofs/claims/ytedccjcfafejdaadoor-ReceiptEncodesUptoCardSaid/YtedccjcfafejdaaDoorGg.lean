/- Joined by program: parts of a data level over the model, of the program's functions over it, and of the statement's proof. -/
import Derived.Test.YtedccjcfafejdaaDoorGf
import Derived.Test.YtedccjcfafejdaaDoorGd
import Derived.Shelf.SlLaysF0
import Derived.Shelf.SlGeneric
import Derived.Test.YtedccjcfafejdaaDoorProg
import Derived.KernelRfl
section
namespace Go.RC
open Go Go.DL Go.Proofs
set_option maxRecDepth 100000
set_option maxHeartbeats 1000000
structure okR (n i : Int) (ls : List (List Int)) (pv : List Int) : Prop where
  hn : i64 n
  hi : i64 i
  hx : ∀ x ∈ ls, x.length = 8 ∧ ∀ y ∈ x, i64 y
  hp : pv.length = 16
  hb : areB pv
theorem okR.two {n i : Int} {ls : List (List Int)} {pv : List Int} (h : okR n i ls pv) : ∀ x ∈ [n, i], i64 x := fun x hx => by
  rcases List.mem_cons.1 hx with rfl | hx
  · exact h.hn
  · rw [List.mem_singleton.1 hx]; exact h.hi
theorem okR.l8 {n i : Int} {ls : List (List Int)} {pv : List Int} (h : okR n i ls pv) : ∀ x ∈ ls, x.length = 8 := fun x hx => (h.hx x hx).1
def encL (ls : List (List Int)) : List Int := ls.flatMap vis
def enc0 (n i : Int) (k : Nat) : List Int := vis [n, i] ++ vi k
def enc (n i : Int) (ls : List (List Int)) (pv : List Int) : List Int := (enc0 n i ls.length ++ encL ls) ++ digs [pv]
theorem vis8 {x : List Int} (h : x.length = 8 ∧ ∀ y ∈ x, i64 y) : (vis x).length ≤ 90 := by
  have := vis_len h.2 (by omega)
  omega
theorem encL_len {ls : List (List Int)} (h : ∀ x ∈ ls, x.length = 8 ∧ ∀ y ∈ x, i64 y) : (encL ls).length ≤ 90 * ls.length := flat_le vis 90 (fun x hx => vis8 (h x hx))
theorem enc0_len {n i : Int} {k : Nat} (hn : i64 n) (hi : i64 i) (hk : k < 2 ^ 40) : (enc0 n i k).length ≤ 40 := by
  have h1 := vis_len (l := [n, i]) (fun x hx => by simp at hx; rcases hx with rfl | rfl <;> assumption) (Nat.le_of_ble_eq_true rfl)
  have h2 := vi_len (i64_nat (n := k) (by omega))
  unfold enc0
  rw [List.length_append]
  have : [n, i].length = 2 := rfl
  omega
theorem enc_step {ls : List (List Int)} {k : Nat} (h : k < ls.length) : encL (ls.take (k + 1)) = encL (ls.take k) ++ vis ls[k] := flat_take vis h
theorem encL_take {ls : List (List Int)} (h : ∀ x ∈ ls, x.length = 8 ∧ ∀ y ∈ x, i64 y) (k : Nat) : (encL (ls.take k)).length ≤ 90 * ls.length := by
  have h1 := encL_len (ls := ls.take k) (fun x hx => h x (List.mem_of_mem_take hx))
  rw [List.length_take] at h1
  omega
theorem digs1_len {pv : List Int} (h : pv.length = 16) : (digs [pv]).length ≤ 26 := by
  have := vi_len (i64_nat (n := 1) (by decide))
  unfold digs
  rw [List.length_append]
  simp only [List.length_cons, List.length_nil, List.flatten_cons, List.flatten_nil, List.append_nil, h]
  have h2 : (vi ((0 + 1 : Nat) : Int)).length ≤ 10 := this
  omega
theorem f_Encode (n i : Int) (ls : List (List Int)) (pv : List Int) (h : okR n i ls pv) (hl : ls.length < 2 ^ 20) : FCalls Tryd.prog 34 [rcT n i ls pv] 5 1 ((enc n i ls pv).map Y) [] := by
  have hlen : (rcC n i ls pv).length = 19 := by simp [h.hp]
  have h0 := f_Ints [n, i] (Nat.le_of_ble_eq_true rfl) h.two
  have h1 := (f_Int ls.length (i64_nat (by omega))).dcalls
  have hD := (f_Digests [pv] (Nat.le_of_ble_eq_true rfl) (fun x hx => by rw [List.mem_singleton.1 hx]; exact h.hp)).dcalls
  have hLl : (vis [n, i]).length ≤ 30 := vis_len h.two (Nat.le_of_ble_eq_true rfl)
  have hIl := vi_len (i64_nat (n := ls.length) (by omega))
  have hel := enc0_len (k := ls.length) h.hn h.hi (by omega)
  refine fcalls_low (rs := [.tmp 2]) mixed Tryd.func34 l34 rfl rfl rfl (Nat.le_of_ble_eq_true rfl) ?_
  have e0 : (linesT ls).cells = [linesT ls] := rfl
  repeat' ((conv => whnf); first | exact trivial | refine k_fcall (h0) (fun _ => ?_) | refine k_call _ (by simpa using h1) ?_ | refine nT_ ?_ | refine aE1 ?_ | refine aE0 ?_ | refine aN1 ?_ | refine aN0 ?_ | refine aD1 ?_ | refine aD0 ?_ | refine nE_ (fun hq => ?_) (fun hq => ?_) | refine nN_ (fun hq => ?_) (fun hq => ?_) | refine nD_ (fun hq => ?_) (fun hq => ?_) | refine rb1 ?_ | refine rb0 ?_ | refine rbx ?_ | refine rix ?_ | (refine And.intro (by first | (exact hlen; done) | ((simp only [List.length_map]; omega); done) | fail) ?_) | refine aS ?_ | fail)
  refine wpC_loopE 0 (α := Nat × Nat) (β := Nat) (fun q => {sl := [(1, .ptr 1 0), (3, .own q.1 5 1 ((enc0 n i ls.length ++ encL (ls.take q.2)).map Y)), (18, .t (linesT ls)), (19, .t (I ls.length)), (20, .t (I q.2))], bx := [(1, .d 19 (rcC n i ls pv))]})
    (fun q => q.2 ≤ ls.length ∧ (q.1 = 16 ∨ q.1 = 38)) (fun q => ls.length - q.2) (fun q => {sl := [(1, .ptr 1 0), (3, .own q 5 1 ((enc0 n i ls.length ++ encL ls).map Y))], bx := [(1, .d 19 (rcC n i ls pv))]}) (fun q => q = 16 ∨ q = 38) (16, 0) (by simp) ?_ ?_ ?_
  · repeat' (first | ((refine leI ?_; simp; done)) | exact trivial | exact LeV.same _ | exact LeB.same _ | exact rfl | exact fun _ _ _ => trivial | exact lI | exact LeV.nil _ _ _ | exact lB | refine leBd ?_ | refine leOwn ?_ | refine And.intro ?_ ?_)
    simp [enc0, encL]
  · rintro ⟨q, k⟩ ⟨hk, hq0⟩
    dsimp only at hk hq0
    rcases Nat.lt_or_ge k ls.length with h2 | h2
    · have hx8 := h.hx ls[k] (List.getElem_mem h2)
      have hst := enc_step h2
      generalize hxe : ls[k] = x at hx8 hst
      obtain ⟨a, b, c, d, e, f, g, j, rfl⟩ := ex8 hx8.1
      have hv := (f_Ints [a, b, c, d, e, f, g, j] (Nat.le_of_ble_eq_true rfl) hx8.2).dcalls
      have hvl := vis8 hx8
      have htl := encL_take h.hx k
      repeat' ((conv => whnf); first | exact trivial | (refine nv_ (ln [a, b, c, d, e, f, g, j]) (by first | ((simp [h2, hxe]; done); done) | fail) ?_) | refine k_call _ (hv) ?_ | refine nT_ ?_ | refine aE1 ?_ | refine aE0 ?_ | refine aN1 ?_ | refine aN0 ?_ | refine aD1 ?_ | refine aD0 ?_ | refine nE_ (fun hq => ?_) (fun hq => ?_) | refine nN_ (fun hq => ?_) (fun hq => ?_) | refine nD_ (fun hq => ?_) (fun hq => ?_) | refine rb1 ?_ | refine rb0 ?_ | refine rbx ?_ | refine rix ?_ | (refine And.intro (by first | ((simp; omega); done) | (exact ⟨.inl rfl, Nat.le_of_ble_eq_true rfl⟩; done) | ((simp only [List.length_map, List.length_append]; omega); done) | fail) ?_) | refine aS ?_ | fail)
      refine ⟨(38, k + 1), ⟨by dsimp only; omega, .inr rfl⟩, by dsimp only; omega, ?_⟩
      repeat' (first | exact trivial | exact LeV.same _ | exact LeB.same _ | exact rfl | exact fun _ _ _ => trivial | exact lI | exact LeV.nil _ _ _ | exact lB | refine leBd ?_ | refine leOwn ?_ | refine And.intro ?_ ?_)
      rw [hst]
      simp
    · have : k = ls.length := by omega
      subst this
      repeat' ((conv => whnf); first | exact trivial | refine nT_ ?_ | refine aE1 ?_ | refine aE0 ?_ | refine aN1 ?_ | refine aN0 ?_ | refine aD1 ?_ | refine aD0 ?_ | refine nE_ (fun hq => ?_) (fun hq => ?_) | refine nN_ (fun hq => ?_) (fun hq => ?_) | refine nD_ (fun hq => ?_) (fun hq => ?_) | refine rb1 ?_ | refine rb0 ?_ | refine rbx ?_ | refine rix ?_ | refine aS ?_ | fail)
      exact ⟨q, hq0, by repeat' (first | ((refine leOwn ?_; rw [List.take_length]; done)) | exact trivial | exact LeV.same _ | exact LeB.same _ | exact rfl | exact fun _ _ _ => trivial | exact lI | exact LeV.nil _ _ _ | exact lB | refine leBd ?_ | refine leOwn ?_ | refine And.intro ?_ ?_)⟩
  rintro q hq0
  have hcl := encL_len h.hx
  have hdl := digs1_len h.hp
  rcases hq0 with rfl | rfl
  all_goals repeat' ((conv => whnf); first | exact trivial | (refine nv_ (dg16 pv) (by first | (exact aggPv h.hp; done) | fail) ?_) | refine k_call _ (hD) ?_ | refine nT_ ?_ | refine aE1 ?_ | refine aE0 ?_ | refine aN1 ?_ | refine aN0 ?_ | refine aD1 ?_ | refine aD0 ?_ | refine nE_ (fun hq => ?_) (fun hq => ?_) | refine nN_ (fun hq => ?_) (fun hq => ?_) | refine nD_ (fun hq => ?_) (fun hq => ?_) | refine rb1 ?_ | refine rb0 ?_ | refine rbx ?_ | refine rix ?_ | (refine And.intro (by first | (exact hlen; done) | (exact ⟨trivial, (List.length_map _).trans h.hp⟩; done) | ((simp only [List.length_map, List.length_append]; omega); done) | (exact flY _; done) | fail) ?_) | refine aS ?_ | fail)
  all_goals exact ⟨_, rfl, .inl ⟨_, congrArg (V.own _ _ _) (List.map_append ..).symm⟩⟩
theorem f_refEncode (n i : Int) (ls : List (List Int)) (pv : List Int) (h : okR n i ls pv) (hl : ls.length < 2 ^ 20) : FCalls Tryd.prog 38 [rcT n i ls pv] 5 1 ((enc n i ls pv).map Y) [] := by
  have hlen : (rcC n i ls pv).length = 19 := by simp [h.hp]
  have h0 := f_refInts [n, i] (Nat.le_of_ble_eq_true rfl) h.two
  have h1 := (f_refInt ls.length (i64_nat (by omega))).dcalls
  have hD := (f_refDigests [pv] (Nat.le_of_ble_eq_true rfl) (fun x hx => by rw [List.mem_singleton.1 hx]; exact h.hp)).dcalls
  have hLl : (vis [n, i]).length ≤ 30 := vis_len h.two (Nat.le_of_ble_eq_true rfl)
  have hIl := vi_len (i64_nat (n := ls.length) (by omega))
  have hel := enc0_len (k := ls.length) h.hn h.hi (by omega)
  refine fcalls_low (rs := [.tmp 2]) mixed Tryd.func38 l38 rfl rfl rfl (Nat.le_of_ble_eq_true rfl) ?_
  repeat' ((conv => whnf); first | exact trivial | refine WC_own rfl h0 ?_ | refine k_call _ (by simpa using h1) ?_ | refine nT_ ?_ | refine aE1 ?_ | refine aE0 ?_ | refine aN1 ?_ | refine aN0 ?_ | refine aD1 ?_ | refine aD0 ?_ | refine nE_ (fun hq => ?_) (fun hq => ?_) | refine nN_ (fun hq => ?_) (fun hq => ?_) | refine nD_ (fun hq => ?_) (fun hq => ?_) | refine rb1 ?_ | refine rb0 ?_ | refine rbx ?_ | refine rix ?_ | (refine And.intro (by first | (exact hlen; done) | ((simp only [List.length_map]; omega); done) | fail) ?_) | refine aS ?_ | fail)
  refine wpC_loopE 0 (α := Nat × Nat) (β := Nat) (fun q => {sl := [(1, .ptr 1 0), (3, .own q.1 5 1 ((enc0 n i ls.length ++ encL (ls.take q.2)).map Y)), (4, .t (I q.2))], bx := [(1, .d 19 (rcC n i ls pv))]})
    (fun q => q.2 ≤ ls.length ∧ (q.1 = 17 ∨ q.1 = 53)) (fun q => ls.length - q.2) (fun q => {sl := [(1, .ptr 1 0), (3, .own q 5 1 ((enc0 n i ls.length ++ encL ls).map Y))], bx := [(1, .d 19 (rcC n i ls pv))]}) (fun q => q = 17 ∨ q = 53) (17, 0) (by simp) ?_ ?_ ?_
  · repeat' (first | exact trivial | exact LeV.same _ | exact LeB.same _ | exact rfl | exact fun _ _ _ => trivial | exact lI | exact LeV.nil _ _ _ | exact lB | refine leBd ?_ | refine leOwn ?_ | refine And.intro ?_ ?_)
    simp [enc0, encL]
  · rintro ⟨q, k⟩ ⟨hk, hq0⟩
    dsimp only at hk hq0
    rcases Nat.lt_or_ge k ls.length with h2 | h2
    · have hx8 := h.hx ls[k] (List.getElem_mem h2)
      have hst := enc_step h2
      generalize hxe : ls[k] = x at hx8 hst
      obtain ⟨a, b, c, d, e, f, g, j, rfl⟩ := ex8 hx8.1
      have hv := (f_refInts [a, b, c, d, e, f, g, j] (Nat.le_of_ble_eq_true rfl) hx8.2).dcalls
      have hvl := vis8 hx8
      have htl := encL_take h.hx k
      rcases hq0 with rfl | rfl
      all_goals repeat' ((conv => whnf); first | exact trivial | (refine now_D1 (by simp; omega) ?_) | (refine nv_ (ln [a, b, c, d, e, f, g, j]) (by first | ((simp [h2, hxe]; done); done) | fail) ?_) | refine WC_dc (rd := []) rfl hv (.inl rfl) ?_ | refine nT_ ?_ | refine aE1 ?_ | refine aE0 ?_ | refine aN1 ?_ | refine aN0 ?_ | refine aD1 ?_ | refine aD0 ?_ | refine nE_ (fun hq => ?_) (fun hq => ?_) | refine nN_ (fun hq => ?_) (fun hq => ?_) | refine nD_ (fun hq => ?_) (fun hq => ?_) | refine rb1 ?_ | refine rb0 ?_ | refine rbx ?_ | refine rix ?_ | (refine And.intro (by first | ((simp; omega); done) | (exact ⟨.inl rfl, Nat.le_of_ble_eq_true rfl⟩; done) | ((simp only [List.length_map, List.length_append]; omega); done) | fail) ?_) | refine aS ?_ | fail)
      all_goals refine ⟨(53, k + 1), ⟨by dsimp only; omega, .inr rfl⟩, by dsimp only; omega, ?_⟩
      all_goals repeat' (first | exact trivial | exact LeV.same _ | exact LeB.same _ | exact rfl | exact fun _ _ _ => trivial | exact lI | exact LeV.nil _ _ _ | exact lB | refine leBd ?_ | refine leOwn ?_ | refine And.intro ?_ ?_)
      all_goals rw [hst]
      all_goals simp
    · have : k = ls.length := by omega
      subst this
      repeat' ((conv => whnf); first | exact trivial | refine now_D0 (by simp) ?_ | refine nT_ ?_ | refine aE1 ?_ | refine aE0 ?_ | refine aN1 ?_ | refine aN0 ?_ | refine aD1 ?_ | refine aD0 ?_ | refine nE_ (fun hq => ?_) (fun hq => ?_) | refine nN_ (fun hq => ?_) (fun hq => ?_) | refine nD_ (fun hq => ?_) (fun hq => ?_) | refine rb1 ?_ | refine rb0 ?_ | refine rbx ?_ | refine rix ?_ | refine aS ?_ | fail)
      exact ⟨q, hq0, by repeat' (first | ((refine leOwn ?_; rw [List.take_length]; done)) | exact trivial | exact LeV.same _ | exact LeB.same _ | exact rfl | exact fun _ _ _ => trivial | exact lI | exact LeV.nil _ _ _ | exact lB | refine leBd ?_ | refine leOwn ?_ | refine And.intro ?_ ?_)⟩
  rintro q hq0
  have hcl := encL_len h.hx
  have hdl := digs1_len h.hp
  rcases hq0 with rfl | rfl
  all_goals repeat' ((conv => whnf); first | exact trivial | (refine nv_ (dg16 pv) (by first | (exact aggPv h.hp; done) | fail) ?_) | refine k_call _ (hD) ?_ | refine nT_ ?_ | refine aE1 ?_ | refine aE0 ?_ | refine aN1 ?_ | refine aN0 ?_ | refine aD1 ?_ | refine aD0 ?_ | refine nE_ (fun hq => ?_) (fun hq => ?_) | refine nN_ (fun hq => ?_) (fun hq => ?_) | refine nD_ (fun hq => ?_) (fun hq => ?_) | refine rb1 ?_ | refine rb0 ?_ | refine rbx ?_ | refine rix ?_ | (refine And.intro (by first | (exact hlen; done) | (exact ⟨trivial, (List.length_map _).trans h.hp⟩; done) | ((simp only [List.length_map, List.length_append]; omega); done) | (exact flY _; done) | fail) ?_) | refine aS ?_ | fail)
  all_goals exact ⟨_, rfl, .inl ⟨_, congrArg (V.own _ _ _) (List.map_append ..).symm⟩⟩
theorem enc_areB {n i : Int} {ls : List (List Int)} {pv : List Int} (hb : areB pv) : areB (enc n i ls pv) := fun b h => by
  unfold enc enc0 at h
  simp only [List.mem_append] at h
  rcases h with ((h | h) | h) | h
  · exact vis_areB _ b h
  · exact vi_areB _ b h
  · obtain ⟨x, _, hx⟩ := List.mem_flatMap.1 h
    exact vis_areB x b hx
  · unfold digs at h
    rcases List.mem_append.1 h with h | h
    · exact vi_areB _ b h
    · exact hb b (by simpa using h)
def txR (n i : Int) (ls : List (List Int)) (pv : List Int) : ByteArray := strT ((enc n i ls pv).map Y)
def dgR (n i : Int) (ls : List (List Int)) (pv : List Int) : List Int := H (msg 5 [txR n i ls pv])
theorem dgR_len (n i : Int) (ls : List (List Int)) (pv : List Int) : (dgR n i ls pv).length = 16 := H_len _
theorem dgR_areB (n i : Int) (ls : List (List Int)) (pv : List Int) : areB (dgR n i ls pv) := H_areB _
theorem txR_size {n i : Int} {ls : List (List Int)} {pv : List Int} (h : okR n i ls pv) (hl : ls.length < 2 ^ 20) : (txR n i ls pv).size < 2 ^ 33 := by
  rw [← sB_len, txR, sB_strT _ (enc_areB h.hb)]
  have hcl := encL_len h.hx
  have hdl := digs1_len h.hp
  have hel := enc0_len (k := ls.length) h.hn h.hi (by omega)
  unfold enc
  simp only [List.length_append]
  omega
theorem t_Digest (n i : Int) (ls : List (List Int)) (pv : List Int) (h : okR n i ls pv) (hl : ls.length < 2 ^ 20) : DCalls Tryd.prog 24 [rcT n i ls pv] (dg16 (dgR n i ls pv)) := by
  have hlen : (rcC n i ls pv).length = 19 := by simp [h.hp]
  have hE := (f_Encode n i ls pv h hl).dcalls
  have hsz := txR_size h hl
  have hO := t_Of 5 [txR n i ls pv] (fun s hs => by rw [List.mem_singleton.1 hs]; omega) (Nat.le_of_ble_eq_true rfl)
  have hdl : (dgR n i ls pv).length = 16 := dgR_len ..
  refine dcalls_low (rs := [.cell 2 49]) mixed Tryd.func24 l24 rfl rfl rfl (r := [.agg _]) (Nat.le_of_ble_eq_true rfl) ?_
  unfold dgR at *
  generalize H (msg 5 [txR n i ls pv]) = ds at hO hdl
  unfold txR at hO
  repeat' ((conv => whnf); first | exact trivial | refine k_call _ (hE) ?_ | refine k_call _ (hO) ?_ | refine nT_ ?_ | refine aE1 ?_ | refine aE0 ?_ | refine aN1 ?_ | refine aN0 ?_ | refine aD1 ?_ | refine aD0 ?_ | refine nE_ (fun hq => ?_) (fun hq => ?_) | refine nN_ (fun hq => ?_) (fun hq => ?_) | refine nD_ (fun hq => ?_) (fun hq => ?_) | refine rb1 ?_ | refine rb0 ?_ | refine rbx ?_ | refine rix ?_ | (refine And.intro (by first | (exact hlen; done) | (exact areU8_Y _; done) | (exact ⟨(List.length_map _).trans hdl, by decide⟩; done) | fail) ?_) | refine aS ?_ | refine rt ?_ trivial | fail)
  exact congrArg T.agg (putL_all rfl)
theorem t_refDigest (n i : Int) (ls : List (List Int)) (pv : List Int) (h : okR n i ls pv) (hl : ls.length < 2 ^ 20) : DCalls Tryd.prog 39 [rcT n i ls pv] (dg16 (dgR n i ls pv)) := by
  have hlen : (rcC n i ls pv).length = 19 := by simp [h.hp]
  have hE := (f_refEncode n i ls pv h hl).dcalls
  have hsz := txR_size h hl
  have hO := t_refOf 5 [txR n i ls pv] (fun s hs => by rw [List.mem_singleton.1 hs]; omega) (Nat.le_of_ble_eq_true rfl)
  rw [← H_eq _ (msg_areB _ _)] at hO
  have hdl : (dgR n i ls pv).length = 16 := dgR_len ..
  refine dcalls_low (rs := [.cell 2 49]) mixed Tryd.func39 l39 rfl rfl rfl (r := [.agg _]) (Nat.le_of_ble_eq_true rfl) ?_
  unfold dgR at *
  generalize H (msg 5 [txR n i ls pv]) = ds at hO hdl
  unfold txR at hO
  repeat' ((conv => whnf); first | exact trivial | refine k_call _ (hE) ?_ | refine k_call _ (hO) ?_ | refine nT_ ?_ | refine aE1 ?_ | refine aE0 ?_ | refine aN1 ?_ | refine aN0 ?_ | refine aD1 ?_ | refine aD0 ?_ | refine nE_ (fun hq => ?_) (fun hq => ?_) | refine nN_ (fun hq => ?_) (fun hq => ?_) | refine nD_ (fun hq => ?_) (fun hq => ?_) | refine rb1 ?_ | refine rb0 ?_ | refine rbx ?_ | refine rix ?_ | (refine And.intro (by first | (exact hlen; done) | (exact areU8_Y _; done) | (exact ⟨(List.length_map _).trans hdl, by decide⟩; done) | fail) ?_) | refine aS ?_ | refine rt ?_ trivial | fail)
  exact congrArg T.agg (putL_all rfl)
end Go.RC
end
section
namespace Go.RC
open Go Go.DL Go.Proofs
set_option maxRecDepth 100000
set_option maxHeartbeats 1000000
theorem cmpN_lt (a b : N3) : (cmpN a b < 0) ↔ (a.1 < b.1 ∨ a.1 = b.1 ∧ (a.2.1 < b.2.1 ∨ a.2.1 = b.2.1 ∧ a.2.2 < b.2.2)) := by
  simp only [cmpN, orI, cmpI]
  repeat' split
  all_goals omega
end Go.RC
end
section
namespace Go.RC
open Go Go.DL Go.Proofs
set_option maxRecDepth 100000
set_option maxHeartbeats 1000000
def isN (s p f : Int) (x : List Int) : Bool := x.getD 0 0 == s && (x.getD 1 0 == p && x.getD 2 0 == f)
theorem ixP_find {α : Type} (p : α → Bool) : ∀ (l : List α) (i : Int), 0 ≤ i → (ixP p l i = -1 ∧ l.find? p = none) ∨ (∃ (k : Nat) (x : α), ixP p l i = i + k ∧ l[k]? = some x ∧ k < l.length ∧ l.find? p = some x)
  | [], _, _ => .inl ⟨rfl, rfl⟩
  | x :: l, i, h => by
    unfold ixP
    rw [List.find?_cons]
    cases hp : p x with
    | true => exact .inr ⟨0, x, by simp, rfl, by simp, rfl⟩
    | false =>
      simp only [Bool.false_eq_true, if_false]
      rcases ixP_find p l (i + 1) (by omega) with ⟨h1, h2⟩ | ⟨k, y, h1, h2, h3, h4⟩
      · exact .inl ⟨h1, h2⟩
      · exact .inr ⟨k + 1, y, by rw [h1]; omega, h2, by simp; omega, h4⟩
theorem t_IndexLine (f : FuncId) (p : List Int → Bool) (c1 c2 c3 : T) (l : List (List Int)) (hl : l.length < 2 ^ 60) (h8 : ∀ x ∈ l, x.length = 8) (hf : ∀ x ∈ l, DCalls Tryd.prog f [ln x, c1, c2, c3] (.bool (p x))) : DCalls Tryd.prog 55 [.slice 8 (l.map ln), .clos f [c1, c2, c3]] (I (ixP p l 0)) := by
  refine dcalls_low (rs := [.tmp 4]) mixed Tryd.func55 l55 rfl rfl rfl (r := [I _]) (Nat.le_of_ble_eq_true rfl) ?_
  repeat' ((conv => whnf); first | exact trivial | refine nT_ ?_ | refine aE1 ?_ | refine aE0 ?_ | refine aN1 ?_ | refine aN0 ?_ | refine aD1 ?_ | refine aD0 ?_ | refine nE_ (fun hq => ?_) (fun hq => ?_) | refine nN_ (fun hq => ?_) (fun hq => ?_) | refine nD_ (fun hq => ?_) (fun hq => ?_) | refine rb1 ?_ | refine rb0 ?_ | refine rbx ?_ | refine rix ?_ | refine aS ?_ | fail)
  refine wpC_loopE 0 (α := Nat) (β := Unit) (fun i => {sl := [(0, .t (.slice 8 (l.map ln))), (1, .t (.clos f [c1, c2, c3])), (7, .t (I l.length)), (8, .t (I i))], bx := []})
    (fun i => i ≤ l.length ∧ ixP p (l.drop i) i = ixP p l 0) (fun i => l.length - i) (fun _ => {sl := [], bx := []}) (fun _ => ixP p l 0 = -1) 0 ⟨by omega, rfl⟩ ?_ ?_ ?_
  · repeat' (first | ((refine leI ?_; simp; done)) | exact trivial | exact LeV.same _ | exact LeB.same _ | exact rfl | exact fun _ _ _ => trivial | exact lI | exact LeV.nil _ _ _ | exact lB | refine leBd ?_ | refine leOwn ?_ | refine And.intro ?_ ?_)
  · rintro i ⟨hi, ho⟩
    rcases Nat.lt_or_ge i l.length with h2 | h2
    · rw [ixP_drop p h2] at ho
      have hc := hf l[i] (List.getElem_mem h2)
      generalize hxe : l[i] = x at ho hc
      cases hp : p x with
      | true =>
        rw [hp, if_pos rfl] at ho
        rw [hp] at hc
        repeat' ((conv => whnf); first | exact trivial | (refine nv_ (ln x) (by first | (exact aggLn (by simp [h2, hxe]; done); done) | fail) ?_) | refine k_call _ (hc) ?_ | refine nT_ ?_ | refine aE1 ?_ | refine aE0 ?_ | refine aN1 ?_ | refine aN0 ?_ | refine aD1 ?_ | refine aD0 ?_ | refine nE_ (fun hq => ?_) (fun hq => ?_) | refine nN_ (fun hq => ?_) (fun hq => ?_) | refine nD_ (fun hq => ?_) (fun hq => ?_) | refine rb1 ?_ | refine rb0 ?_ | refine rbx ?_ | refine rix ?_ | (refine And.intro (by first | ((simp; omega); done) | (exact cells8 h8 (by simp only [Int.toNat_natCast]; omega); done) | fail) ?_) | refine aS ?_ | fail)
      | false =>
        rw [hp, if_neg (by simp)] at ho
        rw [hp] at hc
        repeat' ((conv => whnf); first | exact trivial | (refine nv_ (ln x) (by first | (exact aggLn (by simp [h2, hxe]; done); done) | fail) ?_) | refine k_call _ (hc) ?_ | refine nT_ ?_ | refine aE1 ?_ | refine aE0 ?_ | refine aN1 ?_ | refine aN0 ?_ | refine aD1 ?_ | refine aD0 ?_ | refine nE_ (fun hq => ?_) (fun hq => ?_) | refine nN_ (fun hq => ?_) (fun hq => ?_) | refine nD_ (fun hq => ?_) (fun hq => ?_) | refine rb1 ?_ | refine rb0 ?_ | refine rbx ?_ | refine rix ?_ | (refine And.intro (by first | ((simp; omega); done) | (exact cells8 h8 (by simp only [Int.toNat_natCast]; omega); done) | fail) ?_) | refine aS ?_ | fail)
        exact ⟨i + 1, ⟨by omega, ho⟩, by omega, by repeat' (first | exact trivial | exact LeV.same _ | exact LeB.same _ | exact rfl | exact fun _ _ _ => trivial | exact lI | exact LeV.nil _ _ _ | exact lB | refine leBd ?_ | refine leOwn ?_ | refine And.intro ?_ ?_)⟩
    · have : i = l.length := by omega
      subst this
      rw [List.drop_length] at ho
      repeat' ((conv => whnf); first | exact trivial | refine nT_ ?_ | refine aE1 ?_ | refine aE0 ?_ | refine aN1 ?_ | refine aN0 ?_ | refine aD1 ?_ | refine aD0 ?_ | refine nE_ (fun hq => ?_) (fun hq => ?_) | refine nN_ (fun hq => ?_) (fun hq => ?_) | refine nD_ (fun hq => ?_) (fun hq => ?_) | refine rb1 ?_ | refine rb0 ?_ | refine rbx ?_ | refine rix ?_ | refine aS ?_ | fail)
      exact ⟨(), ho.symm, by repeat' (first | exact trivial | exact LeV.same _ | exact LeB.same _ | exact rfl | exact fun _ _ _ => trivial | exact lI | exact LeV.nil _ _ _ | exact lB | refine leBd ?_ | refine leOwn ?_ | refine And.intro ?_ ?_)⟩
  rintro - hr
  repeat' ((conv => whnf); first | exact trivial | refine nT_ ?_ | refine aE1 ?_ | refine aE0 ?_ | refine aN1 ?_ | refine aN0 ?_ | refine aD1 ?_ | refine aD0 ?_ | refine nE_ (fun hq => ?_) (fun hq => ?_) | refine nN_ (fun hq => ?_) (fun hq => ?_) | refine nD_ (fun hq => ?_) (fun hq => ?_) | refine rb1 ?_ | refine rb0 ?_ | refine rbx ?_ | refine rix ?_ | refine aS ?_ | (exact ri hr.symm trivial) | fail)
abbrev caps3 (s p f : Int) : List T := [.cptr [I s] 0, .cptr [I p] 0, .cptr [I f] 0]
theorem t_Find1 (x : List Int) (hx : x.length = 8) (s p f : Int) : DCalls Tryd.prog 56 (ln x :: caps3 s p f) (.bool (isN s p f x)) := by
  obtain ⟨a, b, c, d, e, f', g, j, rfl⟩ := ex8 hx
  have hO := t_of [a, b, c, d, e, f', g, j] rfl
  refine dcalls_low (rs := [.tmp 5]) mixed Tryd.func56 l56 rfl rfl rfl (r := [.bool _]) (Nat.le_of_ble_eq_true rfl) ?_
  repeat' ((conv => whnf); first | exact trivial | refine k_call _ (hO) ?_ | (refine nb_ (isN s p f [a, b, c, d, e, f', g, j]) (show (a == s && (b == p && (c == f && true))) = _ by rw [Bool.and_true]; rfl) ?_) | refine nT_ ?_ | refine aE1 ?_ | refine aE0 ?_ | refine aN1 ?_ | refine aN0 ?_ | refine aD1 ?_ | refine aD0 ?_ | refine nE_ (fun hq => ?_) (fun hq => ?_) | refine nN_ (fun hq => ?_) (fun hq => ?_) | refine nD_ (fun hq => ?_) (fun hq => ?_) | refine rb1 ?_ | refine rb0 ?_ | refine rbx ?_ | refine rix ?_ | (refine And.intro (by first | (exact ⟨⟨rfl, rfl, rfl, trivial⟩, ⟨rfl, rfl, rfl, trivial⟩⟩; done) | fail) ?_) | refine aS ?_ | fail)
def fnd (ls : List (List Int)) (s p f : Int) : T := match ls.find? (isN s p f) with
  | some x => .tup [ln x, .bool true]
  | none => .tup [ln [0, 0, 0, 0, 0, 0, 0, 0], .bool false]
theorem t_Find (n i : Int) (ls : List (List Int)) (pv : List Int) (s p f : Int) (hl : ls.length < 2 ^ 60) (hx : ∀ x ∈ ls, x.length = 8) (hp : pv.length = 16) : DCalls Tryd.prog 30 [rcT n i ls pv, I s, I p, I f] (fnd ls s p f) := by
  have hI := t_IndexLine 56 (isN s p f) (.cptr [I s] 0) (.cptr [I p] 0) (.cptr [I f] 0) ls hl hx (fun x h => t_Find1 x (hx x h) s p f)
  have hlen : (rcC n i ls pv).length = 19 := by simp [hp]
  unfold fnd
  rcases ixP_find (isN s p f) ls 0 (Int.le_refl 0) with ⟨h1, h2⟩ | ⟨k, x, h1, h2, h3, h4⟩
  · rw [h2]
    rw [h1] at hI
    refine dcalls_low (rs := [.cell 8 36, .tmp 9]) mixed Tryd.func30 l30 rfl rfl rfl (r := [_, _]) (Nat.le_of_ble_eq_true rfl) ?_
    repeat' ((conv => whnf); first | exact trivial | refine k_call _ (hI) ?_ | refine nT_ ?_ | refine aE1 ?_ | refine aE0 ?_ | refine aN1 ?_ | refine aN0 ?_ | refine aD1 ?_ | refine aD0 ?_ | refine nE_ (fun hq => ?_) (fun hq => ?_) | refine nN_ (fun hq => ?_) (fun hq => ?_) | refine nD_ (fun hq => ?_) (fun hq => ?_) | refine rb1 ?_ | refine rb0 ?_ | refine rbx ?_ | refine rix ?_ | (refine And.intro (by first | (exact hlen; done) | fail) ?_) | refine aS ?_ | fail)
  · rw [h4]
    rw [h1, Int.zero_add] at hI
    obtain ⟨a, b, c, d, e, f', g, j, rfl⟩ := ex8 (hx x (List.mem_of_getElem? h2))
    refine dcalls_low (rs := [.cell 8 36, .tmp 9]) mixed Tryd.func30 l30 rfl rfl rfl (r := [_, _]) (Nat.le_of_ble_eq_true rfl) ?_
    repeat' ((conv => whnf); first | exact trivial | refine k_call _ (hI) ?_ | (refine nv_ (ln [a, b, c, d, e, f', g, j]) (by first | ((simp [h2]; done); done) | fail) ?_) | refine nT_ ?_ | refine aE1 ?_ | refine aE0 ?_ | refine aN1 ?_ | refine aN0 ?_ | refine aD1 ?_ | refine aD0 ?_ | refine nE_ (fun hq => ?_) (fun hq => ?_) | refine nN_ (fun hq => ?_) (fun hq => ?_) | refine nD_ (fun hq => ?_) (fun hq => ?_) | refine rb1 ?_ | refine rb0 ?_ | refine rbx ?_ | refine rix ?_ | (refine And.intro (by first | (exact hlen; done) | ((simp; omega); done) | fail) ?_) | refine aS ?_ | fail)
end Go.RC
end
section
namespace Go.RC
open Go Go.DL Go.Proofs
set_option maxRecDepth 100000
set_option maxHeartbeats 1000000
structure Rc where
  n : Int
  i : Int
  ls : List (List Int)
  pv : List Int
abbrev rc (r : Rc) : T := rcT r.n r.i r.ls r.pv
abbrev Rc.ok (r : Rc) : Prop := okR r.n r.i r.ls r.pv ∧ r.ls.length < 2 ^ 20
abbrev rcs (l : List Rc) : T := .slice 19 (l.map rc)
abbrev Rc.dg (r : Rc) : List Int := dgR r.n r.i r.ls r.pv
def chkR (r : Rc) : Int := chk r.n r.i r.ls
abbrev zero16 : List Int := [0, 0, 0, 0, 0, 0, 0, 0, 0, 0, 0, 0, 0, 0, 0, 0]
theorem rc_len {r : Rc} (h : r.ok) : (rcC r.n r.i r.ls r.pv).length = 19 := by simp [h.1.hp]
theorem eltRc {l : List Rc} {j : Nat} {r : Rc} (h : l[j]? = some r) : ((l.map rc)[j]?.getD .nil) = rc r := by
  rw [List.getElem?_map, h]; rfl
theorem aggPv2 {n i : Int} {ls : List (List Int)} {pv : List Int} {z : List T} (hz : z.length = 19) (hp : pv.length = 16) : T.agg (((putL z 0 19 (rcC n i ls pv)).drop 3).take 16) = dg16 pv := by
  rw [putL_all hz]; exact aggPv hp
abbrev z19 : List T := [I 0, I 0, .nil, Y 0, Y 0, Y 0, Y 0, Y 0, Y 0, Y 0, Y 0, Y 0, Y 0, Y 0, Y 0, Y 0, Y 0, Y 0, Y 0]
theorem with19 {f : FuncId} {n i : Int} {ls : List (List Int)} {pv : List Int} {r : T} (h : DCalls Tryd.prog f [rcT n i ls pv] r) : DCalls Tryd.prog f [.agg (putL z19 0 19 (rcC n i ls pv))] r := by
  rw [putL_all (n := 19) (cs := z19) rfl]; exact h
def ver (node : Int) : Nat → List Int → List Rc → Int × Int
  | k, _, [] => (k, 0)
  | k, pv, r :: l => if chkR r ≠ 0 then (k, chkR r) else if r.n ≠ node then (k, 1) else if r.i ≠ k then (k, 25) else if r.pv ≠ pv then (k, 7) else ver node (k + 1) r.dg l
theorem ver_drop {node : Int} {l : List Rc} {k : Nat} {pv : List Int} (h : k < l.length) : ver node k pv (l.drop k) = if chkR l[k] ≠ 0 then ((k : Int), chkR l[k]) else if l[k].n ≠ node then ((k : Int), 1) else if l[k].i ≠ k then ((k : Int), 25) else if l[k].pv ≠ pv then ((k : Int), 7) else ver node (k + 1) l[k].dg (l.drop (k + 1)) := by
  rw [List.drop_eq_getElem_cons h]
  rfl
abbrev verT (x : Int × Int) : T := .tup [I x.1, I x.2]
theorem t_Verify (node : Int) (l : List Rc) (hl : l.length < 2 ^ 40) (hr : ∀ r ∈ l, r.ok) : DCalls Tryd.prog 22 [I node, rcs l] (verT (ver node 0 zero16 l)) := by
  refine dcalls_low (rs := [.tmp 4, .tmp 5]) mixed Tryd.func22 l22 rfl rfl rfl (r := [I _, I _]) (Nat.le_of_ble_eq_true rfl) ?_
  repeat' ((conv => whnf); first | exact trivial | refine nT_ ?_ | refine aE1 ?_ | refine aE0 ?_ | refine aN1 ?_ | refine aN0 ?_ | refine aD1 ?_ | refine aD0 ?_ | refine nE_ (fun hq => ?_) (fun hq => ?_) | refine nN_ (fun hq => ?_) (fun hq => ?_) | refine nD_ (fun hq => ?_) (fun hq => ?_) | refine rb1 ?_ | refine rb0 ?_ | refine rbx ?_ | refine rix ?_ | refine aS ?_ | fail)
  refine wpC_loopE 0 (α := Nat × List Int) (β := Unit) (fun q => {sl := [(0, .t (I node)), (1, .t (rcs l)), (6, .ptr 6 0), (10, .t (rcs l)), (11, .t (I l.length)), (12, .t (I q.1))], bx := [(6, .d 16 (q.2.map Y))]})
    (fun q => q.1 ≤ l.length ∧ q.2.length = 16 ∧ ver node q.1 q.2 (l.drop q.1) = ver node 0 zero16 l) (fun q => l.length - q.1) (fun _ => {sl := [(1, .t (rcs l))], bx := []}) (fun _ => ver node 0 zero16 l = ((l.length : Int), 0)) (0, zero16) ⟨by simp, rfl, rfl⟩ ?_ ?_ ?_
  · repeat' (first | ((refine leI ?_; simp; done)) | exact trivial | exact LeV.same _ | exact LeB.same _ | exact rfl | exact fun _ _ _ => trivial | exact lI | exact LeV.nil _ _ _ | exact lB | refine leBd ?_ | refine leOwn ?_ | refine And.intro ?_ ?_)
  · rintro ⟨k, pv⟩ ⟨hk, hpl, ho⟩
    dsimp only at hk hpl ho
    rcases Nat.lt_or_ge k l.length with h2 | h2
    · rw [ver_drop h2] at ho
      have hok := hr l[k] (List.getElem_mem h2)
      have hxe : l[k]? = some l[k] := List.getElem?_eq_getElem h2
      generalize l[k] = r at ho hok hxe
      obtain ⟨n, i, ls, rp⟩ := r
      have hC := with19 (t_Check n i ls rp (by have := hok.2; dsimp only at this; omega) hok.1.l8 hok.1.hp)
      have hD := with19 (t_Digest n i ls rp hok.1 hok.2)
      have hdl := dgR_len n i ls rp
      have hp1 : rp.length = 16 := hok.1.hp
      have hlen : (rcC n i ls rp).length = 19 := rc_len hok
      have hf : chk n i ls = chkR ⟨n, i, ls, rp⟩ := rfl
      dsimp only at ho
      rw [hf] at hC
      generalize chkR ⟨n, i, ls, rp⟩ = e at *
      by_cases c0 : e = 0
      case neg =>
        rw [if_pos c0] at ho
        repeat' ((conv => whnf); first | exact trivial | (refine nv_ (rcT n i ls rp) (by first | (exact eltRc (r := ⟨n, i, ls, rp⟩) (by simp only [Int.toNat_natCast]; exact hxe); done) | fail) ?_) | refine k_call _ (hC) ?_ | refine now_N1 c0 ?_ | refine nT_ ?_ | refine aE1 ?_ | refine aE0 ?_ | refine aN1 ?_ | refine aN0 ?_ | refine aD1 ?_ | refine aD0 ?_ | refine nE_ (fun hq => ?_) (fun hq => ?_) | refine nN_ (fun hq => ?_) (fun hq => ?_) | refine nD_ (fun hq => ?_) (fun hq => ?_) | refine rb1 ?_ | refine rb0 ?_ | refine rbx ?_ | refine rix ?_ | (refine And.intro (by first | ((simp; omega); done) | (exact hlen; done) | (exact ⟨hlen, Nat.le_of_ble_eq_true rfl⟩; done) | fail) ?_) | refine aS ?_ | (exact ri (by rw [← ho]) (ri (by rw [← ho]) trivial)) | (exact ri (by rw [← ho]) trivial) | fail)
      subst c0
      rw [if_neg (by simp)] at ho
      by_cases c1 : n = node
      case neg =>
        rw [if_pos c1] at ho
        repeat' ((conv => whnf); first | exact trivial | (refine nv_ (rcT n i ls rp) (by first | (exact eltRc (r := ⟨n, i, ls, rp⟩) (by simp only [Int.toNat_natCast]; exact hxe); done) | fail) ?_) | refine k_call _ (hC) ?_ | refine now_N1 c1 ?_ | refine nT_ ?_ | refine aE1 ?_ | refine aE0 ?_ | refine aN1 ?_ | refine aN0 ?_ | refine aD1 ?_ | refine aD0 ?_ | refine nE_ (fun hq => ?_) (fun hq => ?_) | refine nN_ (fun hq => ?_) (fun hq => ?_) | refine nD_ (fun hq => ?_) (fun hq => ?_) | refine rb1 ?_ | refine rb0 ?_ | refine rbx ?_ | refine rix ?_ | (refine And.intro (by first | ((simp; omega); done) | (exact hlen; done) | (exact ⟨hlen, Nat.le_of_ble_eq_true rfl⟩; done) | fail) ?_) | refine aS ?_ | (exact ri (by rw [← ho]) (ri (by rw [← ho]) trivial)) | (exact ri (by rw [← ho]) trivial) | fail)
      rw [if_neg (by simpa using c1)] at ho
      by_cases c2 : i = k
      case neg =>
        rw [if_pos c2] at ho
        repeat' ((conv => whnf); first | exact trivial | (refine nv_ (rcT n i ls rp) (by first | (exact eltRc (r := ⟨n, i, ls, rp⟩) (by simp only [Int.toNat_natCast]; exact hxe); done) | fail) ?_) | refine k_call _ (hC) ?_ | refine now_N0 c1 ?_ | refine now_N1 c2 ?_ | refine nT_ ?_ | refine aE1 ?_ | refine aE0 ?_ | refine aN1 ?_ | refine aN0 ?_ | refine aD1 ?_ | refine aD0 ?_ | refine nE_ (fun hq => ?_) (fun hq => ?_) | refine nN_ (fun hq => ?_) (fun hq => ?_) | refine nD_ (fun hq => ?_) (fun hq => ?_) | refine rb1 ?_ | refine rb0 ?_ | refine rbx ?_ | refine rix ?_ | (refine And.intro (by first | ((simp; omega); done) | (exact hlen; done) | (exact ⟨hlen, Nat.le_of_ble_eq_true rfl⟩; done) | fail) ?_) | refine aS ?_ | (exact ri (by rw [← ho]) (ri (by rw [← ho]) trivial)) | (exact ri (by rw [← ho]) trivial) | fail)
      rw [if_neg (by simpa using c2)] at ho
      by_cases c3 : rp = pv
      case neg =>
        rw [if_pos c3] at ho
        repeat' ((conv => whnf); first | exact trivial | (refine nv_ (rcT n i ls rp) (by first | (exact eltRc (r := ⟨n, i, ls, rp⟩) (by simp only [Int.toNat_natCast]; exact hxe); done) | fail) ?_) | refine k_call _ (hC) ?_ | refine now_N0 c1 ?_ | refine now_N0 c2 ?_ | (refine nv_ (dg16 rp) (by first | (exact aggPv2 rfl hp1; done) | fail) ?_) | refine nb_ (!false) (neY (decide_eq_false c3)) ?_ | refine nT_ ?_ | refine aE1 ?_ | refine aE0 ?_ | refine aN1 ?_ | refine aN0 ?_ | refine aD1 ?_ | refine aD0 ?_ | refine nE_ (fun hq => ?_) (fun hq => ?_) | refine nN_ (fun hq => ?_) (fun hq => ?_) | refine nD_ (fun hq => ?_) (fun hq => ?_) | refine rb1 ?_ | refine rb0 ?_ | refine rbx ?_ | refine rix ?_ | (refine And.intro (by first | ((simp; omega); done) | (exact hlen; done) | (exact ⟨hlen, Nat.le_of_ble_eq_true rfl⟩; done) | (exact ⟨fits16 hp1, fits16 hpl⟩; done) | fail) ?_) | refine aS ?_ | (exact ri (by rw [← ho]) (ri (by rw [← ho]) trivial)) | (exact ri (by rw [← ho]) trivial) | fail)
      rw [if_neg (by simpa using c3)] at ho
      repeat' ((conv => whnf); first | exact trivial | (refine nv_ (rcT n i ls rp) (by first | (exact eltRc (r := ⟨n, i, ls, rp⟩) (by simp only [Int.toNat_natCast]; exact hxe); done) | fail) ?_) | refine k_call _ (hC) ?_ | refine now_N0 c1 ?_ | refine now_N0 c2 ?_ | (refine nv_ (dg16 rp) (by first | (exact aggPv2 rfl hp1; done) | fail) ?_) | refine nb_ (!true) (neY (decide_eq_true c3)) ?_ | refine k_call _ (hD) ?_ | refine nT_ ?_ | refine aE1 ?_ | refine aE0 ?_ | refine aN1 ?_ | refine aN0 ?_ | refine aD1 ?_ | refine aD0 ?_ | refine nE_ (fun hq => ?_) (fun hq => ?_) | refine nN_ (fun hq => ?_) (fun hq => ?_) | refine nD_ (fun hq => ?_) (fun hq => ?_) | refine rb1 ?_ | refine rb0 ?_ | refine rbx ?_ | refine rix ?_ | (refine And.intro (by first | ((simp; omega); done) | (exact hlen; done) | (exact ⟨hlen, Nat.le_of_ble_eq_true rfl⟩; done) | (exact ⟨fits16 hp1, fits16 hpl⟩; done) | (exact ⟨(List.length_map _).trans hdl, Nat.le_of_ble_eq_true rfl⟩; done) | (exact ⟨(List.length_map _).trans hdl, (Nat.le_of_eq ((List.length_map _).trans hpl).symm)⟩; done) | fail) ?_) | refine aS ?_ | fail)
      refine ⟨(k + 1, dgR n i ls rp), ⟨by dsimp only; omega, hdl, ho⟩, by dsimp only; omega, ?_⟩
      repeat' (first | ((refine leBd ?_; exact (putL_all (by simpa using hpl)).symm)) | exact trivial | exact LeV.same _ | exact LeB.same _ | exact rfl | exact fun _ _ _ => trivial | exact lI | exact LeV.nil _ _ _ | exact lB | refine leBd ?_ | refine leOwn ?_ | refine And.intro ?_ ?_)
    · have : k = l.length := by omega
      subst this
      rw [List.drop_length] at ho
      repeat' ((conv => whnf); first | exact trivial | refine nT_ ?_ | refine aE1 ?_ | refine aE0 ?_ | refine aN1 ?_ | refine aN0 ?_ | refine aD1 ?_ | refine aD0 ?_ | refine nE_ (fun hq => ?_) (fun hq => ?_) | refine nN_ (fun hq => ?_) (fun hq => ?_) | refine nD_ (fun hq => ?_) (fun hq => ?_) | refine rb1 ?_ | refine rb0 ?_ | refine rbx ?_ | refine rix ?_ | refine aS ?_ | fail)
      exact ⟨(), ho.symm, by repeat' (first | exact trivial | exact LeV.same _ | exact LeB.same _ | exact rfl | exact fun _ _ _ => trivial | exact lI | exact LeV.nil _ _ _ | exact lB | refine leBd ?_ | refine leOwn ?_ | refine And.intro ?_ ?_)⟩
  rintro - hr
  rw [hr]
  repeat' ((conv => whnf); first | exact trivial | refine nT_ ?_ | refine aE1 ?_ | refine aE0 ?_ | refine aN1 ?_ | refine aN0 ?_ | refine aD1 ?_ | refine aD0 ?_ | refine nE_ (fun hq => ?_) (fun hq => ?_) | refine nN_ (fun hq => ?_) (fun hq => ?_) | refine nD_ (fun hq => ?_) (fun hq => ?_) | refine rb1 ?_ | refine rb0 ?_ | refine rbx ?_ | refine rix ?_ | refine aS ?_ | fail)
end Go.RC
end
section
namespace Go.RC
open Go Go.DL Go.Proofs Go.RowKit
set_option maxRecDepth 100000
theorem cells5 : Tryd.prog.cellsOf 5 = 1 := by kernel_rfl
theorem cells36 : Tryd.prog.cellsOf 36 = 8 := by kernel_rfl
theorem cells47 : Tryd.prog.cellsOf 47 = 1 := by kernel_rfl
theorem cells49 : Tryd.prog.cellsOf 49 = 16 := by kernel_rfl
theorem cells51 : Tryd.prog.cellsOf 51 = 19 := by kernel_rfl
theorem wf64 {n : Int} (h : (Lit.int .i64 n).wf = true) : i64 n := by
  simp only [Lit.wf, Bool.and_eq_true, decide_eq_true_eq] at h
  obtain ⟨h1, h2⟩ := h
  have e1 : IntKind.i64.min = -9223372036854775808 := by decide
  have e2 : IntKind.i64.max = 9223372036854775807 := by decide
  rw [e1] at h1; rw [e2] at h2
  unfold i64; omega
theorem wf8 {n : Int} (h : (Lit.int .u8 n).wf = true) : 0 ≤ n ∧ n < 256 := by
  simp only [Lit.wf, Bool.and_eq_true, decide_eq_true_eq] at h
  obtain ⟨h1, h2⟩ := h
  have e1 : IntKind.u8.min = 0 := by decide
  have e2 : IntKind.u8.max = 255 := by decide
  rw [e1] at h1; rw [e2] at h2
  omega
theorem hasU8 {us : List T} (h : HasC Tryd.prog 5 us) : ∃ n, us = [Y n] ∧ (Lit.int .u8 n).wf = true := by
  cases h with
  | int h n hw => rw [Tryd.underlying5] at h; cases h; exact ⟨n, rfl, hw⟩
  | bool h | str h | nil h | slice h | struct h | array h => rw [Tryd.underlying5] at h; cases h
theorem hasDig {us : List T} (h : HasC Tryd.prog 49 us) : ∃ x : List Int, us = x.map Y ∧ x.length = 16 ∧ areB x := by
  cases h with
  | array h us hl hf =>
    rw [Tryd.underlying49] at h
    cases h
    rw [cells49] at hl
    have key : ∀ i, i < 16 → ∃ n, us[i]? = some (Y n) ∧ (Lit.int .u8 n).wf = true := fun i hi => by
      obtain ⟨n, e, w⟩ := hasU8 (hf i hi)
      rw [cells5, Nat.mul_one, List.take_one] at e
      refine ⟨n, ?_, w⟩
      have : (us.drop i).head? = us[i]? := by rw [List.head?_drop]
      rw [this] at e
      cases hx : us[i]? with
      | none => rw [hx] at e; cases e
      | some x => rw [hx] at e; cases e; rfl
    refine ⟨us.map fun t => match t with | .int _ n => n | _ => 0, ?_, by simpa using hl, fun n hn => ?_⟩
    · refine List.ext_getElem? fun i => ?_
      rcases Nat.lt_or_ge i 16 with hi | hi
      · obtain ⟨n, e, _⟩ := key i hi
        rw [e]
        simp [e]
      · rw [List.getElem?_eq_none (by omega), List.getElem?_eq_none (by simp; omega)]
    · obtain ⟨t, ht, rfl⟩ := List.mem_map.1 hn
      obtain ⟨i, hi⟩ := List.mem_iff_getElem?.1 ht
      obtain ⟨n, e, w⟩ := key i (by have := (List.getElem?_eq_some_iff.1 hi).1; omega)
      rw [e] at hi
      cases hi
      exact wf8 w
  | int h | bool h | str h | nil h | slice h | struct h => rw [Tryd.underlying49] at h; cases h
theorem hasLine {us : List T} (h : HasC Tryd.prog 36 us) : ∃ x : List Int, us = x.map I ∧ x.length = 8 ∧ ∀ n ∈ x, i64 n := by
  cases h with
  | struct h us hl hf =>
    rw [Tryd.underlying36] at h
    cases h
    rw [cells36] at hl
    match us, hl with
    | [a, b, c, d, e, f, g, j], _ =>
      have f0 := hf ⟨ "Side", 3, 0, false, "", "", 0⟩ (by simp)
      have f1 := hf ⟨ "Port", 3, 1, false, "", "", 8⟩ (by simp)
      have f2 := hf ⟨ "Flow", 3, 2, false, "", "", 16⟩ (by simp)
      have f3 := hf ⟨ "Count", 3, 3, false, "", "", 24⟩ (by simp)
      have f4 := hf ⟨ "Sum", 25, 4, false, "", "", 32⟩ (by simp)
      simp only [cells3, cells25, List.drop, List.take] at f0 f1 f2 f3 f4
      obtain ⟨n0, e0, w0⟩ := hasInt f0
      obtain ⟨n1, e1, w1⟩ := hasInt f1
      obtain ⟨n2, e2, w2⟩ := hasInt f2
      obtain ⟨n3, e3, w3⟩ := hasInt f3
      obtain ⟨x, ex, hx, wx⟩ := hasInts Tryd.underlying25 cells25 f4
      simp only [List.cons.injEq, and_true] at e0 e1 e2 e3
      subst e0; subst e1; subst e2; subst e3
      refine ⟨n0 :: n1 :: n2 :: n3 :: x, by rw [ex]; rfl, by simp [hx], fun n hn => ?_⟩
      simp only [List.mem_cons] at hn
      rcases hn with rfl | rfl | rfl | rfl | hn
      · exact wf64 w0
      · exact wf64 w1
      · exact wf64 w2
      · exact wf64 w3
      · exact wf64 (wx n hn)
  | int h | bool h | str h | nil h | slice h | array h => rw [Tryd.underlying36] at h; cases h
theorem mk36 (us : List T) : mkT Tryd.prog 36 us = .agg us := by unfold mkT; rw [Tryd.underlying36]
theorem mk51 (us : List T) : mkT Tryd.prog 51 us = .agg us := by unfold mkT; rw [Tryd.underlying51]
theorem aLine {us : List T} (h : HasC Tryd.prog 36 us) : ∃ x : List Int, mkT Tryd.prog 36 us = ln x ∧ x.length = 8 ∧ ∀ n ∈ x, i64 n := by
  obtain ⟨x, rfl, hx, hw⟩ := hasLine h
  exact ⟨x, mk36 _, hx, hw⟩
theorem hasLines {us : List T} (h : HasC Tryd.prog 47 us) : ∃ (t : T) (ls : List (List Int)), us = [t] ∧ Les t (linesT ls) ∧ ls.length ≤ bulkL us ∧ ∀ x ∈ ls, x.length = 8 ∧ ∀ y ∈ x, i64 y := by
  cases h with
  | nil h => exact ⟨.nil, [], rfl, Les.nil 8, by simp, by simp⟩
  | slice h xs hx hl =>
    rw [Tryd.underlying47] at h
    cases h
    rw [cells36]
    have key : ∃ ls : List (List Int), xs.map (mkT Tryd.prog 36) = ls.map ln ∧ ls.length ≤ bulkL (xs.map (mkT Tryd.prog 36)) ∧ ∀ x ∈ ls, x.length = 8 ∧ ∀ y ∈ x, i64 y := by
      clear hl
      induction xs with
      | nil => exact ⟨[], rfl, by simp, by simp⟩
      | cons x xs ih =>
        obtain ⟨y, h1, h2, h3⟩ := aLine (hx x (by simp))
        obtain ⟨l, k2, k3, k4⟩ := ih fun y hy => hx y (by simp [hy])
        refine ⟨y :: l, by simp only [List.map_cons, k2, h1], ?_, fun z hz => ?_⟩
        · simp only [List.map_cons, bulkL, List.length_cons]
          rw [h1]
          obtain ⟨a, b, c, d, e, f, g, j, rfl⟩ := ex8 h2
          simp only [ln, T.bulk, List.map_cons, bulkL]
          omega
        · rcases List.mem_cons.1 hz with rfl | hz
          · exact ⟨h2, h3⟩
          · exact k4 z hz
    obtain ⟨ls, k2, k3, k4⟩ := key
    exact ⟨_, ls, rfl, by rw [k2]; exact Les.refl _, by simp only [bulkL, T.bulk]; omega, k4⟩
  | int h | bool h | str h | array h | struct h => rw [Tryd.underlying47] at h; cases h
theorem lesL_refl : ∀ (us : List T), (∀ u ∈ us, u.one = true) → LesL us us
  | [], _ => .nil
  | u :: us, h => .cons (Les.refl _) (h u (by simp)) (lesL_refl us fun x hx => h x (by simp [hx]))
theorem rd_receipt {us : List T} (h : HasC Tryd.prog 51 us) (hb : bulkL us < 2 ^ 20) : ∃ r : Rc, LesL us (rcC r.n r.i r.ls r.pv) ∧ r.ok ∧ 1 ≤ bulkL us := by
  cases h with
  | struct h us hl hf =>
    rw [Tryd.underlying51] at h
    cases h
    rw [cells51] at hl
    match us, hl with
    | a :: b :: c :: ps, hl =>
      have f0 := hf ⟨ "Node", 3, 0, false, "", "", 0⟩ (by simp)
      have f1 := hf ⟨ "Interval", 3, 1, false, "", "", 8⟩ (by simp)
      have f2 := hf ⟨ "Lines", 47, 2, false, "", "", 16⟩ (by simp)
      have f3 := hf ⟨ "Prev", 49, 3, false, "", "", 40⟩ (by simp)
      simp only [cells3, cells47, cells49, List.drop, List.take] at f0 f1 f2 f3
      have hp : ps.length = 16 := by simpa using hl
      rw [List.take_of_length_le (by omega)] at f3
      obtain ⟨n, e0, w0⟩ := hasInt f0
      obtain ⟨i, e1, w1⟩ := hasInt f1
      obtain ⟨t, ls, e2, l1, l2, l3⟩ := hasLines f2
      obtain ⟨pv, e3, p1, p2⟩ := hasDig f3
      simp only [List.cons.injEq, and_true] at e0 e1 e2
      subst e0; subst e1; subst e2; subst e3
      refine ⟨⟨n, i, ls, pv⟩, .cons (Les.refl _) rfl (.cons (Les.refl _) rfl (.cons l1 rfl (lesL_refl _ (mones (fun _ => rfl) pv)))), ⟨⟨wf64 w0, wf64 w1, l3, p1, p2⟩, ?_⟩, by simp only [bulkL, T.bulk]; omega⟩
      simp only [bulkL, T.bulk] at hb l2
      show ls.length < 2 ^ 20
      omega
    | [], hl => simp at hl
    | [_], hl => simp at hl
    | [_, _], hl => simp at hl
  | int h | bool h | str h | nil h | slice h | array h => rw [Tryd.underlying51] at h; cases h
theorem aRc {us : List T} (h : HasC Tryd.prog 51 us) (hb : bulkL us < 2 ^ 20) : ∃ r : Rc, Les (mkT Tryd.prog 51 us) (rc r) ∧ r.ok := by
  obtain ⟨r, h1, h2, _⟩ := rd_receipt h hb
  exact ⟨r, by rw [mk51]; exact Les.agg h1, h2⟩
end Go.RC
end
section
namespace Go.RC
open Go Go.DL Go.Proofs Go.RowKit
set_option maxRecDepth 100000
def typesE : List TypeId := [23, 25, 3, 4, 5, 36, 44, 47, 49, 51, 61]
theorem typesE_ok : closedB Tryd.prog typesE = true := by kernel_rfl
theorem aBytes {us : List T} (h : HasC Tryd.prog 61 us) : ∃ b : List Int, Les (mkT Tryd.prog 61 us) (.slice 1 (b.map Y)) ∧ areB b ∧ b.length ≤ bulkL us ∧ 1 ≤ bulkL us := by
  have e : ∀ t, mkT Tryd.prog 61 [t] = t := fun t => by unfold mkT; rw [Tryd.underlying61]; rfl
  cases h with
  | nil h => exact ⟨[], by rw [e]; exact Les.nil 1, by simp [areB], by simp, by simp [bulkL, T.bulk]⟩
  | slice h xs hx hl =>
    rw [Tryd.underlying61] at h
    cases h
    rw [e, cells5]
    have key : ∃ b : List Int, xs.map (mkT Tryd.prog 5) = b.map Y ∧ b.length ≤ bulkL (xs.map (mkT Tryd.prog 5)) ∧ areB b := by
      clear hl
      induction xs with
      | nil => exact ⟨[], rfl, by simp, by simp [areB]⟩
      | cons x xs ih =>
        obtain ⟨n, rfl, hw⟩ := hasU8 (hx x (by simp))
        obtain ⟨b, k2, k3, k4⟩ := ih fun y hy => hx y (by simp [hy])
        have em : mkT Tryd.prog 5 [Y n] = Y n := by unfold mkT; rw [Tryd.underlying5]; rfl
        refine ⟨n :: b, by simp only [List.map_cons, k2, em], ?_, fun z hz => ?_⟩
        · simp only [List.map_cons, bulkL, List.length_cons]
          rw [em]
          simp only [T.bulk]
          omega
        · rcases List.mem_cons.1 hz with rfl | hz
          · exact wf8 hw
          · exact k4 z hz
    obtain ⟨b, k2, k3, k4⟩ := key
    exact ⟨b, by rw [k2]; exact Les.refl _, k4, by simp only [bulkL, T.bulk]; omega, by simp only [bulkL, T.bulk]; omega⟩
  | int h | bool h | str h | array h | struct h => rw [Tryd.underlying61] at h; cases h
end Go.RC
end
section
namespace Go.RC
open Go Go.DL Go.Proofs
set_option maxRecDepth 100000
set_option maxHeartbeats 1000000
def cmpL (c d : Int) (s t : List Int) : Int × Int := if c < d ∨ (c = d ∧ s ≠ t) then (0, 26) else (c - d, 0)
theorem t_Compare (x y : List Int) (hx : x.length = 8) (hy : y.length = 8) (hxi : ∀ a ∈ x, i64 a) (hyi : ∀ a ∈ y, i64 a) (hx0 : 0 ≤ x.getD 3 0) (hy0 : 0 ≤ y.getD 3 0) : DCalls Tryd.prog 19 [ln x, ln y] (verT (cmpL (x.getD 3 0) (y.getD 3 0) (x.drop 4) (y.drop 4))) := by
  obtain ⟨a, b, c, d, e, f, g, j, rfl⟩ := ex8 hx
  obtain ⟨a', b', c', d', e', f', g', j', rfl⟩ := ex8 hy
  have hd := hxi d (by simp)
  have hd' := hyi d' (by simp)
  have hx0 : 0 ≤ d := hx0
  have hy0 : 0 ≤ d' := hy0
  obtain ⟨q1, q2⟩ := hd
  obtain ⟨q3, q4⟩ := hd'
  have hw : IntKind.i64.wrap (d - d') = d - d' := wrap_id (by omega) (by omega)
  refine dcalls_low (rs := [.tmp 4, .tmp 5]) mixed Tryd.func19 l19 rfl rfl rfl (r := [I _, I _]) (Nat.le_of_ble_eq_true rfl) ?_
  show wpC _ _ _ (Post _ _ [I (cmpL d d' [e, f, g, j] [e', f', g', j']).1, I (cmpL d d' [e, f, g, j] [e', f', g', j']).2])
  unfold cmpL
  by_cases h1 : d < d'
  · rw [if_pos (.inl h1)]
    repeat' ((conv => whnf); first | exact trivial | (refine now_D1 (by rw [hw]; omega) ?_) | refine nT_ ?_ | refine aE1 ?_ | refine aE0 ?_ | refine aN1 ?_ | refine aN0 ?_ | refine aD1 ?_ | refine aD0 ?_ | refine nE_ (fun hq => ?_) (fun hq => ?_) | refine nN_ (fun hq => ?_) (fun hq => ?_) | refine nD_ (fun hq => ?_) (fun hq => ?_) | refine rb1 ?_ | refine rb0 ?_ | refine rbx ?_ | refine rix ?_ | refine aS ?_ | fail)
  by_cases h2 : d = d'
  · by_cases h3 : [e, f, g, j] = [e', f', g', j']
    · rw [if_neg (fun h => h.elim h1 fun h => h.2 h3)]
      repeat' ((conv => whnf); first | exact trivial | (refine now_D0 (by rw [hw]; omega) ?_) | (refine now_E1 (by rw [hw]; omega) ?_) | refine nb_ (!true) (neI (a := [e, f, g, j]) (b := [e', f', g', j']) (decide_eq_true h3)) ?_ | refine nT_ ?_ | refine aE1 ?_ | refine aE0 ?_ | refine aN1 ?_ | refine aN0 ?_ | refine aD1 ?_ | refine aD0 ?_ | refine nE_ (fun hq => ?_) (fun hq => ?_) | refine nN_ (fun hq => ?_) (fun hq => ?_) | refine nD_ (fun hq => ?_) (fun hq => ?_) | refine rb1 ?_ | refine rb0 ?_ | refine rbx ?_ | refine rix ?_ | (refine And.intro (by first | (exact ⟨fits4 (a := [e, f, g, j]) rfl, fits4 (a := [e', f', g', j']) rfl⟩; done) | fail) ?_) | refine aS ?_ | (exact ri hw (ri rfl trivial)) | fail)
    · rw [if_pos (.inr ⟨h2, h3⟩)]
      repeat' ((conv => whnf); first | exact trivial | (refine now_D0 (by rw [hw]; omega) ?_) | (refine now_E1 (by rw [hw]; omega) ?_) | refine nb_ (!false) (neI (a := [e, f, g, j]) (b := [e', f', g', j']) (decide_eq_false h3)) ?_ | refine nT_ ?_ | refine aE1 ?_ | refine aE0 ?_ | refine aN1 ?_ | refine aN0 ?_ | refine aD1 ?_ | refine aD0 ?_ | refine nE_ (fun hq => ?_) (fun hq => ?_) | refine nN_ (fun hq => ?_) (fun hq => ?_) | refine nD_ (fun hq => ?_) (fun hq => ?_) | refine rb1 ?_ | refine rb0 ?_ | refine rbx ?_ | refine rix ?_ | (refine And.intro (by first | (exact ⟨fits4 (a := [e, f, g, j]) rfl, fits4 (a := [e', f', g', j']) rfl⟩; done) | fail) ?_) | refine aS ?_ | fail)
  · rw [if_neg (fun h => h.elim h1 fun h => h2 h.1)]
    repeat' ((conv => whnf); first | exact trivial | (refine now_D0 (by rw [hw]; omega) ?_) | (refine now_E0 (by rw [hw]; omega) ?_) | refine nT_ ?_ | refine aE1 ?_ | refine aE0 ?_ | refine aN1 ?_ | refine aN0 ?_ | refine aD1 ?_ | refine aD0 ?_ | refine nE_ (fun hq => ?_) (fun hq => ?_) | refine nN_ (fun hq => ?_) (fun hq => ?_) | refine nD_ (fun hq => ?_) (fun hq => ?_) | refine rb1 ?_ | refine rb0 ?_ | refine rbx ?_ | refine rix ?_ | refine aS ?_ | (exact ri hw (ri rfl trivial)) | fail)
end Go.RC
end
section
namespace Go.RC
open Go Go.DL Go.Proofs
set_option maxRecDepth 100000
set_option maxHeartbeats 1000000
def un (z : Int) : Int := if z % 2 = 1 then -1 - z / 2 else z / 2
def gz : Nat → Int → List Int → Int × Int × Int
  | _, _, [] => (0, 0, 5)
  | k, z, c :: r => if (k = 9 ∧ c > 1) ∨ (k > 0 ∧ c = 0) then (0, 0, 6) else if c < 128 then (un (z + c % 128 * 128 ^ k), (k : Int) + 1, 0) else gz (k + 1) (z + c % 128 * 128 ^ k) r
def gi (b : List Int) : Int × Int × Int := gz 0 0 b
theorem gz_drop {b : List Int} {k : Nat} {z : Int} (h : k < b.length) : gz k z (b.drop k) = if (k = 9 ∧ b[k] > 1) ∨ (k > 0 ∧ b[k] = 0) then (0, 0, 6) else if b[k] < 128 then (un (z + b[k] % 128 * 128 ^ k), (k : Int) + 1, 0) else gz (k + 1) (z + b[k] % 128 * 128 ^ k) (b.drop (k + 1)) := by
  rw [List.drop_eq_getElem_cons h]; rfl
theorem and127 : ∀ c : Fin 256, bitsI .and .u8 (c.val : Int) 127 = (c.val : Int) % 128 := by decide +kernel
theorem and127' {c : Int} (h0 : 0 ≤ c) (h1 : c < 256) : bitsI .and .u8 c 127 = c % 128 := by
  obtain ⟨c, rfl⟩ := Int.eq_ofNat_of_zero_le h0
  exact and127 ⟨c, by omega⟩
theorem or_addU {a b : Int} (k : Nat) (ha : 0 ≤ a) (ha2 : a < 18446744073709551616) (hd : a % 2 ^ k = 0) (hb : 0 ≤ b) (hb2 : b < 2 ^ k) (hk : k ≤ 64) : bitsI .or .u64 a b = a + b := by
  obtain ⟨a, rfl⟩ := Int.eq_ofNat_of_zero_le ha
  obtain ⟨b, rfl⟩ := Int.eq_ofNat_of_zero_le hb
  have hk2 : (2 : Nat) ^ k ≤ 2 ^ 64 := Nat.pow_le_pow_right (by decide) hk
  have hb3 : b < 2 ^ k := by exact_mod_cast hb2
  have hd2 : a % 2 ^ k = 0 := by exact_mod_cast hd
  have ha3 : a < 2 ^ 64 := by omega
  have hb4 : b < 2 ^ 64 := by omega
  have e : a ||| b = a + b := by
    have := Nat.two_pow_add_eq_or_of_lt hb3 (a / 2 ^ k)
    have h2 : 2 ^ k * (a / 2 ^ k) = a := Nat.mul_div_cancel' (Nat.dvd_of_mod_eq_zero hd2)
    rw [h2] at this
    exact this.symm
  have hor : a ||| b < 2 ^ 64 := Nat.or_lt_two_pow ha3 hb4
  have e1 : (BitVec.ofInt 64 ((a : Nat) : Int)).toNat = a := by
    rw [BitVec.ofInt_natCast, BitVec.toNat_ofNat, Nat.mod_eq_of_lt ha3]
  have e2 : (BitVec.ofInt 64 ((b : Nat) : Int)).toNat = b := by
    rw [BitVec.ofInt_natCast, BitVec.toNat_ofNat, Nat.mod_eq_of_lt hb4]
  show IntKind.u64.wrap ((BitVec.ofInt 64 ((a : Nat) : Int) ||| BitVec.ofInt 64 ((b : Nat) : Int)).toNat : Int) = _
  rw [BitVec.toNat_or, e1, e2, e, w64 (by omega) (by omega)]
  rfl
theorem pow7 (k : Nat) : (2 : Int) ^ (7 * k) = 128 ^ k := by rw [Int.pow_mul]; rfl
theorem digit {z c : Int} {k : Nat} (hz : 0 ≤ z) (hz2 : z < 128 ^ k) (hk : k ≤ 9) (c0 : 0 ≤ c) (c1 : c < 256) (h9 : k = 9 → c ≤ 1) :
    bitsI .or .u64 z (IntKind.u64.wrap (c % 128 * 2 ^ (7 * k))) = z + c % 128 * 128 ^ k ∧ 0 ≤ z + c % 128 * 128 ^ k ∧ z + c % 128 * 128 ^ k < 128 ^ (k + 1) ∧ z + c % 128 * 128 ^ k < 18446744073709551616 := by
  have m0 : 0 ≤ c % 128 := Int.emod_nonneg _ (by decide)
  have m1 : c % 128 ≤ 127 := by omega
  have hp : (0 : Int) < 128 ^ k := Int.pow_pos (by decide)
  have hlt : c % 128 * 128 ^ k < 18446744073709551616 ∧ z + c % 128 * 128 ^ k < 18446744073709551616 := by
    by_cases h : k = 9
    · subst h
      have : c ≤ 1 := h9 rfl
      have e : (128 : Int) ^ 9 = 9223372036854775808 := by decide
      rw [e] at hz2 ⊢
      omega
    · have h8 : (128 : Int) ^ k ≤ 128 ^ 8 := by have := Nat.pow_le_pow_right (show 0 < 128 by decide) (show k ≤ 8 by omega); exact_mod_cast this
      have e : (128 : Int) ^ 8 = 72057594037927936 := by decide
      have : c % 128 * 128 ^ k ≤ 127 * 128 ^ k := Int.mul_le_mul_of_nonneg_right m1 (Int.le_of_lt hp)
      rw [e] at h8
      omega
  have h0 : 0 ≤ c % 128 * 128 ^ k := Int.mul_nonneg m0 (Int.le_of_lt hp)
  refine ⟨?_, by omega, ?_, hlt.2⟩
  · rw [pow7, w64 h0 hlt.1, or_comm, or_addU (7 * k) h0 hlt.1 (by rw [pow7]; exact Int.mul_emod_left _ _) hz (by rw [pow7]; exact hz2) (by omega), Int.add_comm]
  · rw [Int.pow_succ]
    have : c % 128 * 128 ^ k ≤ 127 * 128 ^ k := Int.mul_le_mul_of_nonneg_right m1 (Int.le_of_lt hp)
    omega
theorem xor_onesI {a : Int} (h0 : 0 ≤ a) (h1 : a < 9223372036854775808) : bitsI .xor .i64 a (-1) = -1 - a := by
  obtain ⟨a, rfl⟩ := Int.eq_ofNat_of_zero_le h0
  have ha : a < 2 ^ 64 := by omega
  have e1 : (BitVec.ofInt 64 (-1)) = BitVec.allOnes 64 := by decide
  have e2 : (BitVec.ofInt 64 ((a : Nat) : Int)).toNat = a := by
    rw [BitVec.ofInt_natCast, BitVec.toNat_ofNat, Nat.mod_eq_of_lt ha]
  show IntKind.i64.wrap ((BitVec.ofInt 64 ((a : Nat) : Int) ^^^ BitVec.ofInt 64 (-1)).toNat : Int) = _
  rw [e1, BitVec.xor_allOnes, BitVec.toNat_not, e2]
  unfold IntKind.wrap; simp [IntKind.bits, IntKind.signed]; omega
theorem xor_zeroI {a : Int} (h0 : 0 ≤ a) (h1 : a < 9223372036854775808) : bitsI .xor .i64 a 0 = a := by
  obtain ⟨a, rfl⟩ := Int.eq_ofNat_of_zero_le h0
  have ha : a < 2 ^ 64 := by omega
  have e2 : (BitVec.ofInt 64 ((a : Nat) : Int)).toNat = a := by
    rw [BitVec.ofInt_natCast, BitVec.toNat_ofNat, Nat.mod_eq_of_lt ha]
  show IntKind.i64.wrap ((BitVec.ofInt 64 ((a : Nat) : Int) ^^^ BitVec.ofInt 64 0).toNat : Int) = _
  have e1 : (BitVec.ofInt 64 0) = 0#64 := by decide
  rw [e1, BitVec.xor_zero, e2]
  exact wrap_id (by omega) (by omega)
theorem and1 {z : Int} (h0 : 0 ≤ z) (h1 : z < 18446744073709551616) : bitsI .and .u64 z 1 = z % 2 := by
  obtain ⟨a, rfl⟩ := Int.eq_ofNat_of_zero_le h0
  have ha : a < 2 ^ 64 := by omega
  have e2 : (BitVec.ofInt 64 ((a : Nat) : Int)).toNat = a := by
    rw [BitVec.ofInt_natCast, BitVec.toNat_ofNat, Nat.mod_eq_of_lt ha]
  show IntKind.u64.wrap ((BitVec.ofInt 64 ((a : Nat) : Int) &&& BitVec.ofInt 64 1).toNat : Int) = _
  have e1 : (BitVec.ofInt 64 1).toNat = 1 := by decide
  rw [BitVec.toNat_and, e2, e1, Nat.and_one_is_mod, w64 (by omega) (by omega)]
  rfl
theorem unzig {z : Int} (h0 : 0 ≤ z) (h1 : z < 18446744073709551616) : bitsI .xor .i64 (IntKind.i64.wrap (z.fdiv (2 ^ 1))) (IntKind.i64.wrap (-(IntKind.i64.wrap (bitsI .and .u64 z 1)))) = un z := by
  rw [and1 h0 h1]
  have e : z.fdiv (2 ^ 1) = z / 2 := by rw [Int.fdiv_eq_ediv_of_nonneg _ (by decide)]; rfl
  rw [e, wrap_id (by omega) (by omega), wrap_id (n := z % 2) (by omega) (by omega)]
  unfold un
  rcases Int.emod_two_eq z with h | h
  · rw [h, if_neg (by decide), show IntKind.i64.wrap (-0) = 0 by decide, xor_zeroI (by omega) (by omega)]
  · rw [h, if_pos rfl, show IntKind.i64.wrap (-1) = -1 by decide, xor_onesI (by omega) (by omega)]
end Go.RC
end
section
namespace Go.RC
open Go Go.DL Go.Proofs
set_option maxRecDepth 100000
set_option maxHeartbeats 1000000
theorem unzig' {z : Int} (h0 : 0 ≤ z) (h1 : z < 18446744073709551616) : bitsI .xor .i64 (IntKind.i64.wrap (z.fdiv (2 ^ min (Int.toNat 1) IntKind.u64.bits))) (IntKind.i64.wrap (0 - IntKind.i64.wrap (bitsI .and .u64 z 1))) = un z := by
  rw [show min (Int.toNat 1) IntKind.u64.bits = 1 from by decide, Int.zero_sub]; exact unzig h0 h1
abbrev gT (x : Int × Int × Int) : T := .tup [I x.1, I x.2.1, I x.2.2]
theorem t_GetInt (b : List Int) (hb : areB b) (hl : b.length < 2 ^ 60) : DCalls Tryd.prog 86 [.slice 1 (b.map Y)] (gT (gi b)) := by
  refine dcalls_low (rs := [.tmp 2, .tmp 3, .tmp 4]) mixed Tryd.func86 l86 rfl rfl rfl (r := [I _, I _, I _]) (Nat.le_of_ble_eq_true rfl) ?_
  repeat' ((conv => whnf); first | exact trivial | refine nT_ ?_ | refine aE1 ?_ | refine aE0 ?_ | refine aN1 ?_ | refine aN0 ?_ | refine aD1 ?_ | refine aD0 ?_ | refine nE_ (fun hq => ?_) (fun hq => ?_) | refine nN_ (fun hq => ?_) (fun hq => ?_) | refine nD_ (fun hq => ?_) (fun hq => ?_) | refine rb1 ?_ | refine rb0 ?_ | refine rbx ?_ | refine rix ?_ | refine aS ?_ | fail)
  refine wpC_loopE 0 (α := Nat × Int) (β := Int × Int) (fun q => {sl := [(5, .t (Q q.2)), (6, .t (I 0)), (9, .t (.slice 1 (b.map Y))), (10, .t (I b.length)), (11, .t (I q.1))], bx := []})
    (fun q => q.1 ≤ b.length ∧ q.1 ≤ 9 ∧ 0 ≤ q.2 ∧ q.2 < 128 ^ q.1 ∧ gz q.1 q.2 (b.drop q.1) = gi b) (fun q => b.length - q.1)
    (fun z => {sl := [(5, .t (Q z.1)), (6, .t (I z.2))], bx := []}) (fun z => (z.2 = 0 ∧ gi b = (0, 0, 5)) ∨ (0 < z.2 ∧ 0 ≤ z.1 ∧ z.1 < 18446744073709551616 ∧ gi b = (un z.1, z.2, 0))) (0, 0) ⟨by simp, by simp, by simp, by simp, rfl⟩ ?_ ?_ ?_
  · repeat' (first | ((refine leI ?_; simp; done)) | exact trivial | exact LeV.same _ | exact LeB.same _ | exact rfl | exact fun _ _ _ => trivial | exact lI | exact LeV.nil _ _ _ | exact lB | refine leBd ?_ | refine leOwn ?_ | refine And.intro ?_ ?_)
  · rintro ⟨k, z⟩ ⟨hk, h9, hz, hz2, ho⟩
    dsimp only at hk h9 hz hz2 ho
    rcases Nat.lt_or_ge k b.length with h2 | h2
    · rw [gz_drop h2] at ho
      obtain ⟨c0, c1⟩ := hb b[k] (List.getElem_mem h2)
      have hxe : b[k]? = some b[k] := List.getElem?_eq_getElem h2
      generalize b[k] = c at ho c0 c1 hxe
      have hg : ((b.map Y)[k]?.getD .nil) = Y c := by rw [List.getElem?_map, hxe]; rfl
      by_cases hE : (k = 9 ∧ c > 1) ∨ (k > 0 ∧ c = 0)
      · rw [if_pos hE] at ho
        by_cases k9 : k = 9
        · by_cases c1' : c > 1
          · repeat' ((conv => whnf); first | exact trivial | (refine nv_ (Y c) (by first | ((simp only [Int.toNat_natCast]; exact hg); done) | fail) ?_) | refine nT_ ?_ | refine aE1 ?_ | refine aE0 ?_ | refine aN1 ?_ | refine aN0 ?_ | refine aD1 ?_ | refine aD0 ?_ | refine nE_ (fun hq => ?_) (fun hq => ?_) | refine nN_ (fun hq => ?_) (fun hq => ?_) | refine nD_ (fun hq => ?_) (fun hq => ?_) | refine rb1 ?_ | refine rb0 ?_ | refine rbx ?_ | refine rix ?_ | (refine And.intro (by first | ((simp; omega); done) | fail) ?_) | refine aS ?_ | (exact ri (by rw [← ho]) (ri (by rw [← ho]) (ri (by rw [← ho]) trivial))) | fail)
          · have c0' : c = 0 := by omega
            repeat' ((conv => whnf); first | exact trivial | (refine nv_ (Y c) (by first | ((simp only [Int.toNat_natCast]; exact hg); done) | fail) ?_) | refine nT_ ?_ | refine aE1 ?_ | refine aE0 ?_ | refine aN1 ?_ | refine aN0 ?_ | refine aD1 ?_ | refine aD0 ?_ | refine nE_ (fun hq => ?_) (fun hq => ?_) | refine nN_ (fun hq => ?_) (fun hq => ?_) | refine nD_ (fun hq => ?_) (fun hq => ?_) | refine rb1 ?_ | refine rb0 ?_ | refine rbx ?_ | refine rix ?_ | (refine And.intro (by first | ((simp; omega); done) | fail) ?_) | refine aS ?_ | (exact ri (by rw [← ho]) (ri (by rw [← ho]) (ri (by rw [← ho]) trivial))) | fail)
        · have c0' : c = 0 := by omega
          have k0 : k > 0 := by omega
          repeat' ((conv => whnf); first | exact trivial | (refine nv_ (Y c) (by first | ((simp only [Int.toNat_natCast]; exact hg); done) | fail) ?_) | refine nT_ ?_ | refine aE1 ?_ | refine aE0 ?_ | refine aN1 ?_ | refine aN0 ?_ | refine aD1 ?_ | refine aD0 ?_ | refine nE_ (fun hq => ?_) (fun hq => ?_) | refine nN_ (fun hq => ?_) (fun hq => ?_) | refine nD_ (fun hq => ?_) (fun hq => ?_) | refine rb1 ?_ | refine rb0 ?_ | refine rbx ?_ | refine rix ?_ | (refine And.intro (by first | ((simp; omega); done) | fail) ?_) | refine aS ?_ | (exact ri (by rw [← ho]) (ri (by rw [← ho]) (ri (by rw [← ho]) trivial))) | fail)
      rw [if_neg hE] at ho
      have hd := digit hz hz2 h9 c0 c1 (fun h => by omega)
      have hw : IntKind.i64.wrap (7 * (k : Int)) = ((7 * k : Nat) : Int) := by rw [wrap_id (by omega) (by omega)]; simp
      have hv : z + c % 128 * 128 ^ k = bitsI .or .u64 z (IntKind.u64.wrap (IntKind.u64.wrap (bitsI .and .u8 c 127) * 2 ^ min (IntKind.i64.wrap (7 * (k : Int))).toNat IntKind.u64.bits)) := by
        rw [and127' c0 c1, w64 (n := c % 128) (by omega) (by omega), hw, Int.toNat_natCast, show min (7 * k) IntKind.u64.bits = 7 * k from Nat.min_eq_left (Nat.le_trans (by omega) (Nat.le_of_ble_eq_true (n := 63) rfl)), hd.1]
      have hk1 : (k : Int) + 1 = IntKind.i64.wrap ((k : Int) + 1) := (wrap_id (by omega) (by omega)).symm
      by_cases c8 : c < 128
      · rw [if_pos c8] at ho
        by_cases k9 : k = 9
        · repeat' ((conv => whnf); first | exact trivial | (refine nv_ (Y c) (by first | ((simp only [Int.toNat_natCast]; exact hg); done) | fail) ?_) | refine nT_ ?_ | refine aE1 ?_ | refine aE0 ?_ | refine aN1 ?_ | refine aN0 ?_ | refine aD1 ?_ | refine aD0 ?_ | refine nE_ (fun hq => ?_) (fun hq => ?_) | refine nN_ (fun hq => ?_) (fun hq => ?_) | refine nD_ (fun hq => ?_) (fun hq => ?_) | refine rb1 ?_ | refine rb0 ?_ | refine rbx ?_ | refine rix ?_ | (refine And.intro (by first | ((simp; omega); done) | fail) ?_) | refine aS ?_ | fail)
          refine ⟨(z + c % 128 * 128 ^ k, (k : Int) + 1), .inr ⟨by dsimp only; omega, hd.2.1, hd.2.2.2, ho.symm⟩, ?_⟩
          repeat' (first | ((refine leT ?_; exact congrArg Q hv)) | ((refine leI ?_; exact hk1)) | exact trivial | exact LeV.same _ | exact LeB.same _ | exact rfl | exact fun _ _ _ => trivial | exact lI | exact LeV.nil _ _ _ | exact lB | refine leBd ?_ | refine leOwn ?_ | refine And.intro ?_ ?_)
        by_cases k0 : k = 0
        · repeat' ((conv => whnf); first | exact trivial | (refine nv_ (Y c) (by first | ((simp only [Int.toNat_natCast]; exact hg); done) | fail) ?_) | refine nT_ ?_ | refine aE1 ?_ | refine aE0 ?_ | refine aN1 ?_ | refine aN0 ?_ | refine aD1 ?_ | refine aD0 ?_ | refine nE_ (fun hq => ?_) (fun hq => ?_) | refine nN_ (fun hq => ?_) (fun hq => ?_) | refine nD_ (fun hq => ?_) (fun hq => ?_) | refine rb1 ?_ | refine rb0 ?_ | refine rbx ?_ | refine rix ?_ | (refine And.intro (by first | ((simp; omega); done) | fail) ?_) | refine aS ?_ | fail)
          refine ⟨(z + c % 128 * 128 ^ k, (k : Int) + 1), .inr ⟨by dsimp only; omega, hd.2.1, hd.2.2.2, ho.symm⟩, ?_⟩
          repeat' (first | ((refine leT ?_; exact congrArg Q hv)) | ((refine leI ?_; exact hk1)) | exact trivial | exact LeV.same _ | exact LeB.same _ | exact rfl | exact fun _ _ _ => trivial | exact lI | exact LeV.nil _ _ _ | exact lB | refine leBd ?_ | refine leOwn ?_ | refine And.intro ?_ ?_)
        · have c0' : c ≠ 0 := by omega
          repeat' ((conv => whnf); first | exact trivial | (refine nv_ (Y c) (by first | ((simp only [Int.toNat_natCast]; exact hg); done) | fail) ?_) | refine nT_ ?_ | refine aE1 ?_ | refine aE0 ?_ | refine aN1 ?_ | refine aN0 ?_ | refine aD1 ?_ | refine aD0 ?_ | refine nE_ (fun hq => ?_) (fun hq => ?_) | refine nN_ (fun hq => ?_) (fun hq => ?_) | refine nD_ (fun hq => ?_) (fun hq => ?_) | refine rb1 ?_ | refine rb0 ?_ | refine rbx ?_ | refine rix ?_ | (refine And.intro (by first | ((simp; omega); done) | fail) ?_) | refine aS ?_ | fail)
          refine ⟨(z + c % 128 * 128 ^ k, (k : Int) + 1), .inr ⟨by dsimp only; omega, hd.2.1, hd.2.2.2, ho.symm⟩, ?_⟩
          repeat' (first | ((refine leT ?_; exact congrArg Q hv)) | ((refine leI ?_; exact hk1)) | exact trivial | exact LeV.same _ | exact LeB.same _ | exact rfl | exact fun _ _ _ => trivial | exact lI | exact LeV.nil _ _ _ | exact lB | refine leBd ?_ | refine leOwn ?_ | refine And.intro ?_ ?_)
      · rw [if_neg c8] at ho
        have k9 : k ≠ 9 := by omega
        by_cases k0 : k = 0
        · repeat' ((conv => whnf); first | exact trivial | (refine nv_ (Y c) (by first | ((simp only [Int.toNat_natCast]; exact hg); done) | fail) ?_) | refine nT_ ?_ | refine aE1 ?_ | refine aE0 ?_ | refine aN1 ?_ | refine aN0 ?_ | refine aD1 ?_ | refine aD0 ?_ | refine nE_ (fun hq => ?_) (fun hq => ?_) | refine nN_ (fun hq => ?_) (fun hq => ?_) | refine nD_ (fun hq => ?_) (fun hq => ?_) | refine rb1 ?_ | refine rb0 ?_ | refine rbx ?_ | refine rix ?_ | (refine And.intro (by first | ((simp; omega); done) | fail) ?_) | refine aS ?_ | fail)
          refine ⟨(k + 1, z + c % 128 * 128 ^ k), ⟨by dsimp only; omega, by dsimp only; omega, hd.2.1, hd.2.2.1, ho⟩, by dsimp only; omega, ?_⟩
          repeat' (first | ((refine leT ?_; exact congrArg Q hv)) | ((refine leI ?_; exact hk1)) | exact trivial | exact LeV.same _ | exact LeB.same _ | exact rfl | exact fun _ _ _ => trivial | exact lI | exact LeV.nil _ _ _ | exact lB | refine leBd ?_ | refine leOwn ?_ | refine And.intro ?_ ?_)
        · have c0' : c ≠ 0 := by omega
          repeat' ((conv => whnf); first | exact trivial | (refine nv_ (Y c) (by first | ((simp only [Int.toNat_natCast]; exact hg); done) | fail) ?_) | refine nT_ ?_ | refine aE1 ?_ | refine aE0 ?_ | refine aN1 ?_ | refine aN0 ?_ | refine aD1 ?_ | refine aD0 ?_ | refine nE_ (fun hq => ?_) (fun hq => ?_) | refine nN_ (fun hq => ?_) (fun hq => ?_) | refine nD_ (fun hq => ?_) (fun hq => ?_) | refine rb1 ?_ | refine rb0 ?_ | refine rbx ?_ | refine rix ?_ | (refine And.intro (by first | ((simp; omega); done) | fail) ?_) | refine aS ?_ | fail)
          refine ⟨(k + 1, z + c % 128 * 128 ^ k), ⟨by dsimp only; omega, by dsimp only; omega, hd.2.1, hd.2.2.1, ho⟩, by dsimp only; omega, ?_⟩
          repeat' (first | ((refine leT ?_; exact congrArg Q hv)) | ((refine leI ?_; exact hk1)) | exact trivial | exact LeV.same _ | exact LeB.same _ | exact rfl | exact fun _ _ _ => trivial | exact lI | exact LeV.nil _ _ _ | exact lB | refine leBd ?_ | refine leOwn ?_ | refine And.intro ?_ ?_)
    · have : k = b.length := by omega
      subst this
      rw [List.drop_length] at ho
      repeat' ((conv => whnf); first | exact trivial | refine nT_ ?_ | refine aE1 ?_ | refine aE0 ?_ | refine aN1 ?_ | refine aN0 ?_ | refine aD1 ?_ | refine aD0 ?_ | refine nE_ (fun hq => ?_) (fun hq => ?_) | refine nN_ (fun hq => ?_) (fun hq => ?_) | refine nD_ (fun hq => ?_) (fun hq => ?_) | refine rb1 ?_ | refine rb0 ?_ | refine rbx ?_ | refine rix ?_ | refine aS ?_ | fail)
      exact ⟨(z, 0), .inl ⟨rfl, ho.symm⟩, by repeat' (first | exact trivial | exact LeV.same _ | exact LeB.same _ | exact rfl | exact fun _ _ _ => trivial | exact lI | exact LeV.nil _ _ _ | exact lB | refine leBd ?_ | refine leOwn ?_ | refine And.intro ?_ ?_)⟩
  rintro ⟨z, u⟩ h
  dsimp only at h
  rcases h with ⟨h1, h2⟩ | ⟨h1, h2, h3, h4⟩
  · subst h1
    rw [h2]
    repeat' ((conv => whnf); first | exact trivial | refine nT_ ?_ | refine aE1 ?_ | refine aE0 ?_ | refine aN1 ?_ | refine aN0 ?_ | refine aD1 ?_ | refine aD0 ?_ | refine nE_ (fun hq => ?_) (fun hq => ?_) | refine nN_ (fun hq => ?_) (fun hq => ?_) | refine nD_ (fun hq => ?_) (fun hq => ?_) | refine rb1 ?_ | refine rb0 ?_ | refine rbx ?_ | refine rix ?_ | refine aS ?_ | fail)
  · rw [h4]
    have hu := unzig' h2 h3
    repeat' ((conv => whnf); first | exact trivial | refine now_E0 (by omega) ?_ | refine nT_ ?_ | refine aE1 ?_ | refine aE0 ?_ | refine aN1 ?_ | refine aN0 ?_ | refine aD1 ?_ | refine aD0 ?_ | refine nE_ (fun hq => ?_) (fun hq => ?_) | refine nN_ (fun hq => ?_) (fun hq => ?_) | refine nD_ (fun hq => ?_) (fun hq => ?_) | refine rb1 ?_ | refine rb0 ?_ | refine rbx ?_ | refine rix ?_ | refine aS ?_ | (exact ri hu (ri rfl (ri rfl trivial))) | fail)
end Go.RC
end
section
namespace Go.RC
open Go Go.DL Go.Proofs
set_option maxRecDepth 100000
set_option maxHeartbeats 1000000
def val (b : List Int) : Nat → Int
  | 0 => 0
  | k + 1 => val b k + b.getD k 0 % 128 * 128 ^ k
theorem val_nonneg (b : List Int) : ∀ k, 0 ≤ val b k
  | 0 => Int.le_refl 0
  | k + 1 => Int.add_nonneg (val_nonneg b k) (Int.mul_nonneg (Int.emod_nonneg _ (by decide)) (Int.le_of_lt (Int.pow_pos (by decide))))
theorem val_lt (b : List Int) : ∀ k, val b k < 128 ^ k
  | 0 => by show (0 : Int) < 1; decide
  | k + 1 => by
    have h := val_lt b k
    have m1 : b.getD k 0 % 128 ≤ 127 := by omega
    have : b.getD k 0 % 128 * 128 ^ k ≤ 127 * 128 ^ k := Int.mul_le_mul_of_nonneg_right m1 (Int.le_of_lt (Int.pow_pos (by decide)))
    rw [val, Int.pow_succ]
    omega
def marked (b : List Int) (k : Nat) : Prop := ∀ i, i < k → 128 ≤ b.getD i 0
theorem gz_marked {b : List Int} : ∀ {k : Nat}, k ≤ 9 → k ≤ b.length → marked b k → gi b = gz k (val b k) (b.drop k)
  | 0, _, _, _ => rfl
  | k + 1, h9, hl, hm => by
    rw [gz_marked (k := k) (by omega) (by omega) fun i hi => hm i (by omega), gz_drop (by omega)]
    have hk := hm k (by omega)
    have e : b.getD k 0 = b[k] := by simp [List.getD_eq_getElem?_getD, show k < b.length by omega]
    rw [e] at hk
    rw [if_neg (by omega), if_neg (by omega), val, e]
theorem gi_ten {b : List Int} (hl : 10 ≤ b.length) (hm : marked b 10) : gi b = (0, 0, 6) := by
  rw [gz_marked (k := 9) (by omega) (by omega) fun i hi => hm i (by omega), gz_drop (by omega)]
  have hk := hm 9 (by omega)
  have e : b.getD 9 0 = b[9] := by simp [List.getD_eq_getElem?_getD, show 9 < b.length by omega]
  rw [e] at hk
  rw [if_pos (.inl ⟨rfl, by omega⟩)]
theorem gi_short {b : List Int} (hl : b.length ≤ 9) (hm : marked b b.length) : gi b = (0, 0, 5) := by
  rw [gz_marked (k := b.length) hl (Nat.le_refl _) hm, List.drop_length]; rfl
theorem gi_at {b : List Int} {k : Nat} (h9 : k ≤ 9) (hl : k < b.length) (hm : marked b k) (hc : b.getD k 0 < 128) :
    gi b = if (k = 9 ∧ b.getD k 0 > 1) ∨ (k > 0 ∧ b.getD k 0 = 0) then (0, 0, 6) else (un (val b (k + 1)), (k : Int) + 1, 0) := by
  have e : b.getD k 0 = b[k] := by simp [List.getD_eq_getElem?_getD, hl]
  rw [gz_marked h9 (by omega) hm, gz_drop hl, val, e]
  rw [e] at hc
  by_cases h : (k = 9 ∧ b[k] > 1) ∨ (k > 0 ∧ b[k] = 0)
  · rw [if_pos h, if_pos h]
  · rw [if_neg h, if_neg h, if_pos hc]
theorem stepR {z d : Int} (hz : 0 ≤ z) (h : z * 128 + d % 128 < 18446744073709551616) (d0 : 0 ≤ d) : z * 128 + d % 128 = IntKind.u64.wrap (IntKind.u64.wrap (z * 128) + IntKind.u64.wrap (d.tmod 128)) := by
  rw [Int.tmod_eq_emod_of_nonneg d0, w64 (n := z * 128) (by omega) (by omega), w64 (n := d % 128) (by omega) (by omega), w64 (by omega) h]
theorem stepV {z r p v V : Int} (ho : z * (p * 128) + (v + r * p) = V) : (z * 128 + r) * p + v = V := by
  have : z * 128 * p = z * (p * 128) := by rw [Int.mul_assoc, Int.mul_comm 128 p]
  rw [Int.add_mul, this]; omega
theorem stepB {z p v V : Int} (hz : 0 ≤ z) (hp : 1 ≤ p) (hv : 0 ≤ v) (ho : z * p + v = V) : z ≤ V := by
  have := Int.mul_le_mul_of_nonneg_left hp hz
  omega
theorem fin1 {V : Int} (h0 : 0 ≤ V) (h1 : V < 18446744073709551616) (hq : V % 2 = 1) : IntKind.i64.wrap (-1 - IntKind.i64.wrap (IntKind.u64.wrap (V.tdiv 2))) = un V := by
  rw [Int.tdiv_eq_ediv_of_nonneg h0, w64 (n := V / 2) (by omega) (by omega), wrap_id (n := V / 2) (by omega) (by omega), wrap_id (by omega) (by omega), un, if_pos hq]
theorem fin0 {V : Int} (h0 : 0 ≤ V) (h1 : V < 18446744073709551616) (hq : ¬ V % 2 = 1) : IntKind.i64.wrap (IntKind.u64.wrap (V.tdiv 2)) = un V := by
  rw [Int.tdiv_eq_ediv_of_nonneg h0, w64 (n := V / 2) (by omega) (by omega), wrap_id (by omega) (by omega), un, if_neg hq]
theorem t_refGetInt (b : List Int) (hb : areB b) (hl : b.length < 2 ^ 60) : DCalls Tryd.prog 64 [.slice 1 (b.map Y)] (gT (gi b)) := by
  refine dcalls_low (rs := [.tmp 2, .tmp 3, .tmp 4]) mixed Tryd.func64 l64 rfl rfl rfl (r := [I _, I _, I _]) (Nat.le_of_ble_eq_true rfl) ?_
  repeat' ((conv => whnf); first | exact trivial | refine nT_ ?_ | refine aE1 ?_ | refine aE0 ?_ | refine aN1 ?_ | refine aN0 ?_ | refine aD1 ?_ | refine aD0 ?_ | refine nE_ (fun hq => ?_) (fun hq => ?_) | refine nN_ (fun hq => ?_) (fun hq => ?_) | refine nD_ (fun hq => ?_) (fun hq => ?_) | refine rb1 ?_ | refine rb0 ?_ | refine rbx ?_ | refine rix ?_ | refine aS ?_ | fail)
  refine wpC_loopE 0 (α := Nat) (β := Nat) (fun k => {sl := [(0, .t (.slice 1 (b.map Y))), (5, .t (I k))], bx := []})
    (fun k => k ≤ b.length ∧ k ≤ 10 ∧ marked b k) (fun k => b.length - k)
    (fun k => {sl := [(0, .t (.slice 1 (b.map Y))), (5, .t (I k))], bx := []}) (fun k => k ≤ b.length ∧ k ≤ 10 ∧ marked b k ∧ (k < b.length → k < 10 → b.getD k 0 < 128)) 0 ⟨by simp, by simp, fun i hi => absurd hi (by omega)⟩ ?_ ?_ ?_
  · repeat' (first | exact trivial | exact LeV.same _ | exact LeB.same _ | exact rfl | exact fun _ _ _ => trivial | exact lI | exact LeV.nil _ _ _ | exact lB | refine leBd ?_ | refine leOwn ?_ | refine And.intro ?_ ?_)
  · rintro k ⟨hk, h10, hm⟩
    rcases Nat.lt_or_ge k b.length with h2 | h2
    · obtain ⟨c0, c1⟩ := hb b[k] (List.getElem_mem h2)
      have hxe : b[k]? = some b[k] := List.getElem?_eq_getElem h2
      have e : b.getD k 0 = b[k] := by simp [List.getD_eq_getElem?_getD, h2]
      generalize b[k] = c at c0 c1 hxe e
      have hg : ((b.map Y)[k]?.getD .nil) = Y c := by rw [List.getElem?_map, hxe]; rfl
      have hk1 : (k : Int) + 1 = IntKind.i64.wrap ((k : Int) + 1) := (wrap_id (by omega) (by omega)).symm
      by_cases k10 : k < 10
      · by_cases c8 : 128 ≤ c
        · repeat' ((conv => whnf); first | exact trivial | (refine now_D1 (by simp; omega) ?_) | (refine nv_ (Y c) (by first | ((simp only [Int.toNat_natCast]; exact hg); done) | fail) ?_) | refine nT_ ?_ | refine aE1 ?_ | refine aE0 ?_ | refine aN1 ?_ | refine aN0 ?_ | refine aD1 ?_ | refine aD0 ?_ | refine nE_ (fun hq => ?_) (fun hq => ?_) | refine nN_ (fun hq => ?_) (fun hq => ?_) | refine nD_ (fun hq => ?_) (fun hq => ?_) | refine rb1 ?_ | refine rb0 ?_ | refine rbx ?_ | refine rix ?_ | (refine And.intro (by first | ((simp; omega); done) | fail) ?_) | refine aS ?_ | fail)
          refine ⟨k + 1, ⟨by omega, by omega, fun i hi => ?_⟩, by omega, by repeat' (first | ((refine leI ?_; exact hk1)) | exact trivial | exact LeV.same _ | exact LeB.same _ | exact rfl | exact fun _ _ _ => trivial | exact lI | exact LeV.nil _ _ _ | exact lB | refine leBd ?_ | refine leOwn ?_ | refine And.intro ?_ ?_)⟩
          rcases Nat.lt_or_ge i k with h3 | h3
          · exact hm i h3
          · rw [show i = k by omega, e]; exact c8
        · repeat' ((conv => whnf); first | exact trivial | (refine now_D1 (by simp; omega) ?_) | (refine nv_ (Y c) (by first | ((simp only [Int.toNat_natCast]; exact hg); done) | fail) ?_) | refine nT_ ?_ | refine aE1 ?_ | refine aE0 ?_ | refine aN1 ?_ | refine aN0 ?_ | refine aD1 ?_ | refine aD0 ?_ | refine nE_ (fun hq => ?_) (fun hq => ?_) | refine nN_ (fun hq => ?_) (fun hq => ?_) | refine nD_ (fun hq => ?_) (fun hq => ?_) | refine rb1 ?_ | refine rb0 ?_ | refine rbx ?_ | refine rix ?_ | (refine And.intro (by first | ((simp; omega); done) | fail) ?_) | refine aS ?_ | fail)
          exact ⟨k, ⟨by omega, h10, hm, fun _ _ => by rw [e]; omega⟩, by repeat' (first | exact trivial | exact LeV.same _ | exact LeB.same _ | exact rfl | exact fun _ _ _ => trivial | exact lI | exact LeV.nil _ _ _ | exact lB | refine leBd ?_ | refine leOwn ?_ | refine And.intro ?_ ?_)⟩
      · repeat' ((conv => whnf); first | exact trivial | (refine now_D1 (by simp; omega) ?_) | refine nT_ ?_ | refine aE1 ?_ | refine aE0 ?_ | refine aN1 ?_ | refine aN0 ?_ | refine aD1 ?_ | refine aD0 ?_ | refine nE_ (fun hq => ?_) (fun hq => ?_) | refine nN_ (fun hq => ?_) (fun hq => ?_) | refine nD_ (fun hq => ?_) (fun hq => ?_) | refine rb1 ?_ | refine rb0 ?_ | refine rbx ?_ | refine rix ?_ | refine aS ?_ | fail)
        exact ⟨k, ⟨by omega, h10, hm, fun _ h => absurd h k10⟩, by repeat' (first | exact trivial | exact LeV.same _ | exact LeB.same _ | exact rfl | exact fun _ _ _ => trivial | exact lI | exact LeV.nil _ _ _ | exact lB | refine leBd ?_ | refine leOwn ?_ | refine And.intro ?_ ?_)⟩
    · repeat' ((conv => whnf); first | exact trivial | (refine now_D0 (by simp; omega) ?_) | refine nT_ ?_ | refine aE1 ?_ | refine aE0 ?_ | refine aN1 ?_ | refine aN0 ?_ | refine aD1 ?_ | refine aD0 ?_ | refine nE_ (fun hq => ?_) (fun hq => ?_) | refine nN_ (fun hq => ?_) (fun hq => ?_) | refine nD_ (fun hq => ?_) (fun hq => ?_) | refine rb1 ?_ | refine rb0 ?_ | refine rbx ?_ | refine rix ?_ | refine aS ?_ | fail)
      exact ⟨k, ⟨by omega, h10, hm, fun h => absurd h (by omega)⟩, by repeat' (first | exact trivial | exact LeV.same _ | exact LeB.same _ | exact rfl | exact fun _ _ _ => trivial | exact lI | exact LeV.nil _ _ _ | exact lB | refine leBd ?_ | refine leOwn ?_ | refine And.intro ?_ ?_)⟩
  rintro k ⟨hk, h10, hm, hc⟩
  by_cases k10 : k = 10
  · subst k10
    rw [gi_ten (by omega) hm]
    repeat' ((conv => whnf); first | exact trivial | refine nT_ ?_ | refine aE1 ?_ | refine aE0 ?_ | refine aN1 ?_ | refine aN0 ?_ | refine aD1 ?_ | refine aD0 ?_ | refine nE_ (fun hq => ?_) (fun hq => ?_) | refine nN_ (fun hq => ?_) (fun hq => ?_) | refine nD_ (fun hq => ?_) (fun hq => ?_) | refine rb1 ?_ | refine rb0 ?_ | refine rbx ?_ | refine rix ?_ | refine aS ?_ | fail)
  by_cases kl : k = b.length
  · subst kl
    rw [gi_short (by omega) hm]
    repeat' ((conv => whnf); first | exact trivial | refine now_E1 (by simp) ?_ | refine nT_ ?_ | refine aE1 ?_ | refine aE0 ?_ | refine aN1 ?_ | refine aN0 ?_ | refine aD1 ?_ | refine aD0 ?_ | refine nE_ (fun hq => ?_) (fun hq => ?_) | refine nN_ (fun hq => ?_) (fun hq => ?_) | refine nD_ (fun hq => ?_) (fun hq => ?_) | refine rb1 ?_ | refine rb0 ?_ | refine rbx ?_ | refine rix ?_ | refine aS ?_ | fail)
  have h2 : k < b.length := by omega
  have hg0 := gi_at (by omega) h2 hm (hc h2 (by omega))
  obtain ⟨c0, c1⟩ := hb b[k] (List.getElem_mem h2)
  have hxe : b[k]? = some b[k] := List.getElem?_eq_getElem h2
  have e : b.getD k 0 = b[k] := by simp [List.getD_eq_getElem?_getD, h2]
  rw [e] at hg0
  generalize b[k] = c at c0 c1 hxe e hg0
  have hg : ((b.map Y)[k]?.getD .nil) = Y c := by rw [List.getElem?_map, hxe]; rfl
  by_cases hE : (k = 9 ∧ c > 1) ∨ (k > 0 ∧ c = 0)
  · rw [if_pos hE] at hg0
    rw [hg0]
    by_cases k9 : k = 9
    · by_cases c1' : c > 1
      · repeat' ((conv => whnf); first | exact trivial | (refine now_E0 (by simp; omega) ?_) | (refine nv_ (Y c) (by first | ((simp only [Int.toNat_natCast]; exact hg); done) | fail) ?_) | refine nT_ ?_ | refine aE1 ?_ | refine aE0 ?_ | refine aN1 ?_ | refine aN0 ?_ | refine aD1 ?_ | refine aD0 ?_ | refine nE_ (fun hq => ?_) (fun hq => ?_) | refine nN_ (fun hq => ?_) (fun hq => ?_) | refine nD_ (fun hq => ?_) (fun hq => ?_) | refine rb1 ?_ | refine rb0 ?_ | refine rbx ?_ | refine rix ?_ | (refine And.intro (by first | ((simp; omega); done) | fail) ?_) | refine aS ?_ | fail)
      · have c0' : c = 0 := by omega
        repeat' ((conv => whnf); first | exact trivial | (refine now_E0 (by simp; omega) ?_) | (refine nv_ (Y c) (by first | ((simp only [Int.toNat_natCast]; exact hg); done) | fail) ?_) | refine nT_ ?_ | refine aE1 ?_ | refine aE0 ?_ | refine aN1 ?_ | refine aN0 ?_ | refine aD1 ?_ | refine aD0 ?_ | refine nE_ (fun hq => ?_) (fun hq => ?_) | refine nN_ (fun hq => ?_) (fun hq => ?_) | refine nD_ (fun hq => ?_) (fun hq => ?_) | refine rb1 ?_ | refine rb0 ?_ | refine rbx ?_ | refine rix ?_ | (refine And.intro (by first | ((simp; omega); done) | fail) ?_) | refine aS ?_ | fail)
    · have c0' : c = 0 := by omega
      have k0 : k > 0 := by omega
      repeat' ((conv => whnf); first | exact trivial | (refine now_E0 (by simp; omega) ?_) | (refine nv_ (Y c) (by first | ((simp only [Int.toNat_natCast]; exact hg); done) | fail) ?_) | refine nT_ ?_ | refine aE1 ?_ | refine aE0 ?_ | refine aN1 ?_ | refine aN0 ?_ | refine aD1 ?_ | refine aD0 ?_ | refine nE_ (fun hq => ?_) (fun hq => ?_) | refine nN_ (fun hq => ?_) (fun hq => ?_) | refine nD_ (fun hq => ?_) (fun hq => ?_) | refine rb1 ?_ | refine rb0 ?_ | refine rbx ?_ | refine rix ?_ | (refine And.intro (by first | ((simp; omega); done) | fail) ?_) | refine aS ?_ | fail)
  rw [if_neg hE] at hg0
  rw [hg0]
  have hd := digit (val_nonneg b k) (val_lt b k) (show k ≤ 9 by omega) c0 c1 (fun h => by omega)
  have hv : val b (k + 1) = val b k + c % 128 * 128 ^ k := by rw [val, e]
  rw [← hv] at hd
  obtain ⟨-, V0, -, V1⟩ := hd
  have hkw : IntKind.i64.wrap ((k : Int) + 1) = (k : Int) + 1 := wrap_id (by omega) (by omega)
  have cs : (k = 9 ∧ c ≤ 1 ∧ c ≠ 0) ∨ (k ≠ 9 ∧ k = 0) ∨ (k ≠ 9 ∧ k > 0 ∧ c ≠ 0) := by omega
  clear hE hv hg0
  rcases cs with ⟨k9, c1', c0'⟩ | ⟨k9, k0⟩ | ⟨k9, k0, c0'⟩
  all_goals repeat' ((conv => whnf); first | exact trivial | (refine now_E0 (by simp; omega) ?_) | (refine nv_ (Y c) (by first | ((simp only [Int.toNat_natCast]; exact hg); done) | fail) ?_) | refine nT_ ?_ | refine aE1 ?_ | refine aE0 ?_ | refine aN1 ?_ | refine aN0 ?_ | refine aD1 ?_ | refine aD0 ?_ | refine nE_ (fun hq => ?_) (fun hq => ?_) | refine nN_ (fun hq => ?_) (fun hq => ?_) | refine nD_ (fun hq => ?_) (fun hq => ?_) | refine rb1 ?_ | refine rb0 ?_ | refine rbx ?_ | refine rix ?_ | (refine And.intro (by first | ((simp; omega); done) | fail) ?_) | refine aS ?_ | fail)
  all_goals (conv => whnf)
  all_goals refine wpC_loopE 2 (α := Nat × Int) (β := Unit) (fun q => {sl := [(0, .t (.slice 1 (b.map Y))), (5, .t (I k)), (6, .t (Q q.2)), (7, .t (I ((q.1 : Int) - 1)))], bx := []}) (fun q => q.1 ≤ k + 1 ∧ 0 ≤ q.2 ∧ q.2 * 128 ^ q.1 + val b q.1 = val b (k + 1)) (fun q => q.1) (fun _ => {sl := [(5, .t (I k)), (6, .t (Q (val b (k + 1))))], bx := []}) (fun _ => True) (k + 1, 0) ⟨by simp, by simp, by simp⟩ ?_ ?_ ?_
  · repeat' (first | ((refine leI ?_; simp; done)) | exact trivial | exact LeV.same _ | exact LeB.same _ | exact rfl | exact fun _ _ _ => trivial | exact lI | exact LeV.nil _ _ _ | exact lB | refine leBd ?_ | refine leOwn ?_ | refine And.intro ?_ ?_)
  · rintro ⟨m, z⟩ ⟨hm1, hz, ho⟩
    dsimp only at hm1 hz ho
    cases m with
    | zero =>
      have ho' : val b (k + 1) = z := by rw [← ho]; simp [val]
      repeat' ((conv => whnf); first | exact trivial | (refine now_D0 (by simp; omega) ?_) | refine nT_ ?_ | refine aE1 ?_ | refine aE0 ?_ | refine aN1 ?_ | refine aN0 ?_ | refine aD1 ?_ | refine aD0 ?_ | refine nE_ (fun hq => ?_) (fun hq => ?_) | refine nN_ (fun hq => ?_) (fun hq => ?_) | refine nD_ (fun hq => ?_) (fun hq => ?_) | refine rb1 ?_ | refine rb0 ?_ | refine rbx ?_ | refine rix ?_ | refine aS ?_ | fail)
      exact ⟨(), trivial, by repeat' (first | ((refine leT ?_; exact congrArg Q ho')) | exact trivial | exact LeV.same _ | exact LeB.same _ | exact rfl | exact fun _ _ _ => trivial | exact lI | exact LeV.nil _ _ _ | exact lB | refine leBd ?_ | refine leOwn ?_ | refine And.intro ?_ ?_)⟩
    | succ j =>
      have hj : j < b.length := by omega
      obtain ⟨d0, d1⟩ := hb b[j] (List.getElem_mem hj)
      have hxe : b[j]? = some b[j] := List.getElem?_eq_getElem hj
      have e : b.getD j 0 = b[j] := by simp [List.getD_eq_getElem?_getD, hj]
      rw [val, e, Int.pow_succ] at ho
      generalize b[j] = d at d0 d1 hxe e ho
      have hV := stepV ho
      have hs := stepR hz (Int.lt_of_le_of_lt (stepB (by omega) (Int.pow_pos (by decide)) (val_nonneg b j) hV) V1) d0
      have hi1 : ((j : Nat) : Int) - 1 = IntKind.i64.wrap ((((j + 1 : Nat) : Int) - 1) - 1) := by rw [wrap_id (by omega) (by omega)]; omega
      have hg : ((b.map Y)[j]?.getD .nil) = Y d := by rw [List.getElem?_map, hxe]; rfl
      repeat' ((conv => whnf); first | exact trivial | (refine now_D1 (by simp; omega) ?_) | (refine nv_ (Y d) (by first | ((dsimp only; rw [show (((j + 1 : Nat) : Int) - 1).toNat = j by omega]; exact hg); done) | fail) ?_) | refine nT_ ?_ | refine aE1 ?_ | refine aE0 ?_ | refine aN1 ?_ | refine aN0 ?_ | refine aD1 ?_ | refine aD0 ?_ | refine nE_ (fun hq => ?_) (fun hq => ?_) | refine nN_ (fun hq => ?_) (fun hq => ?_) | refine nD_ (fun hq => ?_) (fun hq => ?_) | refine rb1 ?_ | refine rb0 ?_ | refine rbx ?_ | refine rix ?_ | (refine And.intro (by first | ((simp; omega); done) | fail) ?_) | refine aS ?_ | fail)
      refine ⟨(j, z * 128 + d % 128), ⟨by dsimp only; omega, by dsimp only; omega, hV⟩, by dsimp only; omega, ?_⟩
      repeat' (first | ((refine leT ?_; exact congrArg Q hs)) | ((refine leI ?_; exact hi1)) | exact trivial | exact LeV.same _ | exact LeB.same _ | exact rfl | exact fun _ _ _ => trivial | exact lI | exact LeV.nil _ _ _ | exact lB | refine leBd ?_ | refine leOwn ?_ | refine And.intro ?_ ?_)
  · rintro - -
    repeat' ((conv => whnf); first | exact trivial | refine nT_ ?_ | refine aE1 ?_ | refine aE0 ?_ | refine aN1 ?_ | refine aN0 ?_ | refine aD1 ?_ | refine aD0 ?_ | refine nE_ (fun hq => ?_) (fun hq => ?_) | refine nN_ (fun hq => ?_) (fun hq => ?_) | refine nD_ (fun hq => ?_) (fun hq => ?_) | refine rb1 ?_ | refine rb0 ?_ | refine rbx ?_ | refine rix ?_ | refine aS ?_ | refine ri ?_ (ri ?_ (ri rfl trivial)) | fail)
    all_goals dsimp only
    all_goals first | exact hkw | skip
    · exact fin1 V0 V1 (by rw [← Int.tmod_eq_emod_of_nonneg V0]; exact hq)
    · exact fin0 V0 V1 (by rw [← Int.tmod_eq_emod_of_nonneg V0]; exact hq)
  · repeat' (first | ((refine leI ?_; simp; done)) | exact trivial | exact LeV.same _ | exact LeB.same _ | exact rfl | exact fun _ _ _ => trivial | exact lI | exact LeV.nil _ _ _ | exact lB | refine leBd ?_ | refine leOwn ?_ | refine And.intro ?_ ?_)
  · rintro ⟨m, z⟩ ⟨hm1, hz, ho⟩
    dsimp only at hm1 hz ho
    cases m with
    | zero =>
      have ho' : val b (k + 1) = z := by rw [← ho]; simp [val]
      repeat' ((conv => whnf); first | exact trivial | (refine now_D0 (by simp; omega) ?_) | refine nT_ ?_ | refine aE1 ?_ | refine aE0 ?_ | refine aN1 ?_ | refine aN0 ?_ | refine aD1 ?_ | refine aD0 ?_ | refine nE_ (fun hq => ?_) (fun hq => ?_) | refine nN_ (fun hq => ?_) (fun hq => ?_) | refine nD_ (fun hq => ?_) (fun hq => ?_) | refine rb1 ?_ | refine rb0 ?_ | refine rbx ?_ | refine rix ?_ | refine aS ?_ | fail)
      exact ⟨(), trivial, by repeat' (first | ((refine leT ?_; exact congrArg Q ho')) | exact trivial | exact LeV.same _ | exact LeB.same _ | exact rfl | exact fun _ _ _ => trivial | exact lI | exact LeV.nil _ _ _ | exact lB | refine leBd ?_ | refine leOwn ?_ | refine And.intro ?_ ?_)⟩
    | succ j =>
      have hj : j < b.length := by omega
      obtain ⟨d0, d1⟩ := hb b[j] (List.getElem_mem hj)
      have hxe : b[j]? = some b[j] := List.getElem?_eq_getElem hj
      have e : b.getD j 0 = b[j] := by simp [List.getD_eq_getElem?_getD, hj]
      rw [val, e, Int.pow_succ] at ho
      generalize b[j] = d at d0 d1 hxe e ho
      have hV := stepV ho
      have hs := stepR hz (Int.lt_of_le_of_lt (stepB (by omega) (Int.pow_pos (by decide)) (val_nonneg b j) hV) V1) d0
      have hi1 : ((j : Nat) : Int) - 1 = IntKind.i64.wrap ((((j + 1 : Nat) : Int) - 1) - 1) := by rw [wrap_id (by omega) (by omega)]; omega
      have hg : ((b.map Y)[j]?.getD .nil) = Y d := by rw [List.getElem?_map, hxe]; rfl
      repeat' ((conv => whnf); first | exact trivial | (refine now_D1 (by simp; omega) ?_) | (refine nv_ (Y d) (by first | ((dsimp only; rw [show (((j + 1 : Nat) : Int) - 1).toNat = j by omega]; exact hg); done) | fail) ?_) | refine nT_ ?_ | refine aE1 ?_ | refine aE0 ?_ | refine aN1 ?_ | refine aN0 ?_ | refine aD1 ?_ | refine aD0 ?_ | refine nE_ (fun hq => ?_) (fun hq => ?_) | refine nN_ (fun hq => ?_) (fun hq => ?_) | refine nD_ (fun hq => ?_) (fun hq => ?_) | refine rb1 ?_ | refine rb0 ?_ | refine rbx ?_ | refine rix ?_ | (refine And.intro (by first | ((simp; omega); done) | fail) ?_) | refine aS ?_ | fail)
      refine ⟨(j, z * 128 + d % 128), ⟨by dsimp only; omega, by dsimp only; omega, hV⟩, by dsimp only; omega, ?_⟩
      repeat' (first | ((refine leT ?_; exact congrArg Q hs)) | ((refine leI ?_; exact hi1)) | exact trivial | exact LeV.same _ | exact LeB.same _ | exact rfl | exact fun _ _ _ => trivial | exact lI | exact LeV.nil _ _ _ | exact lB | refine leBd ?_ | refine leOwn ?_ | refine And.intro ?_ ?_)
  · rintro - -
    repeat' ((conv => whnf); first | exact trivial | refine nT_ ?_ | refine aE1 ?_ | refine aE0 ?_ | refine aN1 ?_ | refine aN0 ?_ | refine aD1 ?_ | refine aD0 ?_ | refine nE_ (fun hq => ?_) (fun hq => ?_) | refine nN_ (fun hq => ?_) (fun hq => ?_) | refine nD_ (fun hq => ?_) (fun hq => ?_) | refine rb1 ?_ | refine rb0 ?_ | refine rbx ?_ | refine rix ?_ | refine aS ?_ | refine ri ?_ (ri ?_ (ri rfl trivial)) | fail)
    all_goals dsimp only
    all_goals first | exact hkw | skip
    · exact fin1 V0 V1 (by rw [← Int.tmod_eq_emod_of_nonneg V0]; exact hq)
    · exact fin0 V0 V1 (by rw [← Int.tmod_eq_emod_of_nonneg V0]; exact hq)
  · repeat' (first | ((refine leI ?_; simp; done)) | exact trivial | exact LeV.same _ | exact LeB.same _ | exact rfl | exact fun _ _ _ => trivial | exact lI | exact LeV.nil _ _ _ | exact lB | refine leBd ?_ | refine leOwn ?_ | refine And.intro ?_ ?_)
  · rintro ⟨m, z⟩ ⟨hm1, hz, ho⟩
    dsimp only at hm1 hz ho
    cases m with
    | zero =>
      have ho' : val b (k + 1) = z := by rw [← ho]; simp [val]
      repeat' ((conv => whnf); first | exact trivial | (refine now_D0 (by simp; omega) ?_) | refine nT_ ?_ | refine aE1 ?_ | refine aE0 ?_ | refine aN1 ?_ | refine aN0 ?_ | refine aD1 ?_ | refine aD0 ?_ | refine nE_ (fun hq => ?_) (fun hq => ?_) | refine nN_ (fun hq => ?_) (fun hq => ?_) | refine nD_ (fun hq => ?_) (fun hq => ?_) | refine rb1 ?_ | refine rb0 ?_ | refine rbx ?_ | refine rix ?_ | refine aS ?_ | fail)
      exact ⟨(), trivial, by repeat' (first | ((refine leT ?_; exact congrArg Q ho')) | exact trivial | exact LeV.same _ | exact LeB.same _ | exact rfl | exact fun _ _ _ => trivial | exact lI | exact LeV.nil _ _ _ | exact lB | refine leBd ?_ | refine leOwn ?_ | refine And.intro ?_ ?_)⟩
    | succ j =>
      have hj : j < b.length := by omega
      obtain ⟨d0, d1⟩ := hb b[j] (List.getElem_mem hj)
      have hxe : b[j]? = some b[j] := List.getElem?_eq_getElem hj
      have e : b.getD j 0 = b[j] := by simp [List.getD_eq_getElem?_getD, hj]
      rw [val, e, Int.pow_succ] at ho
      generalize b[j] = d at d0 d1 hxe e ho
      have hV := stepV ho
      have hs := stepR hz (Int.lt_of_le_of_lt (stepB (by omega) (Int.pow_pos (by decide)) (val_nonneg b j) hV) V1) d0
      have hi1 : ((j : Nat) : Int) - 1 = IntKind.i64.wrap ((((j + 1 : Nat) : Int) - 1) - 1) := by rw [wrap_id (by omega) (by omega)]; omega
      have hg : ((b.map Y)[j]?.getD .nil) = Y d := by rw [List.getElem?_map, hxe]; rfl
      repeat' ((conv => whnf); first | exact trivial | (refine now_D1 (by simp; omega) ?_) | (refine nv_ (Y d) (by first | ((dsimp only; rw [show (((j + 1 : Nat) : Int) - 1).toNat = j by omega]; exact hg); done) | fail) ?_) | refine nT_ ?_ | refine aE1 ?_ | refine aE0 ?_ | refine aN1 ?_ | refine aN0 ?_ | refine aD1 ?_ | refine aD0 ?_ | refine nE_ (fun hq => ?_) (fun hq => ?_) | refine nN_ (fun hq => ?_) (fun hq => ?_) | refine nD_ (fun hq => ?_) (fun hq => ?_) | refine rb1 ?_ | refine rb0 ?_ | refine rbx ?_ | refine rix ?_ | (refine And.intro (by first | ((simp; omega); done) | fail) ?_) | refine aS ?_ | fail)
      refine ⟨(j, z * 128 + d % 128), ⟨by dsimp only; omega, by dsimp only; omega, hV⟩, by dsimp only; omega, ?_⟩
      repeat' (first | ((refine leT ?_; exact congrArg Q hs)) | ((refine leI ?_; exact hi1)) | exact trivial | exact LeV.same _ | exact LeB.same _ | exact rfl | exact fun _ _ _ => trivial | exact lI | exact LeV.nil _ _ _ | exact lB | refine leBd ?_ | refine leOwn ?_ | refine And.intro ?_ ?_)
  · rintro - -
    repeat' ((conv => whnf); first | exact trivial | refine nT_ ?_ | refine aE1 ?_ | refine aE0 ?_ | refine aN1 ?_ | refine aN0 ?_ | refine aD1 ?_ | refine aD0 ?_ | refine nE_ (fun hq => ?_) (fun hq => ?_) | refine nN_ (fun hq => ?_) (fun hq => ?_) | refine nD_ (fun hq => ?_) (fun hq => ?_) | refine rb1 ?_ | refine rb0 ?_ | refine rbx ?_ | refine rix ?_ | refine aS ?_ | refine ri ?_ (ri ?_ (ri rfl trivial)) | fail)
    all_goals dsimp only
    all_goals first | exact hkw | skip
    · exact fin1 V0 V1 (by rw [← Int.tmod_eq_emod_of_nonneg V0]; exact hq)
    · exact fin0 V0 V1 (by rw [← Int.tmod_eq_emod_of_nonneg V0]; exact hq)
end Go.RC
end
section
namespace Go.RC
open Go Go.DL Go.Proofs
set_option maxRecDepth 100000
set_option maxHeartbeats 1000000
theorem un_i64 {z : Int} (h0 : 0 ≤ z) (h1 : z < 18446744073709551616) : i64 (un z) := by
  unfold un i64; split <;> omega
theorem gz_ok : ∀ {l : List Int} {k : Nat} {z : Int}, areB l → k ≤ 9 → 0 ≤ z → z < 128 ^ k → i64 (gz k z l).1 ∧ 0 ≤ (gz k z l).2.1 ∧ (gz k z l).2.1 ≤ k + l.length ∧ 0 ≤ (gz k z l).2.2 ∧ (gz k z l).2.2 ≤ 6 ∧ ((gz k z l).2.2 = 0 → (k : Int) + 1 ≤ (gz k z l).2.1)
  | [], k, z, _, _, _, _ => by
    rw [gz]; refine ⟨by unfold i64; omega, by simp, by simp, by simp, by simp, by simp⟩
  | c :: l, k, z, hb, h9, hz, hz2 => by
    obtain ⟨c0, c1⟩ := hb c (by simp)
    rw [gz]
    by_cases hE : (k = 9 ∧ c > 1) ∨ (k > 0 ∧ c = 0)
    · rw [if_pos hE]; refine ⟨by unfold i64; omega, by simp, by simp; omega, by simp, by simp, by simp⟩
    rw [if_neg hE]
    obtain ⟨-, d1, d2, d3⟩ := digit hz hz2 h9 c0 c1 (fun h => by omega)
    by_cases c8 : c < 128
    · rw [if_pos c8]
      exact ⟨un_i64 d1 d3, by dsimp only; omega, by dsimp only; simp only [List.length_cons]; omega, by simp, by simp, by simp⟩
    · rw [if_neg c8]
      obtain ⟨q1, q2, q3, q4, q5, q6⟩ := gz_ok (l := l) (k := k + 1) (z := z + c % 128 * 128 ^ k) (fun x hx => hb x (by simp [hx])) (by omega) d1 d2
      refine ⟨q1, q2, ?_, q4, q5, fun h => by have := q6 h; omega⟩
      simp only [List.length_cons]; omega
theorem gi_ok {b : List Int} (hb : areB b) : i64 (gi b).1 ∧ 0 ≤ (gi b).2.1 ∧ (gi b).2.1 ≤ b.length ∧ 0 ≤ (gi b).2.2 ∧ (gi b).2.2 ≤ 6 ∧ ((gi b).2.2 = 0 → 1 ≤ (gi b).2.1) := by
  obtain ⟨q1, q2, q3, q4, q5, q6⟩ := gz_ok (k := 0) (z := 0) hb (by omega) (by omega) (by decide)
  have e : gi b = gz 0 0 b := rfl
  rw [e]
  exact ⟨q1, q2, by omega, q4, q5, fun h => by have := q6 h; omega⟩
def gl (b : List Int) (least : Int) : Int × Int × Int := if (gi b).2.2 ≠ 0 then (0, 0, (gi b).2.2) else if (gi b).1 < 0 then (0, 0, 6) else if (gi b).1 > (b.length - (gi b).2.1) / least then (0, 0, 5) else ((gi b).1, (gi b).2.1, 0)
theorem t_length (b : List Int) (least : Int) (hb : areB b) (hl : b.length < 2 ^ 60) (h0 : 0 < least) (h1 : least < 100) : DCalls Tryd.prog 108 [.slice 1 (b.map Y), I least] (gT (gl b least)) := by
  refine dcalls_low (rs := [.tmp 4, .tmp 5, .tmp 6]) mixed Tryd.func108 l108 rfl rfl rfl (r := [I _, I _, I _]) (Nat.le_of_ble_eq_true rfl) ?_
  have hG := t_GetInt b hb hl
  obtain ⟨q1, q2, q3, q4, q5, q6⟩ := gi_ok hb
  unfold gl
  generalize gi b = g at *
  obtain ⟨n, u, e⟩ := g
  dsimp only at *
  by_cases e0 : e = 0
  case neg =>
    rw [if_pos e0]
    repeat' ((conv => whnf); first | exact trivial | refine k_call _ (hG) ?_ | refine now_N1 e0 ?_ | refine nT_ ?_ | refine aE1 ?_ | refine aE0 ?_ | refine aN1 ?_ | refine aN0 ?_ | refine aD1 ?_ | refine aD0 ?_ | refine nE_ (fun hq => ?_) (fun hq => ?_) | refine nN_ (fun hq => ?_) (fun hq => ?_) | refine nD_ (fun hq => ?_) (fun hq => ?_) | refine rb1 ?_ | refine rb0 ?_ | refine rbx ?_ | refine rix ?_ | refine aS ?_ | fail)
  rw [if_neg (by simpa using e0)]
  by_cases n0 : n < 0
  · rw [if_pos n0]
    repeat' ((conv => whnf); first | exact trivial | refine k_call _ (hG) ?_ | refine now_N0 e0 ?_ | refine now_D1 n0 ?_ | refine nT_ ?_ | refine aE1 ?_ | refine aE0 ?_ | refine aN1 ?_ | refine aN0 ?_ | refine aD1 ?_ | refine aD0 ?_ | refine nE_ (fun hq => ?_) (fun hq => ?_) | refine nN_ (fun hq => ?_) (fun hq => ?_) | refine nD_ (fun hq => ?_) (fun hq => ?_) | refine rb1 ?_ | refine rb0 ?_ | refine rbx ?_ | refine rix ?_ | refine aS ?_ | fail)
  rw [if_neg n0]
  have hq : IntKind.i64.wrap ((IntKind.i64.wrap (((b.map Y).length : Int) - u)).tdiv least) = (b.length - u) / least := by
    rw [List.length_map, wrap_id (n := (b.length : Int) - u) (by omega) (by omega), Int.tdiv_eq_ediv_of_nonneg (by omega)]
    have h3 : 0 ≤ ((b.length : Int) - u) / least := Int.ediv_nonneg (by omega) (by omega)
    have h4 : ((b.length : Int) - u) / least ≤ (b.length : Int) - u := Int.ediv_le_self _ (by omega)
    exact wrap_id (by omega) (by omega)
  by_cases c : n > (b.length - u) / least
  · rw [if_pos c]
    repeat' ((conv => whnf); first | exact trivial | refine k_call _ (hG) ?_ | refine now_N0 e0 ?_ | refine now_D0 n0 ?_ | (refine now_D1 (by rw [hq]; exact c) ?_) | refine nT_ ?_ | refine aE1 ?_ | refine aE0 ?_ | refine aN1 ?_ | refine aN0 ?_ | refine aD1 ?_ | refine aD0 ?_ | refine nE_ (fun hq => ?_) (fun hq => ?_) | refine nN_ (fun hq => ?_) (fun hq => ?_) | refine nD_ (fun hq => ?_) (fun hq => ?_) | refine rb1 ?_ | refine rb0 ?_ | refine rbx ?_ | refine rix ?_ | (refine And.intro (by first | (omega; done) | fail) ?_) | refine aS ?_ | fail)
  · rw [if_neg c]
    repeat' ((conv => whnf); first | exact trivial | refine k_call _ (hG) ?_ | refine now_N0 e0 ?_ | refine now_D0 n0 ?_ | (refine now_D0 (by rw [hq]; exact c) ?_) | refine nT_ ?_ | refine aE1 ?_ | refine aE0 ?_ | refine aN1 ?_ | refine aN0 ?_ | refine aD1 ?_ | refine aD0 ?_ | refine nE_ (fun hq => ?_) (fun hq => ?_) | refine nN_ (fun hq => ?_) (fun hq => ?_) | refine nD_ (fun hq => ?_) (fun hq => ?_) | refine rb1 ?_ | refine rb0 ?_ | refine rbx ?_ | refine rix ?_ | (refine And.intro (by first | (omega; done) | fail) ?_) | refine aS ?_ | fail)
theorem t_refLength (b : List Int) (least : Int) (hb : areB b) (hl : b.length < 2 ^ 60) (h0 : 0 < least) (h1 : least < 100) : DCalls Tryd.prog 88 [.slice 1 (b.map Y), I least] (gT (gl b least)) := by
  refine dcalls_low (rs := [.tmp 4, .tmp 5, .tmp 6]) mixed Tryd.func88 l88 rfl rfl rfl (r := [I _, I _, I _]) (Nat.le_of_ble_eq_true rfl) ?_
  have hG := t_refGetInt b hb hl
  obtain ⟨q1, q2, q3, q4, q5, q6⟩ := gi_ok hb
  unfold gl
  generalize gi b = g at *
  obtain ⟨n, u, e⟩ := g
  dsimp only at *
  by_cases e0 : e = 0
  case neg =>
    rw [if_pos e0]
    repeat' ((conv => whnf); first | exact trivial | refine k_call _ (hG) ?_ | refine now_N1 e0 ?_ | refine nT_ ?_ | refine aE1 ?_ | refine aE0 ?_ | refine aN1 ?_ | refine aN0 ?_ | refine aD1 ?_ | refine aD0 ?_ | refine nE_ (fun hq => ?_) (fun hq => ?_) | refine nN_ (fun hq => ?_) (fun hq => ?_) | refine nD_ (fun hq => ?_) (fun hq => ?_) | refine rb1 ?_ | refine rb0 ?_ | refine rbx ?_ | refine rix ?_ | refine aS ?_ | fail)
  rw [if_neg (by simpa using e0)]
  by_cases n0 : n < 0
  · rw [if_pos n0]
    repeat' ((conv => whnf); first | exact trivial | refine k_call _ (hG) ?_ | refine now_N0 e0 ?_ | refine now_D1 n0 ?_ | refine nT_ ?_ | refine aE1 ?_ | refine aE0 ?_ | refine aN1 ?_ | refine aN0 ?_ | refine aD1 ?_ | refine aD0 ?_ | refine nE_ (fun hq => ?_) (fun hq => ?_) | refine nN_ (fun hq => ?_) (fun hq => ?_) | refine nD_ (fun hq => ?_) (fun hq => ?_) | refine rb1 ?_ | refine rb0 ?_ | refine rbx ?_ | refine rix ?_ | refine aS ?_ | fail)
  rw [if_neg n0]
  have hq : IntKind.i64.wrap ((IntKind.i64.wrap (((b.map Y).length : Int) - u)).tdiv least) = (b.length - u) / least := by
    rw [List.length_map, wrap_id (n := (b.length : Int) - u) (by omega) (by omega), Int.tdiv_eq_ediv_of_nonneg (by omega)]
    have h3 : 0 ≤ ((b.length : Int) - u) / least := Int.ediv_nonneg (by omega) (by omega)
    have h4 : ((b.length : Int) - u) / least ≤ (b.length : Int) - u := Int.ediv_le_self _ (by omega)
    exact wrap_id (by omega) (by omega)
  by_cases c : n > (b.length - u) / least
  · rw [if_pos c]
    repeat' ((conv => whnf); first | exact trivial | refine k_call _ (hG) ?_ | refine now_N0 e0 ?_ | refine now_D0 n0 ?_ | (refine now_D1 (by rw [hq]; exact c) ?_) | refine nT_ ?_ | refine aE1 ?_ | refine aE0 ?_ | refine aN1 ?_ | refine aN0 ?_ | refine aD1 ?_ | refine aD0 ?_ | refine nE_ (fun hq => ?_) (fun hq => ?_) | refine nN_ (fun hq => ?_) (fun hq => ?_) | refine nD_ (fun hq => ?_) (fun hq => ?_) | refine rb1 ?_ | refine rb0 ?_ | refine rbx ?_ | refine rix ?_ | (refine And.intro (by first | (omega; done) | fail) ?_) | refine aS ?_ | fail)
  · rw [if_neg c]
    repeat' ((conv => whnf); first | exact trivial | refine k_call _ (hG) ?_ | refine now_N0 e0 ?_ | refine now_D0 n0 ?_ | (refine now_D0 (by rw [hq]; exact c) ?_) | refine nT_ ?_ | refine aE1 ?_ | refine aE0 ?_ | refine aN1 ?_ | refine aN0 ?_ | refine aD1 ?_ | refine aD0 ?_ | refine nE_ (fun hq => ?_) (fun hq => ?_) | refine nN_ (fun hq => ?_) (fun hq => ?_) | refine nD_ (fun hq => ?_) (fun hq => ?_) | refine rb1 ?_ | refine rb0 ?_ | refine rbx ?_ | refine rix ?_ | (refine And.intro (by first | (omega; done) | fail) ?_) | refine aS ?_ | fail)
end Go.RC
end
section
namespace Go.RC
open Go Go.DL Go.Proofs
set_option maxRecDepth 100000
set_option maxHeartbeats 1000000
def gis : Nat → List Int → Int → List Int → List Int × Int × Int
  | 0, _, at', acc => (acc, at', 0)
  | n + 1, b, at', acc => if (gi (b.drop at'.toNat)).2.2 ≠ 0 then ([], 0, (gi (b.drop at'.toNat)).2.2) else gis n b (at' + (gi (b.drop at'.toNat)).2.1) (acc ++ [(gi (b.drop at'.toNat)).1])
def gints (b : List Int) : List Int × Int × Int := if (gl b 1).2.2 ≠ 0 then ([], 0, (gl b 1).2.2) else gis (gl b 1).1.toNat b (gl b 1).2.1 []
abbrev gsT (x : List Int × Int × Int) : T := .tup [if x.2.2 ≠ 0 then .nil else .slice 1 (x.1.map I), I x.2.1, I x.2.2]
theorem areB_drop {b : List Int} (h : areB b) (k : Nat) : areB (b.drop k) := fun x hx => h x (List.mem_of_mem_drop hx)
theorem gl_ok {b : List Int} {least : Int} (hb : areB b) (h0 : 0 < least) : 0 ≤ (gl b least).1 ∧ 0 ≤ (gl b least).2.1 ∧ (gl b least).2.1 ≤ b.length ∧ (gl b least).1 * least ≤ b.length - (gl b least).2.1 := by
  obtain ⟨q1, q2, q3, q4, q5, q6⟩ := gi_ok hb
  unfold gl
  generalize gi b = g at *
  obtain ⟨n, u, e⟩ := g
  dsimp only at *
  by_cases e0 : e ≠ 0
  · rw [if_pos e0]; refine ⟨by simp, by simp, by simp, by simp⟩
  rw [if_neg e0]
  by_cases n0 : n < 0
  · rw [if_pos n0]; refine ⟨by simp, by simp, by simp, by simp⟩
  rw [if_neg n0]
  by_cases c : n > (b.length - u) / least
  · rw [if_pos c]; refine ⟨by simp, by simp, by simp, by simp⟩
  rw [if_neg c]
  refine ⟨by dsimp only; omega, by dsimp only; omega, by dsimp only; omega, ?_⟩
  dsimp only
  have h1 : n * least ≤ (b.length - u) / least * least := Int.mul_le_mul_of_nonneg_right (by omega) (by omega)
  have h2 : ((b.length : Int) - u) / least * least ≤ (b.length : Int) - u := Int.ediv_mul_le _ (by omega)
  omega
theorem gis_step {n : Nat} {b : List Int} {a : Int} {acc : List Int} (k : Nat) (hk : k < n) : gis (n - k) b a acc = if (gi (b.drop a.toNat)).2.2 ≠ 0 then ([], 0, (gi (b.drop a.toNat)).2.2) else gis (n - (k + 1)) b (a + (gi (b.drop a.toNat)).2.1) (acc ++ [(gi (b.drop a.toNat)).1]) := by
  obtain ⟨m, hm⟩ : ∃ m, n - k = m + 1 := ⟨n - k - 1, by omega⟩
  rw [hm, show n - (k + 1) = m by omega]; rfl
theorem t_refGetInts (b : List Int) (hb : areB b) (hl : b.length < 2 ^ 40) : DCalls Tryd.prog 63 [.slice 1 (b.map Y)] (gsT (gints b)) := by
  refine dcalls_low (rs := [.tmp 2, .tmp 3, .tmp 4]) mixed Tryd.func63 l63 rfl rfl rfl (r := [_, I _, I _]) (Nat.le_of_ble_eq_true rfl) ?_
  have hL := t_refLength b 1 hb (by omega) (by omega) (by omega)
  obtain ⟨g1, g2, g3, g4⟩ := gl_ok (least := 1) hb (by omega)
  have hgi : gints b = if (gl b 1).2.2 ≠ 0 then ([], 0, (gl b 1).2.2) else gis (gl b 1).1.toNat b (gl b 1).2.1 [] := rfl
  generalize gl b 1 = g at *
  obtain ⟨n, u, e⟩ := g
  dsimp only at *
  by_cases e0 : e = 0
  case neg =>
    rw [if_pos e0] at hgi
    rw [hgi]
    show wpC _ _ _ (Post _ _ [if e ≠ 0 then .nil else .slice 1 ([].map I), I 0, I e])
    rw [if_pos e0]
    repeat' ((conv => whnf); first | exact trivial | refine k_call _ (hL) ?_ | refine now_N1 e0 ?_ | refine nT_ ?_ | refine aE1 ?_ | refine aE0 ?_ | refine aN1 ?_ | refine aN0 ?_ | refine aD1 ?_ | refine aD0 ?_ | refine nE_ (fun hq => ?_) (fun hq => ?_) | refine nN_ (fun hq => ?_) (fun hq => ?_) | refine nD_ (fun hq => ?_) (fun hq => ?_) | refine rb1 ?_ | refine rb0 ?_ | refine rbx ?_ | refine rix ?_ | refine aS ?_ | fail)
  rw [if_neg (fun h => h e0)] at hgi
  rw [hgi]
  repeat' ((conv => whnf); first | exact trivial | refine k_call _ (hL) ?_ | refine now_N0 e0 ?_ | refine nT_ ?_ | refine aE1 ?_ | refine aE0 ?_ | refine aN1 ?_ | refine aN0 ?_ | refine aD1 ?_ | refine aD0 ?_ | refine nE_ (fun hq => ?_) (fun hq => ?_) | refine nN_ (fun hq => ?_) (fun hq => ?_) | refine nD_ (fun hq => ?_) (fun hq => ?_) | refine rb1 ?_ | refine rb0 ?_ | refine rbx ?_ | refine rix ?_ | refine aS ?_ | fail)
  have hr : gsT (gis n.toNat b u []) = .tup [if (gis n.toNat b u []).2.2 ≠ 0 then .nil else .slice 1 ((gis n.toNat b u []).1.map I), I (gis n.toNat b u []).2.1, I (gis n.toNat b u []).2.2] := rfl
  refine wpC_loopE 0 (α := Nat × Nat × Int × List Int) (β := Nat × Int × List Int) (fun q => {sl := [(0, .t (.slice 1 (b.map Y))), (5, .t (I n)), (6, .t (I q.2.2.1)), (8, .own q.1 3 1 (q.2.2.2.map I)), (9, .t (I q.2.1))], bx := []})
    (fun q => q.2.1 ≤ n.toNat ∧ q.2.2.2.length = q.2.1 ∧ 0 ≤ q.2.2.1 ∧ q.2.2.1 ≤ b.length ∧ gis (n.toNat - q.2.1) b q.2.2.1 q.2.2.2 = gis n.toNat b u []) (fun q => n.toNat - q.2.1)
    (fun q => {sl := [(6, .t (I q.2.1)), (8, .own q.1 3 1 (q.2.2.map I))], bx := []}) (fun q => gis n.toNat b u [] = (q.2.2, q.2.1, 0)) (41, 0, u, []) ⟨by simp, rfl, g2, g3, rfl⟩ ?_ ?_ ?_
  · repeat' (first | exact trivial | exact LeV.same _ | exact LeB.same _ | exact rfl | exact fun _ _ _ => trivial | exact lI | exact LeV.nil _ _ _ | exact lB | refine leBd ?_ | refine leOwn ?_ | refine And.intro ?_ ?_)
  · rintro ⟨q, k, a, acc⟩ ⟨hk, hla, ha0, ha1, ho⟩
    dsimp only at hk hla ha0 ha1 ho
    rcases Nat.lt_or_ge k n.toNat with h2 | h2
    · rw [gis_step k h2] at ho
      have hG := t_refGetInt (b.drop a.toNat) (areB_drop hb _) (by simp; omega)
      obtain ⟨q1, q2, q3, q4, q5, q6⟩ := gi_ok (areB_drop hb a.toNat)
      rw [List.length_drop] at q3
      rw [List.map_drop, show (b.map Y).drop a.toNat = List.drop a.toNat (List.take ((((b.map Y).length : Nat) : Int)).toNat (b.map Y)) by rw [Int.toNat_natCast, List.take_length]] at hG
      generalize gi (b.drop a.toNat) = g at *
      obtain ⟨v, w, f⟩ := g
      dsimp only at *
      by_cases f0 : f = 0
      · rw [if_neg (fun h => h f0)] at ho
        repeat' ((conv => whnf); first | exact trivial | (refine now_D1 (by simp; omega) ?_) | refine k_call _ (hG) ?_ | refine now_N0 f0 ?_ | refine nT_ ?_ | refine aE1 ?_ | refine aE0 ?_ | refine aN1 ?_ | refine aN0 ?_ | refine aD1 ?_ | refine aD0 ?_ | refine nE_ (fun hq => ?_) (fun hq => ?_) | refine nN_ (fun hq => ?_) (fun hq => ?_) | refine nD_ (fun hq => ?_) (fun hq => ?_) | refine rb1 ?_ | refine rb0 ?_ | refine rbx ?_ | refine rix ?_ | (refine And.intro (by first | ((simp; omega); done) | fail) ?_) | refine aS ?_ | fail)
        have hw1 : a + w = IntKind.i64.wrap (a + w) := (wrap_id (by omega) (by omega)).symm
        have hw2 : ((k + 1 : Nat) : Int) = IntKind.i64.wrap ((k : Int) + 1) := by rw [wrap_id (by omega) (by omega)]; rfl
        refine ⟨(41, k + 1, a + w, acc ++ [v]), ⟨by dsimp only; omega, by simp [hla], by dsimp only; omega, by dsimp only; omega, ho⟩, by dsimp only; omega, ?_⟩
        repeat' (first | ((refine leI ?_; first | exact hw1 | exact hw2)) | ((refine leOwn ?_; simp; done)) | exact trivial | exact LeV.same _ | exact LeB.same _ | exact rfl | exact fun _ _ _ => trivial | exact lI | exact LeV.nil _ _ _ | exact lB | refine leBd ?_ | refine leOwn ?_ | refine And.intro ?_ ?_)
      · rw [if_pos f0] at ho
        repeat' ((conv => whnf); first | exact trivial | (refine now_D1 (by simp; omega) ?_) | refine k_call _ (hG) ?_ | refine now_N1 f0 ?_ | refine nT_ ?_ | refine aE1 ?_ | refine aE0 ?_ | refine aN1 ?_ | refine aN0 ?_ | refine aD1 ?_ | refine aD0 ?_ | refine nE_ (fun hq => ?_) (fun hq => ?_) | refine nN_ (fun hq => ?_) (fun hq => ?_) | refine nD_ (fun hq => ?_) (fun hq => ?_) | refine rb1 ?_ | refine rb0 ?_ | refine rbx ?_ | refine rix ?_ | (refine And.intro (by first | ((simp; omega); done) | fail) ?_) | refine aS ?_ | refine rt ?_ (ri ?_ (ri ?_ trivial)) | fail)
        all_goals rw [← ho]
        exact (if_pos f0).symm
    · have : k = n.toNat := by omega
      subst this
      rw [Nat.sub_self] at ho
      repeat' ((conv => whnf); first | exact trivial | (refine now_D0 (by simp; omega) ?_) | refine nT_ ?_ | refine aE1 ?_ | refine aE0 ?_ | refine aN1 ?_ | refine aN0 ?_ | refine aD1 ?_ | refine aD0 ?_ | refine nE_ (fun hq => ?_) (fun hq => ?_) | refine nN_ (fun hq => ?_) (fun hq => ?_) | refine nD_ (fun hq => ?_) (fun hq => ?_) | refine rb1 ?_ | refine rb0 ?_ | refine rbx ?_ | refine rix ?_ | refine aS ?_ | fail)
      exact ⟨(q, a, acc), ho.symm, by repeat' (first | exact trivial | exact LeV.same _ | exact LeB.same _ | exact rfl | exact fun _ _ _ => trivial | exact lI | exact LeV.nil _ _ _ | exact lB | refine leBd ?_ | refine leOwn ?_ | refine And.intro ?_ ?_)⟩
  rintro ⟨q, a, acc⟩ h
  rw [h]
  repeat' ((conv => whnf); first | exact trivial | refine nT_ ?_ | refine aE1 ?_ | refine aE0 ?_ | refine aN1 ?_ | refine aN0 ?_ | refine aD1 ?_ | refine aD0 ?_ | refine nE_ (fun hq => ?_) (fun hq => ?_) | refine nN_ (fun hq => ?_) (fun hq => ?_) | refine nD_ (fun hq => ?_) (fun hq => ?_) | refine rb1 ?_ | refine rb0 ?_ | refine rbx ?_ | refine rix ?_ | refine aS ?_ | fail)
end Go.RC
end
section
namespace Go.RC
open Go Go.DL Go.Proofs
set_option maxRecDepth 100000
set_option maxHeartbeats 1000000
theorem t_get_int (b : List Int) (hb : areB b) (hl : b.length < 2 ^ 40) : DCalls Tryd.prog 97 [.slice 1 (b.map Y), I 1, .clos 86 []] (gsT (gints b)) := by
  refine dcalls_low (rs := [.tmp 6, .tmp 7, .tmp 8]) mixed Tryd.func97 l97 rfl rfl rfl (r := [_, I _, I _]) (Nat.le_of_ble_eq_true rfl) ?_
  have hL := t_length b 1 hb (by omega) (by omega) (by omega)
  obtain ⟨g1, g2, g3, g4⟩ := gl_ok (least := 1) hb (by omega)
  have hgi : gints b = if (gl b 1).2.2 ≠ 0 then ([], 0, (gl b 1).2.2) else gis (gl b 1).1.toNat b (gl b 1).2.1 [] := rfl
  generalize gl b 1 = g at *
  obtain ⟨n, u, e⟩ := g
  dsimp only at *
  by_cases e0 : e = 0
  case neg =>
    rw [if_pos e0] at hgi
    rw [hgi]
    show wpC _ _ _ (Post _ _ [if e ≠ 0 then .nil else .slice 1 ([].map I), I 0, I e])
    rw [if_pos e0]
    repeat' ((conv => whnf); first | exact trivial | refine k_call _ (hL) ?_ | refine now_N1 e0 ?_ | refine nT_ ?_ | refine aE1 ?_ | refine aE0 ?_ | refine aN1 ?_ | refine aN0 ?_ | refine aD1 ?_ | refine aD0 ?_ | refine nE_ (fun hq => ?_) (fun hq => ?_) | refine nN_ (fun hq => ?_) (fun hq => ?_) | refine nD_ (fun hq => ?_) (fun hq => ?_) | refine rb1 ?_ | refine rb0 ?_ | refine rbx ?_ | refine rix ?_ | refine aS ?_ | fail)
  rw [if_neg (fun h => h e0)] at hgi
  rw [hgi]
  repeat' ((conv => whnf); first | exact trivial | refine k_call _ (hL) ?_ | refine now_N0 e0 ?_ | refine nT_ ?_ | refine aE1 ?_ | refine aE0 ?_ | refine aN1 ?_ | refine aN0 ?_ | refine aD1 ?_ | refine aD0 ?_ | refine nE_ (fun hq => ?_) (fun hq => ?_) | refine nN_ (fun hq => ?_) (fun hq => ?_) | refine nD_ (fun hq => ?_) (fun hq => ?_) | refine rb1 ?_ | refine rb0 ?_ | refine rbx ?_ | refine rix ?_ | refine aS ?_ | fail)
  have hr : gsT (gis n.toNat b u []) = .tup [if (gis n.toNat b u []).2.2 ≠ 0 then .nil else .slice 1 ((gis n.toNat b u []).1.map I), I (gis n.toNat b u []).2.1, I (gis n.toNat b u []).2.2] := rfl
  refine wpC_loopE 0 (α := Nat × Nat × Int × List Int) (β := Nat × Int × List Int) (fun q => {sl := [(0, .t (.slice 1 (b.map Y))), (2, .t (.clos 86 [])), (10, .t (I q.2.2.1)), (12, .own q.1 3 1 (q.2.2.2.map I)), (26, .t (I n)), (27, .t (I q.2.1))], bx := []})
    (fun q => q.2.1 ≤ n.toNat ∧ q.2.2.2.length = q.2.1 ∧ 0 ≤ q.2.2.1 ∧ q.2.2.1 ≤ b.length ∧ gis (n.toNat - q.2.1) b q.2.2.1 q.2.2.2 = gis n.toNat b u []) (fun q => n.toNat - q.2.1)
    (fun q => {sl := [(10, .t (I q.2.1)), (12, .own q.1 3 1 (q.2.2.map I))], bx := []}) (fun q => gis n.toNat b u [] = (q.2.2, q.2.1, 0)) (44, 0, u, []) ⟨by simp, rfl, g2, g3, rfl⟩ ?_ ?_ ?_
  · repeat' (first | exact trivial | exact LeV.same _ | exact LeB.same _ | exact rfl | exact fun _ _ _ => trivial | exact lI | exact LeV.nil _ _ _ | exact lB | refine leBd ?_ | refine leOwn ?_ | refine And.intro ?_ ?_)
  · rintro ⟨q, k, a, acc⟩ ⟨hk, hla, ha0, ha1, ho⟩
    dsimp only at hk hla ha0 ha1 ho
    rcases Nat.lt_or_ge k n.toNat with h2 | h2
    · rw [gis_step k h2] at ho
      have hG := t_GetInt (b.drop a.toNat) (areB_drop hb _) (by simp; omega)
      obtain ⟨q1, q2, q3, q4, q5, q6⟩ := gi_ok (areB_drop hb a.toNat)
      rw [List.length_drop] at q3
      rw [List.map_drop, show (b.map Y).drop a.toNat = List.drop a.toNat (List.take ((((b.map Y).length : Nat) : Int)).toNat (b.map Y)) by rw [Int.toNat_natCast, List.take_length]] at hG
      generalize gi (b.drop a.toNat) = g at *
      obtain ⟨v, w, f⟩ := g
      dsimp only at *
      by_cases f0 : f = 0
      · rw [if_neg (fun h => h f0)] at ho
        repeat' ((conv => whnf); first | exact trivial | (refine now_D1 (by simp; omega) ?_) | refine k_call _ (hG) ?_ | refine now_N0 f0 ?_ | refine nT_ ?_ | refine aE1 ?_ | refine aE0 ?_ | refine aN1 ?_ | refine aN0 ?_ | refine aD1 ?_ | refine aD0 ?_ | refine nE_ (fun hq => ?_) (fun hq => ?_) | refine nN_ (fun hq => ?_) (fun hq => ?_) | refine nD_ (fun hq => ?_) (fun hq => ?_) | refine rb1 ?_ | refine rb0 ?_ | refine rbx ?_ | refine rix ?_ | (refine And.intro (by first | ((simp; omega); done) | fail) ?_) | refine aS ?_ | fail)
        have hw1 : a + w = IntKind.i64.wrap (a + w) := (wrap_id (by omega) (by omega)).symm
        have hw2 : ((k + 1 : Nat) : Int) = IntKind.i64.wrap ((k : Int) + 1) := by rw [wrap_id (by omega) (by omega)]; rfl
        refine ⟨(44, k + 1, a + w, acc ++ [v]), ⟨by dsimp only; omega, by simp [hla], by dsimp only; omega, by dsimp only; omega, ho⟩, by dsimp only; omega, ?_⟩
        repeat' (first | ((refine leI ?_; first | exact hw1 | exact hw2)) | ((refine leOwn ?_; simp; done)) | exact trivial | exact LeV.same _ | exact LeB.same _ | exact rfl | exact fun _ _ _ => trivial | exact lI | exact LeV.nil _ _ _ | exact lB | refine leBd ?_ | refine leOwn ?_ | refine And.intro ?_ ?_)
      · rw [if_pos f0] at ho
        repeat' ((conv => whnf); first | exact trivial | (refine now_D1 (by simp; omega) ?_) | refine k_call _ (hG) ?_ | refine now_N1 f0 ?_ | refine nT_ ?_ | refine aE1 ?_ | refine aE0 ?_ | refine aN1 ?_ | refine aN0 ?_ | refine aD1 ?_ | refine aD0 ?_ | refine nE_ (fun hq => ?_) (fun hq => ?_) | refine nN_ (fun hq => ?_) (fun hq => ?_) | refine nD_ (fun hq => ?_) (fun hq => ?_) | refine rb1 ?_ | refine rb0 ?_ | refine rbx ?_ | refine rix ?_ | (refine And.intro (by first | ((simp; omega); done) | fail) ?_) | refine aS ?_ | refine rt ?_ (ri ?_ (ri ?_ trivial)) | fail)
        all_goals rw [← ho]
        exact (if_pos f0).symm
    · have : k = n.toNat := by omega
      subst this
      rw [Nat.sub_self] at ho
      repeat' ((conv => whnf); first | exact trivial | (refine now_D0 (by simp; omega) ?_) | refine nT_ ?_ | refine aE1 ?_ | refine aE0 ?_ | refine aN1 ?_ | refine aN0 ?_ | refine aD1 ?_ | refine aD0 ?_ | refine nE_ (fun hq => ?_) (fun hq => ?_) | refine nN_ (fun hq => ?_) (fun hq => ?_) | refine nD_ (fun hq => ?_) (fun hq => ?_) | refine rb1 ?_ | refine rb0 ?_ | refine rbx ?_ | refine rix ?_ | refine aS ?_ | fail)
      exact ⟨(q, a, acc), ho.symm, by repeat' (first | exact trivial | exact LeV.same _ | exact LeB.same _ | exact rfl | exact fun _ _ _ => trivial | exact lI | exact LeV.nil _ _ _ | exact lB | refine leBd ?_ | refine leOwn ?_ | refine And.intro ?_ ?_)⟩
  rintro ⟨q, a, acc⟩ h
  rw [h]
  repeat' ((conv => whnf); first | exact trivial | refine nT_ ?_ | refine aE1 ?_ | refine aE0 ?_ | refine aN1 ?_ | refine aN0 ?_ | refine aD1 ?_ | refine aD0 ?_ | refine nE_ (fun hq => ?_) (fun hq => ?_) | refine nN_ (fun hq => ?_) (fun hq => ?_) | refine nD_ (fun hq => ?_) (fun hq => ?_) | refine rb1 ?_ | refine rb0 ?_ | refine rbx ?_ | refine rix ?_ | refine aS ?_ | fail)
theorem t_GetInts (b : List Int) (hb : areB b) (hl : b.length < 2 ^ 40) : DCalls Tryd.prog 85 [.slice 1 (b.map Y)] (gsT (gints b)) := by
  refine dcalls_low (rs := [.tmp 2, .tmp 3, .tmp 4]) mixed Tryd.func85 l85 rfl rfl rfl (r := [_, I _, I _]) (Nat.le_of_ble_eq_true rfl) ?_
  have h := t_get_int b hb hl
  repeat' ((conv => whnf); first | exact trivial | refine k_call _ (h) ?_ | refine nT_ ?_ | refine aE1 ?_ | refine aE0 ?_ | refine aN1 ?_ | refine aN0 ?_ | refine aD1 ?_ | refine aD0 ?_ | refine nE_ (fun hq => ?_) (fun hq => ?_) | refine nN_ (fun hq => ?_) (fun hq => ?_) | refine nD_ (fun hq => ?_) (fun hq => ?_) | refine rb1 ?_ | refine rb0 ?_ | refine rbx ?_ | refine rix ?_ | refine aS ?_ | fail)
end Go.RC
end
section
namespace Go.RC
open Go Go.DL Go.Proofs
set_option maxRecDepth 100000
set_option maxHeartbeats 1000000
def gds : Nat → List Int → Int → List (List Int) → List (List Int) × Int
  | 0, _, a, acc => (acc, a)
  | n + 1, b, a, acc => gds n b (a + 16) (acc ++ [(b.drop a.toNat).take 16])
def gdigs (b : List Int) : List (List Int) × Int × Int := if (gl b 16).2.2 ≠ 0 then ([], 0, (gl b 16).2.2) else ((gds (gl b 16).1.toNat b (gl b 16).2.1 []).1, (gds (gl b 16).1.toNat b (gl b 16).2.1 []).2, 0)
abbrev gdT (x : List (List Int) × Int × Int) : T := .tup [if x.2.2 ≠ 0 then .nil else .slice 16 (x.1.map dg16), I x.2.1, I x.2.2]
theorem gds_step {n : Nat} {b : List Int} {a : Int} {acc : List (List Int)} (k : Nat) (hk : k < n) : gds (n - k) b a acc = gds (n - (k + 1)) b (a + 16) (acc ++ [(b.drop a.toNat).take 16]) := by
  obtain ⟨m, hm⟩ : ∃ m, n - k = m + 1 := ⟨n - k - 1, by omega⟩
  rw [hm, show n - (k + 1) = m by omega]; rfl
theorem flatY : ∀ (l : List Int), (l.map Y).flatMap T.cells = l.map Y
  | [] => rfl
  | x :: l => by rw [List.map_cons, List.flatMap_cons, flatY l]; rfl
theorem hd16 (b : List Int) : List.drop (Int.toNat 0) (List.take (Int.toNat 16) (b.map Y)) = (b.take 16).map Y := by rw [List.map_take]; rfl
theorem sl16 {b : List Int} (hb : 16 ≤ b.length) : 16 = (List.drop (Int.toNat 0) (List.take (Int.toNat 16) (b.map Y))).length ∧ 0 < (List.flatMap T.cells (List.drop (Int.toNat 0) (List.take (Int.toNat 16) (b.map Y)))).length := by
  have hl : (b.take 16).length = 16 := by simp; omega
  rw [hd16, flatY, List.length_map, hl]; decide
theorem sl16n {b : List Int} (hb : 16 ≤ b.length) : (List.flatMap T.cells (List.drop (Int.toNat 0) (List.take (Int.toNat 16) (b.map Y)))).length = 16 := by
  rw [hd16, flatY, List.length_map]; simp; omega
theorem sl16v (b : List Int) : T.agg (List.flatMap T.cells (List.drop (Int.toNat 0) (List.take (Int.toNat 16) (b.map Y)))) = dg16 (b.take 16) := by
  rw [hd16, flatY]
theorem t_getDigest (b : List Int) (hb : 16 ≤ b.length) : DCalls Tryd.prog 99 [.slice 1 (b.map Y)] (.tup [dg16 (b.take 16), I 16, I 0]) := by
  refine dcalls_low (rs := [.cell 2 49, .tmp 3, .tmp 4]) mixed Tryd.func99 l99 rfl rfl rfl (r := [_, I _, I _]) (Nat.le_of_ble_eq_true rfl) ?_
  have hl : ((b.take 16).map Y).length = 16 := by simp; omega
  repeat' ((conv => whnf); first | exact trivial | (refine nv_ (dg16 (b.take 16)) (by first | (exact sl16v b; done) | fail) ?_) | refine nT_ ?_ | refine aE1 ?_ | refine aE0 ?_ | refine aN1 ?_ | refine aN0 ?_ | refine aD1 ?_ | refine aD0 ?_ | refine nE_ (fun hq => ?_) (fun hq => ?_) | refine nN_ (fun hq => ?_) (fun hq => ?_) | refine nD_ (fun hq => ?_) (fun hq => ?_) | refine rb1 ?_ | refine rb0 ?_ | refine rbx ?_ | refine rix ?_ | (refine And.intro (by first | (exact sl16 hb; done) | (exact sl16n hb; done) | (exact hl; done) | (exact ⟨hl, Nat.le_of_ble_eq_true rfl⟩; done) | ((simp; omega); done) | fail) ?_) | refine aS ?_ | refine rt ?_ (ri rfl (ri rfl trivial)) | fail)
  exact congrArg T.agg (putL_all rfl)
theorem t_get_Digest (b : List Int) (hb : areB b) (hl : b.length < 2 ^ 40) : DCalls Tryd.prog 98 [.slice 1 (b.map Y), I 16, .clos 99 []] (gdT (gdigs b)) := by
  refine dcalls_low (rs := [.tmp 6, .tmp 7, .tmp 8]) mixed Tryd.func98 l98 rfl rfl rfl (r := [_, I _, I _]) (Nat.le_of_ble_eq_true rfl) ?_
  have hL := t_length b 16 hb (by omega) (by omega) (by omega)
  obtain ⟨g1, g2, g3, g4⟩ := gl_ok (least := 16) hb (by omega)
  have hgi : gdigs b = if (gl b 16).2.2 ≠ 0 then ([], 0, (gl b 16).2.2) else ((gds (gl b 16).1.toNat b (gl b 16).2.1 []).1, (gds (gl b 16).1.toNat b (gl b 16).2.1 []).2, 0) := rfl
  generalize gl b 16 = g at *
  obtain ⟨n, u, e⟩ := g
  dsimp only at *
  by_cases e0 : e = 0
  case neg =>
    rw [if_pos e0] at hgi
    rw [hgi]
    show wpC _ _ _ (Post _ _ [if e ≠ 0 then .nil else .slice 16 ([].map dg16), I 0, I e])
    rw [if_pos e0]
    repeat' ((conv => whnf); first | exact trivial | refine k_call _ (hL) ?_ | refine now_N1 e0 ?_ | refine nT_ ?_ | refine aE1 ?_ | refine aE0 ?_ | refine aN1 ?_ | refine aN0 ?_ | refine aD1 ?_ | refine aD0 ?_ | refine nE_ (fun hq => ?_) (fun hq => ?_) | refine nN_ (fun hq => ?_) (fun hq => ?_) | refine nD_ (fun hq => ?_) (fun hq => ?_) | refine rb1 ?_ | refine rb0 ?_ | refine rbx ?_ | refine rix ?_ | refine aS ?_ | fail)
  rw [if_neg (fun h => h e0)] at hgi
  rw [hgi]
  repeat' ((conv => whnf); first | exact trivial | refine k_call _ (hL) ?_ | refine now_N0 e0 ?_ | refine nT_ ?_ | refine aE1 ?_ | refine aE0 ?_ | refine aN1 ?_ | refine aN0 ?_ | refine aD1 ?_ | refine aD0 ?_ | refine nE_ (fun hq => ?_) (fun hq => ?_) | refine nN_ (fun hq => ?_) (fun hq => ?_) | refine nD_ (fun hq => ?_) (fun hq => ?_) | refine rb1 ?_ | refine rb0 ?_ | refine rbx ?_ | refine rix ?_ | refine aS ?_ | fail)
  refine wpC_loopE 0 (α := Nat × Nat × Int × List (List Int)) (β := Nat × Int × List (List Int)) (fun q => {sl := [(0, .t (.slice 1 (b.map Y))), (2, .t (.clos 99 [])), (10, .t (I q.2.2.1)), (12, .own q.1 49 16 (q.2.2.2.map dg16)), (26, .t (I n)), (27, .t (I q.2.1))], bx := []})
    (fun q => q.2.1 ≤ n.toNat ∧ q.2.2.2.length = q.2.1 ∧ 0 ≤ q.2.2.1 ∧ q.2.2.1 + 16 * (n.toNat - q.2.1 : Nat) ≤ b.length ∧ (∀ x ∈ q.2.2.2, x.length = 16) ∧ gds (n.toNat - q.2.1) b q.2.2.1 q.2.2.2 = gds n.toNat b u []) (fun q => n.toNat - q.2.1)
    (fun q => {sl := [(10, .t (I q.2.1)), (12, .own q.1 49 16 (q.2.2.map dg16))], bx := []}) (fun q => gds n.toNat b u [] = (q.2.2, q.2.1) ∧ ∀ x ∈ q.2.2, x.length = 16) (44, 0, u, []) ⟨by simp, rfl, g2, by dsimp only; omega, by simp, rfl⟩ ?_ ?_ ?_
  · repeat' (first | exact trivial | exact LeV.same _ | exact LeB.same _ | exact rfl | exact fun _ _ _ => trivial | exact lI | exact LeV.nil _ _ _ | exact lB | refine leBd ?_ | refine leOwn ?_ | refine And.intro ?_ ?_)
  · rintro ⟨q, k, a, acc⟩ ⟨hk, hla, ha0, ha1, h16, ho⟩
    dsimp only at hk hla ha0 ha1 h16 ho
    rcases Nat.lt_or_ge k n.toNat with h2 | h2
    · rw [gds_step k h2] at ho
      have hG := t_getDigest (b.drop a.toNat) (by simp; omega)
      have hx : ((b.drop a.toNat).take 16).length = 16 := by simp; omega
      rw [List.map_drop, show (b.map Y).drop a.toNat = List.drop a.toNat (List.take ((((b.map Y).length : Nat) : Int)).toNat (b.map Y)) by rw [Int.toNat_natCast, List.take_length]] at hG
      generalize (b.drop a.toNat).take 16 = x at hG hx ho
      have hx2 : (x.map Y).length = 16 := (List.length_map _).trans hx
      repeat' ((conv => whnf); first | exact trivial | (refine now_D1 (by simp; omega) ?_) | refine k_call _ (hG) ?_ | refine nT_ ?_ | refine aE1 ?_ | refine aE0 ?_ | refine aN1 ?_ | refine aN0 ?_ | refine aD1 ?_ | refine aD0 ?_ | refine nE_ (fun hq => ?_) (fun hq => ?_) | refine nN_ (fun hq => ?_) (fun hq => ?_) | refine nD_ (fun hq => ?_) (fun hq => ?_) | refine rb1 ?_ | refine rb0 ?_ | refine rbx ?_ | refine rix ?_ | (refine And.intro (by first | (exact ⟨hx2, Nat.le_of_ble_eq_true rfl⟩; done) | (exact hx2; done) | (exact ⟨trivial, (congrArg List.length (putL_all (n := 16) rfl)).trans hx2⟩; done) | ((simp; omega); done) | fail) ?_) | refine aS ?_ | fail)
      have hw1 : a + 16 = IntKind.i64.wrap (a + 16) := (wrap_id (by omega) (by omega)).symm
      have hw2 : ((k + 1 : Nat) : Int) = IntKind.i64.wrap ((k : Int) + 1) := by rw [wrap_id (by omega) (by omega)]; rfl
      refine ⟨(44, k + 1, a + 16, acc ++ [x]), ⟨by dsimp only; omega, by simp [hla], by dsimp only; omega, by dsimp only; omega, fun y hy => ?_, ho⟩, by dsimp only; omega, ?_⟩
      · rcases List.mem_append.1 hy with hy | hy
        · exact h16 y hy
        · rw [List.mem_singleton.1 hy]; exact hx
      repeat' (first | ((refine leI ?_; first | exact hw1 | exact hw2)) | ((refine leOwn ?_; rw [List.map_append]; exact congrArg (acc.map dg16 ++ ·) (congrArg (fun z => [T.agg z]) (putL_all (n := 16) rfl).symm))) | exact trivial | exact LeV.same _ | exact LeB.same _ | exact rfl | exact fun _ _ _ => trivial | exact lI | exact LeV.nil _ _ _ | exact lB | refine leBd ?_ | refine leOwn ?_ | refine And.intro ?_ ?_)
    · have : k = n.toNat := by omega
      subst this
      rw [Nat.sub_self] at ho
      repeat' ((conv => whnf); first | exact trivial | (refine now_D0 (by simp; omega) ?_) | refine nT_ ?_ | refine aE1 ?_ | refine aE0 ?_ | refine aN1 ?_ | refine aN0 ?_ | refine aD1 ?_ | refine aD0 ?_ | refine nE_ (fun hq => ?_) (fun hq => ?_) | refine nN_ (fun hq => ?_) (fun hq => ?_) | refine nD_ (fun hq => ?_) (fun hq => ?_) | refine rb1 ?_ | refine rb0 ?_ | refine rbx ?_ | refine rix ?_ | refine aS ?_ | fail)
      exact ⟨(q, a, acc), ⟨ho.symm, h16⟩, by repeat' (first | exact trivial | exact LeV.same _ | exact LeB.same _ | exact rfl | exact fun _ _ _ => trivial | exact lI | exact LeV.nil _ _ _ | exact lB | refine leBd ?_ | refine leOwn ?_ | refine And.intro ?_ ?_)⟩
  rintro ⟨q, a, acc⟩ ⟨h, h16⟩
  rw [h]
  repeat' ((conv => whnf); first | exact trivial | refine nT_ ?_ | refine aE1 ?_ | refine aE0 ?_ | refine aN1 ?_ | refine aN0 ?_ | refine aD1 ?_ | refine aD0 ?_ | refine nE_ (fun hq => ?_) (fun hq => ?_) | refine nN_ (fun hq => ?_) (fun hq => ?_) | refine nD_ (fun hq => ?_) (fun hq => ?_) | refine rb1 ?_ | refine rb0 ?_ | refine rbx ?_ | refine rix ?_ | refine aS ?_ | fail)
  all_goals (conv => whnf)
  all_goals done
end Go.RC
end
section
namespace Go.RC
open Go Go.DL Go.Proofs
set_option maxRecDepth 100000
set_option maxHeartbeats 1000000
theorem fill16 {x : List Int} (hx : x.length = 16) {i j : Nat} (h : i < 16) (hj : j = i) : ((x.take i).map Y ++ List.replicate (16 - i) (Y 0)).set j (Y (x.getD i 0)) = (x.take (i + 1)).map Y ++ List.replicate (16 - (i + 1)) (Y 0) := by
  subst hj
  have hl : ((x.take j).map Y).length = j := by simp; omega
  rw [List.set_append_right _ _ (by omega), hl, Nat.sub_self, show 16 - j = (16 - (j + 1)) + 1 by omega, List.replicate_succ, List.set_cons_zero, List.take_succ_eq_append_getElem (by omega), List.map_append, List.append_assoc, List.getD_eq_getElem?_getD, List.getElem?_eq_getElem (by omega)]
  rfl
theorem t_GetDigests (b : List Int) (hb : areB b) (hl : b.length < 2 ^ 40) : DCalls Tryd.prog 87 [.slice 1 (b.map Y)] (gdT (gdigs b)) := by
  refine dcalls_low (rs := [.tmp 2, .tmp 3, .tmp 4]) mixed Tryd.func87 l87 rfl rfl rfl (r := [_, I _, I _]) (Nat.le_of_ble_eq_true rfl) ?_
  have h := t_get_Digest b hb hl
  repeat' ((conv => whnf); first | exact trivial | refine k_call _ (h) ?_ | refine nT_ ?_ | refine aE1 ?_ | refine aE0 ?_ | refine aN1 ?_ | refine aN0 ?_ | refine aD1 ?_ | refine aD0 ?_ | refine nE_ (fun hq => ?_) (fun hq => ?_) | refine nN_ (fun hq => ?_) (fun hq => ?_) | refine nD_ (fun hq => ?_) (fun hq => ?_) | refine rb1 ?_ | refine rb0 ?_ | refine rbx ?_ | refine rix ?_ | refine aS ?_ | fail)
theorem t_refGetDigests (b : List Int) (hb : areB b) (hl : b.length < 2 ^ 40) : DCalls Tryd.prog 65 [.slice 1 (b.map Y)] (gdT (gdigs b)) := by
  refine dcalls_low (rs := [.tmp 2, .tmp 3, .tmp 4]) mixed Tryd.func65 l65 rfl rfl rfl (r := [_, I _, I _]) (Nat.le_of_ble_eq_true rfl) ?_
  have hL := t_refLength b 16 hb (by omega) (by omega) (by omega)
  obtain ⟨g1, g2, g3, g4⟩ := gl_ok (least := 16) hb (by omega)
  have hgi : gdigs b = if (gl b 16).2.2 ≠ 0 then ([], 0, (gl b 16).2.2) else ((gds (gl b 16).1.toNat b (gl b 16).2.1 []).1, (gds (gl b 16).1.toNat b (gl b 16).2.1 []).2, 0) := rfl
  generalize gl b 16 = g at *
  obtain ⟨n, u, e⟩ := g
  dsimp only at *
  by_cases e0 : e = 0
  case neg =>
    rw [if_pos e0] at hgi
    rw [hgi]
    show wpC _ _ _ (Post _ _ [if e ≠ 0 then .nil else .slice 16 ([].map dg16), I 0, I e])
    rw [if_pos e0]
    repeat' ((conv => whnf); first | exact trivial | refine k_call _ (hL) ?_ | refine now_N1 e0 ?_ | refine nT_ ?_ | refine aE1 ?_ | refine aE0 ?_ | refine aN1 ?_ | refine aN0 ?_ | refine aD1 ?_ | refine aD0 ?_ | refine nE_ (fun hq => ?_) (fun hq => ?_) | refine nN_ (fun hq => ?_) (fun hq => ?_) | refine nD_ (fun hq => ?_) (fun hq => ?_) | refine rb1 ?_ | refine rb0 ?_ | refine rbx ?_ | refine rix ?_ | refine aS ?_ | fail)
  rw [if_neg (fun h => h e0)] at hgi
  rw [hgi]
  repeat' ((conv => whnf); first | exact trivial | refine k_call _ (hL) ?_ | refine now_N0 e0 ?_ | refine nT_ ?_ | refine aE1 ?_ | refine aE0 ?_ | refine aN1 ?_ | refine aN0 ?_ | refine aD1 ?_ | refine aD0 ?_ | refine nE_ (fun hq => ?_) (fun hq => ?_) | refine nN_ (fun hq => ?_) (fun hq => ?_) | refine nD_ (fun hq => ?_) (fun hq => ?_) | refine rb1 ?_ | refine rb0 ?_ | refine rbx ?_ | refine rix ?_ | refine aS ?_ | fail)
  refine wpC_loopE 0 (α := Nat × Nat × Int × List (List Int)) (β := Nat × Int × List (List Int)) (fun q => {sl := [(0, .t (.slice 1 (b.map Y))), (5, .t (I n)), (6, .t (I q.2.2.1)), (8, .own q.1 49 16 (q.2.2.2.map dg16)), (9, .t (I q.2.1))], bx := []})
    (fun q => q.2.1 ≤ n.toNat ∧ q.2.2.2.length = q.2.1 ∧ 0 ≤ q.2.2.1 ∧ q.2.2.1 + 16 * (n.toNat - q.2.1 : Nat) ≤ b.length ∧ (∀ x ∈ q.2.2.2, x.length = 16) ∧ gds (n.toNat - q.2.1) b q.2.2.1 q.2.2.2 = gds n.toNat b u []) (fun q => n.toNat - q.2.1)
    (fun q => {sl := [(6, .t (I q.2.1)), (8, .own q.1 49 16 (q.2.2.map dg16))], bx := []}) (fun q => gds n.toNat b u [] = (q.2.2, q.2.1) ∧ ∀ x ∈ q.2.2, x.length = 16) (41, 0, u, []) ⟨by simp, rfl, g2, by dsimp only; omega, by simp, rfl⟩ ?_ ?_ ?_
  · repeat' (first | exact trivial | exact LeV.same _ | exact LeB.same _ | exact rfl | exact fun _ _ _ => trivial | exact lI | exact LeV.nil _ _ _ | exact lB | refine leBd ?_ | refine leOwn ?_ | refine And.intro ?_ ?_)
  · rintro ⟨q, k, a, acc⟩ ⟨hk, hla, ha0, ha1, h16, ho⟩
    dsimp only at hk hla ha0 ha1 h16 ho
    rcases Nat.lt_or_ge k n.toNat with h2 | h2
    · rw [gds_step k h2] at ho
      have hx : ((b.drop a.toNat).take 16).length = 16 := by simp; omega
      have hxg : ∀ i, i < 16 → (b.map Y)[a.toNat + i]? = some (Y (((b.drop a.toNat).take 16).getD i 0)) := fun i hi => by
        have h3 : a.toNat + i < b.length := by omega
        rw [List.getElem?_map, List.getElem?_eq_getElem h3, List.getD_eq_getElem?_getD, List.getElem?_take, if_pos hi, List.getElem?_drop, List.getElem?_eq_getElem h3]; rfl
      generalize (b.drop a.toNat).take 16 = x at hx ho hxg
      have hx2 : (x.map Y).length = 16 := (List.length_map _).trans hx
      repeat' ((conv => whnf); first | exact trivial | (refine now_D1 (by simp; omega) ?_) | refine nT_ ?_ | refine aE1 ?_ | refine aE0 ?_ | refine aN1 ?_ | refine aN0 ?_ | refine aD1 ?_ | refine aD0 ?_ | refine nE_ (fun hq => ?_) (fun hq => ?_) | refine nN_ (fun hq => ?_) (fun hq => ?_) | refine nD_ (fun hq => ?_) (fun hq => ?_) | refine rb1 ?_ | refine rb0 ?_ | refine rbx ?_ | refine rix ?_ | refine aS ?_ | fail)
      (conv => whnf)
      refine wpC_loopE 2 (α := Nat) (β := Unit) (fun i => {sl := [(0, .t (.slice 1 (b.map Y))), (5, .t (I n)), (6, .t (I a)), (8, .own q 49 16 (acc.map dg16)), (9, .t (I k)), (10, .ptr 10 0), (11, .t (I i))], bx := [(10, .d 16 ((x.take i).map Y ++ List.replicate (16 - i) (Y 0)))]})
        (fun i => i ≤ 16) (fun i => 16 - i) (fun _ => {sl := [(0, .t (.slice 1 (b.map Y))), (5, .t (I n)), (6, .t (I a)), (8, .own q 49 16 (acc.map dg16)), (9, .t (I k)), (10, .ptr 10 0)], bx := [(10, .d 16 (x.map Y))]}) (fun _ => True) 0 (by omega) ?_ ?_ ?_
      · repeat' (first | exact trivial | exact LeV.same _ | exact LeB.same _ | exact rfl | exact fun _ _ _ => trivial | exact lI | exact LeV.nil _ _ _ | exact lB | refine leBd ?_ | refine leOwn ?_ | refine And.intro ?_ ?_)
      · intro i hi
        rcases Nat.lt_or_ge i 16 with h3 | h3
        · have hi1 : ((i + 1 : Nat) : Int) = IntKind.i64.wrap ((i : Int) + 1) := by rw [wrap_id (by omega) (by omega)]; rfl
          have hai : (IntKind.i64.wrap (a + i)).toNat = a.toNat + i := by rw [wrap_id (by omega) (by omega)]; omega
          have hai2 : 0 ≤ IntKind.i64.wrap (a + i) ∧ IntKind.i64.wrap (a + i) < ((b.map Y).length : Int) := by rw [wrap_id (by omega) (by omega), List.length_map]; omega
          have hv : ((b.map Y)[(IntKind.i64.wrap (a + i)).toNat]?.getD .nil) = Y (x.getD i 0) := by rw [hai, hxg i h3]; rfl
          repeat' ((conv => whnf); first | exact trivial | (refine now_D1 (by simp; omega) ?_) | (refine nv_ (Y (x.getD i 0)) (by first | (exact hv; done) | fail) ?_) | refine nT_ ?_ | refine aE1 ?_ | refine aE0 ?_ | refine aN1 ?_ | refine aN0 ?_ | refine aD1 ?_ | refine aD0 ?_ | refine nE_ (fun hq => ?_) (fun hq => ?_) | refine nN_ (fun hq => ?_) (fun hq => ?_) | refine nD_ (fun hq => ?_) (fun hq => ?_) | refine rb1 ?_ | refine rb0 ?_ | refine rbx ?_ | refine rix ?_ | (refine And.intro (by first | (exact hai2; done) | ((simp; omega); done) | fail) ?_) | refine aS ?_ | fail)
          refine ⟨i + 1, by omega, by omega, ?_⟩
          repeat' (first | ((refine leI ?_; exact hi1)) | ((refine leBd ?_; exact (fill16 hx h3 (by simp)).symm)) | exact trivial | exact LeV.same _ | exact LeB.same _ | exact rfl | exact fun _ _ _ => trivial | exact lI | exact LeV.nil _ _ _ | exact lB | refine leBd ?_ | refine leOwn ?_ | refine And.intro ?_ ?_)
        · have : i = 16 := by omega
          subst this
          repeat' ((conv => whnf); first | exact trivial | refine now_D0 (by simp) ?_ | refine nT_ ?_ | refine aE1 ?_ | refine aE0 ?_ | refine aN1 ?_ | refine aN0 ?_ | refine aD1 ?_ | refine aD0 ?_ | refine nE_ (fun hq => ?_) (fun hq => ?_) | refine nN_ (fun hq => ?_) (fun hq => ?_) | refine nD_ (fun hq => ?_) (fun hq => ?_) | refine rb1 ?_ | refine rb0 ?_ | refine rbx ?_ | refine rix ?_ | refine aS ?_ | fail)
          exact ⟨(), trivial, by repeat' (first | ((refine leBd ?_; rw [List.take_of_length_le (by omega)]; simp; done)) | exact trivial | exact LeV.same _ | exact LeB.same _ | exact rfl | exact fun _ _ _ => trivial | exact lI | exact LeV.nil _ _ _ | exact lB | refine leBd ?_ | refine leOwn ?_ | refine And.intro ?_ ?_)⟩
      rintro - -
      repeat' ((conv => whnf); first | exact trivial | refine nT_ ?_ | refine aE1 ?_ | refine aE0 ?_ | refine aN1 ?_ | refine aN0 ?_ | refine aD1 ?_ | refine aD0 ?_ | refine nE_ (fun hq => ?_) (fun hq => ?_) | refine nN_ (fun hq => ?_) (fun hq => ?_) | refine nD_ (fun hq => ?_) (fun hq => ?_) | refine rb1 ?_ | refine rb0 ?_ | refine rbx ?_ | refine rix ?_ | (refine And.intro (by first | (exact ⟨hx2, Nat.le_of_ble_eq_true rfl⟩; done) | (exact hx2; done) | (exact ⟨trivial, (congrArg List.length (putL_all (n := 16) rfl)).trans hx2⟩; done) | (exact ⟨trivial, hx2⟩; done) | ((simp; omega); done) | fail) ?_) | refine aS ?_ | fail)
      have hw1 : a + 16 = IntKind.i64.wrap (a + 16) := (wrap_id (by omega) (by omega)).symm
      have hw2 : ((k + 1 : Nat) : Int) = IntKind.i64.wrap ((k : Int) + 1) := by rw [wrap_id (by omega) (by omega)]; rfl
      refine ⟨(41, k + 1, a + 16, acc ++ [x]), ⟨by dsimp only; omega, by simp [hla], by dsimp only; omega, by dsimp only; omega, fun y hy => ?_, ho⟩, by dsimp only; omega, ?_⟩
      · rcases List.mem_append.1 hy with hy | hy
        · exact h16 y hy
        · rw [List.mem_singleton.1 hy]; exact hx
      repeat' (first | ((refine leI ?_; first | exact hw1 | exact hw2)) | ((refine leOwn ?_; rw [List.map_append]; rfl)) | exact trivial | exact LeV.same _ | exact LeB.same _ | exact rfl | exact fun _ _ _ => trivial | exact lI | exact LeV.nil _ _ _ | exact lB | refine leBd ?_ | refine leOwn ?_ | refine And.intro ?_ ?_)
    · have : k = n.toNat := by omega
      subst this
      rw [Nat.sub_self] at ho
      repeat' ((conv => whnf); first | exact trivial | (refine now_D0 (by simp; omega) ?_) | refine nT_ ?_ | refine aE1 ?_ | refine aE0 ?_ | refine aN1 ?_ | refine aN0 ?_ | refine aD1 ?_ | refine aD0 ?_ | refine nE_ (fun hq => ?_) (fun hq => ?_) | refine nN_ (fun hq => ?_) (fun hq => ?_) | refine nD_ (fun hq => ?_) (fun hq => ?_) | refine rb1 ?_ | refine rb0 ?_ | refine rbx ?_ | refine rix ?_ | refine aS ?_ | fail)
      exact ⟨(q, a, acc), ⟨ho.symm, h16⟩, by repeat' (first | exact trivial | exact LeV.same _ | exact LeB.same _ | exact rfl | exact fun _ _ _ => trivial | exact lI | exact LeV.nil _ _ _ | exact lB | refine leBd ?_ | refine leOwn ?_ | refine And.intro ?_ ?_)⟩
  rintro ⟨q, a, acc⟩ ⟨h, h16⟩
  rw [h]
  repeat' ((conv => whnf); first | exact trivial | refine nT_ ?_ | refine aE1 ?_ | refine aE0 ?_ | refine aN1 ?_ | refine aN0 ?_ | refine aD1 ?_ | refine aD0 ?_ | refine nE_ (fun hq => ?_) (fun hq => ?_) | refine nN_ (fun hq => ?_) (fun hq => ?_) | refine nD_ (fun hq => ?_) (fun hq => ?_) | refine rb1 ?_ | refine rb0 ?_ | refine rbx ?_ | refine rix ?_ | refine aS ?_ | fail)
  all_goals (conv => whnf)
  all_goals done
end Go.RC
end
section
namespace Go.RC
open Go Go.DL Go.Proofs
set_option maxRecDepth 100000
set_option maxHeartbeats 1000000
theorem un_zz (n : Int) : un (zz n : Nat) = n := by unfold un zz; split <;> split <;> omega
theorem zz_un {m : Nat} : zz (un (m : Int)) = m := by unfold un zz; split <;> split <;> omega
theorem vb_pos (m : Nat) : 1 ≤ (vb m).length := by
  by_cases h : m < 128
  · rw [vb_lt h]; simp
  · rw [vb_ge h]; simp
theorem vi_pos (n : Int) : 1 ≤ (vi n).length := vb_pos _
theorem pow9 : (128 : Int) ^ 9 = 9223372036854775808 := by decide
theorem gz_vb : ∀ (m k : Nat) (z : Int) (r : List Int), 0 ≤ z → z + (m : Int) * 128 ^ k < 18446744073709551616 → (k > 0 → m > 0) → gz k z (vb m ++ r) = (un (z + (m : Int) * 128 ^ k), (k : Int) + (vb m).length, 0) := by
  intro m
  induction m using Nat.strongRecOn with
  | ind m ih =>
    intro k z r hz hlt hk
    have hp : (0 : Int) < 128 ^ k := Int.pow_pos (by decide)
    have h9 : k = 9 → m < 2 := fun h => by subst h; rw [pow9] at hlt; omega
    by_cases h : m < 128
    · rw [vb_lt h]
      show gz k z ((m : Int) :: r) = _
      rw [gz, if_neg (by rintro (⟨a, b⟩ | ⟨a, b⟩); · have := h9 a; omega
                         · have := hk a; omega), if_pos (by omega)]
      rw [show (m : Int) % 128 = m by omega]
      rfl
    · rw [vb_ge h]
      show gz k z (((m % 128 + 128 : Nat) : Int) :: (vb (m / 128) ++ r)) = _
      rw [gz, if_neg (by rintro (⟨a, b⟩ | ⟨a, b⟩); · have := h9 a; omega
                         · omega), if_neg (by omega)]
      rw [show ((m % 128 + 128 : Nat) : Int) % 128 = ((m % 128 : Nat) : Int) by omega]
      have e : z + ((m % 128 : Nat) : Int) * 128 ^ k + ((m / 128 : Nat) : Int) * 128 ^ (k + 1) = z + (m : Int) * 128 ^ k := by
        rw [Int.pow_succ, Int.mul_comm (128 ^ k) 128, ← Int.mul_assoc, Int.add_assoc, ← Int.add_mul]
        congr 2; omega
      have h1 : (0 : Int) ≤ ((m % 128 : Nat) : Int) * 128 ^ k := Int.mul_nonneg (by omega) (Int.le_of_lt hp)
      rw [ih (m / 128) (by omega) (k + 1) _ r (by omega) (by rw [e]; exact hlt) (fun _ => by omega), e, List.length_cons]
      congr 2
      omega
theorem gi_vi {n : Int} (h : i64 n) (r : List Int) : gi (vi n ++ r) = (n, (((vi n).length : Nat) : Int), 0) := by
  have := gz_vb (zz n) 0 0 r (by omega) (by have := zz_lt h; omega) (fun h => by omega)
  unfold gi vi
  rw [this]
  have e : (0 : Int) + ((zz n : Nat) : Int) * 128 ^ 0 = ((zz n : Nat) : Int) := by simp
  rw [e, un_zz]
  simp
theorem gz_inv : ∀ {b : List Int} {k : Nat} {z : Int}, areB b → k ≤ 9 → 0 ≤ z → z < 128 ^ k → (gz k z b).2.2 = 0 → ∃ m : Nat, (gz k z b).2.1 = k + (vb m).length ∧ b = vb m ++ b.drop (vb m).length ∧ (gz k z b).1 = un (z + (m : Int) * 128 ^ k) ∧ (k > 0 → m > 0)
  | [], k, z, _, _, _, _, h => by rw [gz] at h; simp at h
  | c :: r, k, z, hb, hk, hz, hz2, h => by
    obtain ⟨c0, c1⟩ := hb c (by simp)
    obtain ⟨c, rfl⟩ := Int.eq_ofNat_of_zero_le c0
    have hr : areB r := fun x hx => hb x (by simp [hx])
    rw [gz] at h ⊢
    by_cases hE : (k = 9 ∧ (c : Int) > 1) ∨ (k > 0 ∧ (c : Int) = 0)
    · rw [if_pos hE] at h; simp at h
    rw [if_neg hE] at h ⊢
    obtain ⟨-, d1, d2, d3⟩ := digit hz hz2 hk c0 c1 (fun h => by omega)
    by_cases c8 : (c : Int) < 128
    · rw [if_pos c8]
      refine ⟨c, ?_, ?_, ?_, fun hk0 => by omega⟩
      · rw [vb_lt (by omega)]; rfl
      · rw [vb_lt (by omega)]; rfl
      · rw [show (c : Int) % 128 = c by omega]
    · rw [if_neg c8] at h ⊢
      obtain ⟨m, q1, q2, q3, q4⟩ := gz_inv (b := r) (k := k + 1) hr (by omega) d1 d2 h
      have hm := q4 (by omega)
      refine ⟨c % 128 + 128 * m, ?_, ?_, ?_, fun _ => by omega⟩
      · rw [q1, vb_ge (z := c % 128 + 128 * m) (by omega), show (c % 128 + 128 * m) / 128 = m by omega, List.length_cons]; omega
      · rw [vb_ge (z := c % 128 + 128 * m) (by omega), show (c % 128 + 128 * m) / 128 = m by omega, show (c % 128 + 128 * m) % 128 + 128 = c by omega, List.length_cons, List.drop_succ_cons, List.cons_append, ← q2]
      · rw [q3]
        congr 1
        rw [Int.pow_succ, Int.mul_comm (128 ^ k) 128, ← Int.mul_assoc, Int.add_assoc, ← Int.add_mul]
        congr 2; omega
theorem gi_inv {b : List Int} (hb : areB b) (h : (gi b).2.2 = 0) : (gi b).2.1 = (vi (gi b).1).length ∧ b = vi (gi b).1 ++ b.drop (gi b).2.1.toNat := by
  obtain ⟨m, q1, q2, q3, q4⟩ := gz_inv (b := b) (k := 0) (z := 0) hb (by omega) (by omega) (by decide) h
  have e : (gi b).1 = un (m : Int) := by
    rw [show (gi b).1 = un (0 + (m : Int) * 128 ^ 0) from q3]; simp
  have q1 : (gi b).2.1 = ((vb m).length : Int) := by rw [show (gi b).2.1 = ((0 : Nat) : Int) + (vb m).length from q1]; simp
  rw [e]
  unfold vi
  rw [zz_un, q1]
  exact ⟨rfl, by simpa using q2⟩
theorem gl_vi {k : Nat} {r : List Int} {least : Int} (h0 : 0 < least) (hk : k < 2 ^ 62) (h : (k : Int) * least ≤ r.length) : gl (vi k ++ r) least = ((k : Int), (((vi k).length : Nat) : Int), 0) := by
  unfold gl
  rw [gi_vi (i64_nat hk)]
  dsimp only
  rw [if_neg (by simp), if_neg (by omega), if_neg]
  have e : (((vi k ++ r).length : Nat) : Int) - ((vi k).length : Int) = r.length := by rw [List.length_append]; omega
  rw [e]
  have := (Int.le_ediv_iff_mul_le h0).2 h
  omega
theorem gl_inv {b : List Int} {least : Int} (hb : areB b) (h : (gl b least).2.2 = 0) : 0 ≤ (gl b least).1 ∧ i64 (gl b least).1 ∧ (gl b least).2.1 = (vi (gl b least).1).length ∧ b = vi (gl b least).1 ++ b.drop (gl b least).2.1.toNat := by
  have h1 := gi_inv hb
  obtain ⟨h2, -⟩ := gi_ok hb
  unfold gl at h ⊢
  by_cases c1 : (gi b).2.2 ≠ 0
  · rw [if_pos c1] at h; exact absurd h c1
  rw [if_neg c1] at h ⊢
  by_cases c2 : (gi b).1 < 0
  · rw [if_pos c2] at h; simp at h
  rw [if_neg c2] at h ⊢
  by_cases c3 : (gi b).1 > (b.length - (gi b).2.1) / least
  · rw [if_pos c3] at h; simp at h
  rw [if_neg c3]
  obtain ⟨q1, q2⟩ := h1 (by simpa using c1)
  exact ⟨by dsimp only; omega, h2, q1, q2⟩
theorem flat_pos : ∀ (l : List Int), l.length ≤ (l.flatMap vi).length
  | [] => by simp
  | x :: l => by
    have := flat_pos l
    have := vi_pos x
    simp only [List.flatMap_cons, List.length_append, List.length_cons]; omega
theorem gis_flat {b r : List Int} : ∀ {l acc : List Int} {a : Int}, 0 ≤ a → b.drop a.toNat = l.flatMap vi ++ r → (∀ x ∈ l, i64 x) → gis l.length b a acc = (acc ++ l, a + (l.flatMap vi).length, 0)
  | [], acc, a, h0, h, _ => by simp [gis]
  | x :: l, acc, a, h0, h, hx => by
    have h1 : gi (b.drop a.toNat) = (x, (((vi x).length : Nat) : Int), 0) := by rw [h, List.flatMap_cons, List.append_assoc]; exact gi_vi (hx x (by simp)) _
    show gis (l.length + 1) b a acc = _
    rw [gis, h1, if_neg (by simp)]
    dsimp only
    rw [gis_flat (l := l) (by omega) (by
      rw [show (a + ((vi x).length : Int)).toNat = a.toNat + (vi x).length by omega, ← List.drop_drop, h, List.flatMap_cons, List.append_assoc, List.drop_left]) (fun y hy => hx y (by simp [hy]))]
    simp only [List.append_assoc, List.singleton_append, List.flatMap_cons, List.length_append]
    congr 2
    omega
theorem gints_vis {l r : List Int} (hl : l.length < 2 ^ 62) (hx : ∀ x ∈ l, i64 x) : gints (vis l ++ r) = (l, (((vis l).length : Nat) : Int), 0) := by
  unfold gints vis
  rw [List.append_assoc, gl_vi (by decide) hl (by have := flat_pos l; rw [List.length_append]; omega)]
  dsimp only
  rw [if_neg (by simp), Int.toNat_natCast, gis_flat (r := r) (by omega) (by rw [Int.toNat_natCast, List.drop_left]) hx]
  simp
theorem gis_inv {b : List Int} (hb : areB b) : ∀ {n : Nat} {acc : List Int} {a : Int}, 0 ≤ a → (gis n b a acc).2.2 = 0 → ∃ l, (gis n b a acc).1 = acc ++ l ∧ l.length = n ∧ (∀ x ∈ l, i64 x) ∧ (gis n b a acc).2.1 = a + (l.flatMap vi).length ∧ b.drop a.toNat = l.flatMap vi ++ b.drop (gis n b a acc).2.1.toNat
  | 0, acc, a, h0, h => ⟨[], by simp [gis], rfl, by simp, by simp [gis], by simp [gis]⟩
  | n + 1, acc, a, h0, h => by
    have hd := areB_drop hb a.toNat
    rw [gis] at h ⊢
    by_cases c : (gi (b.drop a.toNat)).2.2 ≠ 0
    · rw [if_pos c] at h; exact absurd h c
    rw [if_neg c] at h ⊢
    obtain ⟨q1, q2⟩ := gi_inv hd (by simpa using c)
    obtain ⟨i1, -⟩ := gi_ok hd
    generalize gi (b.drop a.toNat) = g at *
    obtain ⟨v, u, e⟩ := g
    dsimp only at *
    obtain ⟨l, p1, p2, p3, p4, p5⟩ := gis_inv hb (n := n) (acc := acc ++ [v]) (a := a + u) (by omega) h
    refine ⟨v :: l, ?_, by simp [p2], ?_, ?_, ?_⟩
    · rw [p1]; simp
    · intro x hx
      rcases List.mem_cons.1 hx with rfl | hx
      · exact i1
      · exact p3 x hx
    · rw [p4, List.flatMap_cons, List.length_append]; omega
    · rw [q2, List.drop_drop, show a.toNat + u.toNat = (a + u).toNat by omega, p5, List.flatMap_cons, List.append_assoc]
theorem gints_inv {b : List Int} (hb : areB b) (h : (gints b).2.2 = 0) : (∀ x ∈ (gints b).1, i64 x) ∧ (gints b).2.1 = (vis (gints b).1).length ∧ b = vis (gints b).1 ++ b.drop (gints b).2.1.toNat := by
  have hG := @gl_inv b 1 hb
  unfold gints at h ⊢
  by_cases c : (gl b 1).2.2 ≠ 0
  · rw [if_pos c] at h; exact absurd h c
  rw [if_neg c] at h ⊢
  obtain ⟨q0, -, q1, q2⟩ := hG (by simpa using c)
  generalize gl b 1 = g at *
  obtain ⟨n, u, e⟩ := g
  dsimp only at *
  obtain ⟨l, p1, p2, p3, p4, p5⟩ := gis_inv hb (n := n.toNat) (acc := []) (a := u) (by omega) h
  rw [List.nil_append] at p1
  rw [p1]
  have hn : ((l.length : Nat) : Int) = n := by omega
  refine ⟨p3, ?_, ?_⟩
  · rw [p4, vis, hn, List.length_append, q1]; omega
  · rw [vis, hn, List.append_assoc, ← p5]; exact q2
theorem gds_inv {b : List Int} : ∀ {n : Nat} {acc : List (List Int)} {a : Int}, 0 ≤ a → a + 16 * n ≤ b.length → ∃ l, (gds n b a acc).1 = acc ++ l ∧ l.length = n ∧ (∀ x ∈ l, x.length = 16) ∧ (gds n b a acc).2 = a + 16 * n ∧ b.drop a.toNat = l.flatten ++ b.drop (gds n b a acc).2.toNat
  | 0, acc, a, h0, h => ⟨[], by simp [gds], rfl, by simp, by simp [gds], by simp [gds]⟩
  | n + 1, acc, a, h0, h => by
    rw [gds]
    obtain ⟨l, p1, p2, p3, p4, p5⟩ := gds_inv (b := b) (n := n) (acc := acc ++ [(b.drop a.toNat).take 16]) (a := a + 16) (by omega) (by omega)
    refine ⟨(b.drop a.toNat).take 16 :: l, ?_, by simp [p2], ?_, ?_, ?_⟩
    · rw [p1]; simp
    · intro x hx
      rcases List.mem_cons.1 hx with rfl | hx
      · simp; omega
      · exact p3 x hx
    · rw [p4]; omega
    · rw [List.flatten_cons, List.append_assoc, ← p5, show (a + 16).toNat = a.toNat + 16 by omega, ← List.drop_drop, List.take_append_drop]
theorem gdigs_one {pv r : List Int} (hp : pv.length = 16) : gdigs (digs [pv] ++ r) = ([pv], (((digs [pv]).length : Nat) : Int), 0) := by
  have e : digs [pv] ++ r = vi (1 : Nat) ++ (pv ++ r) := by simp [digs]
  rw [e]
  unfold gdigs
  rw [gl_vi (by decide) (by decide) (by rw [List.length_append]; omega)]
  dsimp only
  rw [if_neg (by simp)]
  show ((gds 1 _ _ []).1, (gds 1 _ _ []).2, 0) = _
  rw [gds, gds, Int.toNat_natCast, List.drop_left, List.take_left' hp]
  simp [digs, hp]
theorem gdigs_inv {b : List Int} (hb : areB b) (h : (gdigs b).2.2 = 0) : (∀ x ∈ (gdigs b).1, x.length = 16) ∧ (gdigs b).2.1 = (digs (gdigs b).1).length ∧ b = digs (gdigs b).1 ++ b.drop (gdigs b).2.1.toNat := by
  have hG := @gl_inv b 16 hb
  obtain ⟨-, -, -, g4⟩ := gl_ok (least := 16) hb (by omega)
  unfold gdigs at h ⊢
  by_cases c : (gl b 16).2.2 ≠ 0
  · rw [if_pos c] at h; exact absurd h c
  rw [if_neg c]
  obtain ⟨q0, -, q1, q2⟩ := hG (by simpa using c)
  generalize gl b 16 = g at *
  obtain ⟨n, u, e⟩ := g
  dsimp only at *
  obtain ⟨l, p1, p2, p3, p4, p5⟩ := gds_inv (b := b) (n := n.toNat) (acc := []) (a := u) (by omega) (by omega)
  rw [List.nil_append] at p1
  rw [p1]
  have hn : ((l.length : Nat) : Int) = n := by omega
  have hfl : ∀ l : List (List Int), (∀ x ∈ l, x.length = 16) → l.flatten.length = 16 * l.length := fun l h => by
    induction l with
    | nil => rfl
    | cons x l ih =>
      have := ih (fun y hy => h y (by simp [hy]))
      have := h x (by simp)
      simp only [List.flatten_cons, List.length_append, List.length_cons]; omega
  refine ⟨p3, ?_, ?_⟩
  · rw [p4, digs, hn, List.length_append, q1, hfl l p3]; omega
  · rw [digs, hn, List.append_assoc, ← p5]; exact q2
end Go.RC
end
section
namespace Go.RC
open Go Go.DL Go.Proofs
set_option maxRecDepth 100000
set_option maxHeartbeats 1000000
def decL : Nat → List Int → List (List Int) → List (List Int) × List Int × Int
  | 0, b, acc => (acc, b, 0)
  | n + 1, b, acc => if (gints b).2.2 ≠ 0 then ([], [], (gints b).2.2) else if (gints b).1.length ≠ 8 then ([], [], 6) else decL n (b.drop (gints b).2.1.toNat) (acc ++ [(gints b).1])
def zRc : Rc := ⟨0, 0, [], zero16⟩
def dec3 (n i : Int) (ls : List (List Int)) (b : List Int) : Rc × Int :=
  if (gdigs b).2.2 ≠ 0 then (zRc, (gdigs b).2.2) else if (gdigs b).1.length ≠ 1 ∨ (gdigs b).2.1 ≠ b.length then (zRc, 6) else (⟨n, i, ls, (gdigs b).1.headD []⟩, 0)
def dec2 (n i : Int) (d : List (List Int) × List Int × Int) : Rc × Int := if d.2.2 ≠ 0 then (zRc, d.2.2) else dec3 n i d.1 d.2.1
def dec1 (n i : Int) (b : List Int) : Rc × Int :=
  if (gi b).2.2 ≠ 0 then (zRc, (gi b).2.2) else if (gi b).1 < 0 then (zRc, 6) else if (gi b).1 > 1000 then (zRc, 2) else dec2 n i (decL (gi b).1.toNat (b.drop (gi b).2.1.toNat) [])
def dec (b : List Int) : Rc × Int :=
  if (gints b).2.2 ≠ 0 then (zRc, (gints b).2.2) else if (gints b).1.length ≠ 2 then (zRc, 6) else dec1 ((gints b).1.getD 0 0) ((gints b).1.getD 1 0) (b.drop (gints b).2.1.toNat)
theorem decL_enc : ∀ {ls acc : List (List Int)} {r : List Int}, (∀ x ∈ ls, x.length = 8 ∧ ∀ y ∈ x, i64 y) → decL ls.length (encL ls ++ r) acc = (acc ++ ls, r, 0)
  | [], acc, r, _ => by simp [decL, encL]
  | x :: ls, acc, r, h => by
    have h1 : gints (encL (x :: ls) ++ r) = (x, (((vis x).length : Nat) : Int), 0) := by
      unfold encL
      rw [List.flatMap_cons, List.append_assoc]
      exact gints_vis (by rw [(h x (by simp)).1]; decide) (h x (by simp)).2
    show decL (ls.length + 1) (encL (x :: ls) ++ r) acc = _
    rw [decL, h1, if_neg (by simp), if_neg (by simp [(h x (by simp)).1])]
    dsimp only
    rw [Int.toNat_natCast]
    have e : (encL (x :: ls) ++ r).drop (vis x).length = encL ls ++ r := by
      unfold encL
      rw [List.flatMap_cons, List.append_assoc, List.drop_left]
    rw [e, decL_enc (fun y hy => h y (by simp [hy]))]
    simp
theorem dec_enc {n i : Int} {ls : List (List Int)} {pv : List Int} (h : okR n i ls pv) (hl : ls.length ≤ 1000) : dec (enc n i ls pv) = (⟨n, i, ls, pv⟩, 0) := by
  have e : enc n i ls pv = vis [n, i] ++ (vi (ls.length : Nat) ++ (encL ls ++ digs [pv])) := by simp [enc, enc0]
  rw [e]
  unfold dec
  rw [gints_vis (by simp) h.two, if_neg (by simp), if_neg (by simp)]
  dsimp only
  rw [Int.toNat_natCast, List.drop_left]
  show dec1 n i _ = _
  unfold dec1
  rw [gi_vi (i64_nat (by omega)), if_neg (by simp), if_neg (by dsimp only; omega), if_neg (by dsimp only; omega)]
  dsimp only
  rw [Int.toNat_natCast, Int.toNat_natCast, List.drop_left, decL_enc h.hx]
  unfold dec2
  rw [if_neg (by simp)]
  dsimp only
  unfold dec3
  have hg := gdigs_one (r := []) h.hp
  rw [List.append_nil] at hg
  rw [hg, if_neg (by simp), if_neg (by simp)]
  rfl
theorem decL_inv : ∀ {k : Nat} {b : List Int} {acc : List (List Int)}, areB b → (decL k b acc).2.2 = 0 → ∃ ls, (decL k b acc).1 = acc ++ ls ∧ ls.length = k ∧ (∀ x ∈ ls, x.length = 8 ∧ ∀ y ∈ x, i64 y) ∧ b = encL ls ++ (decL k b acc).2.1
  | 0, b, acc, _, _ => ⟨[], by simp [decL], rfl, by simp, by simp [decL, encL]⟩
  | k + 1, b, acc, hb, h => by
    rw [decL] at h ⊢
    by_cases c : (gints b).2.2 ≠ 0
    · rw [if_pos c] at h; exact absurd h c
    rw [if_neg c] at h ⊢
    by_cases c8 : (gints b).1.length ≠ 8
    · rw [if_pos c8] at h; simp at h
    rw [if_neg c8] at h ⊢
    obtain ⟨g1, g2, g3⟩ := gints_inv hb (by simpa using c)
    obtain ⟨ls, q1, q2, q3, q4⟩ := decL_inv (b := b.drop (gints b).2.1.toNat) (areB_drop hb _) h
    refine ⟨(gints b).1 :: ls, ?_, by simp [q2], ?_, ?_⟩
    · rw [q1]; simp
    · intro x hx
      rcases List.mem_cons.1 hx with rfl | hx
      · exact ⟨by simpa using c8, g1⟩
      · exact q3 x hx
    · unfold encL
      rw [List.flatMap_cons, List.append_assoc]
      show b = vis _ ++ (encL ls ++ _)
      rw [← q4]; exact g3
theorem dec_inv {b : List Int} (hb : areB b) (h : (dec b).2 = 0) : enc (dec b).1.n (dec b).1.i (dec b).1.ls (dec b).1.pv = b ∧ okR (dec b).1.n (dec b).1.i (dec b).1.ls (dec b).1.pv ∧ (dec b).1.ls.length ≤ 1000 := by
  unfold dec at h ⊢
  by_cases c : (gints b).2.2 ≠ 0
  · rw [if_pos c] at h; exact absurd h c
  rw [if_neg c] at h ⊢
  by_cases c2 : (gints b).1.length ≠ 2
  · rw [if_pos c2] at h; simp at h
  rw [if_neg c2] at h ⊢
  obtain ⟨g1, g2, g3⟩ := gints_inv hb (by simpa using c)
  generalize gints b = t at *
  obtain ⟨l, u, e⟩ := t
  dsimp only at *
  obtain ⟨n, i, rfl⟩ : ∃ n i, l = [n, i] := by
    match l, c2 with
    | [n, i], _ => exact ⟨n, i, rfl⟩
    | [], c2 => simp at c2
    | [_], c2 => simp at c2
    | _ :: _ :: _ :: _, c2 => simp at c2
  have hb1 := areB_drop hb u.toNat
  generalize b.drop u.toNat = b1 at *
  show enc (dec1 n i b1).1.n (dec1 n i b1).1.i (dec1 n i b1).1.ls (dec1 n i b1).1.pv = b ∧ okR (dec1 n i b1).1.n (dec1 n i b1).1.i (dec1 n i b1).1.ls (dec1 n i b1).1.pv ∧ (dec1 n i b1).1.ls.length ≤ 1000
  replace h : (dec1 n i b1).2 = 0 := h
  unfold dec1 at h ⊢
  by_cases d : (gi b1).2.2 ≠ 0
  · rw [if_pos d] at h; exact absurd h d
  rw [if_neg d] at h ⊢
  by_cases d2 : (gi b1).1 < 0
  · rw [if_pos d2] at h; simp at h
  rw [if_neg d2] at h ⊢
  by_cases d3 : (gi b1).1 > 1000
  · rw [if_pos d3] at h; simp at h
  rw [if_neg d3] at h ⊢
  obtain ⟨i1, i2⟩ := gi_inv hb1 (by simpa using d)
  generalize gi b1 = t at *
  obtain ⟨k, w, e2⟩ := t
  dsimp only at *
  have hb2 := areB_drop hb1 w.toNat
  generalize b1.drop w.toNat = b2 at *
  have hD := @decL_inv k.toNat b2 [] hb2
  generalize decL k.toNat b2 [] = t at *
  obtain ⟨ls, b3, e3⟩ := t
  unfold dec2 at h ⊢
  by_cases d4 : e3 ≠ 0
  · rw [if_pos d4] at h; exact absurd h d4
  rw [if_neg d4] at h ⊢
  dsimp only at *
  obtain ⟨ls', q1, q2, q3, q4⟩ := hD (by simpa using d4)
  rw [List.nil_append] at q1
  subst q1
  have hb3 : areB b3 := fun x hx => hb2 x (by rw [q4]; simp [hx])
  unfold dec3 at h ⊢
  by_cases d5 : (gdigs b3).2.2 ≠ 0
  · rw [if_pos d5] at h; exact absurd h d5
  rw [if_neg d5] at h ⊢
  by_cases d6 : (gdigs b3).1.length ≠ 1 ∨ (gdigs b3).2.1 ≠ b3.length
  · rw [if_pos d6] at h; simp at h
  rw [if_neg d6]
  simp only [not_or, Decidable.not_not, ne_eq] at d6
  obtain ⟨p1, p2, p3⟩ := gdigs_inv hb3 (by simpa using d5)
  generalize gdigs b3 = t at *
  obtain ⟨ds, v, e4⟩ := t
  dsimp only at *
  obtain ⟨d6, d7⟩ := d6
  match ds, d6 with
  | [pv], _ =>
    have hx3 : b3 = digs [pv] := by
      rw [d7, Int.toNat_natCast, List.drop_length, List.append_nil] at p3; exact p3
    have hpv := p1 pv (by simp)
    refine ⟨?_, ⟨g1 n (by simp), g1 i (by simp), q3, hpv, ?_⟩, ?_⟩
    · show enc n i ls pv = b
      unfold enc enc0
      rw [q2, show ((k.toNat : Nat) : Int) = k by omega, List.append_assoc, List.append_assoc, ← hx3, ← q4, ← i2]; exact g3.symm
    · intro x hx
      refine hb3 x ?_
      rw [hx3]; unfold digs; exact List.mem_append.2 (.inr (by simpa using (show x ∈ pv from hx)))
    · show ls.length ≤ 1000
      omega
def decT (x : Rc × Int) : T := .tup [if x.2 ≠ 0 then .agg z19 else rc x.1, I x.2]
end Go.RC
end
section
namespace Go.RC
open Go Go.DL Go.Proofs
set_option maxRecDepth 100000
set_option maxHeartbeats 1000000
abbrev nk (k : N3) : T := nm k.1 k.2.1 k.2.2
abbrev sh3 : List Sh := [.int .i64, .int .i64, .int .i64]
abbrev mpT (ks : List N3) (vs : List T) : T := .mapd true sh3 (ks.map nk) vs
noncomputable def ropsOf (id : Nat) (c : Option Code) : Array Oper := match rg0 id c with
  | .region _ ops _ => ops
  | _ => #[]
noncomputable abbrev fA : Option Code := Tryd.f100.body
noncomputable abbrev fK : Option Code := Tryd.f91.body
theorem bA : fA = some (.seq (.region 0 (ropsOf 0 fA) false) (.seq (.seq (.region 1 (ropsOf 1 fA) false)
    (.block 0 (.rangeFunc (.tmp 6) #[7] (.region 2 (ropsOf 2 fA) false) (.block 1 (.region 3 (ropsOf 3 fA) false))))) (.seq (.region 4 (ropsOf 4 fA) false) .ret))) := by kernel_rfl
abbrev isA2 : List DI := [⟨some 5, .alloc [I 0, I 0, I 0], none, []⟩, ⟨none, .store 3 (.tmp 5) (.tmp 7), none, [0, 0]⟩]
abbrev isA3 : List DI := [⟨some 8, .load 1 false (.tmp 2), none, []⟩, ⟨some 9, .load 3 true (.tmp 5), none, []⟩, ⟨some 10, .buildS 83 3 1 [I 0, I 0, I 0] [(0, .tmp 9)], none, [1]⟩,
  ⟨some 11, .append 112 83 3 24 (.tmp 8) (.tmp 10), none, [0, 2]⟩, ⟨none, .store 1 (.tmp 2) (.tmp 11), none, [3, 3, 0, 1, 2, 3]⟩]
theorem bA_0 : lowIs Tryd.prog 13 [] (ropsOf 0 fA) (ropsOf 0 fA).toList = some [⟨some 2, .box 1 (.tmp 0), none, []⟩, ⟨some 4, .mov (.const .nil), none, []⟩] := by kernel_rfl
theorem bA_1 : lowIs Tryd.prog 13 [] (ropsOf 1 fA) (ropsOf 1 fA).toList = some [⟨some 6, .mov (.tmp 1), none, []⟩] := by kernel_rfl
theorem bA_2 : lowIs Tryd.prog 13 [] (ropsOf 2 fA) (ropsOf 2 fA).toList = some isA2 := by kernel_rfl
theorem bA_3 : lowIs Tryd.prog 13 [] (ropsOf 3 fA) (ropsOf 3 fA).toList = some isA3 := by kernel_rfl
theorem bA_4 : lowIs Tryd.prog 13 [] (ropsOf 4 fA) (ropsOf 4 fA).toList = some [⟨some 12, .load 1 false (.tmp 2), none, []⟩, ⟨some 4, .mov (.tmp 12), none, [0, 0]⟩] := by kernel_rfl
noncomputable abbrev yK : Array Oper := ropsOf 3 fK
theorem bK : rg0 3 fK = .region 3 yK false := by kernel_rfl
theorem bK_1 : lowK Tryd.prog 14 yK [0, 1] = some [⟨some 10, .mov (.tmp 0), none, []⟩, ⟨some 11, .load 3 true (.tmp 3), none, []⟩] := by kernel_rfl
theorem bK_2 : lowK Tryd.prog 14 yK [3] = some [⟨some 13, .not (.tmp 12), none, [2]⟩] := by kernel_rfl
theorem bK_o : ∃ o ats, yK[2]? = some o ∧ o.guard = none ∧ o.op = .call { callee := .value (.tmp 10), args := #[.tmp 11], argTypes := ats } ∧ o.dst = some 12 := by
  refine ⟨((ropsOf 3 fK)[2]?).getD default, (match (((ropsOf 3 fK)[2]?).getD default).op with | .call c => c.argTypes | _ => #[]), by kernel_rfl, by kernel_rfl, by kernel_rfl, by kernel_rfl⟩
noncomputable abbrev itA (l d : Nat) (f : FuncId) (tmps : Array Value) : Base → World → Prop := iterCx l (readyRec f tmps 7 (.region 2 (ropsOf 2 fA) false) (.block 1 (.region 3 (ropsOf 3 fA) false)) d)
end Go.RC
end
section
namespace Go.RC
open Go Go.DL Go.Proofs
set_option maxRecDepth 100000
set_option maxHeartbeats 1000000
def permOf (ks : List N3) (xs : List T) : Prop := ∃ js : List Nat, js.Perm (List.range ks.length) ∧ xs = js.map fun j => nk (ks.getD j (0, 0, 0))
theorem range_perm {ix : List Nat} {n : Nat} (hn : ix.Nodup) (hl : ∀ j ∈ ix, j < n) (ha : ∀ j, j < n → j ∈ ix) : ix.Perm (List.range n) :=
  (List.perm_ext_iff_of_nodup hn List.nodup_range).2 fun j => ⟨fun h => List.mem_range.2 (hl j h), fun h => ha j (List.mem_range.1 h)⟩
abbrev outK (ks : List N3) (ix : List Nat) : List T := ix.map fun j => nk (ks.getD j (0, 0, 0))
abbrev esK (ks : List N3) (vs : List T) : List (T × T) := (ks.map nk).zip vs
theorem esK_get {ks : List N3} {vs : List T} {j : Nat} {e : T × T} (h : (esK ks vs)[j]? = some e) : e.1 = nk (ks.getD j (0, 0, 0)) ∧ j < ks.length := by
  rw [List.getElem?_zip_eq_some] at h
  obtain ⟨h1, _⟩ := h
  rw [List.getElem?_map, Option.map_eq_some_iff] at h1
  obtain ⟨k, hk, hk2⟩ := h1
  refine ⟨?_, (List.getElem?_eq_some_iff.1 hk).1⟩
  rw [List.getD_eq_getElem?_getD, hk, ← hk2]; rfl
theorem ent_last (es : List (T × T)) (ix : List Nat) (j : Nat) (e : T × T) (h : es[j]? = some e) : entT es (ix ++ [j]) = .tup [e.1, e.2] := by
  unfold entT
  rw [List.getLast?_concat]
  simp [h]
abbrev WK (l : Nat) (C : Base → World → Prop) (ks : List N3) (vs : List T) (ix : List Nat) (sl : List (Nat × V)) (bx : List (Nat × BX)) : Wk :=
  { sl := (0, .raw (.func (.yield l) #[] #[])) :: (5, .ptr 2005 0) :: sl, bx := (2, .v [.own 3011 83 3 (outK ks ix)]) :: (2005, .itd (esK ks vs) ix) :: bx, gh := [(0, [(2, .ptr 2 0)])], off := 2000, cx := C }
theorem cK_wp (l d : Nat) (f : FuncId) (tmps : Array Value) (ht : tmps.size = 13) (ks : List N3) (vs : List T) (hvs : vs.length = ks.length) (hl : ks.length < 2 ^ 40) (st0 : St)
    (h0 : st0 = ({sl := [(2, .ptr 2 0), (6, .fn 91 [.t (.cptr [mpT ks vs] 0)])], bx := [(2, .v [.own 3011 83 3 []])]} : Wk).mk') :
    wpC Tryd.prog c91 (st0.iter l (readyRec f tmps 7 (.region 2 (ropsOf 2 fA) false) (.block 1 (.region 3 (ropsOf 3 fA) false)) d) [.t (.cptr [mpT ks vs] 0)] 2000)
      (PostI st0 fun st => st.sl 2 = .ptr 2 0 ∧ (∃ xs, permOf ks xs ∧ st.bx 2 = some (.v [.own 3011 83 3 xs])) ∧ ∀ S w, st.cx S w) := by
  subst h0
  have hes : (esK ks vs).length = ks.length := by simp [hvs]
  repeat' ((conv => whnf); first | exact trivial | refine nT_ ?_ | refine aE1 ?_ | refine aE0 ?_ | refine aN1 ?_ | refine aN0 ?_ | refine aD1 ?_ | refine aD0 ?_ | refine nE_ (fun hq => ?_) (fun hq => ?_) | refine nN_ (fun hq => ?_) (fun hq => ?_) | refine nD_ (fun hq => ?_) (fun hq => ?_) | refine rb1 ?_ | refine rb0 ?_ | refine rbx ?_ | refine rix ?_ | refine aS ?_ | fail)
  refine wpC_loopE 0 (α := List Nat) (β := List Nat) (fun ix => WK l (itA l d f tmps) ks vs ix [] []) (fun ix => ix.Nodup ∧ ∀ j ∈ ix, j < ks.length) (fun ix => ks.length - ix.length)
    (fun ix => WK l (itA l d f tmps) ks vs ix [] []) (fun ix => ix.Perm (List.range ks.length)) [] ⟨List.nodup_nil, by simp⟩ ?_ ?_ ?_
  · exact ⟨⟨.same _, .same _, trivial⟩, ⟨.same _, .same _, trivial⟩, ⟨⟨.same _, trivial⟩, trivial⟩, rfl, fun _ _ h => h, rfl⟩
  · rintro ix ⟨hnd, hix⟩
    refine And.intro (fun j hj => by rw [hes]; exact hix j hj) (And.intro ?_ ?_)
    · intro j e he hj
      obtain ⟨he1, hjl⟩ := esK_get he
      have hent := ent_last _ ix j e he
      have hje : (ix ++ [j]).getLast?.getD 0 < (esK ks vs).length := by rw [List.getLast?_concat, hes]; exact hjl
      obtain ⟨e1, e2⟩ := e
      dsimp only at he1 hent
      subst he1
      have hixl : ix.length ≤ ks.length := by
        have := hnd.length_le_of_subset (l₂ := List.range ks.length) (fun j hj => List.mem_range.2 (hix j hj))
        simpa using this
      have hnd' : (ix ++ [j]).Nodup := by
        rw [List.nodup_append]
        exact ⟨hnd, by simp, fun a ha b hb => by rw [List.mem_singleton.1 hb]; exact fun e => hj (e ▸ ha)⟩
      have hix' : ∀ i ∈ ix ++ [j], i < ks.length := fun i hi => by
        rcases List.mem_append.1 hi with h | h
        · exact hix i h
        · rw [List.mem_singleton.1 h]; exact hjl
      have hixl' : (ix ++ [j]).length ≤ ks.length := by
        have := hnd'.length_le_of_subset (l₂ := List.range ks.length) (fun j hj => List.mem_range.2 (hix' j hj))
        simpa using this
      repeat' ((conv => whnf); first | exact trivial | refine nv_ (.tup [nk (ks.getD j (0, 0, 0)), e2]) hent ?_ | refine nT_ ?_ | refine aE1 ?_ | refine aE0 ?_ | refine aN1 ?_ | refine aN0 ?_ | refine aD1 ?_ | refine aD0 ?_ | refine nE_ (fun hq => ?_) (fun hq => ?_) | refine nN_ (fun hq => ?_) (fun hq => ?_) | refine nD_ (fun hq => ?_) (fun hq => ?_) | refine rb1 ?_ | refine rb0 ?_ | refine rbx ?_ | refine rix ?_ | (refine And.intro (by first | (exact ⟨by simp, hje⟩; done) | fail) ?_) | refine aS ?_ | fail)
      obtain ⟨o, ats, o1, o2, o3, o4⟩ := bK_o
      have hsem : ∀ (st : St) (Q : DExit → St → Prop), SemC Tryd.prog 14 (.region 3 yK false) st Q → SemC Tryd.prog 14 (rg0 3 fK) st Q := fun st Q h => by rw [bK]; exact h
      refine hsem _ _ ?_
      refine yield_sem (P := Tryd.prog) (k1 := [0, 1]) (k := 2) (k2 := [3]) (by kernel_rfl) bK_1 rfl bK_2 rfl o1 o2 o3 o4 (by decide) (p := 7) ht (by decide) bA_2 rfl bA_3 rfl 3000 (l := l) (fn := f) (dd := d) (id1 := 2) (id2 := 3) (bl := 1) ?_
      refine ⟨fun _ _ h => h, rfl, ?_⟩
      repeat' ((conv => whnf); first | exact trivial | refine nT_ ?_ | refine aE1 ?_ | refine aE0 ?_ | refine aN1 ?_ | refine aN0 ?_ | refine aD1 ?_ | refine aD0 ?_ | refine nE_ (fun hq => ?_) (fun hq => ?_) | refine nN_ (fun hq => ?_) (fun hq => ?_) | refine nD_ (fun hq => ?_) (fun hq => ?_) | refine rb1 ?_ | refine rb0 ?_ | refine rbx ?_ | refine rix ?_ | (refine And.intro (by first | (exact fun _ _ => trivial; done) | (exact ⟨rfl, Nat.le_of_ble_eq_true rfl⟩; done) | ((simp; omega); done) | (exact .inl rfl; done) | fail) ?_) | refine aS ?_ | fail)
      refine ⟨ix ++ [j], ⟨hnd', hix'⟩, by rw [List.length_append]; simp at hixl' ⊢; omega, ?_⟩
      refine ⟨⟨.same _, .same _, trivial⟩, ⟨?_, .same _, trivial⟩, ⟨⟨.same _, trivial⟩, trivial⟩, rfl, fun _ _ h => h, rfl⟩
      refine .v _ _ ⟨leOwn ?_, trivial⟩
      simp [outK, putL]
    · intro hall
      repeat' ((conv => whnf); first | exact trivial | refine nT_ ?_ | refine aE1 ?_ | refine aE0 ?_ | refine aN1 ?_ | refine aN0 ?_ | refine aD1 ?_ | refine aD0 ?_ | refine nE_ (fun hq => ?_) (fun hq => ?_) | refine nN_ (fun hq => ?_) (fun hq => ?_) | refine nD_ (fun hq => ?_) (fun hq => ?_) | refine rb1 ?_ | refine rb0 ?_ | refine rbx ?_ | refine rix ?_ | refine aS ?_ | fail)
      refine ⟨ix, range_perm hnd hix (fun j hj => hall j (by rw [hes]; exact hj)), ?_⟩
      exact ⟨⟨.same _, .same _, trivial⟩, ⟨.same _, .same _, trivial⟩, ⟨⟨.same _, trivial⟩, trivial⟩, rfl, fun _ _ h => h, rfl⟩
  rintro ix hp
  repeat' ((conv => whnf); first | exact trivial | refine nT_ ?_ | refine aE1 ?_ | refine aE0 ?_ | refine aN1 ?_ | refine aN0 ?_ | refine aD1 ?_ | refine aD0 ?_ | refine nE_ (fun hq => ?_) (fun hq => ?_) | refine nN_ (fun hq => ?_) (fun hq => ?_) | refine nD_ (fun hq => ?_) (fun hq => ?_) | refine rb1 ?_ | refine rb0 ?_ | refine rbx ?_ | refine rix ?_ | refine aS ?_ | fail)
  exact ⟨⟨_, ⟨ix, hp, rfl⟩, rfl⟩, fun _ _ => trivial⟩
theorem upd_same_id {α : Type} {f : Nat → α} {n : Nat} {v : α} (h : f n = v) : upd f n v = f := by
  funext m
  by_cases e : m = n
  · rw [e, upd_same, h]
  · rw [upd_other _ _ _ _ e]
theorem nk_flat (js : List Nat) (ks : List N3) : ∀ t ∈ (js.map fun j => nk (ks.getD j (0, 0, 0))).flatMap T.cells, t.flat = true := fun t ht => by
  simp only [List.mem_flatMap, List.mem_map] at ht
  obtain ⟨x, ⟨j, _, rfl⟩, hx⟩ := ht
  simp only [T.cells, List.mem_cons, List.not_mem_nil, or_false] at hx
  rcases hx with rfl | rfl | rfl <;> rfl
abbrev keysC (ks : List N3) (vs : List T) : T := .clos 91 [.cptr [mpT ks vs] 0]
theorem f_AppendSeq (ks : List N3) (vs : List T) (hvs : vs.length = ks.length) (hl : ks.length < 2 ^ 40) : FCallsR Tryd.prog 100 [.nil, keysC ks vs] 83 3 (permOf ks) := by
  refine fcallsR_mark Tryd.func100 bA rfl (Nat.le_of_ble_eq_true rfl) ?_
  intro S w a0 hsr hdf
  let K0 : St → Prop := fun st => wpIs Tryd.prog [⟨some 6, .mov (.tmp 1), none, []⟩] st fun st =>
    weak { sl := [(2, .ptr 2 0), (6, .t (keysC ks vs))], bx := [(2, .d 1 [.nil])] } st
  have hK0 : wpIs Tryd.prog [⟨some 2, .box 1 (.tmp 0), none, []⟩, ⟨some 4, .mov (.const .nil), none, []⟩] (initSt [.nil, keysC ks vs]) K0 := by
    repeat' ((conv => whnf); first | exact trivial | refine nT_ ?_ | refine aE1 ?_ | refine aE0 ?_ | refine aN1 ?_ | refine aN0 ?_ | refine aD1 ?_ | refine aD0 ?_ | refine nE_ (fun hq => ?_) (fun hq => ?_) | refine nN_ (fun hq => ?_) (fun hq => ?_) | refine nD_ (fun hq => ?_) (fun hq => ?_) | refine rb1 ?_ | refine rb0 ?_ | refine rbx ?_ | refine rix ?_ | refine aS ?_ | fail)
    exact ⟨⟨.same _, .same _, trivial⟩, ⟨.same _, trivial⟩, trivial, rfl, fun _ _ _ => trivial, rfl⟩
  refine wp_seq (region_wp (X := []) (N := 13) hsr bA_0 (fun a1 w1 h1 => ?_) hK0)
  obtain ⟨E1, s1, rfl, k1, k2, k3⟩ := h1
  refine wp_seq (wp_seq (region_wp (X := []) k1 bA_1 (fun a2 w2 h2 => ?_) k3))
  obtain ⟨E2, s2, rfl, k4, k5, k6⟩ := h2
  obtain ⟨E3, e3, k7⟩ := k4.weak k6
  rw [← e3]
  have k8 := k7.reread (k := 6) (k7.sl 6).clos_fn
  obtain ⟨E4, e4, k10⟩ := SR.weak (a := a2) (s := {sl := [(2, .ptr 2 0), (6, .fn 91 [.t (.cptr [mpT ks vs] 0)])], bx := [(2, .v [.own 3011 83 3 []])]}) k8 ⟨⟨.same _, .same _, trivial⟩, ⟨.dv _ _ _ ⟨.nil _ _ _, trivial⟩, trivial⟩, trivial, rfl, fun _ _ _ => trivial, rfl⟩
  rw [← e4]
  refine wp_block ?_
  refine range_wp mixed k10 (fun _ _ => trivial) (y := .tmp 6) rfl (gf := 91) (caps := [.t (.cptr [mpT ks vs] 0)]) rfl Tryd.func91 l91 rfl rfl rfl (Nat.le_of_ble_eq_true rfl) 2000
    (K := fun st => st.sl 2 = .ptr 2 0 ∧ (∃ xs, permOf ks xs ∧ st.bx 2 = some (.v [.own 3011 83 3 xs])) ∧ ∀ S w, st.cx S w) (fun l d f tmps ht => ?_) (fun a5 w5 h5 => ?_)
  · exact cK_wp l d f tmps ht ks vs hvs hl _ rfl
  · obtain ⟨S0', E5, s5, D, rfl, q1, q2, q3, q4, q5, q6, r1, ⟨xs, hxs, r2⟩, r3⟩ := h5
    have q6' : a5.defers = [{ target := .collected D, args := #[] }] := by rw [q6, k5, k2, hdf]
    show Code.wp _ _ _ _ _
    refine wp_seq (region_wp (X := []) q1 bA_4 (K := fun st => (∀ S w, st.cx S w) ∧ st.sl 4 = .own 3011 83 3 xs) (fun a6 w6 h6 => ?_) ?_)
    · obtain ⟨E6, s6, rfl, p1, p2, p3, p4⟩ := h6
      obtain ⟨js, hjs, rfl⟩ := hxs
      refine wp_ret ⟨.inr rfl, S0', E6, s6, D, rfl, p1, q2, q3, q4, q5, by rw [p2, q6'], p3, _, _, ⟨js, hjs, rfl⟩, nk_flat js ks, ?_, .inl ⟨3011, rfl⟩⟩
      have : resV s6 Tryd.f100.results.toList = some [s6.sl 4] := by
        rw [show Tryd.f100.results.toList = [.tmp 4] from rfl]; rfl
      rw [this, p4]
    · obtain ⟨sl5, bx5, gh5, off5, cx5⟩ := s5
      dsimp only at r1 r2 r3
      obtain ⟨g, rfl⟩ : ∃ g, sl5 = upd g 2 (.ptr 2 0) := ⟨sl5, (upd_same_id r1).symm⟩
      obtain ⟨b, rfl⟩ : ∃ b, bx5 = upd b 2 (some (.v [.own 3011 83 3 xs])) := ⟨bx5, (upd_same_id r2).symm⟩
      exact ⟨r3, rfl⟩
theorem f_Collect (ks : List N3) (vs : List T) (hvs : vs.length = ks.length) (hl : ks.length < 2 ^ 40) : FCallsR Tryd.prog 89 [keysC ks vs] 83 3 (permOf ks) := by
  refine fcallsR_low (rs := [.tmp 2]) mixed Tryd.func89 l89 rfl rfl rfl (Nat.le_of_ble_eq_true rfl) ?_
  repeat' ((conv => whnf); first | exact trivial | refine WC_ownR (ts := [.nil, keysC ks vs]) rfl (f_AppendSeq ks vs hvs hl) (fun xs hx => ?_) | refine nT_ ?_ | refine aE1 ?_ | refine aE0 ?_ | refine aN1 ?_ | refine aN0 ?_ | refine aD1 ?_ | refine aD0 ?_ | refine nE_ (fun hq => ?_) (fun hq => ?_) | refine nN_ (fun hq => ?_) (fun hq => ?_) | refine nD_ (fun hq => ?_) (fun hq => ?_) | refine rb1 ?_ | refine rb0 ?_ | refine rbx ?_ | refine rix ?_ | refine aS ?_ | fail)
  obtain ⟨js, hjs, rfl⟩ := hx
  exact ⟨_, _, ⟨js, hjs, rfl⟩, nk_flat js ks, rfl, .inl ⟨_, rfl⟩⟩
end Go.RC
end
section
namespace Go.Proofs
open Go.Shelf
def Tryd.laysSort90_ren : Go.Shelf.Ren := ⟨fun | 6 => 90 | 15 => 102 | 14 => 101 | 28 => 117 | 29 => 118 | 20 => 109 | 21 => 110 | 22 => 111 | 23 => 112 | 24 => 113 | 25 => 114 | 26 => 115 | 27 => 116 | 46 => 120 | 47 => 121 | 48 => 122 | 49 => 123 | 50 => 124 | 57 => 125 | n => n, fun | 22 => 112 | 24 => 83 | 25 => 86 | 3 => 3 | 39 => 76 | 0 => 0 | 53 => 117 | 55 => 34 | 4 => 4 | 46 => 158 | 45 => 157 | 50 => 162 | 5 => 5 | 9 => 9 | 66 => 166 | 70 => 170 | 76 => 172 | 77 => 173 | n => n, fun | n => n⟩
theorem Tryd.laysSort90 : Go.Proofs.SlLaysF0.n6 Tryd.prog Tryd.laysSort90_ren := {
  mixed := by kernel_rfl
  f6 := ⟨Tryd.f90.name, by decide, Tryd.func90.trans (congrArg some (by kernel_rfl))⟩
  f14 := ⟨Tryd.f101.name, by decide, Tryd.func101.trans (congrArg some (by kernel_rfl))⟩
  f15 := Tryd.func102.trans (congrArg some (by kernel_rfl))
  f20 := ⟨Tryd.f109.name, by decide, Tryd.func109.trans (congrArg some (by kernel_rfl))⟩
  f21 := ⟨Tryd.f110.name, by decide, Tryd.func110.trans (congrArg some (by kernel_rfl))⟩
  f22 := ⟨Tryd.f111.name, by decide, Tryd.func111.trans (congrArg some (by kernel_rfl))⟩
  f23 := ⟨Tryd.f112.name, by decide, Tryd.func112.trans (congrArg some (by kernel_rfl))⟩
  f24 := ⟨Tryd.f113.name, by decide, Tryd.func113.trans (congrArg some (by kernel_rfl))⟩
  f25 := ⟨Tryd.f114.name, by decide, Tryd.func114.trans (congrArg some (by kernel_rfl))⟩
  f26 := ⟨Tryd.f115.name, by decide, Tryd.func115.trans (congrArg some (by kernel_rfl))⟩
  f27 := ⟨Tryd.f116.name, by decide, Tryd.func116.trans (congrArg some (by kernel_rfl))⟩
  f28 := Tryd.func117.trans (congrArg some (by kernel_rfl))
  f29 := Tryd.func118.trans (congrArg some (by kernel_rfl))
  f46 := ⟨Tryd.f120.name, by decide, Tryd.func120.trans (congrArg some (by kernel_rfl))⟩
  f47 := Tryd.func121.trans (congrArg some (by kernel_rfl))
  f48 := Tryd.func122.trans (congrArg some (by kernel_rfl))
  f49 := ⟨Tryd.f123.name, by decide, Tryd.func123.trans (congrArg some (by kernel_rfl))⟩
  f50 := ⟨Tryd.f124.name, by decide, Tryd.func124.trans (congrArg some (by kernel_rfl))⟩
  f57 := ⟨Tryd.f125.name, by decide, Tryd.func125.trans (congrArg some (by kernel_rfl))⟩
  t0 := Tryd.underlying0
  a0 := Tryd.isAgg0
  z0 := Tryd.sizeOf0
  v0 := Tryd.zeroValue0
  t3 := Tryd.underlying3
  a3 := Tryd.isAgg3
  z3 := Tryd.sizeOf3
  v3 := Tryd.zeroValue3
  t4 := Tryd.underlying4
  a4 := Tryd.isAgg4
  z4 := Tryd.sizeOf4
  v4 := Tryd.zeroValue4
  t5 := Tryd.underlying5
  a5 := Tryd.isAgg5
  z5 := Tryd.sizeOf5
  v5 := Tryd.zeroValue5
  t9 := Tryd.underlying9
  a9 := Tryd.isAgg9
  z9 := Tryd.sizeOf9
  v9 := Tryd.zeroValue9
  t22 := Tryd.underlying112
  a22 := Tryd.isAgg112
  z22 := Tryd.sizeOf112
  v22 := Tryd.zeroValue112
  t25 := Tryd.underlying86
  a25 := Tryd.isAgg86
  z25 := Tryd.sizeOf86
  v25 := Tryd.zeroValue86
  t39 := Tryd.underlying76
  a39 := Tryd.isAgg76
  z39 := Tryd.sizeOf76
  v39 := Tryd.zeroValue76
  t45 := Tryd.underlying157
  a45 := Tryd.isAgg157
  z45 := Tryd.sizeOf157
  v45 := Tryd.zeroValue157
  t46 := Tryd.underlying158
  a46 := Tryd.isAgg158
  z46 := Tryd.sizeOf158
  v46 := Tryd.zeroValue158
  t50 := Tryd.underlying162
  a50 := Tryd.isAgg162
  z50 := Tryd.sizeOf162
  v50 := Tryd.zeroValue162
  t53 := Tryd.underlying117
  a53 := Tryd.isAgg117
  z53 := Tryd.sizeOf117
  v53 := Tryd.zeroValue117
  t55 := Tryd.underlying34
  a55 := Tryd.isAgg34
  z55 := Tryd.sizeOf34
  v55 := Tryd.zeroValue34
  t66 := Tryd.underlying166
  a66 := Tryd.isAgg166
  z66 := Tryd.sizeOf166
  v66 := Tryd.zeroValue166
  t70 := Tryd.underlying170
  a70 := Tryd.isAgg170
  z70 := Tryd.sizeOf170
  v70 := Tryd.zeroValue170
  t76 := Tryd.underlying172
  a76 := Tryd.isAgg172
  z76 := Tryd.sizeOf172
  v76 := Tryd.zeroValue172
  t77 := Tryd.underlying173
  a77 := Tryd.isAgg173
  z77 := Tryd.sizeOf173
  v77 := Tryd.zeroValue173 }
end Go.Proofs
end
section
namespace Go.RC
open Go Go.DL Go.Proofs
set_option maxRecDepth 100000
set_option maxHeartbeats 1000000
theorem sortsN : SortsK Tryd.prog 90 3 :=
  SortsK.of Tryd.laysSort90 3 (fun w => Tryd.isAgg83 w) (fun w => Tryd.sizeOf83 w) (callable_of Tryd.func90 rfl rfl)
theorem WC_sort_nil {P : Program} {f : FuncId} {k : Nat} {u : V} {d : Option Nat} {st : St} {K : St → Prop} (hs : SortsK P f k) (hk : K (st.set d (.t (.tup [])))) : WC P f [.t .nil, u] d st K := by
  refine ⟨hs.callable, fun N w0 S0 E a vs h hvl hv hd => ?_⟩
  have hsz : vs.size = 2 := hvl
  have hv0 := (hv 0 vs[0] _ (by simp [hsz]) rfl).inv_t
  have hvs : vs = #[vs[0], vs[1]] := by
    apply Array.ext
    · simp [hsz]
    · intro i h1 h2
      match i, h1 with
      | 0, _ => rfl
      | 1, _ => rfl
      | i + 2, h1 => omega
  have hsl : vs[0] = .slice none 0 0 := by
    generalize vs[0] = v at hv0
    cases hv0; rfl
  have hcall := hs.none_ none 0 vs[1] E.w
  rw [← hsl, ← hvs] at hcall
  refine hcall.mono ?_
  rintro e' w' ⟨rfl, rfl⟩
  exact ⟨_, rfl, _, _, rfl, hk, set_put h hd (.t _ _ (.tup #[] [] rfl fun i x t hx => by simp at hx))⟩
def cfN : T → T → Int
  | .agg [.int _ a, .int _ b, .int _ c], .agg [.int _ a', .int _ b', .int _ c'] => cmpN (a, b, c) (a', b', c')
  | _, _ => 0
def unk : T → N3
  | .agg [.int _ a, .int _ b, .int _ c] => (a, b, c)
  | _ => (0, 0, 0)
theorem cmpN_irr (a : N3) : ¬ cmpN a a < 0 := by rw [cmpN_lt]; omega
theorem cmpN_tr {a b c : N3} (h : cmpN a b < 0) (k : cmpN b c < 0) : cmpN a c < 0 := by rw [cmpN_lt] at *; omega
theorem cmpN_ntr {a b c : N3} (h : ¬ cmpN a b < 0) (k : ¬ cmpN b c < 0) : ¬ cmpN a c < 0 := by rw [cmpN_lt] at *; omega
theorem cmpN_anti {a b : N3} (h : ¬ cmpN a b < 0) (k : ¬ cmpN b a < 0) : a = b := by
  obtain ⟨a1, a2, a3⟩ := a
  obtain ⟨b1, b2, b3⟩ := b
  rw [cmpN_lt] at *
  simp only at h k
  simp only [Prod.mk.injEq]
  omega
def srt (ks : List N3) : List N3 := ks.mergeSort fun a b => !decide (cmpN b a < 0)
theorem srt_perm (ks : List N3) : (srt ks).Perm ks := List.mergeSort_perm _ _
theorem srt_sorted (ks : List N3) : (srt ks).Pairwise fun a b => ¬ cmpN b a < 0 := by
  have := List.pairwise_mergeSort (le := fun a b : N3 => !decide (cmpN b a < 0)) (fun a b c h k => by
    simp only [Bool.not_eq_true', decide_eq_false_iff_not] at *
    exact cmpN_ntr k h) (fun a b => by
    simp only [Bool.or_eq_true, Bool.not_eq_true', decide_eq_false_iff_not]
    rw [cmpN_lt, cmpN_lt]; omega) ks
  exact this.imp (fun h => by simpa using h)
theorem srt_eq {ks zs : List N3} (hp : zs.Perm ks) (hs : zs.Pairwise fun a b => ¬ cmpN b a < 0) : zs = srt ks :=
  List.Perm.eq_of_pairwise (fun a b _ _ h k => cmpN_anti k h) hs (srt_sorted ks) (hp.trans (srt_perm ks).symm)
theorem permOf_zs {ks : List N3} {xs : List T} (h : permOf ks xs) : ∃ zs : List N3, zs.Perm ks ∧ xs = zs.map nk := by
  obtain ⟨js, hp, rfl⟩ := h
  refine ⟨js.map fun j => ks.getD j (0, 0, 0), ?_, by simp⟩
  have h1 : ((List.range ks.length).map fun j => ks.getD j (0, 0, 0)) = ks := by
    apply List.ext_getElem?
    intro i
    rw [List.getElem?_map]
    by_cases h : i < ks.length
    · simp [h]
    · simp [h]
  have := hp.map (fun j => ks.getD j (0, 0, 0))
  rwa [h1] at this
theorem perm_nk {zs : List N3} {ys : List T} (h : ys.Perm (zs.map nk)) : ∃ zs' : List N3, zs'.Perm zs ∧ ys = zs'.map nk := by
  refine ⟨ys.map unk, ?_, ?_⟩
  · have := h.map unk
    rw [List.map_map] at this
    rwa [show unk ∘ nk = id from rfl, List.map_id] at this
  · rw [List.map_map]
    have : ys.map (nk ∘ unk) = ys.map id := List.map_congr_left fun y hy => by
      obtain ⟨z, _, rfl⟩ := List.mem_map.1 (h.mem_iff.1 hy)
      rfl
    rw [this, List.map_id]
theorem chunk_nk : ∀ (zs : List N3) (n : Nat), zs.length = n → chunk 3 n ((zs.map nk).flatMap T.cells) = zs.map nk
  | [], 0, _ => rfl
  | z :: zs, n + 1, h => by
    show nk z :: chunk 3 n ((zs.map nk).flatMap T.cells) = _
    rw [chunk_nk zs n (by simpa using h)]
    rfl
  | z :: zs, 0, h => by simp at h
  | [], n + 1, h => by simp at h
theorem flat_nk : ∀ (zs : List N3), ((zs.map nk).flatMap T.cells).length = zs.length * 3
  | [] => rfl
  | z :: zs => by
    rw [List.map_cons, List.flatMap_cons, List.length_append, flat_nk zs, List.length_cons]
    show 3 + _ = _
    omega
theorem isnew_srt_nil {bx : Nat → Option BX} : IsNew bx (.t .nil) (.slice 3 ((srt []).map nk)) := by
  rw [show srt [] = [] by simp [srt]]
  exact .nil 3
theorem n_Sorted (ks : List N3) (vs : List T) (hvs : vs.length = ks.length) (hl : ks.length < 2 ^ 40) : NCalls Tryd.prog 70 [keysC ks vs, .clos 52 []] (.slice 3 ((srt ks).map nk)) := by
  refine ncalls_low (rs := [.tmp 4]) mixed Tryd.func70 l70 rfl rfl rfl (Nat.le_of_ble_eq_true rfl) ?_
  repeat' ((conv => whnf); first | exact trivial | refine WC_viewR (ts := [keysC ks vs]) rfl (f_Collect ks vs hvs hl) rfl (fun h0 => ?_) (fun xs hx hc => ?_) | refine nT_ ?_ | refine aE1 ?_ | refine aE0 ?_ | refine aN1 ?_ | refine aN0 ?_ | refine aD1 ?_ | refine aD0 ?_ | refine nE_ (fun hq => ?_) (fun hq => ?_) | refine nN_ (fun hq => ?_) (fun hq => ?_) | refine nD_ (fun hq => ?_) (fun hq => ?_) | refine rb1 ?_ | refine rb0 ?_ | refine rbx ?_ | refine rix ?_ | refine aS ?_ | fail)
  · obtain ⟨zs, hp, h0⟩ := permOf_zs h0
    have : zs = [] := by
      cases zs with
      | nil => rfl
      | cons z zs => cases h0
    subst this
    have : ks = [] := List.nil_perm.1 hp
    subst this
    repeat' ((conv => whnf); first | exact trivial | refine WC_sort_nil sortsN ?_ | refine nT_ ?_ | refine aE1 ?_ | refine aE0 ?_ | refine aN1 ?_ | refine aN0 ?_ | refine aD1 ?_ | refine aD0 ?_ | refine nE_ (fun hq => ?_) (fun hq => ?_) | refine nN_ (fun hq => ?_) (fun hq => ?_) | refine nD_ (fun hq => ?_) (fun hq => ?_) | refine rb1 ?_ | refine rb0 ?_ | refine rbx ?_ | refine rix ?_ | refine aS ?_ | fail)
    exact ⟨.t .nil, rfl, isnew_srt_nil⟩
  · obtain ⟨zs, hp, rfl⟩ := permOf_zs hx
    have hzl : zs.length < 2 ^ 40 := by rw [hp.length_eq]; exact hl
    have hch : chunk 3 (zs.map nk).length (((zs.map nk).flatMap T.cells).drop 0) = zs.map nk := chunk_nk zs _ (by simp)
    repeat' ((conv => whnf); first | exact trivial | (refine WC_sort (n := 7) (off := 0) (len := (zs.map nk).length) (k := 3) (m := (zs.map nk).length * 3) (ts := (zs.map nk).flatMap T.cells) sortsN rfl (by omega) (by decide) (by simp; omega) (.inl rfl) (callable_of Tryd.func52 rfl rfl) cfN ?_ ?_ ?_ ?_ (fun ys hy hps => ?_)) | refine nT_ ?_ | refine aE1 ?_ | refine aE0 ?_ | refine aN1 ?_ | refine aN0 ?_ | refine aD1 ?_ | refine aD0 ?_ | refine nE_ (fun hq => ?_) (fun hq => ?_) | refine nN_ (fun hq => ?_) (fun hq => ?_) | refine nD_ (fun hq => ?_) (fun hq => ?_) | refine rb1 ?_ | refine rb0 ?_ | refine rbx ?_ | refine rix ?_ | refine aS ?_ | fail)
    · rw [hch]
      intro x hx y hy
      obtain ⟨a, _, rfl⟩ := List.mem_map.1 hx
      obtain ⟨b, _, rfl⟩ := List.mem_map.1 hy
      exact t_compare a b
    · rw [hch]
      intro x hx
      obtain ⟨a, _, rfl⟩ := List.mem_map.1 hx
      exact cmpN_irr a
    · rw [hch]
      intro x hx y hy z hz
      obtain ⟨a, _, rfl⟩ := List.mem_map.1 hx
      obtain ⟨b, _, rfl⟩ := List.mem_map.1 hy
      obtain ⟨c, _, rfl⟩ := List.mem_map.1 hz
      exact cmpN_tr
    · rw [hch]
      intro x hx y hy z hz
      obtain ⟨a, _, rfl⟩ := List.mem_map.1 hx
      obtain ⟨b, _, rfl⟩ := List.mem_map.1 hy
      obtain ⟨c, _, rfl⟩ := List.mem_map.1 hz
      exact cmpN_ntr
    · rw [hch] at hy
      obtain ⟨us, hu, rfl⟩ := perm_nk hy
      have hus : us = srt ks := srt_eq (hu.trans hp) ((List.pairwise_map.1 hps).imp fun h => h)
      subst hus
      have hul : (srt ks).length = zs.length := hu.length_eq
      repeat' ((conv => whnf); first | exact trivial | refine nT_ ?_ | refine aE1 ?_ | refine aE0 ?_ | refine aN1 ?_ | refine aN0 ?_ | refine aD1 ?_ | refine aD0 ?_ | refine nE_ (fun hq => ?_) (fun hq => ?_) | refine nN_ (fun hq => ?_) (fun hq => ?_) | refine nD_ (fun hq => ?_) (fun hq => ?_) | refine rb1 ?_ | refine rb0 ?_ | refine rbx ?_ | refine rix ?_ | refine aS ?_ | fail)
      have hln : (zs.map nk).length = (srt ks).length := by rw [List.length_map]; exact hul.symm
      have hpu : putL ((zs.map nk).flatMap T.cells) 0 ((zs.map nk).length * 3) (((srt ks).map nk).flatMap T.cells) = ((srt ks).map nk).flatMap T.cells := putL_all (by rw [flat_nk, List.length_map])
      refine ⟨.view 7 0 (zs.map nk).length 3, rfl, .view 7 0 (zs.map nk).length 3 ((zs.map nk).length * 3) (putL ((zs.map nk).flatMap T.cells) 0 ((zs.map nk).length * 3) (((srt ks).map nk).flatMap T.cells)) _ [7] rfl ?_ ?_⟩
      · rw [hpu]
        intro t ht
        simp only [List.mem_flatMap, List.mem_map] at ht
        obtain ⟨x, ⟨z, _, rfl⟩, hx⟩ := ht
        simp only [T.cells, List.mem_cons, List.not_mem_nil, or_false] at hx
        rcases hx with rfl | rfl | rfl <;> rfl
      · show (cond (Nat.blt 0 3 && Nat.ble (0 + (zs.map nk).length * 3) ((zs.map nk).length * 3)) (some (T.slice 3 (chunk 3 (zs.map nk).length ((putL ((zs.map nk).flatMap T.cells) 0 ((zs.map nk).length * 3) (((srt ks).map nk).flatMap T.cells)).drop 0)), [7])) none) = _
        rw [hpu, Nat.zero_add, List.drop_zero, hln, chunk_nk _ _ rfl]
        have : Nat.ble ((srt ks).length * 3) ((srt ks).length * 3) = true := Nat.ble_eq_true_of_le (Nat.le_refl _)
        rw [this]
        rfl
end Go.RC
end
section
namespace Go.RC
open Go Go.DL Go.Proofs
set_option maxRecDepth 100000
noncomputable def c11 : DCode := (.seq (.region [oo 0 (.mov (.const (.bool false)))] []) (.seq (.region [oo 1 (.mov (Kc 4294967295))] []) (.seq (.seq (.region [mv 27 1,oo 28 (.build [(Zi 0), (Zi 0), (Zi 0), (Zi 0)] [(0, 1, (tm 27)), (1, 1, (Kc 0)), (2, 1, (Kc 0)), (3, 1, (Kc 5))]),oo 29 (.build [(Zi 0), (Zi 0), (Zi 0), (Zi 0)] [(0, 1, (Kc 1)), (1, 1, (Kc 2)), (2, 1, (Kc 0)), (3, 1, (Kc 5))]),oo 30 (.call 14 [(tm 28), (tm 29)]),oo 31 (.build [(Zi 0), (Zi 0), (Zi 0), (Zi 0)] [(0, 1, (Kc 0)), (1, 1, (Kc 2)), (2, 1, (Kc 0)), (3, 1, (Kc 10))]),oo 32 (.eqv true [.int .i64, .int .i64, .int .i64, .int .i64] (tm 30) (tm 31)),mv 33 32,oF 34 33 (.build [(Zi 0), (Zi 0), (Zi 0), (Zi 0)] []),oF 35 33 (.build [(Zi 0), (Zi 0), (Zi 0), (Zi 0)] [(0, 1, (Kc 1))]),oF 36 33 (.call 16 [(tm 34), (tm 35)]),mF 37 1 33,oF 38 33 (.build [(Zi 0), (Zi 0), (Zi 0), (Zi 0)] [(0, 1, (tm 37)), (1, 1, (Kc 0)), (2, 1, (Kc 0)), (3, 1, (Kc 0))]),oF 39 33 (.eqv true [.int .i64, .int .i64, .int .i64, .int .i64] (tm 36) (tm 38)),oo 40 (.pick (tm 33) (.const (.bool true)) (tm 39))] []) (.cond (tm 40) (.seq (.region [oo 0 (.mov (.const (.bool false)))] []) .ret) .skip)) (.seq (.region [oo 42 (.inl 40 [(Kc 3)]),mv 41 42,oo 43 (.ext (tm 41) 0),oo 44 (.ext (tm 41) 1),mv 2 43,mv 3 44] []) (.seq (.region [oo 46 (.inl 40 [(Kc 200)]),mv 45 46,oo 47 (.ext (tm 45) 0),oo 48 (.ext (tm 45) 1),mv 4 47,mv 5 48] []) (.seq (.seq (.region [mv 49 3,oo 50 (.bin .neq (tm 49) (Kc 0)),mv 51 50,mF 52 5 51,oF 53 51 (.bin .neq (tm 52) (Kc 1)),oo 54 (.pick (tm 51) (.const (.bool true)) (tm 53)),mv 55 54,mF 56 2 55,oF 57 55 (.isnil 0 false (tm 56)),oo 58 (.pick (tm 55) (.const (.bool true)) (tm 57))] []) (.cond (tm 58) (.seq (.region [oo 0 (.mov (.const (.bool false)))] []) .ret) .skip)) (.seq (.region [oo 59 (.build [(Zi 0), (Zi 0), (Zi 0), (Zi 0), (Zi 0), (Zi 0), (Zi 0), (Zi 0), (Zi 0), (Zi 0)] [(0, 1, (Kc 7)), (1, 1, (Kc 5))]),oo 60 (.build [(Zi 0), (Zi 0), (Zi 0), (Zi 0), (Zi 0), (Zi 0), (Zi 0), (Zi 0), (Zi 0), (Zi 0)] [(0, 1, (Kc 7)), (1, 1, (Kc 6))]),oo 6 (.alloc [(Zi 0), (Zi 0), (Zi 0), (Zi 0), (Zi 0), (Zi 0), (Zi 0), (Zi 0), (Zi 0), (Zi 0)]),oo 7 (.alloc [(Zi 0), (Zi 0), (Zi 0), (Zi 0), (Zi 0), (Zi 0), (Zi 0), (Zi 0), (Zi 0), (Zi 0)]),o0 (.store 10 (tm 6) (tm 59)),o0 (.store 10 (tm 7) (tm 60))] []) (.seq (.seq (.region [mv 61 2,oo 62 (.load 10 true (tm 6)),oo 63 (.mcall [1013, 1011] 41 [(tm 61), (Kc 2), (Kc 7), (Kc 1), (tm 62)]),mv 64 2,oo 65 (.load 10 true (tm 6)),oo 66 (.mcall [1013, 1011] 41 [(tm 64), (Kc 1), (Kc 2), (Kc 1), (tm 65)]),mv 67 2,oo 68 (.load 10 true (tm 7)),oo 69 (.mcall [1013, 1011] 41 [(tm 67), (Kc 2), (Kc 7), (Kc 1), (tm 68)]),oo 70 (.buildT 1 3 [(Zi 0)] [(0, (tm 63)), (1, (tm 66)), (2, (tm 69))]),oo 71 (.len (tm 70)),oo 72 (.mov (Kc 0))] [[], [], [], [], [2], [], [], [2, 5], [], [], [], []]) (.block 0 (.loop (.seq (.region [oo 73 (.bin .lss (tm 72) (tm 71))] []) (.seq (.cond (tm 73) .skip (.exit 0)) (.seq (.block 1 (.seq (.region [oo 74 (.idxL 1 (tm 70) (tm 72)),oo 75 (.load 1 false (tm 74)),mv 9 75] []) (.seq (.region [mv 76 9,oo 77 (.bin .neq (tm 76) (Kc 0))] []) (.cond (tm 77) (.seq (.region [oo 0 (.mov (.const (.bool false)))] []) .ret) .skip)))) (.region [oo 78 (.bin .add (tm 72) (Kc 1)),mv 72 78] []))))))) (.seq (.cut (.region [mv 80 2,oo 81 (.inl 42 [(tm 80)]),mv 79 81,oo 82 (.ext (tm 79) 0),oo 83 (.ext (tm 79) 1),oo 10 (.alloc [(Zi 0), (Zi 0), .nil, (Ui 0), (Ui 0), (Ui 0), (Ui 0), (Ui 0), (Ui 0), (Ui 0), (Ui 0), (Ui 0), (Ui 0), (Ui 0), (Ui 0), (Ui 0), (Ui 0), (Ui 0), (Ui 0)]),o0 (.store 19 (tm 10) (tm 82)),mv 11 83] [])) (.seq (.cut (.region [mv 85 2,oo 86 (.inl 42 [(tm 85)]),mv 84 86,oo 87 (.ext (tm 84) 0),oo 88 (.ext (tm 84) 1),oo 12 (.alloc [(Zi 0), (Zi 0), .nil, (Ui 0), (Ui 0), (Ui 0), (Ui 0), (Ui 0), (Ui 0), (Ui 0), (Ui 0), (Ui 0), (Ui 0), (Ui 0), (Ui 0), (Ui 0), (Ui 0), (Ui 0), (Ui 0)]),o0 (.store 19 (tm 12) (tm 87)),mv 13 88] [])) (.seq (.cut (.region [oo 90 (.load 19 true (tm 10)),oo 91 (.load 19 true (tm 12)),oo 92 (.buildS 51 19 2 [(Zi 0), (Zi 0), .nil, (Ui 0), (Ui 0), (Ui 0), (Ui 0), (Ui 0), (Ui 0), (Ui 0), (Ui 0), (Ui 0), (Ui 0), (Ui 0), (Ui 0), (Ui 0), (Ui 0), (Ui 0), (Ui 0)] [(0, (tm 90)), (1, (tm 91))]),oo 93 (.call 22 [(Kc 3), (tm 92)]),mv 89 93,oo 94 (.ext (tm 89) 0),oo 95 (.ext (tm 89) 1),mv 14 94,mv 15 95] [])) (.seq (.cut (.region [oo 97 (.load 19 true (tm 12)),oo 98 (.buildS 51 19 1 [(Zi 0), (Zi 0), .nil, (Ui 0), (Ui 0), (Ui 0), (Ui 0), (Ui 0), (Ui 0), (Ui 0), (Ui 0), (Ui 0), (Ui 0), (Ui 0), (Ui 0), (Ui 0), (Ui 0), (Ui 0), (Ui 0)] [(0, (tm 97))]),oo 99 (.call 22 [(Kc 3), (tm 98)]),mv 96 99,oo 100 (.ext (tm 96) 0),oo 101 (.ext (tm 96) 1),mv 16 100,mv 17 101] [])) (.seq (.cut (.region [oo 103 (.load 19 true (tm 10)),oo 104 (.call 30 [(tm 103), (Kc 2), (Kc 7), (Kc 1)]),mv 102 104,oo 105 (.ext (tm 102) 0),oo 106 (.ext (tm 102) 1),oo 18 (.alloc [(Zi 0), (Zi 0), (Zi 0), (Zi 0), (Zi 0), (Zi 0), (Zi 0), (Zi 0)]),o0 (.store 8 (tm 18) (tm 105)),mv 19 106] [])) (.seq (.region [oo 108 (.build [(Zi 0), (Zi 0), (Zi 0), (Zi 0), (Zi 0), (Zi 0), (Zi 0), (Zi 0)] [(3, 1, (Kc 5))]),oo 109 (.build [(Zi 0), (Zi 0), (Zi 0), (Zi 0), (Zi 0), (Zi 0), (Zi 0), (Zi 0)] [(3, 1, (Kc 3))]),oo 110 (.call 19 [(tm 108), (tm 109)]),mv 107 110,oo 111 (.ext (tm 107) 0),oo 112 (.ext (tm 107) 1),mv 20 111,mv 21 112] []) (.seq (.region [oo 114 (.build [(Zi 0), (Zi 0), (Zi 0), (Zi 0), (Zi 0), (Zi 0), (Zi 0), (Zi 0)] [(3, 1, (Kc 3))]),oo 115 (.build [(Zi 0), (Zi 0), (Zi 0), (Zi 0), (Zi 0), (Zi 0), (Zi 0), (Zi 0)] [(3, 1, (Kc 5))]),oo 116 (.call 19 [(tm 114), (tm 115)]),mv 113 116,oo 117 (.ext (tm 113) 0),oo 118 (.ext (tm 113) 1),mv 22 117,mv 23 118] []) (.seq (.cut (.region [oo 120 (.build [(Zi 0), (Zi 0), (Zi 0), (Zi 0)] [(0, 1, (Kc 1))]),oo 121 (.build [(Zi 0), (Zi 0), (Zi 0), (Zi 0), (Zi 0), (Zi 0), (Zi 0), (Zi 0)] [(3, 1, (Kc 5)), (4, 4, (tm 120))]),oo 122 (.build [(Zi 0), (Zi 0), (Zi 0), (Zi 0), (Zi 0), (Zi 0), (Zi 0), (Zi 0)] [(3, 1, (Kc 5))]),oo 123 (.call 19 [(tm 121), (tm 122)]),mv 119 123,oo 124 (.ext (tm 119) 0),oo 125 (.ext (tm 119) 1),mv 24 124,mv 25 125] [])) (.seq (.cut (.region [mv 126 11,oo 127 (.bin .eql (tm 126) (Kc 0)),mv 128 127,mT 129 13 128,oT 130 128 (.bin .eql (tm 129) (Kc 0)),oo 131 (.pick (tm 128) (tm 130) (.const (.bool false))),mv 132 131,oT 133 132 (.offA 2 (tm 10)),oT 134 132 (.load 1 false (tm 133)),oT 135 132 (.len (tm 134)),oT 136 132 (.bin .eql (tm 135) (Kc 2)),oo 137 (.pick (tm 132) (tm 136) (.const (.bool false))),mv 138 137,oT 139 138 (.offA 2 (tm 10)),oT 140 138 (.load 1 false (tm 139)),oT 141 138 (.idxL 8 (tm 140) (Kc 0)),oT 142 138 (.offA 0 (tm 141)),oT 143 138 (.load 1 false (tm 142)),oT 144 138 (.bin .eql (tm 143) (Kc 1)),oo 145 (.pick (tm 138) (tm 144) (.const (.bool false))),mv 146 145,oT 147 146 (.offA 2 (tm 10)),oT 148 146 (.load 1 false (tm 147)),oT 149 146 (.idxL 8 (tm 148) (Kc 0)),oT 150 146 (.offA 3 (tm 149)),oT 151 146 (.load 1 false (tm 150)),oT 152 146 (.bin .eql (tm 151) (Kc 1)),oo 153 (.pick (tm 146) (tm 152) (.const (.bool false))),mv 154 153,oT 155 154 (.offA 1 (tm 10)),oT 156 154 (.load 1 false (tm 155)),oT 157 154 (.bin .eql (tm 156) (Kc 0)),oo 158 (.pick (tm 154) (tm 157) (.const (.bool false))),mv 159 158,oT 160 159 (.offA 1 (tm 12)),oT 161 159 (.load 1 false (tm 160)),oT 162 159 (.bin .eql (tm 161) (Kc 1)),oo 163 (.pick (tm 159) (tm 162) (.const (.bool false))),mv 164 163,oT 165 164 (.offA 2 (tm 12)),oT 166 164 (.load 1 false (tm 165)),oT 167 164 (.len (tm 166)),oT 168 164 (.bin .eql (tm 167) (Kc 0)),oo 169 (.pick (tm 164) (tm 168) (.const (.bool false))),mv 170 169,oT 171 170 (.offA 3 (tm 12)),oT 172 170 (.load 16 true (tm 171)),oT 173 170 (.load 19 true (tm 10)),oT 174 170 (.call 24 [(tm 173)]),oT 175 170 (.eqv false [.int .u8, .int .u8, .int .u8, .int .u8, .int .u8, .int .u8, .int .u8, .int .u8, .int .u8, .int .u8, .int .u8, .int .u8, .int .u8, .int .u8, .int .u8, .int .u8] (tm 172) (tm 174)),oo 176 (.pick (tm 170) (tm 175) (.const (.bool false))),mv 177 176,oT 178 177 (.load 19 true (tm 10)),oT 179 177 (.call 28 [(tm 178)]),oT 180 177 (.bin .eql (tm 179) (Kc 0)),oo 181 (.pick (tm 177) (tm 180) (.const (.bool false))),mv 26 181] [])) (.seq (.region [mv 182 26,mv 183 182,mT 184 14 183,oT 185 183 (.bin .eql (tm 184) (Kc 2)),oo 186 (.pick (tm 183) (tm 185) (.const (.bool false))),mv 187 186,mT 188 15 187,oT 189 187 (.bin .eql (tm 188) (Kc 0)),oo 190 (.pick (tm 187) (tm 189) (.const (.bool false))),mv 191 190,mT 192 16 191,oT 193 191 (.bin .eql (tm 192) (Kc 0)),oo 194 (.pick (tm 191) (tm 193) (.const (.bool false))),mv 195 194,mT 196 17 195,oT 197 195 (.bin .eql (tm 196) (Kc 25)),oo 198 (.pick (tm 195) (tm 197) (.const (.bool false))),mv 199 198,mT 200 19 199,oo 201 (.pick (tm 199) (tm 200) (.const (.bool false))),mv 202 201,oT 203 202 (.offA 3 (tm 18)),oT 204 202 (.load 1 false (tm 203)),oT 205 202 (.bin .eql (tm 204) (Kc 2)),oo 206 (.pick (tm 202) (tm 205) (.const (.bool false))),mv 207 206,oT 208 207 (.offA 4 (tm 18)),oT 209 207 (.load 4 true (tm 208)),oT 210 207 (.load 10 true (tm 6)),oT 211 207 (.call 12 [(tm 210)]),oT 212 207 (.load 10 true (tm 7)),oT 213 207 (.call 12 [(tm 212)]),oT 214 207 (.call 14 [(tm 211), (tm 213)]),oT 215 207 (.eqv false [.int .i64, .int .i64, .int .i64, .int .i64] (tm 209) (tm 214)),oo 216 (.pick (tm 207) (tm 215) (.const (.bool false))),mv 217 216,mT 218 20 217,oT 219 217 (.bin .eql (tm 218) (Kc 2)),oo 220 (.pick (tm 217) (tm 219) (.const (.bool false))),mv 221 220,mT 222 21 221,oT 223 221 (.bin .eql (tm 222) (Kc 0)),oo 224 (.pick (tm 221) (tm 223) (.const (.bool false))),mv 225 224,mT 226 23 225,oT 227 225 (.bin .eql (tm 226) (Kc 26)),oo 228 (.pick (tm 225) (tm 227) (.const (.bool false))),mv 229 228,mT 230 25 229,oT 231 229 (.bin .eql (tm 230) (Kc 26)),oo 232 (.pick (tm 229) (tm 231) (.const (.bool false))),mv 0 232] []) .ret))))))))))))))))))
theorem l11 : (Tryd.f11.body.bind (lowC Tryd.prog 233 [40, 42, 6000015, 6000016, 6000017, 6000018, 6000019, 6000022, 6000023, 1000063001013, 1000063001011, 1000066001013, 1000066001011, 1000069001013, 1000069001011])) = some c11 := by kernel_rfl
noncomputable def c3 : DCode := (.seq (.region [oo 4 (.box 10 (tm 0)),oo 5 (.box 4 (tm 1)),oo 6 (.box 4 (tm 2)),oo 7 (.box 4 (tm 3)),oo 8 (.mov (.const (.bool false)))] []) (.seq (.seq (.region [oo 11 (.load 10 true (tm 4)),oo 12 (.call 9 [(tm 11)]),oo 13 (.not (tm 12)),mv 14 13,oF 15 14 (.load 4 true (tm 5)),oF 16 14 (.call 10 [(tm 15)]),oF 17 14 (.not (tm 16)),oo 18 (.pick (tm 14) (.const (.bool true)) (tm 17)),mv 19 18,oF 20 19 (.load 4 true (tm 6)),oF 21 19 (.call 10 [(tm 20)]),oF 22 19 (.not (tm 21)),oo 23 (.pick (tm 19) (.const (.bool true)) (tm 22)),mv 24 23,oF 25 24 (.load 4 true (tm 7)),oF 26 24 (.call 10 [(tm 25)]),oF 27 24 (.not (tm 26)),oo 28 (.pick (tm 24) (.const (.bool true)) (tm 27))] []) (.cond (tm 28) (.seq (.region [oo 29 (.call 11 []),mv 8 29] []) .ret) .skip)) (.seq (.seq (.region [oo 30 (.load 10 true (tm 4)),oo 31 (.call 12 [(tm 30)]),oo 32 (.load 10 true (tm 4)),oo 33 (.call 13 [(tm 32)]),oo 34 (.eqv true [.int .i64, .int .i64, .int .i64, .int .i64] (tm 31) (tm 33)),mv 35 34,oF 36 35 (.load 4 true (tm 5)),oF 37 35 (.load 4 true (tm 6)),oF 38 35 (.call 14 [(tm 36), (tm 37)]),oF 39 35 (.load 4 true (tm 5)),oF 40 35 (.load 4 true (tm 6)),oF 41 35 (.call 15 [(tm 39), (tm 40)]),oF 42 35 (.eqv true [.int .i64, .int .i64, .int .i64, .int .i64] (tm 38) (tm 41)),oo 43 (.pick (tm 35) (.const (.bool true)) (tm 42)),mv 44 43,oF 45 44 (.load 4 true (tm 5)),oF 46 44 (.load 4 true (tm 6)),oF 47 44 (.call 16 [(tm 45), (tm 46)]),oF 48 44 (.load 4 true (tm 5)),oF 49 44 (.load 4 true (tm 6)),oF 50 44 (.call 17 [(tm 48), (tm 49)]),oF 51 44 (.eqv true [.int .i64, .int .i64, .int .i64, .int .i64] (tm 47) (tm 50)),oo 52 (.pick (tm 44) (.const (.bool true)) (tm 51)),mv 53 52,oF 54 53 (.load 10 true (tm 4)),oF 55 53 (.call 12 [(tm 54)]),oF 56 53 (.call 10 [(tm 55)]),oF 57 53 (.not (tm 56)),oo 58 (.pick (tm 53) (.const (.bool true)) (tm 57))] []) (.cond (tm 58) (.seq (.region [oo 8 (.mov (.const (.bool false)))] []) .ret) .skip)) (.seq (.region [oo 59 (.load 4 true (tm 5)),oo 60 (.load 4 true (tm 6)),oo 61 (.call 14 [(tm 59), (tm 60)]),oo 62 (.load 4 true (tm 7)),oo 63 (.call 14 [(tm 61), (tm 62)]),oo 64 (.load 4 true (tm 5)),oo 65 (.load 4 true (tm 6)),oo 66 (.load 4 true (tm 7)),oo 67 (.call 14 [(tm 65), (tm 66)]),oo 68 (.call 14 [(tm 64), (tm 67)]),oo 9 (.alloc [(Zi 0), (Zi 0), (Zi 0), (Zi 0)]),oo 10 (.alloc [(Zi 0), (Zi 0), (Zi 0), (Zi 0)]),o0 (.store 4 (tm 9) (tm 63)),o0 (.store 4 (tm 10) (tm 68))] []) (.seq (.region [oo 69 (.call 11 []),mv 70 69,oT 71 70 (.load 4 true (tm 5)),oT 72 70 (.load 4 true (tm 6)),oT 73 70 (.call 14 [(tm 71), (tm 72)]),oT 74 70 (.load 4 true (tm 6)),oT 75 70 (.load 4 true (tm 5)),oT 76 70 (.call 14 [(tm 74), (tm 75)]),oT 77 70 (.eqv false [.int .i64, .int .i64, .int .i64, .int .i64] (tm 73) (tm 76)),oo 78 (.pick (tm 70) (tm 77) (.const (.bool false))),mv 79 78,oT 80 79 (.load 4 true (tm 9)),oT 81 79 (.load 4 true (tm 10)),oT 82 79 (.eqv false [.int .i64, .int .i64, .int .i64, .int .i64] (tm 80) (tm 81)),oo 83 (.pick (tm 79) (tm 82) (.const (.bool false))),mv 84 83,oT 85 84 (.load 4 true (tm 5)),oT 86 84 (.load 4 true (tm 6)),oT 87 84 (.call 14 [(tm 85), (tm 86)]),oT 88 84 (.load 4 true (tm 6)),oT 89 84 (.call 16 [(tm 87), (tm 88)]),oT 90 84 (.load 4 true (tm 5)),oT 91 84 (.eqv false [.int .i64, .int .i64, .int .i64, .int .i64] (tm 89) (tm 90)),oo 92 (.pick (tm 84) (tm 91) (.const (.bool false))),mv 93 92,oT 94 93 (.load 4 true (tm 5)),oT 95 93 (.build [(Zi 0), (Zi 0), (Zi 0), (Zi 0)] []),oT 96 93 (.call 14 [(tm 94), (tm 95)]),oT 97 93 (.load 4 true (tm 5)),oT 98 93 (.eqv false [.int .i64, .int .i64, .int .i64, .int .i64] (tm 96) (tm 97)),oo 99 (.pick (tm 93) (tm 98) (.const (.bool false))),mv 8 99] []) .ret)))))
theorem l3 : (Tryd.f3.body.bind (lowC Tryd.prog 100 [])) = some c3 := by kernel_rfl
end Go.RC
end
section
namespace Go.DL
open Go.RowKit
section
variable [Glb] {P : Program} {X : List FuncId} {N : Nat} {w0 : World} {S0 : Base} {a : Act} {E : Env} {st : St}
def resVP (sz : TypeId → Option (Nat × Bool)) (st : St) : List ResultVar → List V → Prop
  | [], [] => True
  | .tmp t :: rs, u :: us => st.sl t = u ∧ resVP sz st rs us
  | .cell c ty :: rs, .t x :: us => resP sz st [.cell c ty] [x] ∧ resVP sz st rs us
  | _, _ => False
theorem resVP_run (h : SR N w0 S0 E st a.tmps) : ∀ {rs : List ResultVar} {us : List V}, resVP (sizesOf P) st rs us → ∃ vs : List Value, (rs.mapM (readRes a.tmps)).run P E.w = .ok vs E.w ∧ vs.length = us.length ∧ ∀ (i : Nat) (v : Value) (u : V), vs[i]? = some v → us[i]? = some u → VR E v u
  | [], [], _ => ⟨[], by simp, rfl, fun i v x hv => by simp at hv⟩
  | .tmp t :: rs, u :: us, hr => by
    obtain ⟨hu, hr'⟩ := hr
    obtain ⟨vs, h1, h2, h3⟩ := resVP_run h hr'
    refine ⟨a.tmps.getD t undef :: vs, ?_, by simp [h2], fun i v y hv hy => ?_⟩
    · rw [List.mapM_cons, Sem.run_bind]
      have : (readRes a.tmps (.tmp t)).run P E.w = .ok (a.tmps.getD t undef) E.w := rfl
      rw [this]
      simp [h1]
    · cases i with
      | zero => simp only [List.getElem?_cons_zero, Option.some.injEq] at hv hy; subst hv; subst hy; rw [← hu]; exact h.sl t
      | succ i => simp at hv hy; exact h3 i v y hv hy
  | .cell c ty :: rs, .t x :: us, hr => by
    obtain ⟨⟨hp1, _⟩, hr'⟩ := hr
    obtain ⟨vs, h1, h2, h3⟩ := resVP_run h hr'
    have key : ∃ v, (readRes a.tmps (.cell c ty)).run P E.w = .ok v E.w ∧ Rep E.S E.w v x := by
      have hs := h.sl c
      split at hp1
      · rename_i b off n agg hb hz
        rw [hb] at hs
        obtain ⟨hv, hl⟩ := hs.inv_ptr
        unfold sizesOf at hz
        split at hz
        · rename_i d i hu hi
          simp only [cond_eq_ite] at hz
          split at hz
          · simp only [Option.some.injEq, Prod.mk.injEq] at hz
            obtain ⟨rfl, rfl⟩ := hz
            split at hp1
            · rename_i cs hcs
              obtain ⟨v, k1, k2⟩ := load_res h hu hi (off := off) hcs (x := x) hp1
              refine ⟨v, ?_, k2⟩
              show (asAddr (a.tmps.getD c undef) >>= fun d => loadVar ty d).run P E.w = _
              rw [hv]
              simp [asAddr, k1]
            · exact hp1.elim
          · cases hz
        · cases hz
      · exact hp1.elim
    obtain ⟨v0, k1, k2⟩ := key
    refine ⟨v0 :: vs, ?_, by simp [h2], fun i v y hv hy => ?_⟩
    · rw [List.mapM_cons, Sem.run_bind, k1]
      simp [h1]
    · cases i with
      | zero => simp only [List.getElem?_cons_zero, Option.some.injEq] at hv hy; subst hv; subst hy; exact .t _ _ k2
      | succ i => simp at hv hy; exact h3 i v y hv hy
theorem resultsVP_run (h : SR N w0 S0 E st a.tmps) {fn : Func} {us : List V} (hr : resVP (sizesOf P) st fn.results.toList us) : ∃ v, (results fn a.tmps).run P E.w = .ok v E.w ∧ VR E v (oneV us) := by
  obtain ⟨vs, h1, h2, h3⟩ := resVP_run (P := P) h hr
  have hr : (results fn a.tmps).run P E.w = .ok (if h : vs.toArray.size = 1 then vs.toArray[0] else .tuple vs.toArray) E.w := by
    have : results fn a.tmps = (do let vs ← fn.results.mapM (readRes a.tmps); pure (if h : vs.size = 1 then vs[0] else .tuple vs)) := rfl
    rw [this, Array.mapM_eq_mapM_toList]
    rw [Sem.run_bind]
    have h2 : (Functor.map List.toArray (fn.results.toList.mapM (readRes a.tmps))).run P E.w = .ok vs.toArray E.w := by
      rw [map_eq_pure_bind, Sem.run_bind, h1]; rfl
    rw [h2]; rfl
  refine ⟨_, hr, ?_⟩
  match vs, us, h2, h3 with
  | [v], [x], _, h3 => exact h3 0 v x rfl rfl
  | [], [], _, h3 => exact .tup _ _ rfl fun i x t hx ht => by simp at ht
  | v :: u :: vs, x :: y :: xs, h2, h3 =>
    have hne : ¬ (v :: u :: vs).toArray.size = 1 := by simp
    rw [dif_neg hne]
    exact .tup _ _ (by simpa using h2) fun i z t hz ht => h3 i z t (by simpa using hz) ht
def PostVP (sz : TypeId → Option (Nat × Bool)) (rs : List ResultVar) (st : St) (d : Option Nat) (K : St → Prop) : DExit → St → Prop
  | .normal, st2 => ∃ us, resVP sz st2 rs us ∧ K ((st2.back st).set d (oneV us))
  | .ret, st2 => ∃ us, resVP sz st2 rs us ∧ K ((st2.back st).set d (oneV us))
  | .exit _, _ => False
theorem WC_inlP (hm : P.follows .mixedOrders = true) {f : FuncId} {fn : Func} {dc : DCode} {N' : Nat} {rs : List ResultVar} (hf : P.funcs[f]? = some fn) (hl : (fn.body.bind (lowC P N' X)) = some dc) (hN : fn.ntmps = N') (hn : (fn.name == "runtime.NumGoroutine") = false)
    (hr : fn.results.toList = rs) {us : List V} (off : Nat) (ha : us.length ≤ N') {d : Option Nat} {K : St → Prop} (hw : wpC P dc (st.enter us off) (PostVP (sizesOf P) rs st d K)) : WC P f us d st K := by
  cases hb : fn.body with
  | none => rw [hb] at hl; cases hl
  | some c =>
    rw [hb] at hl
    subst hN; subst hr
    refine ⟨callable_of hf (by rw [hb]; rfl) hn, fun N w0 S0 E a vs h hlen hv hd => calls_of_wp hf hb ?_⟩
    have hsr : SR fn.ntmps w0 { S0 with vals := pushB (fun m => a.getD m undef) S0.vals } E (st.enter us off) (vs ++ Array.replicate (fn.ntmps - vs.size) undef) := by
      refine ⟨by simp; omega, h.base, h.glob, fun m => ?_, fun k m => ?_, h.bx, h.live, h.inj, h.rows, h.rinj, h.lt, h.below, h.s0, h.s1, h.obj, ⟨S0.vals, h.cx⟩⟩
      · show VR _ _ (us[m]?.getD .top)
        cases ht : us[m]? with
        | none => exact .top _
        | some t =>
          have hlt : m < vs.size := by rw [hlen]; exact (List.getElem?_eq_some_iff.1 ht).1
          have hv := hv m vs[m] t (Array.getElem?_eq_getElem hlt) ht
          have : (vs ++ Array.replicate (fn.ntmps - vs.size) undef).getD m undef = vs[m] := by
            rw [Array.getD_eq_getD_getElem?, Array.getElem?_append_left hlt]
            simp [hlt]
          rw [this]
          exact hv
      · cases k with
        | zero => exact h.sl m
        | succ k => exact h.gh k m
    refine wp_mono (wpC_wp hm hl (a := { tmps := vs ++ Array.replicate (fn.ntmps - vs.size) undef, defers := [] }) hsr hw) ?_
    have fin : ∀ {a' : Act} {w' : World}, EndIs fn.ntmps w0 { S0 with vals := pushB (fun m => a.getD m undef) S0.vals } [] (fun st2 => ∃ us, resVP (sizesOf P) st2 fn.results.toList us ∧ K ((st2.back st).set d (oneV us))) a' w' → a'.defers = [] ∧ ∃ v, (results fn a'.tmps).run P w' = .ok v w' ∧
        ∃ v', Ending.returned v = .returned v' ∧ ∃ (E' : Env) (st' : St), E'.w = w' ∧ K st' ∧ SR N w0 S0 E' st' (putA a d v') := by
      rintro a' w' ⟨E', st2, rfl, hsr', hdf, us', hus, hk⟩
      obtain ⟨v, h1, h2⟩ := resultsVP_run (P := P) hsr' hus
      have hback : SR N w0 S0 E' (st2.back st) a := by
        refine ⟨h.size, hsr'.base, hsr'.glob, fun m => hsr'.gh 0 m, fun k m => hsr'.gh (k + 1) m, hsr'.bx, hsr'.live, hsr'.inj, hsr'.rows, hsr'.rinj, hsr'.lt, hsr'.below, hsr'.s0, hsr'.s1, hsr'.obj, h.cx⟩
      exact ⟨hdf, v, h1, v, rfl, E', _, rfl, hk, set_put hback hd h2⟩
    intro e a' w' hh
    cases e with
    | normal => exact fin hh
    | ret => exact fin hh
    | exit id =>
      obtain ⟨_, _, _, _, _, hk⟩ := hh
      exact hk.elim
    | goto l => exact hh.elim
    | panic ch => exact hh.elim
    | outgrown => exact hh.elim
end
end Go.DL
end
section
namespace Go.RC
open Go Go.DL Go.Proofs
set_option maxRecDepth 100000
set_option maxHeartbeats 2000000
abbrev Ent := N3 × Int × List Int
abbrev tly (c : Int) (s : List Int) : T := .agg (I c :: s.map I)
abbrev esM (es : List Ent) : List (T × T) := es.map fun e => (nk e.1, tly e.2.1 e.2.2)
def getM (k : N3) : List Ent → Option (Int × List Int)
  | [] => none
  | e :: es => if k = e.1 then some e.2 else getM k es
def putM (k : N3) (v : Int × List Int) : List Ent → List Ent
  | [] => [(k, v)]
  | e :: es => if k = e.1 then (k, v) :: es else e :: putM k v es
theorem getM_cons (k : N3) (e : Ent) (es : List Ent) : getM k (e :: es) = if k = e.1 then some e.2 else getM k es := rfl
theorem putM_cons (k : N3) (v : Int × List Int) (e : Ent) (es : List Ent) : putM k v (e :: es) = if k = e.1 then (k, v) :: es else e :: putM k v es := rfl
theorem eqL_nk (k k' : N3) : eqL (nk k).cells (nk k').cells = decide (k = k') := by
  obtain ⟨a, b, c⟩ := k
  obtain ⟨a', b', c'⟩ := k'
  show (a == a' && (b == b' && (c == c' && true))) = _
  by_cases h1 : a = a' <;> by_cases h2 : b = b' <;> by_cases h3 : c = c' <;> simp [h1, h2, h3]
theorem mfind_esM (k : N3) : ∀ es : List Ent, mfind (nk k).cells (esM es) = (getM k es).map fun v => tly v.1 v.2
  | [] => rfl
  | e :: es => by
    show cond (eqL (nk k).cells (nk e.1).cells) (some (tly e.2.1 e.2.2)) (mfind (nk k).cells (esM es)) = _
    rw [eqL_nk, mfind_esM k es, getM_cons]
    by_cases h : k = e.1
    · simp [h]
    · simp [h]
theorem mput_esM (k : N3) (v : Int × List Int) : ∀ es : List Ent, mput (nk k) (tly v.1 v.2) (esM es) = esM (putM k v es)
  | [] => rfl
  | e :: es => by
    show cond (eqL (nk k).cells (nk e.1).cells) ((nk k, tly v.1 v.2) :: esM es) ((nk e.1, tly e.2.1 e.2.2) :: mput (nk k) (tly v.1 v.2) (esM es)) = _
    rw [eqL_nk, mput_esM k v es, putM_cons]
    by_cases h : k = e.1
    · simp [h]
    · simp [h]
def noteM (k : N3) (h : List Int) (es : List Ent) : Int × List Ent :=
  if rightN k.1 k.2.1 k.2.2 && rightH h then match getM k es with
    | none => if es.length ≥ 1000 then (2, es) else (0, putM k (1, sAdd [0, 0, 0, 0] (ofH h)) es)
    | some v => if v.1 ≥ 1073741824 then (2, es) else (0, putM k (v.1 + 1, sAdd v.2 (ofH h)) es)
  else (1, es)
def okE (es : List Ent) : Prop := ∀ e ∈ es, isS e.2.2 ∧ 0 ≤ e.2.1 ∧ e.2.1 ≤ 1073741824
theorem getM_mem {k : N3} {v : Int × List Int} : ∀ {es : List Ent}, getM k es = some v → (k, v) ∈ es
  | [], h => by cases h
  | e :: es, h => by
    rw [getM_cons] at h
    split at h
    · rename_i hk
      cases h
      rw [hk]; simp
    · exact List.mem_cons_of_mem _ (getM_mem h)
abbrev lgC (a b : V) (rest : List V) : List V := a :: b :: .mp 1011 :: rest
theorem mc_Note (a b : V) (rest : List V) (es : List Ent) (he : okE es) (hel : es.length < 2 ^ 40) (s p f : Int) (h : List Int) (hl : h.length = 10) :
    MC Tryd.prog 41 [.ptr 1013 0, .t (I s), .t (I p), .t (I f), .t (hd h)] [(1013, .v (lgC a b rest)), (1011, .m true sh3 (esM es) none)] [5009, 5011, 5012] 1011 (.m true sh3 (esM (noteM (s, p, f) h es).2) none) (I (noteM (s, p, f) h es).1) := by
  refine MC_of mixed Tryd.func41 l41 rfl rfl (rs := [.tmp 10]) rfl 5000 (Nat.le_of_ble_eq_true rfl) (fun _ => trivial) (by decide) ?_
  intro st d hneed hfr
  obtain ⟨sl, bx, gh, o, cx⟩ := st
  have e1 : bx 1013 = some (.v (lgC a b rest)) := hneed (1013, _) (by simp)
  have e2 : bx 1011 = some (.m true sh3 (esM es) none) := hneed (1011, _) (by simp)
  have e3 : bx 5009 = none := hfr 5009 (by simp)
  have e4 : bx 5011 = none := hfr 5011 (by simp)
  have e5 : bx 5012 = none := hfr 5012 (by simp)
  clear hneed hfr
  obtain ⟨g, hg⟩ : ∃ g, bx = upd (upd (upd (upd (upd g 5009 none) 5011 none) 5012 none) 1013 (some (.v (lgC a b rest)))) 1011 (some (.m true sh3 (esM es) none)) :=
    ⟨bx, by rw [upd_same_id e3, upd_same_id e4, upd_same_id e5, upd_same_id e1, upd_same_id e2]⟩
  subst hg
  clear e1 e2 e3 e4 e5
  have hR := t_right s p f
  have hO := fun (hh : okH h) => t_OfH h hh
  have hC := t_ContainsFunc 69 _ h (by rw [hl]; decide) (fun x _ => t_wide x)
  have hci : (h.any fun x => decide (x < 0) || decide (x > 65535)) = !rightH h := by
    unfold rightH
    rw [List.not_all_eq_any_not]
    congr 1
    funext x
    by_cases h1 : x < 0 <;> by_cases h2 : x > 65535 <;> simp [h1, h2] <;> omega
  rw [hci] at hC
  rw [← chunk1 (f := I) h 10 hl] at hC
  unfold noteM
  cases h1 : rightN s p f with
  | false =>
    rw [h1] at hR
    repeat' ((conv => whnf); first | exact trivial | refine k_call _ (hR) ?_ | refine nT_ ?_ | refine aE1 ?_ | refine aE0 ?_ | refine aN1 ?_ | refine aN0 ?_ | refine aD1 ?_ | refine aD0 ?_ | refine nE_ (fun hq => ?_) (fun hq => ?_) | refine nN_ (fun hq => ?_) (fun hq => ?_) | refine nD_ (fun hq => ?_) (fun hq => ?_) | refine rb1 ?_ | refine rb0 ?_ | refine rbx ?_ | refine rix ?_ | (refine And.intro (by first | (exact (List.length_map _).trans hl; done) | fail) ?_) | refine aS ?_ | fail)
    refine ⟨[.t (I 1)], rfl, ?_⟩
    cases d <;> refine ⟨rfl, rfl, rfl, rfl, rfl, fun n h1 h2 => ?_⟩
    all_goals
      simp only [List.mem_cons, List.not_mem_nil, or_false, not_or] at h2
      show upd (upd (upd _ 5009 _) 5011 _) 5011 _ n = _
      rw [upd_other _ _ _ _ h2.2.1, upd_other _ _ _ _ h2.2.1, upd_other _ _ _ _ h2.1]
      rfl
  | true =>
    rw [h1] at hR
    cases h2 : rightH h with
    | false =>
      rw [h2] at hC
      repeat' ((conv => whnf); first | exact trivial | refine k_call _ (hR) ?_ | refine k_call _ (hC) ?_ | refine nT_ ?_ | refine aE1 ?_ | refine aE0 ?_ | refine aN1 ?_ | refine aN0 ?_ | refine aD1 ?_ | refine aD0 ?_ | refine nE_ (fun hq => ?_) (fun hq => ?_) | refine nN_ (fun hq => ?_) (fun hq => ?_) | refine nD_ (fun hq => ?_) (fun hq => ?_) | refine rb1 ?_ | refine rb0 ?_ | refine rbx ?_ | refine rix ?_ | (refine And.intro (by first | (exact (List.length_map _).trans hl; done) | fail) ?_) | refine aS ?_ | fail)
      refine ⟨[.t (I 1)], rfl, ?_⟩
      cases d <;> refine ⟨rfl, rfl, rfl, rfl, rfl, fun n h1 h2 => ?_⟩
      all_goals
        simp only [List.mem_cons, List.not_mem_nil, or_false, not_or] at h2
        show upd (upd (upd _ 5009 _) 5011 _) 5011 _ n = _
        rw [upd_other _ _ _ _ h2.2.1, upd_other _ _ _ _ h2.2.1, upd_other _ _ _ _ h2.1]
        rfl
    | true =>
      rw [h2] at hC
      have hok := (rightH_ok hl).1 h2
      have hOf := hO hok
      have hofS := ofH_isS h
      generalize ofH h = oh at hOf hofS
      have hkey : keyOk true sh3 (nk (s, p, f)) := ⟨rfl, rfl, rfl, rfl, trivial⟩
      have hmf := mfind_esM (s, p, f) es
      rw [if_pos (show (true && true) = true from rfl)]
      cases h3 : getM (s, p, f) es with
      | none =>
        rw [h3] at hmf
        have hz : isS [0, 0, 0, 0] := ⟨rfl, by simp [M32]⟩
        have hA := t_sAdd [0, 0, 0, 0] oh hz hofS
        have hpu := mput_esM (s, p, f) (1, sAdd [0, 0, 0, 0] oh) es
        have hAl := (isS_add hz hofS).1
        show wpC _ _ _ (PostV _ _ _ (Ended _ _ _ _ (.m true sh3 (esM (if es.length ≥ 1000 then ((2 : Int), es) else (0, putM (s, p, f) (1, sAdd [0, 0, 0, 0] oh) es)).2) none) (I (if es.length ≥ 1000 then ((2 : Int), es) else (0, putM (s, p, f) (1, sAdd [0, 0, 0, 0] oh) es)).1)))
        generalize sAdd [0, 0, 0, 0] oh = sa at *
        obtain ⟨a0, a1, a2, a3, rfl⟩ : ∃ a b c d, sa = [a, b, c, d] := by
          match sa, hAl with
          | [a, b, c, d], _ => exact ⟨a, b, c, d, rfl⟩
        by_cases h4 : es.length ≥ 1000
        · rw [if_pos h4]
          repeat' ((conv => whnf); first | exact trivial | refine k_call _ (hR) ?_ | refine k_call _ (hC) ?_ | (refine nv_ (.tup [.agg [I 0, I 0, I 0, I 0, I 0], .bool false]) (by show mres _ _ (mfind (nk (s, p, f)).cells (esM es)) = _; rw [hmf]; rfl) ?_) | (refine now_D1 (by simp; omega) ?_) | refine nT_ ?_ | refine aE1 ?_ | refine aE0 ?_ | refine aN1 ?_ | refine aN0 ?_ | refine aD1 ?_ | refine aD0 ?_ | refine nE_ (fun hq => ?_) (fun hq => ?_) | refine nN_ (fun hq => ?_) (fun hq => ?_) | refine nD_ (fun hq => ?_) (fun hq => ?_) | refine rb1 ?_ | refine rb0 ?_ | refine rbx ?_ | refine rix ?_ | (refine And.intro (by first | (exact (List.length_map _).trans hl; done) | (exact hkey; done) | fail) ?_) | refine aS ?_ | fail)
          refine ⟨[.t (I 2)], rfl, ?_⟩
          cases d <;> refine ⟨rfl, rfl, rfl, rfl, rfl, fun n h1 h2 => ?_⟩
          all_goals
            simp only [List.mem_cons, List.not_mem_nil, or_false, not_or] at h2
            show upd (upd (upd (upd (upd _ 5009 _) 5011 _) 5011 _) 5012 _) 5012 _ n = _
            rw [upd_other _ _ _ _ h2.2.2, upd_other _ _ _ _ h2.2.2, upd_other _ _ _ _ h2.2.1, upd_other _ _ _ _ h2.2.1, upd_other _ _ _ _ h2.1]
            rfl
        · rw [if_neg h4]
          repeat' ((conv => whnf); first | exact trivial | refine k_call _ (hR) ?_ | refine k_call _ (hC) ?_ | (refine nv_ (.tup [.agg [I 0, I 0, I 0, I 0, I 0], .bool false]) (by show mres _ _ (mfind (nk (s, p, f)).cells (esM es)) = _; rw [hmf]; rfl) ?_) | (refine now_D0 (by simp; omega) ?_) | refine k_call _ (hOf) ?_ | refine k_call _ (hA) ?_ | refine nT_ ?_ | refine aE1 ?_ | refine aE0 ?_ | refine aN1 ?_ | refine aN0 ?_ | refine aD1 ?_ | refine aD0 ?_ | refine nE_ (fun hq => ?_) (fun hq => ?_) | refine nN_ (fun hq => ?_) (fun hq => ?_) | refine nD_ (fun hq => ?_) (fun hq => ?_) | refine rb1 ?_ | refine rb0 ?_ | refine rbx ?_ | refine rix ?_ | (refine And.intro (by first | (exact (List.length_map _).trans hl; done) | (exact hkey; done) | fail) ?_) | refine aS ?_ | fail)
          refine ⟨[.t (I 0)], rfl, ?_⟩
          cases d <;> refine ⟨rfl, rfl, rfl, rfl, congrArg (fun es => some (BX.m true sh3 es none)) hpu, fun n h1 h2 => ?_⟩
          all_goals
            simp only [List.mem_cons, List.not_mem_nil, or_false, not_or] at h2
            show upd (upd (upd (upd (upd (upd _ 5009 _) 5011 _) 5011 _) 5012 _) 5012 _) 1011 _ n = _
            rw [upd_other _ _ _ _ h1, upd_other _ _ _ _ h2.2.2, upd_other _ _ _ _ h2.2.2, upd_other _ _ _ _ h2.2.1, upd_other _ _ _ _ h2.2.1, upd_other _ _ _ _ h2.1]
            rfl
      | some v =>
        obtain ⟨c, t⟩ := v
        rw [h3] at hmf
        obtain ⟨hts, hc0, hc1⟩ := he _ (getM_mem h3)
        dsimp only at hts hc0 hc1
        have hA := t_sAdd t oh hts hofS
        have hpu := mput_esM (s, p, f) (c + 1, sAdd t oh) es
        have hAl := (isS_add hts hofS).1
        show wpC _ _ _ (PostV _ _ _ (Ended _ _ _ _ (.m true sh3 (esM (if c ≥ 1073741824 then ((2 : Int), es) else (0, putM (s, p, f) (c + 1, sAdd t oh) es)).2) none) (I (if c ≥ 1073741824 then ((2 : Int), es) else (0, putM (s, p, f) (c + 1, sAdd t oh) es)).1)))
        generalize sAdd t oh = sa at *
        obtain ⟨a0, a1, a2, a3, rfl⟩ : ∃ a b c d, sa = [a, b, c, d] := by
          match sa, hAl with
          | [a, b, c, d], _ => exact ⟨a, b, c, d, rfl⟩
        obtain ⟨t0, t1, t2, t3, rfl⟩ : ∃ a b c d, t = [a, b, c, d] := by
          match t, hts.1 with
          | [a, b, c, d], _ => exact ⟨a, b, c, d, rfl⟩
        have hw : IntKind.i64.wrap (c + 1) = c + 1 := wrap_id (by omega) (by omega)
        by_cases h4 : c ≥ 1073741824
        · rw [if_pos h4]
          repeat' ((conv => whnf); first | exact trivial | refine k_call _ (hR) ?_ | refine k_call _ (hC) ?_ | (refine nv_ (.tup [tly c [t0, t1, t2, t3], .bool true]) (by show mres _ _ (mfind (nk (s, p, f)).cells (esM es)) = _; rw [hmf]; rfl) ?_) | refine nT_ ?_ | refine aE1 ?_ | refine aE0 ?_ | refine aN1 ?_ | refine aN0 ?_ | refine aD1 ?_ | refine aD0 ?_ | refine nE_ (fun hq => ?_) (fun hq => ?_) | refine nN_ (fun hq => ?_) (fun hq => ?_) | refine nD_ (fun hq => ?_) (fun hq => ?_) | refine rb1 ?_ | refine rb0 ?_ | refine rbx ?_ | refine rix ?_ | (refine And.intro (by first | (exact (List.length_map _).trans hl; done) | (exact hkey; done) | fail) ?_) | refine aS ?_ | fail)
          refine ⟨[.t (I 2)], rfl, ?_⟩
          cases d <;> refine ⟨rfl, rfl, rfl, rfl, rfl, fun n h1 h2 => ?_⟩
          all_goals
            simp only [List.mem_cons, List.not_mem_nil, or_false, not_or] at h2
            show upd (upd (upd (upd (upd _ 5009 _) 5011 _) 5011 _) 5012 _) 5012 _ n = _
            rw [upd_other _ _ _ _ h2.2.2, upd_other _ _ _ _ h2.2.2, upd_other _ _ _ _ h2.2.1, upd_other _ _ _ _ h2.2.1, upd_other _ _ _ _ h2.1]
            rfl
        · rw [if_neg h4]
          repeat' ((conv => whnf); first | exact trivial | refine k_call _ (hR) ?_ | refine k_call _ (hC) ?_ | (refine nv_ (.tup [tly c [t0, t1, t2, t3], .bool true]) (by show mres _ _ (mfind (nk (s, p, f)).cells (esM es)) = _; rw [hmf]; rfl) ?_) | refine k_call _ (hOf) ?_ | refine k_call _ (hA) ?_ | refine nT_ ?_ | refine aE1 ?_ | refine aE0 ?_ | refine aN1 ?_ | refine aN0 ?_ | refine aD1 ?_ | refine aD0 ?_ | refine nE_ (fun hq => ?_) (fun hq => ?_) | refine nN_ (fun hq => ?_) (fun hq => ?_) | refine nD_ (fun hq => ?_) (fun hq => ?_) | refine rb1 ?_ | refine rb0 ?_ | refine rbx ?_ | refine rix ?_ | (refine And.intro (by first | (exact (List.length_map _).trans hl; done) | (exact hkey; done) | fail) ?_) | refine aS ?_ | fail)
          refine ⟨[.t (I 0)], rfl, ?_⟩
          cases d <;> refine ⟨rfl, rfl, rfl, rfl, (congrArg (fun c => some (BX.m true sh3 (mput (nk (s, p, f)) (tly c [a0, a1, a2, a3]) (esM es)) none)) hw).trans (congrArg (fun es => some (BX.m true sh3 es none)) hpu), fun n h1 h2 => ?_⟩
          all_goals
            simp only [List.mem_cons, List.not_mem_nil, or_false, not_or] at h2
            show upd (upd (upd (upd (upd (upd _ 5009 _) 5011 _) 5011 _) 5012 _) 5012 _) 1011 _ n = _
            rw [upd_other _ _ _ _ h1, upd_other _ _ _ _ h2.2.2, upd_other _ _ _ _ h2.2.2, upd_other _ _ _ _ h2.2.1, upd_other _ _ _ _ h2.2.1, upd_other _ _ _ _ h2.1]
            rfl
end Go.RC
end
