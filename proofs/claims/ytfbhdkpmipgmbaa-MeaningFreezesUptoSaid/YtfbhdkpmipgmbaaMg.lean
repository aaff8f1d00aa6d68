/- Joined by program: parts of a data level over the model, and of the program's functions over it. No statement here. -/
import Derived.Test.YtfbhdkpmipgmbaaMf
section
/- Meaning: contracts of what the statements call; what they hand on. -/
namespace Go.MM
open Go Go.DL Go.Proofs
set_option maxRecDepth 100000
set_option maxHeartbeats 8000000

/-- A policy, a predicate, by its cells. -/
abbrev eo (p : Po) : T := .agg (cellsS (rawO p))
abbrev ep (p : Pr) : T := .agg (cellsR (rawP p))
theorem ep_eq (p : Pr) : ep p = encP p := by rw [← encR_raw, encR_cells]
theorem eo_eq (p : Po) : eo p = encO p := cellsS_raw p

/-- A policy that can be handed to the specification's checks. -/
structure Sm (r : RO) : Prop where
  wt : r.wt < 2 ^ 40
  nm : namesO r

theorem r24 (r : RP) : DCalls Try.prog 24 [.agg (cellsR r)] (.agg (cellsS (.mk 1 r e0 0 []))) := by
  obtain ⟨k, f, n, m, a⟩ := r
  refine leAgg (dcalls_low (rs := [.cell 2 38]) mixed Try.func24 l24 rfl rfl rfl (r := [.agg [I 1, I k, .str f, I n, I m, .slice 5 (a.map encR), nm0, I 0, .nil]]) (Nat.le_of_ble_eq_true rfl) ?_) (.same _ (.same _ (.same _ (.same _ (.same _ (.same _ (.same _ (.same _ (.none _ .nil)))))))))
  repeat' ((conv => whnf); first | exact trivial | refine now_T ?_ | refine aE1 ?_ | refine aE0 ?_ | refine aN1 ?_ | refine aN0 ?_ | refine aD1 ?_ | refine aD0 ?_ | refine now_E (fun hq => ?_) (fun hq => ?_) | refine now_N (fun hq => ?_) (fun hq => ?_) | refine now_D (fun hq => ?_) (fun hq => ?_) | refine rb1 ?_ | refine rb0 ?_ | refine rbx ?_ | refine rix ?_ | refine aS ?_ | fail)

def typedB (l : List Fd) (p q : Po) : Bool := (polI l (rawO p) == 0) && (polI l (rawO q) == 0)
theorem t27 (l : List Fd) (hl : LOk l) (p q : Po) (hp : Sm (rawO p)) (hq : Sm (rawO q)) : DCalls Try.prog 27 [fds l, eo p, eo q] (.bool (typedB l p q)) := by
  refine dcalls_low (rs := [.tmp 6]) mixed Try.func27 l27 rfl rfl rfl (r := [.bool _]) (Nat.le_of_ble_eq_true rfl) ?_
  have h1 := t40 l hl _ hp.wt hp.nm
  have h2 := t40 l hl _ hq.wt hq.nm
  unfold typedB
  generalize polI l (rawO p) = a at *
  generalize polI l (rawO q) = b at *
  repeat' ((conv => whnf); first | exact trivial | refine k_call _ (h1) ?_ | refine k_call _ (h2) ?_ | refine now_T ?_ | refine aE1 ?_ | refine aE0 ?_ | refine aN1 ?_ | refine aN0 ?_ | refine aD1 ?_ | refine aD0 ?_ | refine now_E (fun hq => ?_) (fun hq => ?_) | refine now_N (fun hq => ?_) (fun hq => ?_) | refine now_D (fun hq => ?_) (fun hq => ?_) | refine rb1 ?_ | refine rb0 ?_ | refine rbx ?_ | refine rix ?_ | (refine And.intro (by first | (exact cellsS_len _; done) | fail) ?_) | refine aS ?_ | fail)

theorem typedB_ok {l : List Fd} {p q : Po} (h : typedB l p q = true) : OOk l p ∧ OOk l q := by
  simp only [typedB, Bool.and_eq_true, beq_iff_eq] at h
  exact ⟨typed_ok h.1, typed_ok h.2⟩

/-- Two policies give the same, if both give something. -/
def sameG (a b : Option (List (List Int))) : Bool := match a, b with
  | some x, some y => x == y
  | _, _ => true
def agreeB (l : List Fd) (tick : Int) (h : List Int) (p q : Po) : Bool := if typedB l p q then sameG (gives l tick p h) (gives l tick q h) else true

theorem t23 (l : List Fd) (hl : LOk l) (p q : Po) (hp : Sm (rawO p)) (hq : Sm (rawO q)) (h : List Int) (hh : HOk h) (tick : Int) : DCalls Try.prog 23 [fds l, eo p, eo q, hd h, I tick] (.bool (agreeB l tick h p q)) := by
  refine dcalls_low (rs := [.tmp 10]) mixed Try.func23 l23 rfl rfl rfl (r := [.bool _]) (Nat.le_of_ble_eq_true rfl) ?_
  have h27 := t27 l hl p q hp hq
  unfold agreeB
  cases hT : typedB l p q with
  | false =>
    rw [hT] at h27
    repeat' ((conv => whnf); first | exact trivial | refine k_call _ (h27) ?_ | refine now_T ?_ | refine aE1 ?_ | refine aE0 ?_ | refine aN1 ?_ | refine aN0 ?_ | refine aD1 ?_ | refine aD0 ?_ | refine now_E (fun hq => ?_) (fun hq => ?_) | refine now_N (fun hq => ?_) (fun hq => ?_) | refine now_D (fun hq => ?_) (fun hq => ?_) | refine rb1 ?_ | refine rb0 ?_ | refine rbx ?_ | refine rix ?_ | (refine And.intro (by first | (exact cellsS_len _; done) | (simp [hh.len]; done) | fail) ?_) | refine aS ?_ | fail)
  | true =>
    rw [hT] at h27
    obtain ⟨op, oq⟩ := typedB_ok hT
    have h1 := t28 l hl tick p op h hh
    have h2 := t28 l hl tick q oq h hh
    rw [← eo_eq] at h1 h2
    have k1 : ∀ s, gives l tick p h = some s → SOk s := fun s e => gives_ok hl op hh e
    have k2 : ∀ s, gives l tick q h = some s → SOk s := fun s e => gives_ok hl oq hh e
    rw [if_pos rfl]
    generalize gives l tick p h = a at *
    generalize gives l tick q h = b at *
    cases a with
    | none => cases b <;> repeat' ((conv => whnf); first | exact trivial | refine k_call _ (h27) ?_ | refine k_call _ (h1) ?_ | refine k_call _ (h2) ?_ | refine now_T ?_ | refine aE1 ?_ | refine aE0 ?_ | refine aN1 ?_ | refine aN0 ?_ | refine aD1 ?_ | refine aD0 ?_ | refine now_E (fun hq => ?_) (fun hq => ?_) | refine now_N (fun hq => ?_) (fun hq => ?_) | refine now_D (fun hq => ?_) (fun hq => ?_) | refine rb1 ?_ | refine rb0 ?_ | refine rbx ?_ | refine rix ?_ | (refine And.intro (by first | (exact cellsS_len _; done) | (simp [hh.len]; done) | fail) ?_) | refine aS ?_ | fail)
    | some x =>
      cases b with
      | none => repeat' ((conv => whnf); first | exact trivial | refine k_call _ (h27) ?_ | refine k_call _ (h1) ?_ | refine k_call _ (h2) ?_ | refine now_T ?_ | refine aE1 ?_ | refine aE0 ?_ | refine aN1 ?_ | refine aN0 ?_ | refine aD1 ?_ | refine aD0 ?_ | refine now_E (fun hq => ?_) (fun hq => ?_) | refine now_N (fun hq => ?_) (fun hq => ?_) | refine now_D (fun hq => ?_) (fun hq => ?_) | refine rb1 ?_ | refine rb0 ?_ | refine rbx ?_ | refine rix ?_ | (refine And.intro (by first | (exact cellsS_len _; done) | (simp [hh.len]; done) | fail) ?_) | refine aS ?_ | fail)
      | some y =>
        have h14 := t14 x y (k1 x rfl).ok.len (k2 y rfl).ok.len (by have := (k1 x rfl).len; omega)
        simp only [sameG]
        generalize (x == y) = e at *
        repeat' ((conv => whnf); first | exact trivial | refine k_call _ (h27) ?_ | refine k_call _ (h1) ?_ | refine k_call _ (h2) ?_ | refine k_call _ (h14) ?_ | refine now_T ?_ | refine aE1 ?_ | refine aE0 ?_ | refine aN1 ?_ | refine aN0 ?_ | refine aD1 ?_ | refine aD0 ?_ | refine now_E (fun hq => ?_) (fun hq => ?_) | refine now_N (fun hq => ?_) (fun hq => ?_) | refine now_D (fun hq => ?_) (fun hq => ?_) | refine rb1 ?_ | refine rb0 ?_ | refine rbx ?_ | refine rix ?_ | (refine And.intro (by first | (exact cellsS_len _; done) | (simp [hh.len]; done) | fail) ?_) | refine aS ?_ | fail)

/-- What a right call of a statement about some policies gives. -/
theorem right_ok {l : List RF} {h : List Int} {tick : Int} {rs : List RO} (hh : h.length = 10) (hr : rightB l h tick rs = true) :
    Checked l ∧ HOk h ∧ 0 ≤ tick ∧ tick ≤ 1073741824 ∧ ∀ r ∈ rs, polI (l.map RF.fd) r = 0 ∧ r.cnt ≤ 40 ∧ r.stars ≤ 2 ∧ lightB r.stars r.puts = true := by
  simp only [rightB, preB, Bool.and_eq_true, beq_iff_eq, decide_eq_true_eq, List.all_eq_true, fewB] at hr
  obtain ⟨⟨⟨⟨h1, h2⟩, h3⟩, h4⟩, h5⟩ := hr
  exact ⟨checked_of h1, ⟨hh, h2⟩, h3, h4, fun r hm => by obtain ⟨⟨⟨a, b⟩, c⟩, d⟩ := h5 r hm; exact ⟨a, b, c, d⟩⟩

theorem set_ok (m : Int) (hm : m ≤ 100) {a : List (List Int)} (ha : Len10 a) (h : (setB a && decide ((a.length : Int) ≤ m)) = true) : SOk a := by
  refine setB_ok ha ?_
  rw [Bool.and_eq_true, decide_eq_true_eq] at h ⊢
  exact ⟨h.1, by omega⟩

end Go.MM
end
section
/- Meaning: the arguments of the statements. -/
namespace Go.MM
open Go Go.DL Go.Proofs
set_option maxRecDepth 100000

theorem aInt {us : List T} (h : HasC Try.prog 3 us) : ∃ n, mkT Try.prog 3 us = I n := by
  obtain ⟨n, rfl, _⟩ := hasInt h
  exact ⟨n, by unfold mkT; rw [Try.underlying3]; rfl⟩
theorem aStr {us : List T} (h : HasC Try.prog 9 us) : ∃ s, mkT Try.prog 9 us = .str s ∧ s.size < bulkL us := by
  obtain ⟨s, rfl⟩ := hasStr h
  exact ⟨s, by unfold mkT; rw [und9]; rfl, by simp [bulkL, T.bulk]⟩
theorem aHead {us : List T} (h : HasC Try.prog 24 us) : ∃ h, mkT Try.prog 24 us = hd h ∧ h.length = 10 := by
  obtain ⟨x, rfl, hx, _⟩ := hasHead h
  exact ⟨x, mk24 _, hx⟩
theorem aHeads {us : List T} (h : HasC Try.prog 22 us) : ∃ a, Les (mkT Try.prog 22 us) (heads a) ∧ Len10 a ∧ a.length < 2 ^ 63 := by
  obtain ⟨a, a1, a2, _, a4 | ⟨a4, rfl⟩⟩ := hasHeads h
  · exact ⟨a, by rw [a4]; exact Les.refl _, a1, a2⟩
  · exact ⟨[], by rw [a4]; exact Les.nil 10, a1, a2⟩
theorem aPol {us : List T} (h : HasC Try.prog 38 us) (hb : bulkL us ≤ 1048576) : ∃ r, Les (mkT Try.prog 38 us) (.agg (cellsS r)) ∧ Sm r ∧ r.wt ≤ 1048576 := by
  obtain ⟨r, r1, r2, r3⟩ := (rd_policy h).1 rfl
  exact ⟨r, by rw [mk38]; exact Les.agg r1, ⟨by omega, r3 (by omega)⟩, by omega⟩
theorem aPred {us : List T} (h : HasC Try.prog 35 us) (hb : bulkL us ≤ 1048576) : ∃ r, Les (mkT Try.prog 35 us) (.agg (cellsR r)) ∧ r.nodes ≤ 1048576 ∧ namesP r := by
  obtain ⟨r, r1, r2, r3⟩ := (rd_pred h).1 rfl
  exact ⟨r, by rw [mk35]; exact Les.agg r1, by omega, r3 (by omega)⟩
theorem aFields {us : List T} (h : HasC Try.prog 32 us) (hb : bulkL us ≤ 1048576) : ∃ l, Les (mkT Try.prog 32 us) (encFs l) ∧ l.length < 2 ^ 60 ∧ ∀ f ∈ l, f.name.size < 2 ^ 62 := by
  obtain ⟨l, h1, h2, h3⟩ := rd_fields h
  exact ⟨l, h1, by omega, fun f hf => by have := h3 f hf; omega⟩
end Go.MM
end
