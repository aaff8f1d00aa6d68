/- Meaning: policies as relations between heads. -/
import Derived.Test.YtfbhdkpmipgmbaaMg
namespace Go.MM
open Go Go.DL Go.Proofs

/-- Reached by any number of steps. -/
inductive Reach (R : List Int → List Int → Prop) : List Int → List Int → Prop
  | refl (h : List Int) : Reach R h h
  | step {h y z : List Int} (a : Reach R h y) (b : R y z) : Reach R h z
theorem Reach.trans {R : List Int → List Int → Prop} {a b c : List Int} (h : Reach R a b) (k : Reach R b c) : Reach R a c := by
  induction k with
  | refl => exact h
  | step _ r ih => exact .step ih r
theorem Reach.one {R : List Int → List Int → Prop} {a b : List Int} (h : R a b) : Reach R a b := .step (.refl a) h
theorem Reach.mono {R R' : List Int → List Int → Prop} (hr : ∀ a b, R a b → Reach R' a b) {a b : List Int} (h : Reach R a b) : Reach R' a b := by
  induction h with
  | refl => exact .refl _
  | step _ r ih => exact ih.trans (hr _ _ r)
theorem Reach.head {R : List Int → List Int → Prop} {a b : List Int} (h : Reach R a b) : a = b ∨ ∃ c, R a c ∧ Reach R c b := by
  induction h with
  | refl => exact .inl rfl
  | step h1 r ih =>
    rcases ih with rfl | ⟨c, h2, h3⟩
    · exact .inr ⟨_, r, .refl _⟩
    · exact .inr ⟨c, h2, .step h3 r⟩

/-- What a policy gives, whatever the size. -/
def Den (l : List Fd) (tick : Int) : Po → List Int → List Int → Prop
  | .filter p, h, z => holds l tick h p = true ∧ z = h
  | .set f n, h, z => z = setF (fld l f) h n
  | .union a b, h, z => Den l tick a h z ∨ Den l tick b h z
  | .seq a b, h, z => ∃ y, Den l tick a h y ∧ Den l tick b y z
  | .star a, h, z => Reach (Den l tick a) h z

theorem image_mem {g : List Int → Option (List (List Int))} (hg : ∀ h s, HOk h → g h = some s → SOk s) : ∀ {hs out s : List (List Int)}, AllOk hs → SOk out → image g hs out = some s →
    (∀ z, z ∈ s ↔ z ∈ out ∨ ∃ y ∈ hs, ∃ t, g y = some t ∧ z ∈ t) ∧ ∀ y ∈ hs, ∃ t, g y = some t
  | [], out, s, _, ho, h => by cases h; simp
  | x :: hs, out, s, hx, ho, h => by
    unfold image at h
    cases hgx : g x with
    | none => rw [hgx] at h; cases h
    | some a =>
      rw [hgx] at h
      simp only at h
      have ha := hg x a (hx x (by simp)) hgx
      cases hsm : small (mrg out a) with
      | none => rw [hsm] at h; cases h
      | some out' =>
        rw [hsm] at h
        simp only at h
        obtain ⟨h1, rfl⟩ := small_ok (srt_mrg ho.ok.len ha.ok.len ho.srt ha.srt) (allOk_mrg ho.ok ha.ok) hsm
        obtain ⟨k1, k2⟩ := image_mem hg (fun y hy => hx y (by simp [hy])) h1 h
        refine ⟨fun z => ?_, fun y hy => ?_⟩
        · rw [k1, mem_mrg ho.ok.len ha.ok.len]
          constructor
          · rintro ((hz | hz) | ⟨y, hy, t, ht, hz⟩)
            · exact .inl hz
            · exact .inr ⟨x, by simp, a, hgx, hz⟩
            · exact .inr ⟨y, by simp [hy], t, ht, hz⟩
          · rintro (hz | ⟨y, hy, t, ht, hz⟩)
            · exact .inl (.inl hz)
            · rcases List.mem_cons.1 hy with rfl | hy
              · rw [hgx] at ht; cases ht; exact .inl (.inr hz)
              · exact .inr ⟨y, hy, t, ht, hz⟩
        · rcases List.mem_cons.1 hy with rfl | hy
          · exact ⟨a, hgx⟩
          · exact k2 y hy

theorem rounds_mem {g : List Int → Option (List (List Int))} (hg : ∀ h s, HOk h → g h = some s → SOk s) {D : List Int → List Int → Prop} (hD : ∀ y t, HOk y → g y = some t → ∀ z, z ∈ t ↔ D y z) {h0 : List Int} :
    ∀ {n : Nat} {all last : List (List Int)} {r : Nat} {s : List (List Int)} {k : Nat}, SOk all → SOk last → (∀ z ∈ all, Reach D h0 z) → (∀ z ∈ last, z ∈ all) → (∀ y ∈ all, ¬ y ∈ last → ∀ z, D y z → z ∈ all) →
      rounds (fun s => image g s []) n all last r = some (s, k) → (∀ z ∈ s, Reach D h0 z) ∧ (∀ z ∈ all, z ∈ s) ∧ ∀ y ∈ s, ∀ z, D y z → z ∈ s
  | 0, all, last, r, s, k, _, _, _, _, _, h => by cases h
  | n + 1, all, last, r, s, k, ha, hl, i1, i2, i3, h => by
    unfold rounds at h
    cases him : image g last [] with
    | none => simp only [him] at h; cases h
    | some next =>
      simp only [him] at h
      have hn := image_ok hg hl.ok sok_nil him
      obtain ⟨m1, m2⟩ := image_mem hg hl.ok sok_nil him
      have hf := filter_sok (fun x => !all.contains x) hn
      generalize hfr : next.filter (fun x => !all.contains x) = fresh at *
      have mf : ∀ z, z ∈ fresh ↔ z ∈ next ∧ ¬ z ∈ all := fun z => by rw [← hfr]; simp
      cases hsm : small (mrg all fresh) with
      | none => rw [hsm] at h; cases h
      | some all' =>
        rw [hsm] at h
        simp only at h
        obtain ⟨a1, rfl⟩ := small_ok (srt_mrg ha.ok.len hf.ok.len ha.srt hf.srt) (allOk_mrg ha.ok hf.ok) hsm
        have mm : ∀ z, z ∈ mrg all fresh ↔ z ∈ all ∨ z ∈ fresh := fun z => mem_mrg ha.ok.len hf.ok.len
        have stepL : ∀ y ∈ last, ∀ z, D y z → z ∈ mrg all fresh := fun y hy z hz => by
          obtain ⟨t, ht⟩ := m2 y hy
          have hzt := (hD y t (hl.ok y hy) ht z).2 hz
          rw [mm]
          by_cases hza : z ∈ all
          · exact .inl hza
          · exact .inr ((mf z).2 ⟨(m1 z).2 (.inr ⟨y, hy, t, ht, hzt⟩), hza⟩)
        have nextR : ∀ z ∈ next, Reach D h0 z := fun z hz => by
          rcases (m1 z).1 hz with hz | ⟨y, hy, t, ht, hzt⟩
          · cases hz
          · exact .step (i1 y (i2 y hy)) ((hD y t (hl.ok y hy) ht z).1 hzt)
        have allR : ∀ z ∈ mrg all fresh, Reach D h0 z := fun z hz => by
          rcases (mm z).1 hz with hz | hz
          · exact i1 z hz
          · exact nextR z ((mf z).1 hz).1
        have clos : ∀ y ∈ mrg all fresh, ¬ y ∈ fresh → ∀ z, D y z → z ∈ mrg all fresh := fun y hy hnf z hz => by
          rcases (mm y).1 hy with hya | hyf
          · by_cases hyl : y ∈ last
            · exact stepL y hyl z hz
            · exact (mm z).2 (.inl (i3 y hya hyl z hz))
          · exact absurd hyf hnf
        split at h
        · rename_i he
          cases h
          exact ⟨allR, fun z hz => (mm z).2 (.inl hz), fun y hy z hz => clos y hy (by rw [he]; simp) z hz⟩
        · obtain ⟨k1, k2, k3⟩ := rounds_mem hg hD a1 hf allR (fun z hz => (mm z).2 (.inr hz)) clos h
          exact ⟨k1, fun z hz => k2 z ((mm z).2 (.inl hz)), k3⟩

theorem reach_in {D : List Int → List Int → Prop} {s : List (List Int)} (hc : ∀ y ∈ s, ∀ z, D y z → z ∈ s) {h z : List Int} (hh : h ∈ s) (hr : Reach D h z) : z ∈ s := by
  induction hr with
  | refl => exact hh
  | step _ r ih => exact hc _ ih _ r

/-- What is given is what the relation says. -/
theorem den {l : List Fd} (hl : LOk l) {tick : Int} : ∀ {p : Po}, OOk l p → ∀ {h : List Int} {s : List (List Int)}, HOk h → gives l tick p h = some s → ∀ z, z ∈ s ↔ Den l tick p h z
  | .filter p, _, h, s, hh, e, z => by
    simp only [gives, Option.some.injEq] at e
    subst e
    simp only [Den]
    split
    · rename_i hc; simp [hc]
    · rename_i hc; simp [hc]
  | .set f n, _, h, s, hh, e, z => by
    simp only [gives, Option.some.injEq] at e
    subst e
    simp [Den]
  | .union a b, ho, h, s, hh, e, z => by
    simp only [gives] at e
    cases ha : gives l tick a h with
    | none => rw [ha] at e; cases e
    | some x =>
      cases hb : gives l tick b h with
      | none => rw [ha, hb] at e; cases e
      | some y =>
        rw [ha, hb] at e
        simp only at e
        have sx := gives_ok hl ho.1 hh ha
        have sy := gives_ok hl ho.2 hh hb
        obtain ⟨_, rfl⟩ := small_ok (srt_mrg sx.ok.len sy.ok.len sx.srt sy.srt) (allOk_mrg sx.ok sy.ok) e
        rw [mem_mrg sx.ok.len sy.ok.len, den hl ho.1 hh ha, den hl ho.2 hh hb]
        rfl
  | .seq a b, ho, h, s, hh, e, z => by
    simp only [gives] at e
    cases ha : gives l tick a h with
    | none => rw [ha] at e; cases e
    | some x =>
      rw [ha] at e
      simp only at e
      have sx := gives_ok hl ho.1 hh ha
      obtain ⟨m1, m2⟩ := image_mem (fun h s hh e => gives_ok hl ho.2 hh e) sx.ok sok_nil e
      rw [m1]
      simp only [Den, List.not_mem_nil, false_or]
      constructor
      · rintro ⟨y, hy, t, ht, hz⟩
        exact ⟨y, (den hl ho.1 hh ha y).1 hy, (den hl ho.2 (sx.ok y hy) ht z).1 hz⟩
      · rintro ⟨y, hy, hz⟩
        have hy := (den hl ho.1 hh ha y).2 hy
        obtain ⟨t, ht⟩ := m2 y hy
        exact ⟨y, hy, t, ht, (den hl ho.2 (sx.ok y hy) ht z).2 hz⟩
  | .star a, ho, h, s, hh, e, z => by
    simp only [gives] at e
    obtain ⟨⟨s', k⟩, e1, rfl⟩ := Option.map_eq_some_iff.1 e
    have ho' : OOk l a := ho
    obtain ⟨k1, k2, k3⟩ := rounds_mem (g := gives l tick a) (D := Den l tick a) (fun h s hh e => gives_ok hl ho' hh e) (fun y t hy ht z => den hl ho' hy ht z) (h0 := h) (sok_one hh) (sok_one hh)
      (fun z hz => by rw [List.mem_singleton.1 hz]; exact .refl _) (fun z hz => hz) (fun y hy hn => absurd hy hn) e1
    exact ⟨k1 z, fun hr => reach_in k3 (k2 h (by simp)) hr⟩

theorem sok_ext {a b : List (List Int)} (ha : SOk a) (hb : SOk b) (h : ∀ z, z ∈ a ↔ z ∈ b) : a = b := by
  have key : ∀ (a b : List (List Int)), Srt a → Srt b → AllOk a → AllOk b → (∀ z, z ∈ a ↔ z ∈ b) → a = b := by
    intro a
    induction a with
    | nil =>
      intro b _ _ _ _ h
      cases b with
      | nil => rfl
      | cons y b => have := (h y).2 (by simp); cases this
    | cons x a ih =>
      intro b sa sb oa ob h
      cases b with
      | nil => have := (h x).1 (by simp); cases this
      | cons y b =>
        have lx := (oa x (by simp)).len
        have ly := (ob y (by simp)).len
        have irr : ∀ v : List Int, ¬ cmpL v v < 0 := fun v hv => by
          have : cmpL v v = 0 := cmpL_self v
          omega
        have exy : x = y := by
          rcases List.mem_cons.1 ((h x).1 (by simp)) with e | hxb
          · exact e
          · rcases List.mem_cons.1 ((h y).2 (by simp)) with e | hya
            · exact e.symm
            · have h1 := List.rel_of_pairwise_cons sb hxb
              have h2 := List.rel_of_pairwise_cons sa hya
              exact absurd (cmpL_trans (lx.trans ly.symm) (ly.trans lx.symm) h2 h1) (irr x)
        subst exy
        congr 1
        refine ih b sa.of_cons sb.of_cons (fun z hz => oa z (by simp [hz])) (fun z hz => ob z (by simp [hz])) fun z => ?_
        constructor
        · intro hz
          rcases List.mem_cons.1 ((h z).1 (by simp [hz])) with rfl | hz'
          · exact absurd (List.rel_of_pairwise_cons sa hz) (irr z)
          · exact hz'
        · intro hz
          rcases List.mem_cons.1 ((h z).2 (by simp [hz])) with rfl | hz'
          · exact absurd (List.rel_of_pairwise_cons sb hz) (irr z)
          · exact hz'
  exact key a b ha.srt hb.srt ha.ok hb.ok h

/-- Policies with the same relation agree. -/
theorem agree_den {l : List Fd} (hl : LOk l) {tick : Int} {p q : Po} {h : List Int} (hh : HOk h) (hd : ∀ z, Den l tick p h z ↔ Den l tick q h z) : agreeB l tick h p q = true := by
  unfold agreeB
  split
  · rename_i ht
    obtain ⟨op, oq⟩ := typedB_ok ht
    unfold sameG
    split
    · rename_i x y hx hy
      have := sok_ext (gives_ok hl op hh hx) (gives_ok hl oq hh hy) fun z => by rw [den hl op hh hx, den hl oq hh hy, hd]
      rw [this, beq_self_eq_true]
    · rfl
  · rfl
end Go.MM
