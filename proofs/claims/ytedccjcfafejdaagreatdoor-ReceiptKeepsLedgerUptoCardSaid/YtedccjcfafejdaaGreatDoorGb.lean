/- Joined by program: parts of a data level over the model, of the program's functions over it, and of the statement's proof. -/
import Derived.Test.YtedccjcfafejdaaGreatDoorGa
import Derived.DeepKeys3
import Derived.Lib.ConvBytes
import Derived.Laws.BytesArg
import Derived.Laws.CopyRow
import Derived.Laws.IdiomCopy
import Derived.Laws.MakeOwn
import Derived.Lib.AtoiErrMem
import Derived.Deep.AppendSrc
import Derived.Deep.Upon
import Derived.Laws.NewFold
section
namespace Go.DL
open Go.RowKit
section
variable [Glb] {P : Program} {N : Nat} {w0 : World} {S0 : Base} {o : Oper} {a : Act} {E : Env} {st : St}
theorem SR.allocO {b : Array Value} (h : SR N w0 S0 E st b) {n : Nat} (hn : st.bx n = none) (ob : Obj) (B : BX) (hB : ∀ E' : Env, Grow E E' → ObjR E' ob B) (v : Value) (u : V)
    (hu : ∀ E' : Env, E'.κ n = E.w.heap.size → E'.live n = true → VR E' v u) {d : Nat} (hd : d < N) :
    SR N w0 S0 { E with w := E.w.alloc ob, κ := upd E.κ n E.w.heap.size, live := upd E.live n true } { st with sl := upd st.sl d u, bx := upd st.bx n (some B) }
      (b.setIfInBounds d v) := by
  have hdead : E.live n = false := by rw [h.live, hn]; rfl
  have ne : ∀ m, E.live m = true → m ≠ n := fun m hm e => by rw [e, hdead] at hm; cases hm
  have hkl : ∀ m, E.live m = true → E.κ m < E.w.heap.size := fun m hm => by
    rw [h.live] at hm
    obtain ⟨b', hb'⟩ := Option.isSome_iff_exists.1 hm
    exact (h.bx m b' hb').lt
  have hb : Below E.w.heap.size E.w (E.w.alloc ob) := (Below.refl _ _).alloc (Nat.le_refl _) _
  have g : Grow E { E with w := E.w.alloc ob, κ := upd E.κ n E.w.heap.size, live := upd E.live n true } :=
    ⟨rfl, fun m hm => ⟨by show upd E.live n true m = true; rw [upd_other _ _ _ _ (ne m hm)]; exact hm, upd_other _ _ _ _ (ne m hm)⟩,
     fun r k hr => ⟨hr, hb.block k (h.rows r k hr).2.1, fun _ => Iff.rfl⟩, fun _ _ hs => hs, fun b o hs => Same.of_below hb (h.lt b o hs)⟩
  refine ⟨by simp [h.size], h.base, h.glob, fun m => ?_, fun k m => (h.gh k m).grow g, fun m b' hm => ?_, fun m => ?_, fun m m' hm hm' he => ?_, fun r k hr => ?_, h.rinj, fun b o hs => ?_, ?_, h.s0, h.s1, fun k o hk => ⟨(h.obj k o hk).1, (hb.block k (Array.getElem?_eq_some_iff.1 (h.obj k o hk).2).1).trans (h.obj k o hk).2⟩, h.cx⟩
  · rw [getD_put (by rw [h.size]; exact hd)]
    by_cases hm : m = d
    · subst hm
      rw [if_pos rfl]
      show VR _ _ (upd st.sl m _ m)
      rw [upd_same]
      exact hu _ (upd_same _ _ _) (upd_same _ _ _)
    · rw [if_neg hm]
      show VR _ _ (upd st.sl d _ m)
      rw [upd_other _ _ _ _ hm]; exact (h.sl m).grow g
  · by_cases hmn : m = n
    · subst hmn
      have hb' : B = b' := by
        have : upd st.bx m (some B) m = some b' := hm
        rw [upd_same] at this
        exact Option.some.inj this
      subst hb'
      show BoxR _ (upd E.κ m E.w.heap.size m) _
      rw [upd_same]
      exact ⟨by rw [g.B, h.base]; exact h.below.size, fun o hs => absurd (h.lt _ o hs) (Nat.lt_irrefl _), _, heap_alloc_new _ _, hB _ g⟩
    · have hm' : st.bx m = some b' := by
        have : upd st.bx n (some B) m = some b' := hm
        rwa [upd_other _ _ _ _ hmn] at this
      show BoxR _ (upd E.κ n E.w.heap.size m) b'
      rw [upd_other _ _ _ _ hmn]
      have hB' := h.bx m b' hm'
      exact hB'.grow g (hb.block _ (hkl m (by rw [h.live, hm']; rfl))) hB'.free
  · show upd E.live n true m = (upd st.bx n (some _) m).isSome
    by_cases hmn : m = n
    · subst hmn; rw [upd_same, upd_same]; rfl
    · rw [upd_other _ _ _ _ hmn, upd_other _ _ _ _ hmn]; exact h.live m
  · have hm : upd E.live n true m = true := hm
    have hm' : upd E.live n true m' = true := hm'
    have he : upd E.κ n E.w.heap.size m = upd E.κ n E.w.heap.size m' := he
    by_cases h1 : m = n <;> by_cases h2 : m' = n
    · rw [h1, h2]
    · subst h1
      rw [upd_other _ _ _ _ h2] at hm'
      rw [upd_same, upd_other _ _ _ _ h2] at he
      exact absurd (hkl m' hm') (by omega)
    · subst h2
      rw [upd_other _ _ _ _ h1] at hm
      rw [upd_same, upd_other _ _ _ _ h1] at he
      exact absurd (hkl m hm) (by omega)
    · rw [upd_other _ _ _ _ h1] at hm he
      rw [upd_other _ _ _ _ h2] at hm' he
      exact h.inj m m' hm hm' he
  · obtain ⟨h1, h2, h3⟩ := h.rows r k hr
    refine ⟨h1, by simp; omega, fun m hm => ?_⟩
    have hm : upd E.live n true m = true := hm
    show upd E.κ n E.w.heap.size m ≠ k
    by_cases hmn : m = n
    · subst hmn; rw [upd_same]; omega
    · rw [upd_other _ _ _ _ hmn] at hm ⊢; exact h3 m hm
  · have := h.lt b o hs
    simp; omega
  · exact h.below.trans (hb.mono h.below.size)
theorem SR.allocM {b : Array Value} (h : SR N w0 S0 E st b) {n : Nat} (hn : st.bx n = none) (ag : Bool) (sh : List Sh)
    {d : Nat} (hd : d < N) :
    SR N w0 S0 { E with w := E.w.alloc (.map #[] 0), κ := upd E.κ n E.w.heap.size, live := upd E.live n true } { st with sl := upd st.sl d (.mp n), bx := upd st.bx n (some (.m ag sh [] none)) }
      (b.setIfInBounds d (.map (some E.w.heap.size))) :=
  h.allocO hn _ _ (fun _ _ => .map #[] 0 ag sh [] none ⟨rfl, fun i x e hx => by simp at hx, fun x hx => by simp at hx, by simp, fun p hp => by cases hp⟩) _ _ (fun E' hk hl => by rw [← hk]; exact .mp n hl) hd
theorem SR.writeO {b : Array Value} (h : SR N w0 S0 E st b) {n : Nat} {B : BX} (hn : st.bx n = some B) (ob : Obj) (B' : BX)
    (hc : ∀ E' : Env, Grow E E' → ObjR E' ob B') :
    SR N w0 S0 { E with w := { E.w with heap := E.w.heap.setIfInBounds (E.κ n) ob } } { st with bx := upd st.bx n (some B') } b := by
  have hB := h.bx n _ hn
  obtain ⟨o0, h0, hob0⟩ := hB.at_
  have hnc : noCells o0 = false := by cases hob0 <;> rfl
  have hl : E.live n = true := by rw [h.live, hn]; rfl
  have hlt : E.κ n < E.w.heap.size := hB.lt
  have other : ∀ k, k ≠ E.κ n → (E.w.heap.setIfInBounds (E.κ n) ob)[k]? = E.w.heap[k]? := fun k hk => (Go.MapKept.heap_set h0).2 k hk
  have g : Grow E { E with w := { E.w with heap := E.w.heap.setIfInBounds (E.κ n) ob } } := ⟨rfl, fun _ h => ⟨h, rfl⟩, fun r k hr => ⟨hr, other k (fun e => (h.rows r k hr).2.2 n hl e.symm), fun _ => Iff.rfl⟩, fun _ _ hs => hs,
    fun b o hs => Same.of_block (other b (fun e => hB.free o (e ▸ hs)))⟩
  have hsz : (E.w.heap.setIfInBounds (E.κ n) ob).size = E.w.heap.size := by simp
  refine ⟨h.size, h.base, h.glob, fun m => (h.sl m).grow g, fun k m => (h.gh k m).grow g, fun m b1 hm => ?_, fun m => ?_, h.inj, fun r k hr => ?_, h.rinj, fun b o hs => ?_, ?_, h.s0, h.s1,
    fun k o hk => ⟨(h.obj k o hk).1, (other k fun e => by have h1 := (h.obj k o hk); rw [e, h0] at h1; have h2 := h1.2; cases h2; rw [hnc] at h1; cases h1.1).trans (h.obj k o hk).2⟩, h.cx⟩
  · by_cases hmn : m = n
    · subst hmn
      have hb' : B' = b1 := by
        have : upd st.bx m (some B') m = some b1 := hm
        rw [upd_same] at this
        exact Option.some.inj this
      subst hb'
      exact ⟨hB.old, hB.free, _, (Go.MapKept.heap_set h0).1, hc _ g⟩
    · have hm' : st.bx m = some b1 := by
        have : upd st.bx n (some B') m = some b1 := hm
        rwa [upd_other _ _ _ _ hmn] at this
      have hB1 := h.bx m b1 hm'
      exact hB1.grow g (other _ (fun e => hmn (h.inj m n (by rw [h.live, hm']; rfl) hl e))) hB1.free
  · show E.live m = (upd st.bx n (some _) m).isSome
    by_cases hmn : m = n
    · subst hmn; rw [upd_same]; exact hl
    · rw [upd_other _ _ _ _ hmn]; exact h.live m
  · obtain ⟨h1, h2, h3⟩ := h.rows r k hr
    exact ⟨h1, by rw [hsz]; exact h2, h3⟩
  · rw [hsz]; exact h.lt b o hs
  · refine h.below.trans (.of rfl rfl rfl (by rw [hsz]; exact Nat.le_refl _) (fun k hk => other k ?_) (Nat.le_refl _))
    have := hB.old
    rw [h.base] at this
    omega
theorem SR.writeM {b : Array Value} (h : SR N w0 S0 E st b) {n : Nat} {ag : Bool} {sh : List Sh} {es : List (T × T)} {mb : Option (List Nat × Nat)} (hn : st.bx n = some (.m ag sh es mb)) (arr : Array MapEntry) (clock : Nat) (es' : List (T × T))
    (hc : MapR E arr clock ag sh es' none) :
    SR N w0 S0 { E with w := { E.w with heap := E.w.heap.setIfInBounds (E.κ n) (.map arr clock) } } { st with bx := upd st.bx n (some (.m ag sh es' none)) } b :=
  h.writeO hn _ _ fun _ g => .map arr clock ag sh es' none (hc.grow g)
end
section
variable {P : Program} {N : Nat} {w0 : World} {S0 : Base} {o : Oper} {a : Act} {E : Env} {st : St}
theorem shSame_eq : ∀ {a b : List Sh}, shSame a b = true → a = b
  | [], [], _ => rfl
  | [], _ :: _, h => by cases h
  | _ :: _, [], h => by cases h
  | x :: a, y :: b, h => by
    simp only [shSame, Bool.and_eq_true] at h
    have h1 : x = y := by
      have := h.1
      cases x <;> cases y <;> simp_all [Sh.same]
    rw [h1, shSame_eq h.2]
theorem mapSame_eq {ag ag' : Bool} {sh sh' : List Sh} (h : mapSame ag sh ag' sh' = true) : ag = ag' ∧ sh = sh' := by
  simp only [mapSame, Bool.and_eq_true, beq_iff_eq] at h
  exact ⟨h.1, shSame_eq h.2⟩
theorem key_of {S : Stable} {w : World} {kt : TypeId} {v : Value} {k : T} {sh : List Sh} (h : Rep S w v k) (hk : keyOk (aggT P kt) sh k) : Of P S w kt v k.cells ∧ fits sh k.cells := by
  cases hg : aggT P kt with
  | true =>
    rw [hg] at hk
    cases k with
    | agg ts => obtain ⟨c, rfl⟩ := rep_agg h; exact ⟨of_agg hg h, hk.2⟩
    | _ => cases hk.1
  | false =>
    rw [hg] at hk
    have one : k.one = true → k.cells = [k] → fits sh [k] → Of P S w kt v k.cells ∧ fits sh k.cells := fun h1 hc hf => by
      have ho := h.one h1
      rw [hc]
      refine ⟨⟨(fun hh => by rw [hg] at hh; cases hh), fun _ => ho, ?_⟩, hf⟩
      rw [oneCell_cells ho]
      exact ⟨rfl, fun i x t hx ht => by
        cases i with
        | zero => simp at hx ht; subst hx; subst ht; exact ⟨h, h1⟩
        | succ i => simp at hx⟩
    cases k with
    | agg ts => cases hk.1
    | tup ts => exfalso; have := hk.2; cases sh with
      | nil => simp [fits] at this
      | cons s ss => cases s <;> simp [fits] at this
    | _ => exact one rfl rfl hk.2
theorem run_equal_key {S : Stable} {w : World} {kt : TypeId} {sh : List Sh} (hs : shapeOf P 100 kt = some sh) {x y : Value} {a b : T} (hx : Rep S w x a) (hy : Rep S w y b) (ha : keyOk (aggT P kt) sh a) (hb : keyOk (aggT P kt) sh b) :
    (Op.equal kt x y).run P w = .ok (eqL a.cells b.cells) w := by
  obtain ⟨h1, f1⟩ := key_of hx ha
  obtain ⟨h2, f2⟩ := key_of hy hb
  exact shape_eq 100 kt sh hs S w 10000 x y _ _ (by omega) h1 h2 f1 f2
end
section
variable [Glb] {P : Program} {N : Nat} {w0 : World} {S0 : Base} {o : Oper} {a : Act} {E : Env} {st : St}
def At (k : List T) (es : List (T × T)) (l : List MapEntry) (i : Nat) : Option (Nat × Value) → Prop
  | none => ∀ e ∈ es, eqL k e.1.cells = false
  | some (m, v) => ∃ j x e, m = i + j ∧ l[j]? = some x ∧ v = x.val ∧ es[j]? = some e ∧ eqL k e.1.cells = true ∧ ∀ e' ∈ es.take j, eqL k e'.1.cells = false
end
section
variable {P : Program} {N : Nat} {w0 : World} {S0 : Base} {o : Oper} {a : Act} {E : Env} {st : St}
theorem At.cons {k : List T} {e : T × T} {es : List (T × T)} {x : MapEntry} {l : List MapEntry} {i : Nat} {r : Option (Nat × Value)} (h : At k es l (i + 1) r) (he : eqL k e.1.cells = false) : At k (e :: es) (x :: l) i r := by
  cases r with
  | none => intro e' he'; rcases List.mem_cons.1 he' with rfl | h'; exact he; exact h e' h'
  | some p =>
    obtain ⟨m, v⟩ := p
    obtain ⟨j, y, e', h1, h2, h3, h4, h5, h6⟩ := h
    refine ⟨j + 1, y, e', by omega, by simpa using h2, h3, by simpa using h4, h5, fun e2 he2 => ?_⟩
    rw [List.take_succ_cons] at he2
    rcases List.mem_cons.1 he2 with rfl | h'
    · exact he
    · exact h6 e2 h'
theorem At.here {k : List T} {e : T × T} {es : List (T × T)} {x : MapEntry} {l : List MapEntry} {i : Nat} (he : eqL k e.1.cells = true) : At k (e :: es) (x :: l) i (some (i, x.val)) :=
  ⟨0, x, e, rfl, rfl, rfl, rfl, he, fun _ h => by simp at h⟩
theorem run_findAsking {S : Stable} {w : World} {kt : TypeId} {sh : List Sh} (hs : shapeOf P 100 kt = some sh) {v : Value} {k : T} (hv : Rep S w v k) (hk : keyOk (aggT P kt) sh k) : ∀ (l : List MapEntry) (es : List (T × T)) (i : Nat), l.length = es.length →
    (∀ (j : Nat) (x : MapEntry) (e : T × T), l[j]? = some x → es[j]? = some e → Rep S w x.key e.1 ∧ keyOk (aggT P kt) sh e.1) → ∃ r, (Instr.findAsking kt v l i).run P w = .ok r w ∧ At k.cells es l i r
  | [], [], i, _, _ => ⟨none, rfl, fun e he => by simp at he⟩
  | [], _ :: _, _, h, _ => by simp at h
  | _ :: _, [], _, h, _ => by simp at h
  | x :: l, e :: es, i, hl, h => by
    obtain ⟨h1, h2⟩ := h 0 x e rfl rfl
    have heq := run_equal_key hs hv h1 hk h2
    unfold Instr.findAsking
    rw [Sem.run_bind, heq]
    simp only [Result.andThen_ok]
    cases he : eqL k.cells e.1.cells with
    | true => exact ⟨_, by simp, At.here he⟩
    | false =>
      obtain ⟨r, hr, hat⟩ := run_findAsking hs hv hk l es (i + 1) (by simpa using hl) (fun j x e hx he => h (j + 1) x e (by simpa using hx) (by simpa using he))
      exact ⟨r, by simpa using hr, hat.cons he⟩
theorem now_key {S : Stable} {w : World} {kt : TypeId} {sh : List Sh} (hs : shapeOf P 100 kt = some sh) (hg : aggT P kt = false) {d : TypeDesc} (hd : P.underlying kt = some d) {x y : Value} {a b : T} (hx : Rep S w x a) (hy : Rep S w y b)
    (ha : keyOk false sh a) (hb : keyOk false sh b) : Instr.sameNow d x y = some (eqL a.cells b.cells) := by
  unfold shapeOf at hs
  rw [hd] at hs
  have no : ∀ {ts : List T}, ¬ keyOk false sh (.agg ts) := fun h => by cases h.1
  have one : ∀ {t : T}, keyOk false sh t → fits sh [t] := fun {t} h => by cases t <;> first | exact h.2 | exact absurd h no
  have fa := one ha
  have fb := one hb
  split at hs
  · rename_i h; cases h; cases hs
    cases a <;> simp only [fits] at fa
    cases b <;> simp only [fits] at fb
    rw [hx.inv_bool, hy.inv_bool]; simp [Instr.sameNow, eqL, T.cells]
  · rename_i k h; cases h; cases hs
    cases a <;> simp only [fits] at fa
    cases b <;> simp only [fits] at fb
    obtain ⟨rfl, _⟩ := fa
    obtain ⟨rfl, _⟩ := fb
    rw [hx.inv_int, hy.inv_int]; simp [Instr.sameNow, eqL, T.cells]
  · rename_i h; cases h; cases hs
    cases a <;> simp only [fits] at fa
    cases b <;> simp only [fits] at fb
    rw [hx.inv_str, hy.inv_str]; simp [Instr.sameNow, eqL, T.cells]
  · rename_i h; cases h; simp [aggT, hd] at hg
  · rename_i h; cases h; simp [aggT, hd] at hg
  · cases hs
theorem findNow_key {S : Stable} {w : World} {kt : TypeId} {sh : List Sh} (hs : shapeOf P 100 kt = some sh) (hg : aggT P kt = false) {d : TypeDesc} (hd : P.underlying kt = some d) {v : Value} {k : T} (hv : Rep S w v k) (hk : keyOk false sh k) : ∀ (l : List MapEntry) (es : List (T × T)) (i : Nat), l.length = es.length →
    (∀ (j : Nat) (x : MapEntry) (e : T × T), l[j]? = some x → es[j]? = some e → Rep S w x.key e.1 ∧ keyOk false sh e.1) → ∃ r, Instr.findNow d v l i = some r ∧ At k.cells es l i r
  | [], [], i, _, _ => ⟨none, rfl, fun e he => by simp at he⟩
  | [], _ :: _, _, h, _ => by simp at h
  | _ :: _, [], _, h, _ => by simp at h
  | x :: l, e :: es, i, hl, h => by
    obtain ⟨h1, h2⟩ := h 0 x e rfl rfl
    have heq := now_key hs hg hd hv h1 hk h2
    unfold Instr.findNow
    rw [heq]
    cases he : eqL k.cells e.1.cells with
    | true => exact ⟨_, rfl, At.here he⟩
    | false =>
      obtain ⟨r, hr, hat⟩ := findNow_key hs hg hd hv hk l es (i + 1) (by simpa using hl) (fun j x e hx he => h (j + 1) x e (by simpa using hx) (by simpa using he))
      exact ⟨r, hr, hat.cons he⟩
theorem run_findKey_rep {S : Stable} {w : World} {kt : TypeId} {sh : List Sh} (hs : shapeOf P 100 kt = some sh) {v : Value} {k : T} (hv : Rep S w v k) (hk : keyOk (aggT P kt) sh k) (l : List MapEntry) (es : List (T × T)) (hl : l.length = es.length)
    (h : ∀ (j : Nat) (x : MapEntry) (e : T × T), l[j]? = some x → es[j]? = some e → Rep S w x.key e.1 ∧ keyOk (aggT P kt) sh e.1) : ∃ r, (Instr.findKey kt v l).run P w = .ok r w ∧ At k.cells es l 0 r := by
  obtain ⟨⟨d, hd⟩, _⟩ := shape_fit 100 kt sh hs
  unfold Instr.findKey
  rw [Sem.run_bind, run_underlying hd]
  simp only [Result.andThen_ok]
  cases hg : aggT P kt with
  | false =>
    rw [hg] at hk h
    obtain ⟨r, hr, hat⟩ := findNow_key hs hg hd hv hk l es 0 hl h
    exact ⟨r, by rw [hr]; rfl, hat⟩
  | true =>
    cases hn : Instr.findNow d v l 0 with
    | none => exact run_findAsking hs hv hk l es 0 hl h
    | some r =>
      cases l with
      | nil =>
        have : es = [] := List.length_eq_zero_iff.1 hl.symm
        subst this
        simp only [Instr.findNow, Option.some.injEq] at hn
        subst hn
        exact ⟨none, rfl, fun e he => by simp at he⟩
      | cons x l =>
        exfalso
        unfold Instr.findNow at hn
        have : Instr.sameNow d v x.key = none := by
          unfold aggT at hg
          rw [hd] at hg
          cases d <;> first | rfl | cases hg
        rw [this] at hn
        cases hn
theorem At.find {k : List T} : ∀ {es : List (T × T)} {l : List MapEntry} {i : Nat} {r : Option (Nat × Value)}, At k es l i r → match r with
    | none => mfind k es = none ∧ mdel k es = es
    | some (m, _) => ∃ e, es[m - i]? = some e ∧ mfind k es = some e.2 ∧ mdel k es = es.eraseIdx (m - i)
  | es, l, i, none, h => by
    induction es with
    | nil => exact ⟨rfl, rfl⟩
    | cons e es ih =>
      have := ih fun e' h' => h e' (List.mem_cons_of_mem _ h')
      have he := h e (by simp)
      simp only [mfind, mdel, he, cond_false]
      exact ⟨this.1, by rw [this.2]⟩
  | es, l, i, some (m, v), h => by
    obtain ⟨j, x, e, rfl, h2, h3, h4, h5, h6⟩ := h
    simp only [Nat.add_sub_cancel_left]
    refine ⟨e, h4, ?_⟩
    clear h2 h3 x v
    induction es generalizing j with
    | nil => simp at h4
    | cons e0 es ih =>
      cases j with
      | zero =>
        simp at h4; subst h4
        simp [mfind, mdel, h5]
      | succ j =>
        have he0 := h6 e0 (by simp)
        have := ih j (by simpa using h4) (fun e' he' => h6 e' (by rw [List.take_succ_cons]; exact List.mem_cons_of_mem _ he'))
        simp only [mfind, mdel, he0, cond_false, List.eraseIdx_cons_succ]
        exact ⟨this.1, by rw [this.2]⟩
theorem At.put {k v : T} : ∀ {es : List (T × T)} {l : List MapEntry} {i : Nat} {r : Option (Nat × Value)}, At k.cells es l i r → match r with
    | none => mput k v es = es ++ [(k, v)]
    | some (m, _) => mput k v es = es.set (m - i) (k, v)
  | es, l, i, none, h => by
    induction es with
    | nil => rfl
    | cons e es ih =>
      have := ih fun e' h' => h e' (List.mem_cons_of_mem _ h')
      have he := h e (by simp)
      simp only [mput, he, cond_false]
      rw [this]; rfl
  | es, l, i, some (m, v'), h => by
    obtain ⟨j, x, e, rfl, h2, h3, h4, h5, h6⟩ := h
    simp only [Nat.add_sub_cancel_left]
    clear h2 h3 x v'
    induction es generalizing j with
    | nil => simp at h4
    | cons e0 es ih =>
      cases j with
      | zero => simp at h4; subst h4; simp [mput, h5]
      | succ j =>
        have he0 := h6 e0 (by simp)
        have := ih j (by simpa using h4) (fun e' he' => h6 e' (by rw [List.take_succ_cons]; exact List.mem_cons_of_mem _ he'))
        simp only [mput, he0, cond_false, List.set_cons_succ]
        rw [this]
end
section
variable [Glb] {P : Program} {N : Nat} {w0 : World} {S0 : Base} {o : Oper} {a : Act} {E : Env} {st : St}
def CkOk' (P : Program) (em : Bool) (d : Nat) (t : TypeId) (sh : List Sh) : Prop :=
  ∀ (S : Stable) (w : World) (D : Nat) (x : Value) (xs : List T), d ≤ D → Of P S w t x xs → fits sh xs → (Instr.checkKey em D t x).run P w = .ok () w
end
section
variable {P : Program} {N : Nat} {w0 : World} {S0 : Base} {o : Oper} {a : Act} {E : Env} {st : St}
theorem fields_info {f : Field} {s : List Sh} {d : Nat} (hs : shapeOf P d f.type = some s) (hsl : s.length = P.cellsOf f.type) : ∃ i, P.info? f.type = some i ∧ i.size = s.length := by
  obtain ⟨⟨de, hu⟩, _⟩ := shape_fit d f.type s hs
  cases hi : P.info? f.type with
  | none => simp [Program.underlying, hi] at hu
  | some i => exact ⟨i, rfl, by rw [hsl]; simp [Program.cellsOf, hi]⟩
theorem shape_check (em : Bool) : ∀ (d : Nat) (t : TypeId) (sh : List Sh), shapeOf P d t = some sh → CkOk' P em d t sh
  | 0, _, _, h => by simp [shapeOf] at h
  | d + 1, t, sh, h => by
    intro S w D x xs hD hx fx
    obtain ⟨D, rfl⟩ : ∃ D', D = D' + 1 := ⟨D - 1, by omega⟩
    unfold shapeOf at h
    split at h
    · rename_i hu
      cases h
      obtain ⟨u, rfl, hu1, fu⟩ := single hx (by simp [aggT, hu]) fx
      simp [Instr.checkKey, run_underlying hu]
    · rename_i k hu
      cases h
      simp [Instr.checkKey, run_underlying hu]
    · rename_i hu
      cases h
      simp [Instr.checkKey, run_underlying hu]
    · rename_i len e hu
      split at h
      · rename_i s hs
        cases hc : (Nat.beq s.length (P.cellsOf e) && Nat.blt 0 s.length) with
        | false => rw [hc] at h; cases h
        | true =>
        rw [hc] at h
        simp only [cond_true, Option.some.injEq] at h
        subst h
        rw [Bool.and_eq_true] at hc
        have hsl : s.length = P.cellsOf e := Nat.eq_of_beq_eq_true hc.1
        have hg : aggT P t = true := by simp [aggT, hu]
        obtain ⟨X, rfl⟩ := hx.agg hg
        obtain ⟨⟨de, hue⟩, hone⟩ := shape_fit d e s hs
        have hinf : ∃ i, P.info? e = some i ∧ i.size = s.length := by
          cases hi : P.info? e with
          | none => simp [Program.underlying, hi] at hue
          | some i => exact ⟨i, rfl, by rw [hsl]; simp [Program.cellsOf, hi]⟩
        obtain ⟨i, hi, hisz⟩ := hinf
        have IH := shape_check em d e s hs
        rw [Instr.checkKey]
        simp only [Sem.run_bind, run_underlying hu, Result.andThen_ok]
        simp only [Std.Legacy.Range.forIn_eq_forIn_range', Std.Legacy.Range.size, Nat.sub_zero, Nat.add_one_sub_one, Nat.div_one]
        have each : ∀ j ∈ List.range' 0 len, ∃ a, (part e X (j * i.size)).run P w = .ok a w ∧ (Instr.checkKey em D e a).run P w = .ok () w := fun j hj => by
          have hj : j < len := by simpa using hj
          have hl := fits_len fx
          have hlen : (List.replicate len s).flatten.length = len * s.length := by simp
          rw [hlen] at hl
          have hle : j * i.size + i.size ≤ xs.length := by
            rw [hl, hisz, ← Nat.succ_mul]; exact Nat.mul_le_mul_right _ hj
          obtain ⟨v, h1, h2⟩ := run_part hue hi (fun hh => by rw [hisz]; exact hone hh) hx.rep (off := j * i.size) hle
          refine ⟨v, h1, IH S w D v _ (by omega) h2 ?_⟩
          have cut : ∀ (j m : Nat) (ys : List T), j < m → fits (List.replicate m s).flatten ys → fits s ((ys.drop (j * s.length)).take s.length) := by
            intro j
            induction j with
            | zero =>
              intro m ys hm hf
              obtain ⟨m, rfl⟩ : ∃ k, m = k + 1 := ⟨m - 1, by omega⟩
              rw [List.replicate_succ, List.flatten_cons] at hf
              simpa using (fits_append hf).1
            | succ j ih =>
              intro m ys hm hf
              obtain ⟨m, rfl⟩ : ∃ k, m = k + 1 := ⟨m - 1, by omega⟩
              rw [List.replicate_succ, List.flatten_cons] at hf
              have := ih m _ (by omega) (fits_append hf).2
              rw [List.drop_drop] at this
              rwa [Nat.succ_mul, Nat.add_comm (j * s.length)]
          rw [hisz]
          exact cut j len xs hj fx
        generalize List.range' 0 len = is at each
        induction is with
        | nil => simp
        | cons j is ih =>
          obtain ⟨a, p1, p2⟩ := each j (by simp)
          simp only [List.forIn_cons, Sem.run_bind, run_sizeOf hi, Result.andThen_ok, p1, p2, Sem.run_pure]
          exact ih (fun y hy => each y (by simp [hy]))
      · cases h
    · rename_i fs hu
      cases hst : P.stoodInHeld t with
      | true => rw [hst] at h; simp at h
      | false =>
      rw [hst] at h
      simp only [Bool.false_eq_true, if_false] at h
      have hg : aggT P t = true := by simp [aggT, hu]
      obtain ⟨X, rfl⟩ := hx.agg hg
      rw [Instr.checkKey]
      simp only [Sem.run_bind, run_underlying hu, Result.andThen_ok]
      rw [← Array.forIn_toList]
      have all : ∀ (L : List Field) (off : Nat) (ss : List Sh), shapeOf.shapesOf (shapeOf P d) P L off = some ss → fits ss (xs.drop off) → ∀ f ∈ L, f.name ≠ "_" ∧ ∃ a, (part f.type X f.offset).run P w = .ok a w ∧ (Instr.checkKey em D f.type a).run P w = .ok () w := by
        intro L
        induction L with
        | nil => intro off ss _ _ f hf; cases hf
        | cons f0 L ih =>
          intro off ss h fa f hf
          unfold shapeOf.shapesOf at h
          split at h
          · rename_i s r hs hr
            cases hc : (Nat.beq s.length (P.cellsOf f0.type) && Nat.beq f0.offset off && f0.name != "_" && Nat.blt 0 s.length) with
            | false => rw [hc] at h; cases h
            | true =>
            rw [hc] at h
            simp only [cond_true, Option.some.injEq] at h
            subst h
            simp only [Bool.and_eq_true] at hc
            obtain ⟨⟨⟨hc1, hc2⟩, hc3⟩, hc4⟩ := hc
            have hsl : s.length = P.cellsOf f0.type := Nat.eq_of_beq_eq_true hc1
            have hoff : f0.offset = off := Nat.eq_of_beq_eq_true hc2
            have hname : f0.name ≠ "_" := by simpa using hc3
            obtain ⟨⟨de, hue⟩, hone⟩ := shape_fit d _ _ hs
            obtain ⟨i, hi, hisz⟩ := fields_info hs hsl
            obtain ⟨fa1, fa2⟩ := fits_append fa
            rw [List.drop_drop] at fa2
            have la := fits_len fa
            rw [List.length_append, List.length_drop] at la
            have hpos : 0 < s.length := Nat.lt_of_lt_of_le (Nat.lt_succ_self 0) (Nat.le_of_ble_eq_true hc4)
            rcases List.mem_cons.1 hf with rfl | hf'
            · obtain ⟨v, h1, h2⟩ := run_part hue hi (fun hh => by rw [hisz]; exact hone hh) hx.rep (off := off) (by omega)
              rw [hisz] at h2
              refine ⟨hname, v, by rw [hoff]; exact h1, shape_check em d f.type s hs S w D v _ (by omega) h2 fa1⟩
            · exact ih (off + s.length) r (by rw [hsl]; exact hr) fa2 f hf'
          · cases h
      have deep := all fs.toList 0 sh h (by simpa using fx)
      generalize fs.toList = L at deep
      induction L with
      | nil => simp
      | cons f L ih =>
        obtain ⟨hn, a, p1, p2⟩ := deep f (by simp)
        simp only [List.forIn_cons, Sem.run_bind, hn, ne_eq, not_false_eq_true, if_true, Result.andThen_ok, p1, p2, Sem.run_pure]
        exact ih (fun y hy => deep y (by simp [hy]))
    · cases h
theorem run_check_key {S : Stable} {w : World} {kt : TypeId} {sh : List Sh} (hs : shapeOf P 100 kt = some sh) {v : Value} {k : T} (hv : Rep S w v k) (hk : keyOk (aggT P kt) sh k) (em : Bool) : (Instr.checkKey em 10000 kt v).run P w = .ok () w := by
  obtain ⟨h1, f1⟩ := key_of hv hk
  exact shape_check em 100 kt sh hs S w 10000 v _ (by omega) h1 f1
theorem same_cell {S : Stable} {w : World} {s : Sh} {x y : Value} {u v : T} (hx : Rep S w x u) (hy : Rep S w y v) (fu : fits [s] [u]) (fv : fits [s] [v]) (he : eqL [u] [v] = true) (n : Nat) : Instr.sameBits n x y = true := by
  cases s with
  | int k =>
    cases u <;> simp only [fits] at fu
    cases v <;> simp only [fits] at fv
    obtain ⟨rfl, _⟩ := fu
    obtain ⟨rfl, _⟩ := fv
    rw [hx.inv_int, hy.inv_int]
    cases n <;> simpa [Instr.sameBits, eqL] using he
  | bool =>
    cases u <;> simp only [fits] at fu
    cases v <;> simp only [fits] at fv
    rw [hx.inv_bool, hy.inv_bool]
    cases n <;> simpa [Instr.sameBits, eqL] using he
  | str =>
    cases u <;> simp only [fits] at fu
    cases v <;> simp only [fits] at fv
    rw [hx.inv_str, hy.inv_str]
    cases n <;> simpa [Instr.sameBits, eqL] using he
theorem same_cells {S : Stable} {w : World} (n : Nat) : ∀ (sh : List Sh) (us vs : List T) (xs ys : List Value), fits sh us → fits sh vs → eqL us vs = true → xs.length = us.length → ys.length = vs.length →
    (∀ (i : Nat) (x : Value) (u : T), xs[i]? = some x → us[i]? = some u → Rep S w x u) → (∀ (i : Nat) (x : Value) (u : T), ys[i]? = some x → vs[i]? = some u → Rep S w x u) → (xs.zip ys).all (fun (x, y) => Instr.sameBits n x y) = true
  | [], us, vs, xs, ys, fu, fv, _, lx, ly, _, _ => by
    cases us with
    | cons u us => simp [fits] at fu
    | nil => cases xs with
      | nil => rfl
      | cons _ _ => simp at lx
  | s :: sh, us, vs, xs, ys, fu, fv, he, lx, ly, hx, hy => by
    have h1 := fits_len fu
    have h2 := fits_len fv
    cases us with
    | nil => simp at h1
    | cons u us =>
    cases vs with
    | nil => simp at h2
    | cons v vs =>
    cases xs with
    | nil => simp at lx
    | cons x xs =>
    cases ys with
    | nil => simp at ly
    | cons y ys =>
    have f1 := fits_append (s1 := [s]) (s2 := sh) fu
    have f2 := fits_append (s1 := [s]) (s2 := sh) fv
    have e := eqL_append [u] [v] us vs rfl
    simp only [List.length_singleton, List.take_succ_cons, List.take_zero, List.drop_succ_cons, List.drop_zero, List.singleton_append] at f1 f2 e
    rw [e, Bool.and_eq_true] at he
    rw [List.zip_cons_cons, List.all_cons, Bool.and_eq_true]
    exact ⟨same_cell (hx 0 x u rfl rfl) (hy 0 y v rfl rfl) f1.1 f2.1 he.1 n,
      same_cells n sh us vs xs ys f1.2 f2.2 he.2 (by simpa using lx) (by simpa using ly) (fun i x u hx' hu => hx (i + 1) x u (by simpa using hx') (by simpa using hu)) (fun i x u hx' hu => hy (i + 1) x u (by simpa using hx') (by simpa using hu))⟩
theorem same_key {S : Stable} {w : World} {kt : TypeId} {sh : List Sh} {x y : Value} {u v : T} (hx : Rep S w x u) (hy : Rep S w y v) (hu : keyOk (aggT P kt) sh u) (hv : keyOk (aggT P kt) sh v) (he : eqL u.cells v.cells = true) : Instr.sameBits 10000 x y = true := by
  cases hg : aggT P kt with
  | true =>
    rw [hg] at hu hv
    cases u with
    | agg us =>
      cases v with
      | agg vs =>
        cases hx with
        | agg cx _ hs1 _ h1 =>
        cases hy with
        | agg cy _ hs2 _ h2 =>
        have l1 := fits_len hu.2
        have l2 := fits_len hv.2
        have := same_cells 9999 sh us vs cx.toList cy.toList hu.2 hv.2 he (by simpa using hs1) (by simpa using hs2) (fun i x u hx hu => h1 i x u (by simpa using hx) hu) (fun i x u hx hu => h2 i x u (by simpa using hx) hu)
        simp only [Instr.sameBits, Bool.and_eq_true, beq_iff_eq]
        exact ⟨by omega, this⟩
      | _ => cases hv.1
    | _ => cases hu.1
  | false =>
    rw [hg] at hu hv
    have one : ∀ {t : T}, keyOk false sh t → fits sh [t] ∧ t.cells = [t] := fun {t} h => by cases t <;> first | exact ⟨h.2, rfl⟩ | (cases h.1; done)
    obtain ⟨fu, cu⟩ := one hu
    obtain ⟨fv, cv⟩ := one hv
    rw [cu, cv] at he
    have l1 := fits_len fu
    cases sh with
    | nil => simp at l1
    | cons s sh =>
      cases sh with
      | nil => exact same_cell hx hy fu fv he 10000
      | cons _ _ => simp at l1
theorem eqL_symm : ∀ (a b : List T), eqL a b = eqL b a
  | [], [] => rfl
  | [], _ :: _ => by simp [eqL]
  | _ :: _, [] => by simp [eqL]
  | x :: a, y :: b => by
    have ih := eqL_symm a b
    cases x <;> cases y <;> simp only [eqL, ih] <;> first | rfl | (congr 1; exact Bool.beq_comm) | (congr 1; rw [Bool.eq_iff_iff, Go.MapKept.bytes_beq, Go.MapKept.bytes_beq]; exact eq_comm)
end
section
variable [Glb] {P : Program} {N : Nat} {w0 : World} {S0 : Base} {o : Oper} {a : Act} {E : Env} {st : St}
theorem snd_mkmap (h : SR N w0 S0 E st a.tmps) (hd : okDst N o.dst) {t : TypeId} (ho : o.op = .makeMap t none) (ag : Bool) (sh : List Sh) : Sound P N w0 S0 o a E st (eff (.mkmap ag sh) (st.nm o.dst) st.sl st.bx) := by
  unfold eff
  cases hdst : o.dst with
  | none => trivial
  | some d =>
    rw [hdst] at hd
    simp only [St.nm]
    cases hn : st.bx (d + st.off) with
    | some b => trivial
    | none =>
      show Did P N w0 S0 o a E (st.app o.dst _)
      rw [hdst]
      refine ⟨.value (.map (some E.w.heap.size)), .map (some E.w.heap.size), { E with w := E.w.alloc (.map #[] 0), κ := upd E.κ (d + st.off) E.w.heap.size, live := upd E.live (d + st.off) true }, ?_, .inl rfl, ?_⟩
      · unfold execOp
        simp [ho, Instr.makeMap]
      · rw [hdst]
        exact h.allocM hn ag sh hd
end
section
variable {P : Program} {N : Nat} {w0 : World} {S0 : Base} {o : Oper} {a : Act} {E : Env} {st : St}
theorem zeroV_spec {t : TypeId} {z : T} (h : zeroV P t = some z) : ∃ v, (∀ w, (zeroValue t).run P w = .ok v w) ∧ ∀ (S : Stable) (w : World), Rep S w v z := by
  unfold zeroV at h
  split at h
  · rename_i i hi
    split at h
    · rename_i v hv
      exact ⟨v, fun w => by simp [zeroValue, typeInfo, hi, hv], fun S w => constT_rep h⟩
    · cases h
  · cases h
theorem MapR.keys {E : Env} {arr : Array MapEntry} {clock : Nat} {ag : Bool} {sh : List Sh} {es : List (T × T)} {mb : Option (List Nat × Nat)} (h : MapR E arr clock ag sh es mb) : arr.toList.length = es.length ∧
    ∀ (j : Nat) (x : MapEntry) (e : T × T), arr.toList[j]? = some x → es[j]? = some e → Rep E.S E.w x.key e.1 ∧ keyOk ag sh e.1 :=
  ⟨by simpa using h.size, fun j x e hx he => ⟨(h.at_ j x e (by simpa using hx) he).1, (h.at_ j x e (by simpa using hx) he).2.2⟩⟩
theorem mapd_entries {g : Nat} {ag : Bool} {sh : List Sh} {ks vs : List T} {v : Value} (h : Rep E.S E.w v (.mapd ag sh ks vs)) : ∃ g arr clock, v = .map (some g) ∧ E.w.heap[g]? = some (.map arr clock) ∧ MapR E arr clock ag sh (ks.zip vs) none := by
  cases h with
  | mapd g arr clock _ _ _ _ hk hv hg r1 r2 ok lt apart =>
    refine ⟨g, arr, clock, rfl, hg.1, by rw [List.length_zip, hk, hv]; simp, fun i x e hx he => ?_, lt, apart, fun p hp => by cases hp⟩
    rw [List.getElem?_zip_eq_some] at he
    exact ⟨r1 i x e.1 hx he.1, r2 i x e.2 hx he.2, ok _ (List.mem_of_getElem? he.1)⟩
end
section
variable [Glb] {P : Program} {N : Nat} {w0 : World} {S0 : Base} {o : Oper} {a : Act} {E : Env} {st : St}
theorem look_core (h : SR N w0 S0 E st a.tmps) (hd : okDst N o.dst) {t kt e : TypeId} {M K : Operand} {ok : Bool} (ho : o.op = .lookup t M K ok) (hu : P.underlying t = some (.map kt e))
    {sh : List Sh} (hs : shapeOf P 100 kt = some sh) {z : T} (hz : zeroV P e = some z) {g : Nat} (hM : a.eval M = .map (some g)) {arr : Array MapEntry} {clock : Nat} (hg : E.w.heap[g]? = some (.map arr clock)) {es : List (T × T)} {mb : Option (List Nat × Nat)} (hR : MapR E arr clock (aggT P kt) sh es mb)
    {key : T} (hK : Rep E.S E.w (a.eval K) key) (hko : keyOk (aggT P kt) sh key) {rd : List Nat} : Did P N w0 S0 o a E (st.app o.dst { val := .t (mres z ok (mfind key.cells es)), rd := rd }) := by
  obtain ⟨zv, hz1, hz2⟩ := zeroV_spec hz
  obtain ⟨r, hr, hat⟩ := run_findKey_rep hs hK hko arr.toList es hR.keys.1 hR.keys.2
  have hck := run_check_key hs hK hko arr.isEmpty
  have hfind := hat.find
  cases r with
  | none =>
    have hf : mfind key.cells es = none := hfind.1
    rw [hf]
    have : (execOp a.eval o).run P E.w = .ok (.value (if ok then .tuple #[zv, .bool false] else zv)) E.w := by
      unfold execOp
      simp [ho, Instr.lookup, hM, run_underlying hu, Go.MapKept.run_getObj_map hg, hck, hr, hz1]
    cases ok with
    | true => exact did_val h hd this (.t _ _ (.tup _ _ rfl (fun i x u hx hu => by
        cases i with
        | zero => simp at hx hu; subst hx; subst hu; exact hz2 _ _
        | succ i => cases i with
          | zero => simp at hx hu; subst hx; subst hu; exact .bool _
          | succ i => simp at hx)))
    | false => exact did_val h hd this (.t _ _ (hz2 _ _))
  | some p =>
    obtain ⟨i, v⟩ := p
    obtain ⟨j, x, e1, hj, hx, hv1, he1, _, _⟩ := hat
    obtain ⟨e2, he2, hf, _⟩ := hfind
    have hij : i - 0 = j := by omega
    rw [hij, he1] at he2
    cases he2
    rw [hf]
    have hrep : Rep E.S E.w v e1.2 := by rw [hv1]; exact (hR.at_ j x e1 (by simpa using hx) he1).2.1
    have : (execOp a.eval o).run P E.w = .ok (.value (if ok then .tuple #[v, .bool true] else v)) E.w := by
      unfold execOp
      simp [ho, Instr.lookup, hM, run_underlying hu, Go.MapKept.run_getObj_map hg, hck, hr]
    cases ok with
    | true => exact did_val h hd this (.t _ _ (.tup _ _ rfl (fun i x u hx hu => by
        cases i with
        | zero => simp at hx hu; subst hx; subst hu; exact hrep
        | succ i => cases i with
          | zero => simp at hx hu; subst hx; subst hu; exact .bool _
          | succ i => simp at hx)))
    | false => exact did_val h hd this (.t _ _ hrep)
theorem snd_mlook (h : SR N w0 S0 E st a.tmps) (hd : okDst N o.dst) {t kt e : TypeId} {M K : Operand} {ok : Bool} (ho : o.op = .lookup t M K ok) {m k : O} (hm : lowO M = some m) (hk : lowO K = some k) (hu : P.underlying t = some (.map kt e))
    {sh : List Sh} (hs : shapeOf P 100 kt = some sh) {z : T} (hz : zeroV P e = some z) : Sound P N w0 S0 o a E st (eff (.mlook (aggT P kt) sh z ok m k) (st.nm o.dst) st.sl st.bx) := by
  have hem := ev_sound h.sl hm
  have hek := ev_sound h.sl hk
  unfold eff
  simp only
  split
  · rename_i b hv
    rw [hv] at hem
    obtain ⟨hM, hl⟩ := hem.inv_mp
    split
    · rename_i ag' sh' es mb hb
      split
      · rename_i key hkey
        rw [hkey] at hek
        cases hsame : mapSame (aggT P kt) sh ag' sh' with
        | false => trivial
        | true =>
        obtain ⟨rfl, rfl⟩ := mapSame_eq hsame
        intro hko
        obtain ⟨arr, clock, hg, hR⟩ := (h.bx b _ hb).map
        exact look_core h hd ho hu hs hz hM hg hR hek.inv_t hko
      · trivial
    · trivial
  · rename_i ag' sh' ks vs hv
    rw [hv] at hem
    split
    · rename_i key hkey
      rw [hkey] at hek
      cases hsame : mapSame (aggT P kt) sh ag' sh' with
      | false => trivial
      | true =>
      obtain ⟨rfl, rfl⟩ := mapSame_eq hsame
      intro hko
      obtain ⟨g, arr, clock, hM, hg, hR⟩ := mapd_entries (g := 0) hem.inv_t
      exact look_core h hd ho hu hs hz hM hg hR hek.inv_t hko
    · trivial
  · rename_i hv
    rw [hv] at hem
    have hM : a.eval M = .map none := by
      have := hem.inv_t
      generalize a.eval M = v at this
      cases this; rfl
    split
    · rename_i key hkey
      rw [hkey] at hek
      intro hko
      obtain ⟨zv, hz1, hz2⟩ := zeroV_spec hz
      obtain ⟨r, hr, hat⟩ := run_findKey_rep hs hek.inv_t hko [] [] rfl (fun j x e hx => by simp at hx)
      have hck := run_check_key hs hek.inv_t hko true
      have hr0 : r = none := by
        cases r with
        | none => rfl
        | some p => obtain ⟨i, v⟩ := p; obtain ⟨j, x, e1, _, hx, _⟩ := hat; simp at hx
      subst hr0
      have : (execOp a.eval o).run P E.w = .ok (.value (if ok then .tuple #[zv, .bool false] else zv)) E.w := by
        unfold execOp
        simp [ho, Instr.lookup, hM, run_underlying hu, hck, hr, hz1]
      cases ok with
      | true => exact did_val h hd this (.t _ _ (.tup _ _ rfl (fun i x u hx hu => by
          cases i with
          | zero => simp at hx hu; subst hx; subst hu; exact hz2 _ _
          | succ i => cases i with
            | zero => simp at hx hu; subst hx; subst hu; exact .bool _
            | succ i => simp at hx)))
      | false => exact did_val h hd this (.t _ _ (hz2 _ _))
    · trivial
  · trivial
end
section
variable {P : Program} {N : Nat} {w0 : World} {S0 : Base} {o : Oper} {a : Act} {E : Env} {st : St}
theorem borns_modify (arr : Array MapEntry) (i : Nat) (f : MapEntry → MapEntry) (hf : ∀ e, (f e).born = e.born) : (arr.modify i f).toList.map (·.born) = arr.toList.map (·.born) := by
  apply List.ext_getElem?
  intro j
  simp only [List.getElem?_map, Array.getElem?_toList, Array.getElem?_modify]
  split
  · cases arr[j]? with
    | none => rfl
    | some x => simp [hf]
  · rfl
theorem MapR.set {E : Env} {arr : Array MapEntry} {clock : Nat} {ag : Bool} {sh : List Sh} {es : List (T × T)} {mb : Option (List Nat × Nat)} (h : MapR E arr clock ag sh es mb) {j : Nat} {f : MapEntry → MapEntry} {k v : T} (hb : ∀ e, (f e).born = e.born)
    (hk : ∀ x, arr[j]? = some x → Rep E.S E.w (f x).key k ∧ Rep E.S E.w (f x).val v) (hko : keyOk ag sh k) : MapR E (arr.modify j f) clock ag sh (es.set j (k, v)) none := by
  have hbs := borns_modify arr j f hb
  refine ⟨by simp [h.size], fun i x e hx he => ?_, fun x hx => ?_, by rw [hbs]; exact h.apart, fun p hp => by cases hp⟩
  · rw [Array.getElem?_modify] at hx
    rw [List.getElem?_set] at he
    by_cases hij : j = i
    · subst hij
      rw [if_pos rfl] at hx he
      split at he
      · cases he
        cases hx0 : arr[j]? with
        | none => rw [hx0] at hx; cases hx
        | some x0 =>
          rw [hx0] at hx
          cases hx
          exact ⟨(hk x0 hx0).1, (hk x0 hx0).2, hko⟩
      · cases he
    · rw [if_neg hij] at hx he
      exact h.at_ i x e hx he
  · have : x.born ∈ (arr.modify j f).toList.map (·.born) := List.mem_map_of_mem hx
    rw [hbs] at this
    obtain ⟨y, hy, he⟩ := List.mem_map.1 this
    rw [← he]
    exact h.lt y hy
theorem MapR.push {E : Env} {arr : Array MapEntry} {clock : Nat} {ag : Bool} {sh : List Sh} {es : List (T × T)} {mb : Option (List Nat × Nat)} (h : MapR E arr clock ag sh es mb) {kv vv : Value} {k v : T} (hk : Rep E.S E.w kv k) (hv : Rep E.S E.w vv v) (hko : keyOk ag sh k) :
    MapR E (arr.push { key := kv, val := vv, born := clock }) (clock + 1) ag sh (es ++ [(k, v)]) none := by
  refine ⟨by simp [h.size], fun i x e hx he => ?_, fun x hx => ?_, ?_, fun p hp => by cases hp⟩
  · rw [Array.getElem?_push] at hx
    rw [List.getElem?_append] at he
    by_cases hi : i = arr.size
    · rw [if_pos hi] at hx
      cases hx
      rw [if_neg (by rw [← h.size]; omega), hi, h.size, Nat.sub_self] at he
      cases he
      exact ⟨hk, hv, hko⟩
    · rw [if_neg hi] at hx
      rw [if_pos (by rw [← h.size]; have := (Array.getElem?_eq_some_iff.1 hx).1; omega)] at he
      exact h.at_ i x e hx he
  · simp only [Array.toList_push, List.mem_append, List.mem_singleton] at hx
    rcases hx with hx | rfl
    · exact Nat.lt_succ_of_lt (h.lt x hx)
    · exact Nat.lt_succ_self _
  · simp only [Array.toList_push, List.map_append, List.map_cons, List.map_nil]
    refine List.nodup_append.2 ⟨h.apart, by simp, fun a ha b hb => ?_⟩
    simp at hb
    subst hb
    obtain ⟨y, hy, rfl⟩ := List.mem_map.1 ha
    have := h.lt y hy
    omega
end
section
variable [Glb] {P : Program} {N : Nat} {w0 : World} {S0 : Base} {o : Oper} {a : Act} {E : Env} {st : St}
theorem snd_mput (h : SR N w0 S0 E st a.tmps) (hd : okDst N o.dst) {t kt e : TypeId} {M K V : Operand} (ho : o.op = .mapUpdate t M K V ∨ o.op = .insert t M K V) {m k v : O} (hm : lowO M = some m) (hk : lowO K = some k) (hv : lowO V = some v) (hu : P.underlying t = some (.map kt e))
    {sh : List Sh} (hs : shapeOf P 100 kt = some sh) : Sound P N w0 S0 o a E st (eff (.mput (aggT P kt) sh m k v) (st.nm o.dst) st.sl st.bx) := by
  have hem := ev_sound h.sl hm
  have hek := ev_sound h.sl hk
  have hev := ev_sound h.sl hv
  unfold eff
  simp only
  split
  · rename_i b hv'
    rw [hv'] at hem
    obtain ⟨hM, hl⟩ := hem.inv_mp
    split
    · rename_i ag' sh' es mb hb
      split
      · rename_i key x hkey hx
        rw [hkey] at hek
        have hK := hek.inv_t
        have hX := asT_sound hev hx
        cases hsame : mapSame (aggT P kt) sh ag' sh' with
        | false => trivial
        | true =>
        obtain ⟨rfl, rfl⟩ := mapSame_eq hsame
        intro hko
        obtain ⟨arr, clock, hg, hR⟩ := (h.bx b _ hb).map
        obtain ⟨r, hr, hat⟩ := run_findKey_rep hs hK hko arr.toList es hR.keys.1 hR.keys.2
        have hck := run_check_key hs hK hko false
        have hput := hat.put (v := x)
        have fin : ∀ arr' clock', (execOp a.eval o).run P E.w = .ok .skip { E.w with heap := E.w.heap.setIfInBounds (E.κ b) (.map arr' clock') } → MapR E arr' clock' (aggT P kt) sh (mput key x es) none →
            Did P N w0 S0 o a E (st.app o.dst { val := .top, wr := some (b, .m (aggT P kt) sh (mput key x es) none), rd := [b] }) := fun arr' clock' hrun hR' => by
          refine ⟨.skip, undef, { E with w := { E.w with heap := E.w.heap.setIfInBounds (E.κ b) (.map arr' clock') } }, hrun, .inr ⟨rfl, rfl⟩, ?_⟩
          rw [app_wr]
          exact (h.writeM hb arr' clock' _ hR').putO hd (.top _)
        cases r with
        | none =>
          have hp : mput key x es = es ++ [(key, x)] := hput
          refine fin (arr.push { key := a.eval K, val := a.eval V, born := clock }) (clock + 1) ?_ (by rw [hp]; exact hR.push hK hX hko)
          unfold execOp
          rcases ho with ho | ho <;> simp [ho, Instr.mapUpdate, hM, run_underlying hu, Go.MapKept.run_getObj_map hg, hck, hr, Go.MapKept.run_setObj_map _ hg]
        | some p =>
          obtain ⟨i, v'⟩ := p
          obtain ⟨j, x0, e1, hj, hx0, _, he1, heq, _⟩ := hat
          have hp : mput key x es = es.set (i - 0) (key, x) := hput
          have hij : i = j := by omega
          subst hij
          have hx0' : arr[i]? = some x0 := by simpa using hx0
          have hs0 : Instr.sameBits 10000 x0.key (a.eval K) = true := by
            have := (hR.at_ i x0 e1 hx0' he1)
            refine same_key this.1 hK this.2.2 hko ?_
            rw [eqL_symm]; exact heq
          refine fin (arr.modify i fun e => { e with key := a.eval K, val := a.eval V }) clock ?_ (by rw [hp]; exact hR.set (fun _ => rfl) (fun _ _ => ⟨hK, hX⟩) hko)
          have hkt : (Instr.keyThatStays x0.key (a.eval K)).run P E.w = .ok (a.eval K) E.w := by simp [Instr.keyThatStays, hs0]
          unfold execOp
          rcases ho with ho | ho <;> simp [ho, Instr.mapUpdate, hM, run_underlying hu, Go.MapKept.run_getObj_map hg, hck, hr, hx0', hkt, Go.MapKept.run_setObj_map _ hg]
      · trivial
    · trivial
  · trivial
end
section
variable {P : Program} {N : Nat} {w0 : World} {S0 : Base} {o : Oper} {a : Act} {E : Env} {st : St}
theorem run_getObj_iter {w : World} {r : Nat} {m : Option Nat} {c t : Nat} {s : Array Nat} (hb : w.heap[r]? = some (.mapIter m c s t)) : (getObj r).run P w = .ok (.mapIter m c s t) w := by
  simp [getObj, Sem.run, hb]
theorem entry_core {X : Operand} (ho : o.op = .entry X) {g k : Nat} (hP : a.eval X = .pointer (some ⟨k, 0, none⟩)) {arr : Array MapEntry} {c : Nat} {ix : List Nat} (hnd : (arr.toList.map (·.born)).Nodup) (hne : ix ≠ []) (hlt : ix.getLast?.getD 0 < arr.size)
    (hg : E.w.heap[g]? = some (.map arr c)) (hgk : E.w.heap[k]? = some (.mapIter (some g) c (ix.map fun j => (arr.toList.map (·.born)).getD j 0).toArray c)) :
    (execOp a.eval o).run P E.w = .ok (.value (.tuple #[arr[ix.getLast?.getD 0].key, arr[ix.getLast?.getD 0].val])) E.w := by
  obtain ⟨l, hl⟩ : ∃ l, ix.getLast? = some l := by
    cases h : ix.getLast? with
    | none => exact absurd (List.getLast?_eq_none_iff.1 h) hne
    | some l => exact ⟨l, rfl⟩
  have hback : ((ix.map fun j => (arr.toList.map (·.born)).getD j 0).toArray).back? = some ((arr.toList.map (·.born)).getD l 0) := by
    simp [List.back?_toArray, hl]
  have hll : l < arr.size := by rw [hl] at hlt; exact hlt
  have hst : (arr.toList.map (·.born)).getD l 0 = arr[l].born := by
    rw [List.getD_eq_getElem?_getD]; simp [hll]
  have hfind : arr.find? (fun e => e.born == arr[l].born) = some arr[l] := by
    rw [Array.find?_eq_some_iff_getElem]
    refine ⟨by simp, l, hll, rfl, fun j hj => ?_⟩
    have hjl : j < arr.size := by omega
    simp only [Bool.not_eq_true', beq_eq_false_iff_ne, ne_eq]
    intro he
    have h1 : (arr.toList.map (·.born))[j]'(by simpa using hjl) = (arr.toList.map (·.born))[l]'(by simpa using hll) := by simpa using he
    have := (List.getElem_inj hnd).1 h1
    omega
  unfold execOp
  simp only [hl, Option.getD_some]
  generalize hS : (ix.map fun j => (arr.toList.map (·.born)).getD j 0).toArray = seen at hback hgk
  simp only [ho, hP, Instr.entry, Sem.run_bind, run_getObj_iter hgk, Result.andThen_ok, hback, hst, Go.MapKept.run_getObj_map hg, bne_self_eq_false, Bool.false_eq_true, if_false, hfind, Sem.run_pure]
end
section
variable [Glb] {P : Program} {N : Nat} {w0 : World} {S0 : Base} {o : Oper} {a : Act} {E : Env} {st : St}
theorem snd_ment (h : SR N w0 S0 E st a.tmps) (hd : okDst N o.dst) {X : Operand} {y : O} (ho : o.op = .entry X) (hy : lowO X = some y) : Sound P N w0 S0 o a E st (eff (.ment y) (st.nm o.dst) st.sl st.bx) := by
  have he := ev_sound h.sl hy
  have tup : ∀ {S : Stable} {w : World} {v1 v2 : Value} {t1 t2 : T}, Rep S w v1 t1 → Rep S w v2 t2 → Rep S w (.tuple #[v1, v2]) (.tup [t1, t2]) := fun r1 r2 => .tup _ _ rfl fun i x u hx hu => by
    match i, hx, hu with
    | 0, hx, hu => simp at hx hu; subst hx; subst hu; exact r1
    | 1, hx, hu => simp at hx hu; subst hx; subst hu; exact r2
    | i + 2, hx, hu => simp at hx
  unfold eff
  simp only
  split
  · rename_i k hv
    rw [hv] at he
    obtain ⟨hP, hl⟩ := he.inv_ptr
    split
    · rename_i b bs c ix hbk
      split
      · rename_i ag sh es q hb
        rintro ⟨hq, hne, hlt⟩
        obtain ⟨arr, clock, hg, hR⟩ := (h.bx b _ hb).map
        have hmb := hR.mb q rfl
        rw [hq] at hmb
        simp only [Prod.mk.injEq] at hmb
        obtain ⟨rfl, rfl⟩ := hmb
        obtain ⟨ob, hgk, hob⟩ := (h.bx k _ hbk).at_
        cases hob with
        | cells _ _ _ hc => cases hc
        | it _ _ _ _ hlb =>
        have hlt' : ix.getLast?.getD 0 < arr.size := by rw [hR.size]; exact hlt
        have hat := hR.at_ _ _ _ (Array.getElem?_eq_getElem hlt') (List.getElem?_eq_getElem hlt)
        have hent : entT es ix = .tup [es[ix.getLast?.getD 0].1, es[ix.getLast?.getD 0].2] := by
          unfold entT
          rw [List.getElem?_eq_getElem hlt]
        rw [hent]
        exact did_val h hd (entry_core ho hP hR.apart hne hlt' hg hgk) (.t _ _ (tup hat.1 hat.2.1))
      · trivial
    · rename_i es ix hbk
      rintro ⟨hne, hlt⟩
      obtain ⟨ob, hgk, hob⟩ := (h.bx k _ hbk).at_
      cases hob with
      | cells _ _ _ hc => cases hc
      | itd g arr c ag sh _ _ hg hS hR =>
      have hlt' : ix.getLast?.getD 0 < arr.size := by rw [hR.size]; exact hlt
      have hat := hR.at_ _ _ _ (Array.getElem?_eq_getElem hlt') (List.getElem?_eq_getElem hlt)
      have hent : entT es ix = .tup [es[ix.getLast?.getD 0].1, es[ix.getLast?.getD 0].2] := by
        unfold entT
        rw [List.getElem?_eq_getElem hlt]
      rw [hent]
      exact did_val h hd (entry_core ho hP hR.apart hne hlt' hg hgk) (.t _ _ (tup hat.1 hat.2.1))
    · trivial
  · trivial
theorem snd_mlen (h : SR N w0 S0 E st a.tmps) (hd : okDst N o.dst) {X : Operand} {t kt e : TypeId} {y : O} (ho : o.op = .call { callee := .builtin .len, args := #[X], argTypes := #[t] }) (hy : lowO X = some y)
    (hu : P.underlying t = some (.map kt e)) : Sound P N w0 S0 o a E st (eff (.mlen y) (st.nm o.dst) st.sl st.bx) := by
  have he := ev_sound h.sl hy
  unfold eff
  simp only
  split
  · rename_i b hv
    rw [hv] at he
    obtain ⟨hM, hl⟩ := he.inv_mp
    split
    · rename_i ag sh es mb hb
      obtain ⟨arr, clock, hg, hR⟩ := (h.bx b _ hb).map
      exact did_val h hd (v := .int .i64 es.length) (exec_builtin ho (by simp [builtin, Builtin.len_, hM, run_underlying hu, goInt, Go.MapKept.run_getObj_map hg, hR.size])) (.t _ _ (.int _ _))
    · trivial
  · rename_i ks vs hv
    rw [hv] at he
    have hr := he.inv_t
    generalize hM : a.eval X = v at hr
    cases hr with
    | mapd g arr clock _ _ _ _ hk hv' hg =>
      exact did_val h hd (v := .int .i64 ks.length) (exec_builtin ho (by simp [builtin, Builtin.len_, hM, run_underlying hu, goInt, Go.MapKept.run_getObj_map hg.1, hk])) (.t _ _ (.int _ _))
  · rename_i hv
    rw [hv] at he
    have hM : a.eval X = .map none := by
      have := he.inv_t
      generalize a.eval X = v at this
      cases this; rfl
    exact did_val h hd (v := .int .i64 0) (exec_builtin ho (by simp [builtin, Builtin.len_, hM, run_underlying hu, goInt])) (.t _ _ (.int _ _))
  · trivial
theorem snd_mclr (h : SR N w0 S0 E st a.tmps) (hd : okDst N o.dst) {X : Operand} {t kt e : TypeId} {y : O} (ho : o.op = .call { callee := .builtin .clear, args := #[X], argTypes := #[t] }) (hy : lowO X = some y)
    (hu : P.underlying t = some (.map kt e)) : Sound P N w0 S0 o a E st (eff (.mclr y) (st.nm o.dst) st.sl st.bx) := by
  have he := ev_sound h.sl hy
  unfold eff
  simp only
  split
  · rename_i b hv
    rw [hv] at he
    obtain ⟨hM, hl⟩ := he.inv_mp
    split
    · rename_i ag sh es mb hb
      obtain ⟨arr, clock, hg, hR⟩ := (h.bx b _ hb).map
      refine ⟨.value (.tuple #[]), .tuple #[], { E with w := { E.w with heap := E.w.heap.setIfInBounds (E.κ b) (.map #[] clock) } }, exec_builtin ho (by simp [builtin, Builtin.clear_, hM, run_underlying hu, Go.MapKept.run_getObj_map hg, Go.MapKept.run_setObj_map _ hg]), .inl rfl, ?_⟩
      rw [app_wr]
      exact (h.writeM hb #[] clock _ ⟨rfl, fun i x e hx => by simp at hx, fun x hx => by simp at hx, by simp, fun p hp => by cases hp⟩).putO hd (.top _)
    · trivial
  · trivial
end
section
variable {P : Program} {N : Nat} {w0 : World} {S0 : Base} {o : Oper} {a : Act} {E : Env} {st : St}
theorem MapR.erase {E : Env} {arr : Array MapEntry} {clock : Nat} {ag : Bool} {sh : List Sh} {es : List (T × T)} {mb : Option (List Nat × Nat)} (h : MapR E arr clock ag sh es mb) (j : Nat) : MapR E (arr.eraseIdxIfInBounds j) clock ag sh (es.eraseIdx j) none := by
  have hsub : (arr.eraseIdxIfInBounds j).toList = arr.toList.eraseIdx j := by
    unfold Array.eraseIdxIfInBounds
    split
    · simp
    · rename_i hj
      rw [List.eraseIdx_of_length_le (by simpa using hj)]
  have hs : (arr.toList.eraseIdx j).Sublist arr.toList := List.eraseIdx_sublist _ _
  have hl : arr.toList.length = es.length := by simpa using h.size
  refine ⟨?_, fun i x e hx he => ?_, fun x hx => h.lt x (hs.subset (hsub ▸ hx)), ?_, fun p hp => by cases hp⟩
  · rw [← Array.length_toList, hsub, List.length_eraseIdx, List.length_eraseIdx, hl]
  · rw [← Array.getElem?_toList, hsub, List.getElem?_eraseIdx] at hx
    rw [List.getElem?_eraseIdx] at he
    split at hx
    · rename_i hij; rw [if_pos hij] at he; exact h.at_ i x e (by simpa using hx) he
    · rename_i hij; rw [if_neg hij] at he; exact h.at_ (i + 1) x e (by simpa using hx) he
  · rw [hsub]; exact (hs.map _).nodup h.apart
end
section
variable [Glb] {P : Program} {N : Nat} {w0 : World} {S0 : Base} {o : Oper} {a : Act} {E : Env} {st : St}
theorem snd_mdel (h : SR N w0 S0 E st a.tmps) (hd : okDst N o.dst) {M K : Operand} {t t2 kt e : TypeId} {m k : O} (ho : o.op = .call { callee := .builtin .delete, args := #[M, K], argTypes := #[t, t2] }) (hm : lowO M = some m) (hk : lowO K = some k)
    (hu : P.underlying t = some (.map kt e)) {sh : List Sh} (hs : shapeOf P 100 kt = some sh) : Sound P N w0 S0 o a E st (eff (.mdel (aggT P kt) sh m k) (st.nm o.dst) st.sl st.bx) := by
  have hem := ev_sound h.sl hm
  have hek := ev_sound h.sl hk
  unfold eff
  simp only
  split
  · rename_i b hv
    rw [hv] at hem
    obtain ⟨hM, hl⟩ := hem.inv_mp
    split
    · rename_i ag' sh' es mb hb
      split
      · rename_i key hkey
        rw [hkey] at hek
        have hK := hek.inv_t
        cases hsame : mapSame (aggT P kt) sh ag' sh' with
        | false => trivial
        | true =>
        obtain ⟨rfl, rfl⟩ := mapSame_eq hsame
        intro hko
        obtain ⟨arr, clock, hg, hR⟩ := (h.bx b _ hb).map
        obtain ⟨r, hr, hat⟩ := run_findKey_rep hs hK hko arr.toList es hR.keys.1 hR.keys.2
        have hck := run_check_key hs hK hko arr.isEmpty
        have hfind := hat.find
        have fin : ∀ arr', (execOp a.eval o).run P E.w = .ok (.value (.tuple #[])) { E.w with heap := E.w.heap.setIfInBounds (E.κ b) (.map arr' clock) } → MapR E arr' clock (aggT P kt) sh (mdel key.cells es) none →
            Did P N w0 S0 o a E (st.app o.dst { val := .top, wr := some (b, .m (aggT P kt) sh (mdel key.cells es) none), rd := [b] }) := fun arr' hrun hR' => by
          refine ⟨.value (.tuple #[]), .tuple #[], { E with w := { E.w with heap := E.w.heap.setIfInBounds (E.κ b) (.map arr' clock) } }, hrun, .inl rfl, ?_⟩
          rw [app_wr]
          exact (h.writeM hb arr' clock _ hR').putO hd (.top _)
        cases r with
        | none =>
          have hp : mdel key.cells es = es := hfind.2
          refine fin arr (exec_builtin ho ?_) (by rw [hp]; exact ⟨hR.size, hR.at_, hR.lt, hR.apart, fun p hp => by cases hp⟩)
          simp [builtin, Builtin.delete_, hM, run_underlying hu, Go.MapKept.run_getObj_map hg, hck, hr, Go.MapKept.run_setObj_map _ hg]
        | some p =>
          obtain ⟨i, v'⟩ := p
          obtain ⟨e2, _, _, hp⟩ := hfind
          rw [Nat.sub_zero] at hp
          refine fin (arr.eraseIdxIfInBounds i) (exec_builtin ho ?_) (by rw [hp]; exact hR.erase i)
          simp [builtin, Builtin.delete_, hM, run_underlying hu, Go.MapKept.run_getObj_map hg, hck, hr, Go.MapKept.run_setObj_map _ hg]
      · trivial
    · trivial
  · trivial
end
end Go.DL
end
section
namespace Go.DL
open Go.RowKit
section
variable [Glb] {P : Program} {N : Nat} {w0 : World} {S0 : Base} {o : Oper} {a : Act} {E : Env} {st : St}
def Sx (E : Env) (rd : List Nat) : Stable := fun b o => E.S b o ∨ ∃ n ∈ rd, E.live n = true ∧ b = E.κ n
end
section
variable {P : Program} {N : Nat} {w0 : World} {S0 : Base} {o : Oper} {a : Act} {E : Env} {st : St}
theorem Sx_mono {E : Env} {r r' : List Nat} (h : ∀ n ∈ r, n ∈ r') : ∀ b o, Sx E r b o → Sx E r' b o := by
  rintro b o (h1 | ⟨n, hn, h2⟩)
  · exact .inl h1
  · exact .inr ⟨n, h n hn, h2⟩
end
section
variable [Glb] {P : Program} {N : Nat} {w0 : World} {S0 : Base} {o : Oper} {a : Act} {E : Env} {st : St}
theorem SR.globX {b : Array Value} (h : SR N w0 S0 E st b) (rd : List Nat) : GlobOk (Sx E rd) E.w := h.globE.up (fun _ _ hs => .inl hs) (Below.refl _ _)
end
section
variable {P : Program} {N : Nat} {w0 : World} {S0 : Base} {o : Oper} {a : Act} {E : Env} {st : St}
theorem flat_ones : ∀ {l : List T}, (∀ t ∈ l, t.one = true) → l.flatMap T.cells = l
  | [], _ => rfl
  | t :: l, h => by rw [List.flatMap_cons, T.cells_one (h t (by simp)), flat_ones (fun u hu => h u (List.mem_cons_of_mem _ hu))]; rfl
theorem allT_get : ∀ {vs : List V} {ts : List T}, allT vs = some ts → vs.length = ts.length ∧ ∀ (i : Nat) (v : V) (t : T), vs[i]? = some v → ts[i]? = some t → asT v = some t
  | [], ts, h => by simp [allT] at h; subst h; exact ⟨rfl, fun i v t hv => by simp at hv⟩
  | v :: vs, ts, h => by
    unfold allT at h
    split at h
    · rename_i x xs hx hxs
      cases h
      obtain ⟨h1, h2⟩ := allT_get hxs
      refine ⟨by simp [h1], fun i v t hv ht => ?_⟩
      cases i with
      | zero => simp at hv ht; subst hv; subst ht; exact hx
      | succ i => simp at hv ht; exact h2 i v t hv ht
    · cases h
theorem box_cptr {n : Nat} {b : BX} (hb : BoxR E (E.κ n) b) (hl : E.live n = true) {ts : List T} (ht : (∃ m, b = .d m ts) ∨ ∃ vs, b = .v vs ∧ allT vs = some ts) {rd : List Nat} (hn : n ∈ rd) (off : Nat) :
    Rep (Sx E rd) E.w (.pointer (some ⟨E.κ n, off, none⟩)) (.cptr ts off) := by
  have hM : b.isM = false := by rcases ht with ⟨m, rfl⟩ | ⟨vs, rfl, _⟩ <;> rfl
  obtain ⟨cs, e, hg, hc⟩ := hb.cells hM
  have key : ts.length ≤ cs.size ∧ ∀ (i : Nat) (x : Value) (t : T), cs[i]? = some x → ts[i]? = some t → Rep E.S E.w x t ∧ t.one = true := by
    rcases ht with ⟨m, rfl⟩ | ⟨vs, rfl, hv⟩
    · cases hc with
      | d _ _ h1 h2 h3 => exact ⟨by omega, h3⟩
    · cases hc with
      | v _ h1 h2 =>
        obtain ⟨g1, g2⟩ := allT_get hv
        refine ⟨by omega, fun i x t hx ht => ?_⟩
        have hlt : i < vs.length := by rw [g1]; exact (List.getElem?_eq_some_iff.1 ht).1
        have hvi := List.getElem?_eq_getElem hlt
        obtain ⟨k1, k2⟩ := h2 i x _ hx hvi
        have := asT_sound k1 (g2 i _ t hvi ht)
        exact ⟨this, this.one_of k2⟩
  have := Rep.cptr (S := Sx E rd) (w := E.w) (E.κ n) 0 off ts (fun i => cs[i]?.getD undef)
    (fun t ht => by
      obtain ⟨i, hi⟩ := List.mem_iff_getElem?.1 ht
      have hlt : i < cs.size := Nat.lt_of_lt_of_le (List.getElem?_eq_some_iff.1 hi).1 key.1
      exact (key.2 i cs[i] t (by simp [hlt]) hi).2)
    (fun i hi => by
      have hlt : i < cs.size := Nat.lt_of_lt_of_le hi key.1
      rw [Nat.zero_add, cell_of_row _ _ _ _ _ _ hg]
      exact ⟨by simp [hlt], .inr ⟨n, hn, hl, rfl⟩⟩)
    (fun i t ht => by
      have hlt : i < cs.size := Nat.lt_of_lt_of_le (List.getElem?_eq_some_iff.1 ht).1 key.1
      have := (key.2 i cs[i] t (by simp [hlt]) ht).1
      simp only [hlt, getElem?_pos, Option.getD_some]
      exact this.mono (fun b o h => .inl h) (fun _ _ _ => Same.rfl))
  rwa [Nat.zero_add] at this
theorem conv1_sound {bx : Nat → Option BX} (hbx : ∀ n b, bx n = some b → BoxR E (E.κ n) b) {v : Value} {u : V} (h : VR E v u) {t : T} {rd : List Nat} (hc : conv1 bx u = some (t, rd)) : Rep (Sx E rd) E.w v t := by
  have up : ∀ {v t}, Rep E.S E.w v t → Rep (Sx E rd) E.w v t := fun h => h.mono (fun b o h => .inl h) (fun _ _ _ => Same.rfl)
  cases h with
  | t v x h => simp [conv1] at hc; rw [← hc.1]; exact up h
  | own v r e size xs h => simp [conv1] at hc; rw [← hc.1]; exact up h.rep
  | full a len size xs h => simp [conv1] at hc; rw [← hc.1]; exact up h
  | ptr n off hl =>
    simp only [conv1] at hc
    split at hc
    · rename_i m ts hb
      simp only [Option.some.injEq, Prod.mk.injEq] at hc
      obtain ⟨rfl, rfl⟩ := hc
      exact box_cptr (hbx n _ hb) hl (.inl ⟨m, rfl⟩) (by simp) off
    · rename_i vs hb
      split at hc
      · rename_i ts hts
        simp only [Option.some.injEq, Prod.mk.injEq] at hc
        obtain ⟨rfl, rfl⟩ := hc
        exact box_cptr (hbx n _ hb) hl (.inr ⟨vs, rfl, hts⟩) (by simp) off
      · cases hc
    · cases hc
    · cases hc
    · cases hc
    · cases hc
  | mp n hl =>
    simp only [conv1] at hc
    split at hc
    · rename_i ag sh es mb hb
      simp only [Option.some.injEq, Prod.mk.injEq] at hc
      obtain ⟨rfl, rfl⟩ := hc
      obtain ⟨arr, clock, hg, hR⟩ := (hbx n _ hb).map
      have get : ∀ (i : Nat) (x : MapEntry), arr[i]? = some x → ∃ e, es[i]? = some e ∧ Rep E.S E.w x.key e.1 ∧ Rep E.S E.w x.val e.2 ∧ keyOk ag sh e.1 := fun i x hx => by
        have hlt : i < es.length := by rw [← hR.size]; exact (Array.getElem?_eq_some_iff.1 hx).1
        exact ⟨_, List.getElem?_eq_getElem hlt, hR.at_ i x _ hx (List.getElem?_eq_getElem hlt)⟩
      refine .mapd (E.κ n) arr clock ag sh _ _ (by simp [hR.size]) (by simp) ⟨hg, .inr ⟨n, by simp, hl, rfl⟩⟩ (fun i x t hx ht => ?_) (fun i x t hx ht => ?_) (fun k hk => ?_) hR.lt hR.apart
      · obtain ⟨e, he, h1, _⟩ := get i x hx
        rw [List.getElem?_map, he] at ht
        cases ht
        exact up h1
      · obtain ⟨e, he, _, h2, _⟩ := get i x hx
        rw [List.getElem?_map, he] at ht
        cases ht
        exact up h2
      · obtain ⟨e, he, rfl⟩ := List.mem_map.1 hk
        obtain ⟨i, hi⟩ := List.mem_iff_getElem?.1 he
        have hlt : i < arr.size := by rw [hR.size]; exact (List.getElem?_eq_some_iff.1 hi).1
        exact (hR.at_ i _ e (Array.getElem?_eq_getElem hlt) hi).2.2
    · cases hc
  | view n off len size cap hl hcap =>
    simp only [conv1] at hc
    split at hc
    · rename_i m ts hb
      cases hcd : (Nat.blt 0 size && Nat.ble (off + len * size) m) with
      | false => rw [hcd] at hc; cases hc
      | true =>
        rw [hcd] at hc
        simp only [cond_true, Option.some.injEq, Prod.mk.injEq] at hc
        obtain ⟨rfl, rfl⟩ := hc
        rw [Bool.and_eq_true] at hcd
        have hle : off + len * size ≤ m := Nat.le_of_ble_eq_true hcd.2
        have hpos : 0 < size := Nat.lt_of_lt_of_le (Nat.lt_succ_self 0) (Nat.le_of_ble_eq_true hcd.1)
        obtain ⟨cs, e, hg, hcr⟩ := (hbx n _ hb).cells rfl
        cases hcr with
        | d _ _ h1 h2 h3 =>
          have ones : ∀ t ∈ ts.drop off, t.one = true := fun t ht => by
            have ht := List.mem_of_mem_drop ht
            obtain ⟨i, hi⟩ := List.mem_iff_getElem?.1 ht
            have hlt : i < cs.size := by have := (List.getElem?_eq_some_iff.1 hi).1; omega
            exact (h3 i cs[i] t (by simp [hlt]) hi).2
          obtain ⟨hfl, hL, hu⟩ := chunk_spec hpos len (ts.drop off) (by simp; omega) ones
          have hfl_len : ((ts.drop off).take (len * size)).length = len * size := by simp; omega
          refine .slice _ (E.κ n) off len cap size _ (fun i => cs[off + i]?.getD undef) hL hcap hu (by rw [hfl]; exact fun t ht => ones t (List.mem_of_mem_take ht)) (fun _ => rfl) (fun i hi => ?_) (fun i t ht => ?_)
          · rw [hfl, hfl_len] at hi
            have hlt : off + i < cs.size := by omega
            rw [cell_of_row _ _ _ _ _ _ hg]
            exact ⟨by simp [hlt], .inr ⟨n, by simp, hl, rfl⟩⟩
          · rw [hfl] at ht
            have hi : i < len * size := by rw [← hfl_len]; exact (List.getElem?_eq_some_iff.1 ht).1
            have hlt : off + i < cs.size := by omega
            rw [getElem?_dt, if_pos hi] at ht
            have := (h3 (off + i) cs[off + i] t (by simp [hlt]) ht).1
            simp only [hlt, getElem?_pos, Option.getD_some]
            exact up this
    · cases hc
  | _ => simp [conv1] at hc
theorem convL_sound {bx : Nat → Option BX} (hbx : ∀ n b, bx n = some b → BoxR E (E.κ n) b) : ∀ {us : List V} {ts : List T} {rd : List Nat}, convL bx us = some (ts, rd) → us.length = ts.length ∧
    ∀ (i : Nat) (v : Value) (u : V) (t : T), VR E v u → us[i]? = some u → ts[i]? = some t → Rep (Sx E rd) E.w v t
  | [], ts, rd, h => by simp [convL] at h; obtain ⟨rfl, rfl⟩ := h; exact ⟨rfl, fun i v u t _ hu => by simp at hu⟩
  | u :: us, ts, rd, h => by
    unfold convL at h
    split at h
    · rename_i x r xs rs hx hxs
      simp only [Option.some.injEq, Prod.mk.injEq] at h
      obtain ⟨rfl, rfl⟩ := h
      obtain ⟨h1, h2⟩ := convL_sound hbx hxs
      refine ⟨by simp [h1], fun i v u' t hv hu ht => ?_⟩
      cases i with
      | zero =>
        simp at hu ht; subst hu; subst ht
        exact (conv1_sound hbx hv hx).mono (Sx_mono fun n hn => by simp [hn]) (fun _ _ _ => Same.rfl)
      | succ i =>
        simp at hu ht
        exact (h2 i v u' t hv hu ht).mono (Sx_mono fun n hn => by simp [hn]) (fun _ _ _ => Same.rfl)
    · cases h
theorem conv_sound {bx : Nat → Option BX} (hbx : ∀ n b, bx n = some b → BoxR E (E.κ n) b) {v : Value} {u : V} (h : VR E v u) {t : T} {rd : List Nat} (hc : conv bx u = some (t, rd)) : Rep (Sx E rd) E.w v t := by
  cases u with
  | fn f caps =>
    unfold conv at hc
    simp only at hc
    split at hc
    · rename_i ts r hts
      simp only [Option.some.injEq, Prod.mk.injEq] at hc
      obtain ⟨rfl, rfl⟩ := hc
      obtain ⟨h1, h2⟩ := convL_sound hbx hts
      cases h with
      | fn _ cs _ hs hv =>
        refine .clos f cs ts (by omega) (fun i x t hx ht => ?_)
        have hlt : i < caps.length := by rw [h1]; exact (List.getElem?_eq_some_iff.1 ht).1
        exact h2 i x _ t (hv i x _ hx (List.getElem?_eq_getElem hlt)) (List.getElem?_eq_getElem hlt) ht
    · cases hc
  | _ => exact conv1_sound hbx h hc
theorem convs_sound {bx : Nat → Option BX} (hbx : ∀ n b, bx n = some b → BoxR E (E.κ n) b) : ∀ {us : List V} {ts : List T} {rd : List Nat}, convs bx us = some (ts, rd) → us.length = ts.length ∧
    ∀ (i : Nat) (v : Value) (u : V) (t : T), VR E v u → us[i]? = some u → ts[i]? = some t → Rep (Sx E rd) E.w v t
  | [], ts, rd, h => by simp [convs] at h; obtain ⟨rfl, rfl⟩ := h; exact ⟨rfl, fun i v u t _ hu => by simp at hu⟩
  | u :: us, ts, rd, h => by
    unfold convs at h
    split at h
    · rename_i x r xs rs hx hxs
      simp only [Option.some.injEq, Prod.mk.injEq] at h
      obtain ⟨rfl, rfl⟩ := h
      obtain ⟨h1, h2⟩ := convs_sound hbx hxs
      refine ⟨by simp [h1], fun i v u' t hv hu ht => ?_⟩
      cases i with
      | zero =>
        simp at hu ht; subst hu; subst ht
        exact (conv_sound hbx hv hx).mono (Sx_mono fun n hn => by simp [hn]) (fun _ _ _ => Same.rfl)
      | succ i =>
        simp at hu ht
        exact (h2 i v u' t hv hu ht).mono (Sx_mono fun n hn => by simp [hn]) (fun _ _ _ => Same.rfl)
    · cases h
end
section
variable [Glb] {P : Program} {N : Nat} {w0 : World} {S0 : Base} {o : Oper} {a : Act} {E : Env} {st : St}
end
section
variable {P : Program} {N : Nat} {w0 : World} {S0 : Base} {o : Oper} {a : Act} {E : Env} {st : St}
theorem areU8_get : ∀ {xs : List T}, areU8 xs → ∀ (i : Nat) (t : T), xs[i]? = some t → ∃ n, t = .int .u8 n
  | [], _, i, t, h => by simp at h
  | .int .u8 n :: xs, hx, i, t, h => by
    cases i with
    | zero => simp at h; exact ⟨n, h.symm⟩
    | succ i => exact areU8_get (xs := xs) hx i t (by simpa using h)
theorem areU8_one {xs : List T} (h : areU8 xs) : xs.flatMap T.cells = xs := flat_ones fun t ht => by
  obtain ⟨i, hi⟩ := List.mem_iff_getElem?.1 ht
  obtain ⟨n, rfl⟩ := areU8_get h i t hi
  rfl
end
section
variable [Glb] {P : Program} {N : Nat} {w0 : World} {S0 : Base} {o : Oper} {a : Act} {E : Env} {st : St}
def numOf : T → Int
  | .int _ n => n
  | _ => 0
end
section
variable {P : Program} {N : Nat} {w0 : World} {S0 : Base} {o : Oper} {a : Act} {E : Env} {st : St}
theorem strT_nums {xs : List T} (h : areU8 xs) : strT xs = strOfNums (xs.map numOf) := by
  unfold strT strOfNums
  congr 1
  rw [List.map_map]
  congr 1
  refine List.map_congr_left fun t ht => ?_
  obtain ⟨i, hi⟩ := List.mem_iff_getElem?.1 ht
  obtain ⟨n, rfl⟩ := areU8_get h i t hi
  rfl
end
section
variable [Glb] {P : Program} {N : Nat} {w0 : World} {S0 : Base} {o : Oper} {a : Act} {E : Env} {st : St}
theorem snd_convert (h : SR N w0 S0 E st a.tmps) (hd : okDst N o.dst) {s t : TypeId} {X : Operand} (ho : o.op = .convert s t X) {x : DOp} (hl : lowOp P o.op = some x) : Sound P N w0 S0 o a E st (eff x (st.nm o.dst) st.sl st.bx) := by
  rw [ho] at hl
  simp only [lowOp] at hl
  have ex : ∀ {v : Value} {w : World}, (convert s t (a.eval X)).run P E.w = .ok v w → (execOp a.eval o).run P E.w = .ok (.value v) w := fun hr => by unfold execOp; simp [ho, hr]
  -- a reading: what the value is
  have see : ∀ {y : O} {u : T} {rd : List Nat}, lowO X = some y → conv1 st.bx (ev st.sl y) = some (u, rd) → Rep (Sx E rd) E.w (a.eval X) u := fun hy hc => conv1_sound h.bx (ev_sound h.sl hy) hc
  split at hl
  · rename_i k0 k y hs ht hy
    simp only [Option.some.injEq] at hl
    subst hl
    have he := ev_sound h.sl hy
    unfold eff
    simp only
    split
    · rename_i k1 n hv
      rw [hv] at he
      exact did_val h hd (v := .int k (k.wrap n)) (ex (by simp [he.inv_int, convert, run_underlying hs, run_underlying ht, Conv.intToInt])) (.t _ _ (.int _ _))
    · trivial
  · rename_i y hs ht hy
    simp only [Option.some.injEq] at hl
    subst hl
    unfold eff
    simp only
    split
    · rename_i u rd hc
      have hr := see hy hc
      split
      · rename_i c r hp
        cases u <;> simp only [primT, reduceCtorEq] at hp
        rename_i sx
        cases hp
        intro _
        have hX := hr.inv_str
        exact did_val h hd (v := .string sx) (ex (by simp [hX, convert, run_underlying hs, run_underlying ht])) (.t _ _ (.str _))
      · trivial
    · trivial
  · rename_i e y hs ht hy
    cases hu8 : isU8 P e with
    | false => rw [hu8] at hl; cases hl
    | true =>
    rw [hu8] at hl
    simp only [cond_true, Option.some.injEq] at hl
    subst hl
    have he8 : P.underlying e = some (.int .u8) := by
      unfold isU8 at hu8
      split at hu8
      · assumption
      · cases hu8
    unfold eff
    simp only
    split
    · rename_i u rd hc
      have hr := see hy hc
      split
      · rename_i c r hp
        cases u <;> simp only [primT, reduceCtorEq] at hp
        · rename_i n xs
          cases hp
          intro hu
          generalize hX : a.eval X = v at hr
          cases hr with
          | slice A b off len cap _ _ g hlen hcap hun h1 ha hg hrep =>
          subst hlen
          rw [areU8_one hu] at ha hg hrep
          have hcell : ∀ i, i < xs.length → E.w.cell? ⟨b, off + i, none⟩ = some (.int .u8 ((xs.map numOf).getD i 0)) := fun i hi => by
            rw [(hg i hi).1]
            obtain ⟨n, hn⟩ := areU8_get hu i xs[i] (List.getElem?_eq_getElem hi)
            have := hrep i xs[i] (List.getElem?_eq_getElem hi)
            rw [hn] at this
            rw [this.inv_int]
            simp [List.getD, hi, hn, numOf]
          refine did_val h hd (v := .string (strT xs)) (ex ?_) (.t _ _ (.str _))
          rw [hX, strT_nums hu]
          by_cases h0 : 0 < xs.length
          · rw [ha h0]
            exact run_convert_bytes_arg E.w s e hs he8 b off xs.length cap (xs.map numOf) (by simp) hcell t ht
          · have h0 : xs = [] := List.eq_nil_of_length_eq_zero (by omega)
            subst h0
            cases A with
            | none => exact run_convert_bytes_nil E.w s e hs he8 _ _ t ht
            | some A =>
              rw [run_convert_bytes_string E.w s t e _ _ _ hs he8 ht, run_bytesToString E.w A _ _ [] (by simp [loadCells, loadCellsFrom])]
              rfl
        · cases hp
          intro _
          generalize hX : a.eval X = v at hr
          cases hr
          refine did_val h hd (v := .string ByteArray.empty) (ex ?_) (.t _ _ (.str _))
          rw [hX]
          exact run_convert_bytes_nil E.w s e hs he8 _ _ t ht
      · trivial
    · trivial
  · rename_i e y hs ht hy
    cases hu8 : isU8 P e with
    | false => rw [hu8] at hl; cases hl
    | true =>
    rw [hu8] at hl
    simp only [cond_true, Option.some.injEq] at hl
    subst hl
    have he8 : P.underlying e = some (.int .u8) := by
      unfold isU8 at hu8
      split at hu8
      · assumption
      · cases hu8
    unfold eff
    simp only
    split
    · rename_i u rd hc
      have hr := see hy hc
      split
      · rename_i c r hp
        cases u <;> simp only [primT, reduceCtorEq] at hp
        · rename_i sx
          cases hp
          intro _
          have hX := hr.inv_str
          have hrun := Lib.run_convert_string_bytes (P := P) E.w s t e sx hs ht he8
          have hb : Below E.w.heap.size E.w (Lib.bytesWorld E.w e sx) := ⟨Lib.bytesWorld_below _ _ _, Nat.le_succ _⟩
          have hge := grownCap_ge E.w sx.size 0 e
          have h' := h.world hb (fun b o => E.S b o ∨ (E.w.heap.size ≤ b ∧ b < (Lib.bytesWorld E.w e sx).heap.size)) (fun b o => ⟨fun hh => hh.elim .inl fun k => .inr ⟨.inr k, k⟩, fun hh => hh.elim .inl fun k => k.1⟩)
          have hlen : (bytesT sx).length = sx.size := by unfold bytesT; rw [List.length_map, Array.length_toList]; rfl
          have hone : ∀ t ∈ bytesT sx, t.one = true ∧ t.cells = [t] := fun t ht => by
            obtain ⟨_, _, rfl⟩ := List.mem_map.1 ht
            exact ⟨rfl, rfl⟩
          have hfl : (bytesT sx).flatMap T.cells = bytesT sx := flat_ones fun t ht => (hone t ht).1
          refine ⟨_, _, { E with w := Lib.bytesWorld E.w e sx, S := fun b o => E.S b o ∨ (E.w.heap.size ≤ b ∧ b < (Lib.bytesWorld E.w e sx).heap.size) }, ex (by rw [hX]; exact hrun), .inl rfl, ?_⟩
          refine h'.putO hd (.t _ _ (.slice _ E.w.heap.size 0 sx.size _ 1 _ (fun i => .int .u8 (sx.data.toList.getD i 0).toNat) hlen hge (fun x hx => by rw [(hone x hx).2]; rfl) (fun t ht => ?_) (fun _ => rfl) (fun i hi => ?_) (fun i t ht => ?_)))
          · rw [hfl] at ht; exact (hone t ht).1
          · rw [hfl, hlen] at hi
            rw [Nat.zero_add]
            exact ⟨Lib.bytesWorld_cell E.w e sx i hi, .inr ⟨Nat.le_refl _, by rw [Lib.bytesWorld_size]; omega⟩⟩
          · rw [hfl] at ht
            unfold bytesT at ht
            rw [List.getElem?_map, Option.map_eq_some_iff] at ht
            obtain ⟨b, hb, rfl⟩ := ht
            have : sx.data.toList.getD i 0 = b := by simp [List.getD, hb]
            rw [this]
            exact .int _ _
      · trivial
    · trivial
  · cases hl
theorem snd_arrP (h : SR N w0 S0 E st a.tmps) (hd : okDst N o.dst) {t e : TypeId} {n : Nat} {X : Operand} {y : O} (ho : o.op = .sliceToArrayPointer t X) (hu : P.underlying t = some (.array n e)) (hy : lowO X = some y) :
    Sound P N w0 S0 o a E st (eff (.arrP n y) (st.nm o.dst) st.sl st.bx) := by
  have he := ev_sound h.sl hy
  have ex : ∀ {A : Option Addr} {len cap : Nat}, a.eval X = .slice A len cap → n ≤ len → (execOp a.eval o).run P E.w = .ok (.value (.pointer A)) E.w := fun hX hn => by
    unfold execOp
    simp [ho, Instr.arrayAt, run_underlying hu, hX, Nat.not_lt.2 hn]
  unfold eff
  simp only
  split
  · rename_i b off len sz hv
    rw [hv] at he
    obtain ⟨cap, hX, _, hlv⟩ := he.inv_view
    intro hn
    exact did_val h hd (ex hX hn) (.ptr b off hlv)
  · split
    · rename_i sz xs ha
      have hr := asT_sound he ha
      rintro ⟨hn, hp⟩
      generalize hX : a.eval X = v at hr
      cases hr with
      | slice A b off len cap _ _ g hlen hcap hun h1 hA hg hrep =>
      subst hlen
      rw [hA hp] at hX
      refine did_val h hd (ex hX (by omega)) (.t _ _ ?_)
      have := Rep.cptr (S := E.S) (w := E.w) b off 0 (xs.flatMap T.cells) g h1 hg hrep
      rwa [Nat.add_zero] at this
    · trivial
end
section
variable {P : Program} {N : Nat} {w0 : World} {S0 : Base} {o : Oper} {a : Act} {E : Env} {st : St}
theorem numT_bytes (s : ByteArray) : (bytesT s).flatMap T.cells = bytesT s := flat_ones fun t ht => by
  obtain ⟨_, _, rfl⟩ := List.mem_map.1 ht
  rfl
theorem bytesT_len (s : ByteArray) : (bytesT s).length = s.size := by
  unfold bytesT
  rw [List.length_map, Array.length_toList]
  rfl
end
section
variable [Glb] {P : Program} {N : Nat} {w0 : World} {S0 : Base} {o : Oper} {a : Act} {E : Env} {st : St}
structure SrcR (P : Program) (E : Env) (y : Value) (n : Nat) (ys : List T) (news : List Value) : Prop where
  len : news.length = (ys.flatMap T.cells).length
  rep : ∀ (i : Nat) (x : Value) (t : T), news[i]? = some x → (ys.flatMap T.cells)[i]? = some t → Rep E.S E.w x t
  uni : ∀ x ∈ ys, x.cells.length = n
  one : ∀ t ∈ ys.flatMap T.cells, t.one = true
  src : (∃ (ad : Addr) (c : Nat), y = .slice (some ad) ys.length c ∧ ∀ j v, news[j]? = some v → E.w.cell? (ad.add j) = some v) ∨ (∃ A c, y = .slice A 0 c ∧ ys = []) ∨ (∃ s, y = .string s ∧ ys = bytesT s ∧ (n = 1 ∨ ys = []) ∧ news = byteCells s)
end
section
variable {P : Program} {N : Nat} {w0 : World} {S0 : Base} {o : Oper} {a : Act} {E : Env} {st : St}
theorem SrcR.oneV {y : Value} {n : Nat} {ys : List T} {news : List Value} (h : SrcR P E y n ys news) : ∀ v ∈ news, v.oneCell' = true := fun v hv => by
  obtain ⟨i, hi⟩ := List.mem_iff_getElem?.1 hv
  have hlt : i < (ys.flatMap T.cells).length := by rw [← h.len]; exact (List.getElem?_eq_some_iff.1 hi).1
  exact (h.rep i v _ hi (List.getElem?_eq_getElem hlt)).one (h.one _ (List.mem_of_getElem? (List.getElem?_eq_getElem hlt)))
theorem srcR_of_rep {y : Value} {n : Nat} {ys : List T} (h : Rep E.S E.w y (.slice n ys)) (hn : 0 < n) : ∃ news, SrcR P E y n ys news := by
  cases h with
  | slice A b off len cap _ _ g hlen hcap hu h1 ha hg hrep =>
  subst hlen
  have get : ∀ j v, ((List.range (ys.flatMap T.cells).length).map g)[j]? = some v → j < (ys.flatMap T.cells).length ∧ g j = v := fun j v hj => by
    have hlt : j < (ys.flatMap T.cells).length := by simpa using (List.getElem?_eq_some_iff.1 hj).1
    rw [List.getElem?_map, List.getElem?_range hlt] at hj
    exact ⟨hlt, by simpa using hj⟩
  refine ⟨(List.range (ys.flatMap T.cells).length).map g, by simp, fun i x t hx ht => ?_, hu, h1, ?_⟩
  · obtain ⟨_, rfl⟩ := get i x hx
    exact hrep i t ht
  · by_cases h0 : ys = []
    · subst h0; exact .inr (.inl ⟨A, cap, rfl, rfl⟩)
    · have hp : 0 < (ys.flatMap T.cells).length := by rw [flat_len hu]; exact Nat.mul_pos (List.length_pos_iff.2 h0) hn
      rw [ha hp]
      refine .inl ⟨_, cap, rfl, fun j v hj => ?_⟩
      obtain ⟨hlt, rfl⟩ := get j v hj
      rw [addr_add]; exact (hg j hlt).1
end
section
variable [Glb] {P : Program} {N : Nat} {w0 : World} {S0 : Base} {o : Oper} {a : Act} {E : Env} {st : St}
theorem srcT_sound (h : SR N w0 S0 E st a.tmps) {y : Value} {u : V} (hv : VR E y u) {n : Nat} {ys : List T} (hs : srcT st.bx u = some (.slice n ys)) (hn : 0 < n) : ∃ news, SrcR P E y n ys news := by
  have data : asT u = some (.slice n ys) → ∃ news, SrcR P E y n ys news := fun hd => srcR_of_rep (asT_sound hv hd) hn
  unfold srcT at hs
  split at hs
  · rename_i s
    cases hs
    have hy := hv.inv_str
    refine ⟨byteCells s, by rw [numT_bytes, bytesT_len, byteCells_length], fun i x t hx ht => ?_, fun x hx => ?_, fun t ht => ?_, .inr (.inr ⟨s, hy, rfl, .inl rfl, rfl⟩)⟩
    · rw [numT_bytes] at ht
      unfold byteCells at hx
      unfold bytesT at ht
      rw [List.getElem?_map, Option.map_eq_some_iff] at hx ht
      obtain ⟨b, hb, rfl⟩ := hx
      obtain ⟨b', hb', rfl⟩ := ht
      rw [hb] at hb'
      cases hb'
      exact .int _ _
    · obtain ⟨_, _, rfl⟩ := List.mem_map.1 hx
      rfl
    · rw [numT_bytes] at ht
      obtain ⟨_, _, rfl⟩ := List.mem_map.1 ht
      rfl
  · rename_i k off len size
    split at hs
    · rename_i t rd hc
      cases hs
      simp only [conv1] at hc
      split at hc
      · rename_i m ts hb
        cases hcond : (Nat.blt 0 size && Nat.ble (off + len * size) m) with
        | false => rw [hcond] at hc; cases hc
        | true =>
        rw [hcond] at hc
        simp only [cond_true, Option.some.injEq, Prod.mk.injEq, T.slice.injEq] at hc
        obtain ⟨⟨rfl, rfl⟩, -⟩ := hc
        rw [Bool.and_eq_true] at hcond
        have hle := Nat.le_of_ble_eq_true hcond.2
        obtain ⟨cap, hX, hcap, hlv⟩ := hv.inv_view
        obtain ⟨cs, e', hg, hcr⟩ := (h.bx k _ hb).cells rfl
        cases hcr with
        | d _ _ hl hsz hh =>
        obtain ⟨k1, k2, k3⟩ := chunk_spec hn len (ts.drop off) (by rw [List.length_drop]; omega) (fun t ht => by
          obtain ⟨i, hi⟩ := List.mem_iff_getElem?.1 (List.mem_of_mem_drop ht)
          have hlt : i < cs.size := by have := (List.getElem?_eq_some_iff.1 hi).1; omega
          exact (hh i cs[i] t (Array.getElem?_eq_getElem hlt) hi).2)
        have hK : ((ts.drop off).take (len * size)).length = len * size := by rw [List.length_take, List.length_drop]; omega
        have key : ∀ (i : Nat) (t : T), ((ts.drop off).take (len * size))[i]? = some t → i < len * size ∧ ts[off + i]? = some t := fun i t ht => by
          have hi : i < len * size := by rw [← hK]; exact (List.getElem?_eq_some_iff.1 ht).1
          rw [getElem?_dt, if_pos hi] at ht
          exact ⟨hi, ht⟩
        refine ⟨(cs.toList.drop off).take (len * size), ?_, fun i x t hx ht => ?_, k3, fun t ht => ?_, ?_⟩
        · rw [k1, hK, List.length_take, List.length_drop, Array.length_toList]; omega
        · rw [k1] at ht
          obtain ⟨hi, ht⟩ := key i t ht
          rw [getElem?_dt, if_pos hi] at hx
          exact (hh (off + i) x t (by simpa using hx) ht).1
        · rw [k1] at ht
          obtain ⟨i, hi⟩ := List.mem_iff_getElem?.1 ht
          obtain ⟨hi, ht⟩ := key i t hi
          have hlt : off + i < cs.size := by omega
          exact (hh (off + i) cs[off + i] t (Array.getElem?_eq_getElem hlt) ht).2
        · refine .inl ⟨_, cap, by rw [k2]; exact hX, fun j v hj => ?_⟩
          have hj' : j < len * size := by
            have := (List.getElem?_eq_some_iff.1 hj).1
            rw [List.length_take] at this; omega
          rw [getElem?_dt, if_pos hj'] at hj
          rw [addr_add, cell_of_row _ _ _ _ _ _ hg]
          simpa using hj
      · cases hc
    · cases hs
  · exact data hs
end
section
variable {P : Program} {N : Nat} {w0 : World} {S0 : Base} {o : Oper} {a : Act} {E : Env} {st : St}
theorem srcT_asT {u : V} {t : T} (hs : srcT st.bx u = some t) (h : ∀ n ys, t ≠ .slice n ys) : asT u = some t := by
  unfold srcT at hs
  split at hs
  · cases hs; exact absurd rfl (h _ _)
  · split at hs
    · rename_i t' rd hc
      cases hs
      simp only [conv1] at hc
      split at hc
      · simp only [cond_eq_ite] at hc
        split at hc
        · cases hc; exact absurd rfl (h _ _)
        · cases hc
      · cases hc
    · cases hs
  · exact hs
end
section
variable [Glb] {P : Program} {N : Nat} {w0 : World} {S0 : Base} {o : Oper} {a : Act} {E : Env} {st : St}
theorem srcT_nil (h : SR N w0 S0 E st a.tmps) {y : Value} {u : V} (hv : VR E y u) (hs : srcT st.bx u = some .nil) {n : Nat} : ∃ news, SrcR P E y n [] news := by
  have hr := asT_sound hv (srcT_asT hs (fun _ _ => by simp))
  cases hr
  exact ⟨[], rfl, fun i x t hx => by simp at hx, fun x hx => by simp at hx, fun t ht => by simp at ht, .inr (.inl ⟨none, 0, rfl, rfl⟩)⟩
theorem srcT_empty (h : SR N w0 S0 E st a.tmps) {y : Value} {u : V} (hv : VR E y u) {k : Nat} (hs : srcT st.bx u = some (.slice k [])) {n : Nat} : ∃ news, SrcR P E y n [] news := by
  have fin : (∃ A c, y = .slice A 0 c) → ∃ news, SrcR P E y n [] news := fun ⟨A, c, hy⟩ => ⟨[], rfl, fun i x t hx => by simp at hx, fun x hx => by simp at hx, fun t ht => by simp at ht, .inr (.inl ⟨A, c, hy, rfl⟩)⟩
  unfold srcT at hs
  split at hs
  · rename_i s
    simp only [Option.some.injEq, T.slice.injEq] at hs
    have h0 := bytesT_len s
    rw [hs.2] at h0
    have hb : byteCells s = [] := List.eq_nil_of_length_eq_zero (by rw [byteCells_length, ← h0]; rfl)
    exact ⟨[], rfl, fun i x t hx => by simp at hx, fun x hx => by simp at hx, fun t ht => by simp at ht, .inr (.inr ⟨s, hv.inv_str, hs.2.symm, .inr rfl, hb.symm⟩)⟩
  · rename_i b0 off0 len0 sz0
    split at hs
    · rename_i t rd hc
      cases hs
      obtain ⟨cap, hX, _⟩ := hv.inv_view
      simp only [conv1] at hc
      split at hc
      · simp only [cond_eq_ite] at hc
        split at hc
        · simp only [Option.some.injEq, Prod.mk.injEq, T.slice.injEq] at hc
          cases len0 with
          | zero => exact fin ⟨_, _, hX⟩
          | succ k => exact absurd hc.1.2 (by simp [chunk])
        · cases hc
      · cases hc
    · cases hs
  · obtain ⟨A, cap, hX, _⟩ := rep_slice_form (asT_sound hv hs)
    exact fin ⟨A, cap, hX⟩
end
section
variable {P : Program} {N : Nat} {w0 : World} {S0 : Base} {o : Oper} {a : Act} {E : Env} {st : St}
theorem SrcR.src' {y : Value} {n : Nat} {ys : List T} {news : List Value} (h : SrcR P E y n ys news) {u : TypeId} (hk : (∃ e', P.underlying u = some (.slice e')) ∨ P.underlying u = some .string) : Src P n u y ys.length news E.w := by
  have hl : news.length = ys.length * n := by rw [h.len, flat_len h.uni]
  rcases h.src with ⟨ad, c, rfl, hc⟩ | ⟨A, c, rfl, rfl⟩ | ⟨s, rfl, rfl, hn1, rfl⟩
  · exact ⟨hk, fun _ => rfl, run_firstCells_some E.w n ys.length ad ys.length c news hl hc, run_firstCells_some E.w.drew n ys.length ad ys.length c news hl (by simpa using hc), hl, h.oneV⟩
  · have h0 : news = [] := List.eq_nil_of_length_eq_zero (by simpa using hl)
    subst h0
    refine ⟨hk, fun _ => rfl, ?_, ?_, hl, h.oneV⟩ <;> cases A with
      | none => simp [Builtin.firstCells]
      | some ad => simp [Builtin.firstCells, loadCells, loadCellsFrom]
  · have e := bytesT_len s
    rcases hn1 with rfl | h0
    · rw [e]
      exact ⟨hk, fun _ => rfl, firstCells_string s E.w, firstCells_string s E.w.drew, by rw [byteCells_length, Nat.mul_one], h.oneV⟩
    · rw [h0] at e hl
      have hb : byteCells s = [] := List.eq_nil_of_length_eq_zero (by simpa using hl)
      have hs : s.size = 0 := by simpa using e.symm
      rw [h0, hb]
      refine ⟨hk, fun w' => ?_, ?_, ?_, by simp, fun _ hu => by cases hu⟩
      · show Sem.run P (pure s.size) w' = _
        rw [hs]; rfl
      · simp [Builtin.firstCells]
      · simp [Builtin.firstCells]
theorem run_copy_src {y : Value} {ys : List T} {news : List Value} (h : SrcR P E y 1 ys news) {dT sT ty e : TypeId} {i : TypeInfo} (hu : P.underlying dT = some (.slice e)) (hi : P.info? e = some i) (h1 : i.size = 1) {g off len cap : Nat} {cs : Array Value} {te : TypeId}
    (hg : E.w.heap[g]? = some (.cells cs te (0, 0))) (hle : off + len ≤ cs.size) :
    (Builtin.copy_ #[dT, sT] ty #[.slice (some ⟨g, off, none⟩) len cap, y]).run P E.w = .ok (goInt (Nat.min ys.length len)) (E.w.setRow g (cs.toList.take off ++ news.take (Nat.min ys.length len) ++ cs.toList.drop (off + (news.take (Nat.min ys.length len)).length)).toArray) := by
  have hl : news.length = ys.length := by rw [h.len, flat_len h.uni, Nat.mul_one]
  generalize hk : Nat.min ys.length len = k
  have hk1 : k ≤ ys.length := by rw [← hk]; exact Nat.min_le_left _ _
  have hk2 : k ≤ len := by rw [← hk]; exact Nat.min_le_right _ _
  have htl : (news.take k).length = k := by rw [List.length_take]; omega
  have hlen : (Builtin.lenOf y).run P E.w = .ok ys.length E.w := by
    rcases h.src with ⟨ad, c, rfl, hc⟩ | ⟨A, c, rfl, rfl⟩ | ⟨s, rfl, rfl, _, rfl⟩
    · rfl
    · rfl
    · rw [bytesT_len]; rfl
  have hcell : (Builtin.firstCells 1 k y).run P E.w = .ok (news.take k).toArray E.w := by
    rcases h.src with ⟨ad, c, rfl, hc⟩ | ⟨A, c, rfl, rfl⟩ | ⟨s, rfl, rfl, _, rfl⟩
    · have := run_loadCells_list (P := P) E.w ad (news.take k) (fun j v hj => hc j v (by
        rw [List.getElem?_take] at hj
        split at hj
        · exact hj
        · cases hj))
      rw [htl] at this
      simp [Builtin.firstCells, this]
    · have h0 : k = 0 := by simpa using hk1
      subst h0
      cases A with
      | none => simp [Builtin.firstCells]
      | some ad => simp [Builtin.firstCells, loadCells, loadCellsFrom]
    · simp only [Builtin.firstCells, Sem.run_pure]
      congr 1
      apply Array.ext'
      rw [bytesT_len] at hk1
      simp [byteCells, List.map_take]
  have hst := run_storeCells_at (P := P) g off te (news.take k) 0 cs E.w hg (by rw [htl]; omega) (fun v hv => h.oneV v (List.mem_of_mem_take hv))
  simp only [Nat.add_zero] at hst
  simp only [Builtin.copy_, Sem.run_bind, run_underlying hu, Result.andThen_ok, hlen, run_sizeOf hi, h1, hk, hcell, hst, Sem.run_pure, List.getElem?_toArray, List.getElem?_cons_zero, List.getElem?_cons_succ]
end
section
variable [Glb] {P : Program} {N : Nat} {w0 : World} {S0 : Base} {o : Oper} {a : Act} {E : Env} {st : St}
theorem snd_copy (h : SR N w0 S0 E st a.tmps) (hd : okDst N o.dst) {X Y : Operand} {t t2 e : TypeId} {i : TypeInfo} {x y : O} (ho : o.op = .call { callee := .builtin .copy, args := #[X, Y], argTypes := #[t, t2] }) (hx : lowO X = some x) (hy : lowO Y = some y)
    (hu : P.underlying t = some (.slice e)) (hi : P.info? e = some i) (h1 : i.size = 1) : Sound P N w0 S0 o a E st (eff (.copy x y) (st.nm o.dst) st.sl st.bx) := by
  have hex := ev_sound h.sl hx
  have hey := ev_sound h.sl hy
  unfold eff
  simp only
  split
  · rename_i b off len sz hv
    rw [hv] at hex
    obtain ⟨cap, hX, _, hlv⟩ := hex.inv_view
    split
    · rename_i m ts n ys hb hs
      cases hc : (Nat.beq sz 1 && Nat.beq n 1) with
      | false => trivial
      | true =>
      rw [Bool.and_eq_true] at hc
      have hn := Nat.eq_of_beq_eq_true hc.2
      subst hn
      rintro ⟨hle, hall⟩
      obtain ⟨news, hsr⟩ := srcT_sound (P := P) (y := a.eval Y) h hey hs (by omega)
      obtain ⟨cs, e', hg, hcr⟩ := (h.bx b _ hb).cells rfl
      cases hcr with
      | d _ _ hl hsz hh =>
      have run := run_copy_src (ty := o.type) (sT := t2) (cap := cap) hsr hu hi h1 hg (show off + len ≤ cs.size by omega)
      have hlN : news.length = ys.length := by rw [hsr.len, flat_len hsr.uni, Nat.mul_one]
      have hfl : ys.flatMap T.cells = ys := flat_ones fun t ht => List.all_eq_true.1 hall t ht
      generalize hk : Nat.min ys.length len = k at run ⊢
      have hk1 : k ≤ ys.length := by rw [← hk]; exact Nat.min_le_left _ _
      have hk2 : k ≤ len := by rw [← hk]; exact Nat.min_le_right _ _
      have htl : (news.take k).length = k := by rw [List.length_take]; omega
      have hyl : (ys.take k).length = k := by rw [List.length_take]; omega
      have runX : (execOp a.eval o).run P E.w = .ok (.value (goInt k)) (E.w.setRow (E.κ b) (cs.toList.take off ++ news.take k ++ cs.toList.drop (off + (news.take k).length)).toArray) := by
        refine exec_builtin ho ?_
        have run' := run
        rw [← hX] at run'
        simp [builtin, run']
      refine ⟨_, _, { E with w := E.w.setRow (E.κ b) (cs.toList.take off ++ news.take k ++ cs.toList.drop (off + (news.take k).length)).toArray }, runX, .inl rfl, ?_⟩
      rw [app_wr]
      refine (h.write hb rfl _ _ fun E' g => ?_).putO hd (.t _ _ (.int _ _))
      refine .d m _ (by rw [putL_len _ _ _ _ hyl (by omega)]; exact hl) (by simp; omega) (fun j v w hv' hw => ?_)
      rw [List.getElem?_toArray, list_splice_get _ _ _ (by simp; omega)] at hv'
      rw [putL_get _ _ _ _ hyl (by omega)] at hw
      by_cases g1 : j < off
      · rw [if_pos g1] at hv' hw
        have := hh j v w (by simpa using hv') hw
        exact ⟨g.rep this.1, this.2⟩
      · rw [if_neg g1] at hv' hw
        by_cases g2 : j < off + k
        · rw [if_pos (by rw [htl]; exact g2)] at hv'
          rw [if_pos g2] at hw
          rw [List.getElem?_take, if_pos (by omega)] at hv' hw
          have hw' : (ys.flatMap T.cells)[j - off]? = some w := by rw [hfl]; exact hw
          exact ⟨g.rep (hsr.rep _ v w hv' hw'), hsr.one w (List.mem_of_getElem? hw')⟩
        · rw [if_neg (by rw [htl]; exact g2)] at hv'
          rw [if_neg g2] at hw
          have := hh j v w (by simpa using hv') hw
          exact ⟨g.rep this.1, this.2⟩
    · rename_i m ts hb hs
      intro hle
      have hY : a.eval Y = .slice none 0 0 := by
        have : asT (ev st.sl y) = some .nil := by
          unfold srcT at hs
          split at hs
          · cases hs
          · split at hs
            · rename_i t rd hc
              cases hs
              simp only [conv1] at hc
              split at hc
              · simp only [cond_eq_ite] at hc
                split at hc <;> cases hc
              · cases hc
            · cases hs
          · exact hs
        have hr := asT_sound hey this
        generalize a.eval Y = v at hr
        cases hr; rfl
      have run := run_copy_nil (P := P) E.w t t2 o.type e ⟨E.κ b, off, none⟩ len cap hu (by rw [hi]; rfl)
      refine did_val h hd (exec_builtin ho ?_) (.t _ _ (.int _ _))
      rw [← hX, ← hY] at run
      simp [builtin, run]
      rfl
    · trivial
  · trivial
theorem snd_mkslice (h : SR N w0 S0 E st a.tmps) (hd : okDst N o.dst) {t e : TypeId} {L C : Operand} {l c : O} {j : TypeInfo} {zs : List T} (ho : o.op = .makeSlice t L C) (hL : lowO L = some l) (hC : lowO C = some c) (hu : P.underlying t = some (.slice e)) (hj : P.info? e = some j) (hz : zeroT P e = some zs) (hpos : 0 < j.size) :
    Sound P N w0 S0 o a E st (eff (.mkslice j.size j.bytes zs l c) (st.nm o.dst) st.sl st.bx) := by
  have hel := ev_sound h.sl hL
  have hec := ev_sound h.sl hC
  obtain ⟨i, z, hi, hiz, hisz, hzsz, hrep, _⟩ := zeroT_spec hz
  rw [hj] at hi
  cases hi
  unfold eff
  cases hdst : o.dst with
  | none => trivial
  | some d =>
    rw [hdst] at hd
    simp only [St.nm]
    split
    · rename_i k1 n k2 k hn hl hc
      rw [hl] at hel
      rw [hc] at hec
      rintro ⟨h1, rfl, h2, h3⟩
      have hrun := run_make (P := P) E.w t e j z hu hj hiz k1 k2 n n h1 (Int.le_refl _) h2 h3
      rw [← hel.inv_int, ← hec.inv_int] at hrun
      show Did P N w0 S0 o a E (st.app o.dst _)
      rw [hdst]
      refine ⟨.value (.slice (some ⟨E.w.heap.size, 0, none⟩) n.toNat n.toNat), _, { E with w := E.w.alloc (.cells (madeCells z.cells (n.toNat * j.size)) e), κ := upd E.κ (d + st.off) E.w.heap.size, live := upd E.live (d + st.off) true }, ?_, .inl rfl, ?_⟩
      · unfold execOp
        simp [ho, hrun]
      · rw [hdst]
        refine h.allocO hn _ _ (fun E' g => .cells _ e _ ?_) _ _ (fun E' hk hl => by rw [← hk]; exact .view _ _ _ _ _ hl (Nat.le_refl _)) hd
        have hfl : (List.replicate n.toNat zs).flatten.length = n.toNat * j.size := by simp [hisz]
        refine .d _ _ hfl (by rw [size_madeCells]; exact Nat.le_refl _) (fun i x t hx ht => ?_)
        have hi : i < n.toNat * j.size := by rw [← hfl]; exact (List.getElem?_eq_some_iff.1 ht).1
        rw [flatten_get (by omega) _ _ (by rw [← hisz]; exact hi)] at ht
        have hmod : i % z.cells.size < z.cells.size := Nat.mod_lt _ (by omega)
        have hx' : z.cells[i % z.cells.size]? = some x := by
          have : (madeCells z.cells (n.toNat * j.size))[i]? = some (z.cells[i % z.cells.size]!) := by simp [madeCells, hi]
          rw [this] at hx
          rw [← hx]
          simp [hmod]
        rw [hzsz] at hx'
        exact hrep _ _ _ _ _ hx' ht
    · trivial
end
section
variable {P : Program} {N : Nat} {w0 : World} {S0 : Base} {o : Oper} {a : Act} {E : Env} {st : St}
theorem rep_room {S : Stable} {w : World} {A : Option Addr} {len cap n : Nat} {xs : List T} (h : Rep S w (.slice A len cap) (.slice n xs)) : Rep S w (.slice A len len) (.slice n xs) := by
  cases h with
  | slice _ b off _ _ _ _ g hlen hc hu h1 ha hg hrep => exact .slice A b off _ _ _ _ g hlen (Nat.le_refl _) hu h1 ha hg hrep
theorem eqIn_ptr {t e : TypeId} (hu : P.underlying t = some (.pointer e)) (n : Nat) (w : World) (ad : Addr) : (Op.equalIn (n + 1) t (.pointer (some ad)) (.pointer none)).run P w = .ok false w := by simp [Op.equalIn, run_underlying hu]
theorem eqIn_ptr0 {t e : TypeId} (hu : P.underlying t = some (.pointer e)) (n : Nat) (w : World) : (Op.equalIn (n + 1) t (.pointer none) (.pointer none)).run P w = .ok true w := by simp [Op.equalIn, run_underlying hu]
theorem eqIn_sl {t e : TypeId} (hu : P.underlying t = some (.slice e)) (n : Nat) (w : World) (ad : Addr) (l c : Nat) : (Op.equalIn (n + 1) t (.slice (some ad) l c) (.slice none 0 0)).run P w = .ok false w := by simp [Op.equalIn, run_underlying hu]
theorem eqIn_sl0 {t e : TypeId} (hu : P.underlying t = some (.slice e)) (n : Nat) (w : World) : (Op.equalIn (n + 1) t (.slice none 0 0) (.slice none 0 0)).run P w = .ok true w := by simp [Op.equalIn, run_underlying hu]
theorem eqIn_mp {t k e : TypeId} (hu : P.underlying t = some (.map k e)) (n : Nat) (w : World) (g : Nat) : (Op.equalIn (n + 1) t (.map (some g)) (.map none)).run P w = .ok false w := by simp [Op.equalIn, run_underlying hu]
theorem eqIn_mp0 {t k e : TypeId} (hu : P.underlying t = some (.map k e)) (n : Nat) (w : World) : (Op.equalIn (n + 1) t (.map none) (.map none)).run P w = .ok true w := by simp [Op.equalIn, run_underlying hu]
theorem eqIn_fn {t : TypeId} {a b c} (hu : P.underlying t = some (.func a b c)) (n : Nat) (w : World) (f : Fn) (x y : Array Value) : (Op.equalIn (n + 1) t (.func f x y) .nilFunc).run P w = .ok false w := by simp [Op.equalIn, run_underlying hu]
theorem eqIn_fn0 {t : TypeId} {a b c} (hu : P.underlying t = some (.func a b c)) (n : Nat) (w : World) : (Op.equalIn (n + 1) t .nilFunc .nilFunc).run P w = .ok true w := by simp [Op.equalIn, run_underlying hu]
end
section
variable [Glb] {P : Program} {N : Nat} {w0 : World} {S0 : Base} {o : Oper} {a : Act} {E : Env} {st : St}
theorem snd_slice3 (h : SR N w0 S0 E st a.tmps) (hd : okDst N o.dst) {t : TypeId} {X : Operand} {lo hi : Option Operand} {mx : Operand} (ho : o.op = .slice t X lo hi (some mx)) {x : DOp} (hl : lowOp P o.op = some x) : Sound P N w0 S0 o a E st (eff x (st.nm o.dst) st.sl st.bx) := by
  rw [ho] at hl
  cases lo with
  | some lo => simp [lowOp] at hl
  | none =>
  cases hi with
  | none => simp [lowOp] at hl
  | some hi =>
  simp only [lowOp] at hl
  split at hl
  · rename_i e y hy' my hu hy hh hm
    split at hl
    · rename_i j hj
      simp only [cond_eq_ite] at hl
      split at hl
      · rename_i hpos
        cases hl
        have he := ev_sound h.sl hy
        have heh := ev_sound h.sl hh
        have hem := ev_sound h.sl hm
        unfold eff
        simp only
        split
        · rename_i k1 hn k2 mn h1 h2
          rw [h1] at heh
          rw [h2] at hem
          have run : ∀ {A : Option Addr} {len cap : Nat}, a.eval X = .slice A len cap → 0 ≤ hn → hn = mn → hn ≤ cap → (execOp a.eval o).run P E.w = .ok (.value (.slice (if hn.toNat = 0 then A else A.map (·.add (0 * j.size))) hn.toNat hn.toNat)) E.w := fun hX k1 k2 k3 => by
            subst k2
            have e2 : ((hn.toNat : Nat) : Int) = hn := Int.toNat_of_nonneg k1
            have e3 : hn ≤ ((hn.toNat : Nat) : Int) := by omega
            unfold execOp
            simp [ho, heh.inv_int, hem.inv_int, hX, Instr.sliceAt, Instr.slice, run_underlying hu, Instr.sliceBounds, Instr.sliceBound, asIntOf, k1, k3, e3, run_sizeOf hj]
            intro hc; omega
          split
          · rename_i sz xs ha
            have hr := asT_sound he ha
            cases hb : Nat.beq j.size sz with
            | false => trivial
            | true =>
            have hs : j.size = sz := Nat.eq_of_beq_eq_true hb
            subst hs
            have hpos : 0 < j.size := Nat.lt_of_lt_of_le (Nat.lt_succ_self 0) (Nat.le_of_ble_eq_true hpos)
            rintro ⟨q1, q2, q3⟩
            generalize hX : a.eval X = v at hr
            have hr0 := hr
            obtain ⟨A, cap, rfl, hcap⟩ := rep_slice_form hr
            have hrun := run hX q1 q2 (by omega)
            by_cases h0 : hn.toNat = 0
            · rw [if_pos h0, h0] at hrun
              rw [h0, List.take_zero]
              exact did_val h hd hrun (.full A 0 j.size [] (.slice A 0 0 0 0 j.size [] (fun _ => undef) rfl (Nat.le_refl _) (fun x hx => by simp at hx) (fun t ht => by simp at ht) (fun hh => by simp at hh) (fun i hi => by simp at hi) (fun i t ht => by simp at ht)))
            · rw [if_neg h0] at hrun
              have hsub := rep_slice_sub hr 0 hn.toNat (Nat.zero_le _) (by omega)
              rw [if_neg (by omega)] at hsub
              simp only [Nat.sub_zero, List.drop_zero] at hsub
              refine did_val h hd hrun (.full _ _ _ _ ?_)
              exact rep_room hsub
          · rename_i ha
            have hr := asT_sound he ha
            rintro ⟨q1, q2⟩
            have hX : a.eval X = .slice none 0 0 := by
              generalize a.eval X = v at hr
              cases hr; rfl
            have hrun := run hX (by omega) (by omega) (by omega)
            rw [if_pos (by omega)] at hrun
            have e0 : hn.toNat = 0 := by omega
            rw [e0] at hrun
            clear e0
            exact did_val h hd hrun (.full none 0 j.size [] (.slice none 0 0 0 0 j.size [] (fun _ => undef) rfl (Nat.le_refl _) (fun x hx => by simp at hx) (fun t ht => by simp at ht) (fun hh => by simp at hh) (fun i hi => by simp at hi) (fun i t ht => by simp at ht)))
          · trivial
        · trivial
      · cases hl
    · cases hl
  · cases hl
theorem snd_cpl (h : SR N w0 S0 E st a.tmps) (hd : okDst N o.dst) {t : TypeId} {X : Operand} {y : O} (ho : o.op = .unOp .xor t X) (hy : lowO X = some y) : Sound P N w0 S0 o a E st (eff (.cpl y) (st.nm o.dst) st.sl st.bx) := by
  have he := ev_sound h.sl hy
  unfold eff
  simp only
  split
  · rename_i k n hv
    rw [hv] at he
    exact did_val h hd (v := .int k (bitsI .xor k (if k.signed then -1 else k.max) n)) (by unfold execOp; simp [ho, he.inv_int, Op.unary]; rfl) (.t _ _ (.int _ _))
  · trivial
theorem snd_isnil (h : SR N w0 S0 E st a.tmps) (hd : okDst N o.dst) {op : BinOp} {t ty : TypeId} {X Y : Operand} {x y : O} (hop : op = .eql ∨ op = .neq) (ho : o.op = .binOp op t X Y ty) (hx : lowO X = some x) (hy : lowO Y = some y)
    {k : Nat} (hn : nilCk P t y = some k) : Sound P N w0 S0 o a E st (eff (.isnil k (isNeq op) x) (st.nm o.dst) st.sl st.bx) := by
  have he := ev_sound h.sl hx
  have hy' := ev_sound h.sl hy
  have fin : ∀ {vx vy : Value} {b : Bool}, a.eval X = vx → a.eval Y = vy → (binOp op t vx vy).run P E.w = .ok (.bool (cond (isNeq op) (!b) b)) E.w → eqGuard op t X Y vx vy = pure () →
      Did P N w0 S0 o a E (st.app o.dst { val := .t (.bool (cond (isNeq op) (!b) b)) }) := fun {vx vy b} h1 h2 hb hg => by
    refine did_val h hd (v := .bool (cond (isNeq op) (!b) b)) ?_ (.t _ _ (.bool _))
    unfold execOp
    simp [ho, h1, h2, hg, hb]
  have eqrun : ∀ {vx vy : Value} {b : Bool}, (binOp .eql t vx vy = do pure (.bool (← Op.equal t vx vy))) → (binOp .neq t vx vy = do pure (.bool (!(← Op.equal t vx vy)))) → (Op.equal t vx vy).run P E.w = .ok b E.w → (binOp op t vx vy).run P E.w = .ok (.bool (cond (isNeq op) (!b) b)) E.w := fun {vx vy b} h0 h1 h2 => by
    rcases hop with rfl | rfl
    · rw [h0]; simp [h2, isNeq]
    · rw [h1]; simp [h2, isNeq]
  have no : ∀ {r : EffR}, r = .no → Sound P N w0 S0 o a E st r := fun hr => by rw [hr]; trivial
  have e0 : cond (isNeq op) (!false) false = isNeq op := by cases isNeq op <;> rfl
  have e1 : cond (isNeq op) (!true) true = !isNeq op := by cases isNeq op <;> rfl
  unfold nilCk at hn
  split at hn
  · -- pointers
    rename_i el hu
    cases hn
    have hY : a.eval Y = .pointer none := by
      have := hy'.inv_t
      generalize a.eval Y = v at this
      cases this; rfl
    have ne : ∀ {ad : Addr}, a.eval X = .pointer (some ad) → Did P N w0 S0 o a E (st.app o.dst { val := .t (.bool (isNeq op)) }) := fun {ad} hX => by
      rw [← e0]
      refine fin hX hY ?_ (by unfold eqGuard; rcases hop with rfl | rfl <;> rfl)
      exact eqrun rfl rfl (eqIn_ptr hu 9999 _ _)
    have nil : a.eval X = .pointer none → Did P N w0 S0 o a E (st.app o.dst { val := .t (.bool (!isNeq op)) }) := fun hX => by
      rw [← e1]
      refine fin hX hY ?_ (by unfold eqGuard; rcases hop with rfl | rfl <;> rfl)
      exact eqrun rfl rfl (eqIn_ptr0 hu 9999 _)
    cases hv : ev st.sl x with
    | ptr b off =>
      rw [hv] at he
      simp only [eff, hv]
      exact ne he.inv_ptr.1
    | t u =>
      rw [hv] at he
      have hr := he.inv_t
      cases u with
      | cptr cs off =>
        simp only [eff, hv]
        generalize hX : a.eval X = v at hr
        cases hr
        exact ne hX
      | glob g off =>
        simp only [eff, hv]
        generalize hX : a.eval X = v at hr
        cases hr
        exact ne hX
      | nilptr =>
        simp only [eff, hv]
        generalize hX : a.eval X = v at hr
        cases hr
        exact nil hX
      | _ => exact no (by simp only [eff, hv])
    | _ => exact no (by simp only [eff, hv])
  · -- slices
    rename_i el hu
    cases hn
    have hY : a.eval Y = .slice none 0 0 := by
      have := hy'.inv_t
      generalize a.eval Y = v at this
      cases this; rfl
    have ne : ∀ {ad : Addr} {len cap : Nat}, a.eval X = .slice (some ad) len cap → Did P N w0 S0 o a E (st.app o.dst { val := .t (.bool (isNeq op)) }) := fun {ad len cap} hX => by
      rw [← e0]
      refine fin hX hY ?_ (by unfold eqGuard; rcases hop with rfl | rfl <;> rfl)
      exact eqrun rfl rfl (eqIn_sl hu 9999 _ _ _ _)
    have data : ∀ {v : V} {n : Nat} {xs : List T}, VR E (a.eval X) v → asT v = some (.slice n xs) → 0 < (xs.flatMap T.cells).length → Did P N w0 S0 o a E (st.app o.dst { val := .t (.bool (isNeq op)) }) := fun hv ha hp => by
      have hr := asT_sound hv ha
      generalize hX : a.eval X = v at hr
      cases hr with
      | slice A b off len cap _ _ g hlen hc hu h1 hA hg hrep =>
      rw [hA hp] at hX
      exact ne hX
    have gen : ∀ {v : V}, VR E (a.eval X) v → Sound P N w0 S0 o a E st (match asT v with
      | some (.slice _ xs) => .need (0 < (xs.flatMap T.cells).length) { val := .t (.bool (isNeq op)) }
      | _ => .no) := fun {v} hv => by
      split
      · rename_i n xs ha
        intro hp
        exact data hv ha hp
      · trivial
    cases hv : ev st.sl x with
    | view b off len sz =>
      rw [hv] at he
      simp only [eff, hv]
      obtain ⟨cap, hX, _⟩ := he.inv_view
      exact ne hX
    | t u =>
      rw [hv] at he
      cases u with
      | nil =>
        simp only [eff, hv]
        have hr := he.inv_t
        generalize hX : a.eval X = v at hr
        cases hr
        show Did P N w0 S0 o a E (st.app o.dst { val := .t (.bool (!isNeq op)) })
        rw [← e1]
        refine fin hX hY ?_ (by unfold eqGuard; rcases hop with rfl | rfl <;> rfl)
        exact eqrun rfl rfl (eqIn_sl0 hu 9999 _)
      | _ => simp only [eff, hv]; exact gen he
    | _ => rw [hv] at he; simp only [eff, hv]; exact gen he
  · -- maps
    rename_i kt el hu
    cases hn
    have hY : a.eval Y = .map none := by
      have := hy'.inv_t
      generalize a.eval Y = v at this
      cases this; rfl
    have ne : ∀ {g : Nat}, a.eval X = .map (some g) → Did P N w0 S0 o a E (st.app o.dst { val := .t (.bool (isNeq op)) }) := fun {g} hX => by
      rw [← e0]
      refine fin hX hY ?_ (by unfold eqGuard; rcases hop with rfl | rfl <;> rfl)
      exact eqrun rfl rfl (eqIn_mp hu 9999 _ _)
    cases hv : ev st.sl x with
    | mp b =>
      rw [hv] at he
      simp only [eff, hv]
      exact ne he.inv_mp.1
    | t u =>
      rw [hv] at he
      have hr := he.inv_t
      cases u with
      | mapd ag sh ks vs =>
        simp only [eff, hv]
        generalize hX : a.eval X = v at hr
        cases hr
        exact ne hX
      | nilmap =>
        simp only [eff, hv]
        generalize hX : a.eval X = v at hr
        cases hr
        show Did P N w0 S0 o a E (st.app o.dst { val := .t (.bool (!isNeq op)) })
        rw [← e1]
        refine fin hX hY ?_ (by unfold eqGuard; rcases hop with rfl | rfl <;> rfl)
        exact eqrun rfl rfl (eqIn_mp0 hu 9999 _)
      | _ => exact no (by simp only [eff, hv])
    | _ => exact no (by simp only [eff, hv])
  · -- functions
    rename_i p1 p2 p3 hu
    cases hn
    have hY : a.eval Y = .nilFunc := by
      have := hy'.inv_t
      generalize a.eval Y = v at this
      cases this; rfl
    have ne : ∀ {f : Fn} {c1 c2 : Array Value}, a.eval X = .func f c1 c2 → Did P N w0 S0 o a E (st.app o.dst { val := .t (.bool (isNeq op)) }) := fun {f c1 c2} hX => by
      rw [← e0]
      refine fin hX hY ?_ (by unfold eqGuard; rcases hop with rfl | rfl <;> rfl)
      exact eqrun rfl rfl (eqIn_fn hu 9999 _ _ _ _)
    cases hv : ev st.sl x with
    | fn f caps =>
      rw [hv] at he
      simp only [eff, hv]
      generalize hX : a.eval X = v at he
      cases he
      exact ne hX
    | t u =>
      rw [hv] at he
      have hr := he.inv_t
      cases u with
      | clos f caps =>
        simp only [eff, hv]
        generalize hX : a.eval X = v at hr
        cases hr
        exact ne hX
      | nilfn =>
        simp only [eff, hv]
        generalize hX : a.eval X = v at hr
        cases hr
        show Did P N w0 S0 o a E (st.app o.dst { val := .t (.bool (!isNeq op)) })
        rw [← e1]
        refine fin hX hY ?_ (by unfold eqGuard; rcases hop with rfl | rfl <;> rfl)
        exact eqrun rfl rfl (eqIn_fn0 hu 9999 _)
      | _ => exact no (by simp only [eff, hv])
    | _ => exact no (by simp only [eff, hv])
  · cases hn
end
end Go.DL
end
section
namespace Go.DL
open Go.RowKit
section
variable [Glb] {P : Program} {N : Nat} {w0 : World} {S0 : Base} {o : Oper} {a : Act} {E : Env} {st : St}
theorem eff_sound (h : SR N w0 S0 E st a.tmps) (hd : okDst N o.dst) {x : DOp} (hl : lowOp P o.op = some x) : Sound P N w0 S0 o a E st (eff x (st.nm o.dst) st.sl st.bx) := by
  cases ho : o.op with
  | move X =>
    rw [ho] at hl
    simp only [lowOp, Option.map_eq_some_iff] at hl
    obtain ⟨y, hy, rfl⟩ := hl
    exact snd_mov h hd (.inl ho) hy
  | assign X =>
    rw [ho] at hl
    simp only [lowOp, Option.map_eq_some_iff] at hl
    obtain ⟨y, hy, rfl⟩ := hl
    exact snd_mov h hd (.inr ho) hy
  | pick c p q =>
    rw [ho] at hl
    simp only [lowOp] at hl
    split at hl
    · rename_i h1 h2 h3
      cases hl
      exact snd_pick h hd ho h1 h2 h3
    · cases hl
  | alloc t => exact snd_alloc h hd ho hl
  | box t X => exact snd_box h hd ho hl
  | load t A => exact snd_load h hd ho hl
  | store t A X => exact snd_store h hd ho hl
  | fieldAddr s X f => exact snd_offA h hd ho hl
  | field s X f => exact snd_field h hd ho hl
  | indexAddr t X I => exact snd_indexAddr h hd ho hl
  | index t X I => exact snd_index h hd ho hl
  | build t ps => exact snd_build h hd ho hl
  | extract X i =>
    rw [ho] at hl
    simp only [lowOp, Option.map_eq_some_iff] at hl
    obtain ⟨y, hy, rfl⟩ := hl
    exact snd_extract h hd ho hy
  | makeMap t r =>
    rw [ho] at hl
    simp only [lowOp] at hl
    split at hl
    · split at hl
      · cases hl; exact snd_mkmap h hd ho _ _
      · cases hl
    · cases hl
  | range t M =>
    rw [ho] at hl
    simp only [lowOp] at hl
    split at hl
    · cases hl; trivial
    · cases hl
  | next X b =>
    rw [ho] at hl
    cases b with
    | true => cases hl
    | false =>
      simp only [lowOp, cond_false, Option.map_eq_some_iff] at hl
      obtain ⟨y, hy, rfl⟩ := hl
      trivial
  | entry X =>
    rw [ho] at hl
    simp only [lowOp, Option.map_eq_some_iff] at hl
    obtain ⟨y, hy, rfl⟩ := hl
    exact snd_ment h hd ho hy
  | lookup t M K ok =>
    rw [ho] at hl
    simp only [lowOp] at hl
    split at hl
    · rename_i kt e m k hu hm hk
      split at hl
      · rename_i sh z hs hz
        cases hl
        exact snd_mlook h hd ho hm hk hu hs hz
      · cases hl
    · cases hl
  | mapUpdate t M K V =>
    rw [ho] at hl
    simp only [lowOp] at hl
    split at hl
    · rename_i kt e m k v hu hm hk hv
      split at hl
      · rename_i sh hs
        cases hl
        exact snd_mput h hd (.inl ho) hm hk hv hu hs
      · cases hl
    · cases hl
  | insert t M K V =>
    rw [ho] at hl
    simp only [lowOp] at hl
    split at hl
    · rename_i kt e m k v hu hm hk hv
      split at hl
      · rename_i sh hs
        cases hl
        exact snd_mput h hd (.inr ho) hm hk hv hu hs
      · cases hl
    · cases hl
  | makeSlice t L C =>
    rw [ho] at hl
    simp only [lowOp] at hl
    split at hl
    · rename_i e l c hu hL hC
      split at hl
      · rename_i j zs hj hz
        simp only [cond_eq_ite] at hl
        split at hl
        · rename_i hp
          cases hl
          exact snd_mkslice h hd ho hL hC hu hj hz (Nat.lt_of_lt_of_le (Nat.lt_succ_self 0) (Nat.le_of_ble_eq_true hp))
        · cases hl
      · cases hl
    · cases hl
  | sliceToArrayPointer t X =>
    rw [ho] at hl
    simp only [lowOp] at hl
    split at hl
    · rename_i hu hy
      cases hl
      exact snd_arrP h hd ho hu hy
    · cases hl
  | nilCheck X =>
    rw [ho] at hl
    simp only [lowOp, Option.map_eq_some_iff] at hl
    obtain ⟨y, hy, rfl⟩ := hl
    exact snd_nilck h hd ho hy
  | convert s t X => exact snd_convert h hd ho hl
  | unOp op t X =>
    rw [ho] at hl
    cases op with
    | not =>
      simp only [lowOp, Option.map_eq_some_iff] at hl
      obtain ⟨y, hy, rfl⟩ := hl
      exact snd_not h hd ho hy
    | xor =>
      simp only [lowOp, Option.map_eq_some_iff] at hl
      obtain ⟨y, hy, rfl⟩ := hl
      exact snd_cpl h hd ho hy
    | neg =>
      simp only [lowOp, Option.map_eq_some_iff] at hl
      obtain ⟨y, hy, rfl⟩ := hl
      exact snd_neg h hd ho hy
    | _ => cases hl
  | makeFunc fn first caps =>
    rw [ho] at hl
    simp only [lowOp] at hl
    split at hl
    · rename_i f cs hcs
      cases hb : Nat.beq first.size 0 with
      | false => rw [hb] at hl; cases hl
      | true =>
        rw [hb] at hl
        simp only [cond_true, Option.some.injEq] at hl
        subst hl
        have : first = #[] := Array.eq_empty_of_size_eq_zero (Nat.eq_of_beq_eq_true hb)
        subst this
        exact snd_makeFunc h hd ho hcs
    · cases hl
  | slice t X lo hi mx =>
    cases mx with
    | none => exact snd_slice h hd ho hl
    | some m => exact snd_slice3 h hd ho hl
  | binOp op t X Y ty =>
    rw [ho] at hl
    simp only [lowOp] at hl
    split at hl
    · rename_i x' y' hx hy
      have hex := ev_sound h.sl hx
      have hey := ev_sound h.sl hy
      have bin : Sound P N w0 S0 o a E st (eff (.bin op x' y') (st.nm o.dst) st.sl st.bx) := by
        unfold eff
        simp only
        split
        · rename_i k m k' n h1 h2
          rw [h1] at hex; rw [h2] at hey
          exact run_binI op k k' m n t ty h hd X Y ho hex.inv_int hey.inv_int
        · rename_i s s' h1 h2
          rw [h1] at hex; rw [h2] at hey
          exact run_binS op s s' t ty h hd X Y ho hex.inv_str hey.inv_str
        · trivial
      have eqs : op = .eql ∨ op = .neq → (match P.underlying t with
          | some (.int _) => some (DOp.bin op x' y')
          | some .string => some (.bin op x' y')
          | some .bool => some (.eqB (isNeq op) x' y')
          | _ => match shapeOf P 100 t with
            | some sh => cond (P.eqGuardType P.depth t || !aggT P t) none (some (.eqv (isNeq op) sh x' y'))
            | none => none) = some x → Sound P N w0 S0 o a E st (eff x (st.nm o.dst) st.sl st.bx) := by
        intro hop hm
        split at hm
        · cases hm; exact bin
        · cases hm; exact bin
        · rename_i hu; cases hm; exact snd_eqB h hd hop ho hx hy hu
        · split at hm
          · rename_i sh hsh
            cases hc : (P.eqGuardType P.depth t || !aggT P t) with
            | true => rw [hc] at hm; cases hm
            | false =>
              rw [hc] at hm
              simp only [cond_false, Option.some.injEq] at hm
              subst hm
              rw [Bool.or_eq_false_iff] at hc
              exact snd_eqv h hd hop ho hx hy hsh hc.1 (by simpa using hc.2)
          · cases hm
      have eqs0 : op = .eql ∨ op = .neq → (match nilCk P t y' with
          | some k => some (DOp.isnil k (isNeq op) x')
          | none => match P.underlying t with
          | some (.int _) => some (DOp.bin op x' y')
          | some .string => some (.bin op x' y')
          | some .bool => some (.eqB (isNeq op) x' y')
          | _ => match shapeOf P 100 t with
            | some sh => cond (P.eqGuardType P.depth t || !aggT P t) none (some (.eqv (isNeq op) sh x' y'))
            | none => none) = some x → Sound P N w0 S0 o a E st (eff x (st.nm o.dst) st.sl st.bx) := by
        intro hop hm
        cases hnil : nilCk P t y' with
        | some k =>
          rw [hnil] at hm
          simp only [Option.some.injEq] at hm
          subst hm
          exact snd_isnil h hd hop ho hx hy hnil
        | none =>
          rw [hnil] at hm
          exact eqs hop hm
      cases op with
      | eql => exact eqs0 (.inl rfl) hl
      | neq => exact eqs0 (.inr rfl) hl
      | _ => cases hl; exact bin
    · cases hl
  | call c =>
    rw [ho] at hl
    obtain ⟨callee, args, argTypes⟩ := c
    simp only [lowOp, lowCall] at hl
    split at hl
    · split at hl
      · rename_i fn as hf has
        cases hc : (fn.body.isSome && fn.name != "runtime.NumGoroutine") with
        | false => rw [hc] at hl; cases hl
        | true => rw [hc] at hl; cases hl; trivial
      · cases hl
    · split at hl
      · cases hl; trivial
      · cases hl
    · split at hl
      · rename_i X t h1 h2
        have e1 : args = #[X] := Array.toList_inj.1 (by simpa using h1)
        have e2 : argTypes = #[t] := Array.toList_inj.1 (by simpa using h2)
        subst e1; subst e2
        split at hl
        · rename_i e y hu hy; cases hl; exact snd_len h hd ho hy hu
        · rename_i y hu hy; cases hl; exact snd_lenS h hd ho hy hu
        · rename_i y hu hy; cases hl; exact snd_mlen h hd ho hy hu
        · cases hl
      · cases hl
    · split at hl
      · rename_i X Y h1
        have e1 : args = #[X, Y] := Array.toList_inj.1 (by simpa using h1)
        subst e1
        split at hl
        · rename_i x' y' hx hy; cases hl; exact snd_max h hd ho hx hy
        · cases hl
      · cases hl
    · split at hl
      · rename_i X Y h1
        have e1 : args = #[X, Y] := Array.toList_inj.1 (by simpa using h1)
        subst e1
        split at hl
        · rename_i x' y' hx hy; cases hl; exact snd_min h hd ho hx hy
        · cases hl
      · cases hl
    · split at hl
      · split at hl
        · split at hl
          · simp only [cond_eq_ite] at hl
            split at hl
            · cases hl; trivial
            · cases hl
          · cases hl
        · cases hl
      · cases hl
    · split at hl
      · rename_i X t h1 h2
        have e1 : args = #[X] := Array.toList_inj.1 (by simpa using h1)
        have e2 : argTypes = #[t] := Array.toList_inj.1 (by simpa using h2)
        subst e1; subst e2
        split at hl
        · rename_i e y hu hy
          split at hl
          · rename_i j zs hj hz
            simp only [cond_eq_ite] at hl
            split at hl
            · rename_i hp
              cases hl
              exact snd_clear h hd ho hy hu hj hz (Nat.lt_of_lt_of_le (Nat.lt_succ_self 0) (Nat.le_of_ble_eq_true hp))
            · cases hl
          · cases hl
        · rename_i y hu hy; cases hl; exact snd_mclr h hd ho hy hu
        · cases hl
      · cases hl
    · split at hl
      · rename_i X Y t t2 h1 h2
        have e1 : args = #[X, Y] := Array.toList_inj.1 (by simpa using h1)
        have e2 : argTypes = #[t, t2] := Array.toList_inj.1 (by simpa using h2)
        subst e1; subst e2
        split at hl
        · rename_i e x' y' hu hx hy
          split at hl
          · rename_i j hj
            simp only [cond_eq_ite] at hl
            split at hl
            · rename_i hp
              cases hl
              exact snd_copy h hd ho hx hy hu hj (Nat.eq_of_beq_eq_true hp)
            · cases hl
          · cases hl
        · cases hl
      · cases hl
    · split at hl
      · rename_i X K t t2 h1 h2
        have e1 : args = #[X, K] := Array.toList_inj.1 (by simpa using h1)
        have e2 : argTypes = #[t, t2] := Array.toList_inj.1 (by simpa using h2)
        subst e1; subst e2
        split at hl
        · rename_i kt e m k hu hm hk
          split at hl
          · rename_i sh hs
            cases hl
            exact snd_mdel h hd ho hm hk hu hs
          · cases hl
        · cases hl
      · cases hl
    · cases hl
  | buildSlice t n ps =>
    rw [ho] at hl
    simp only [lowOp] at hl
    split at hl
    · split at hl
      · split at hl
        · simp only [cond_eq_ite] at hl
          split at hl
          · cases hl; trivial
          · cases hl
        · cases hl
      · cases hl
    · cases hl
  | panic X => rw [ho] at hl; simp only [lowOp] at hl; cases hl; trivial
  | makeInterface t X => rw [ho] at hl; simp only [lowOp] at hl; cases hl; trivial
  | _ => rw [ho] at hl; simp [lowOp] at hl
end
end Go.DL
end
section
namespace Go.DL
open Go.RowKit
section
variable [Glb] {P : Program} {N : Nat} {w0 : World} {S0 : Base} {o : Oper} {a : Act} {E : Env} {st : St}
def Next' (N : Nat) (w0 : World) (S0 : Base) (a : Act) (st' : St) (a' : Act) (w' : World) : Prop := ∃ E' : Env, E'.w = w' ∧ SR N w0 S0 E' st' a'.tmps ∧ a'.defers = a.defers
theorem call_wp (h : SR N w0 S0 E st a.tmps) (hd : okDst N o.dst) {f : FuncId} {vs : Array Value} {us : List V} (hex : (execOp a.eval o).run P E.w = .ok (.enter f vs) E.w) (hlen : vs.size = us.length)
    (hv : ∀ (i : Nat) (v : Value) (u : V), vs[i]? = some v → us[i]? = some u → VR E v u) {ts : List T} {rd : List Nat} (hc : convs st.bx us = some (ts, rd)) {r : T} (hr : DCalls P f ts r) (hf : rd = [] ∨ r.flat = true)
    {Q : Exit → Act → World → Prop} {rd' : List Nat} : o.wp P a E.w (Next' N w0 S0 a (st.app o.dst { val := .t r, rd := rd' })) Q := by
  obtain ⟨c1, c2⟩ := convs_sound h.bx hc
  have hlt : ∀ b x, Sx E rd b x → b < E.w.heap.size := by
    rintro b x (h1 | ⟨n, _, hl, rfl⟩)
    · exact h.lt b x h1
    · rw [h.live] at hl
      obtain ⟨b', hb'⟩ := Option.isSome_iff_exists.1 hl
      obtain ⟨_, hg, _⟩ := (h.bx n b' hb').at_
      exact (Array.getElem?_eq_some_iff.1 hg).1
  have hcall := hr.2 (Sx E rd) E.w vs.toList hlt (h.globX rd) (by simp; omega) (fun i v t hvi ht => by
    have hi : i < us.length := by rw [c1]; exact (List.getElem?_eq_some_iff.1 ht).1
    exact c2 i v _ t (hv i v _ (by simpa using hvi) (List.getElem?_eq_getElem hi)) (List.getElem?_eq_getElem hi) ht)
  unfold Oper.wp
  rw [hex]
  show Calls P f vs E.w _
  refine Calls.mono (by simpa using hcall) ?_
  rintro e w' ⟨v, rfl, hb, hrep⟩
  rcases hf with rfl | hf
  · have h' := h.world hb (fun b o => E.S b o ∨ (E.w.heap.size ≤ b ∧ b < w'.heap.size)) (fun b o => ⟨fun hh => hh.elim .inl fun k => .inr ⟨.inr k, k⟩, fun hh => hh.elim .inl fun k => k.1⟩)
    refine ⟨_, rfl, h'.putO hd (.t _ _ (hrep.mono (fun b o hh => ?_) (fun _ _ _ => Same.rfl))), by cases o.dst <;> rfl⟩
    rcases hh with (h1 | ⟨n, hn, _⟩) | h1
    · exact .inl h1
    · simp at hn
    · exact .inr h1
  · have h' := h.world hb E.S (fun b o => ⟨.inl, fun hh => hh.elim id fun k => k.1⟩)
    exact ⟨_, rfl, h'.putO hd (.t _ _ (hrep.of_flat hf)), by cases o.dst <;> rfl⟩
def inR : EffR → Eff → Prop
  | .no, _ => False
  | .yes e0, e => e = e0
  | .need c e0, e => c ∧ e = e0
  | .alt c b f, e => c ∧ e = f b
  | .eq c t f, e => c ∧ e = f t
def fnOf : V → Option (FuncId × List V)
  | .t (.clos f caps) => some (f, caps.map .t)
  | .fn f caps => some (f, caps)
  | _ => none
def effO (P : Program) (op : DOp) (d : Option Nat) (st : St) (e : Eff) : Prop :=
  match op with
  | .call f args => ∃ ts rd r, convs st.bx (args.map (ev st.sl)) = some (ts, rd) ∧ DCalls P f ts r ∧ (rd = [] ∨ r.flat = true) ∧ e = { val := .t r, rd := rd }
  | .callv x args => ∃ f caps, fnOf (ev st.sl x) = some (f, caps) ∧ ∃ ts rd r, convs st.bx (args.map (ev st.sl) ++ caps) = some (ts, rd) ∧ DCalls P f ts r ∧ (rd = [] ∨ r.flat = true) ∧ e = { val := .t r, rd := rd }
  | .mcall ms f args => ∃ (need : List (Nat × BX)) (fr : List Nat) (m : Nat) (b : BX) (r : T), MC P f (args.map (ev st.sl)) need fr m b r ∧ (∀ p ∈ need, st.bx p.1 = some p.2) ∧ (∀ n ∈ fr, st.bx n = none) ∧ m ∈ ms ∧ (st.bx m).isSome = true ∧ e = { val := .t r, wr := some (m, b) }
  | op => inR (eff op d st.sl st.bx) e
def effI (P : Program) (i : DI) (st : St) (e : Eff) : Prop :=
  match i.guard with
  | none => effO P i.op (st.nm i.dst) st e
  | some (g, want) => (∃ b, st.sl g = .t (.bool b) ∧ ((b = want ∧ effO P i.op (st.nm i.dst) st e) ∨ (b ≠ want ∧ e = { val := skipV }))) ∨ (st.sl g = skipV ∧ e = { val := skipV })
def DOp.plain : DOp → Bool
  | .append _ _ _ _ _ _ => false
  | .appV _ _ _ _ => false
  | .buildS _ _ _ _ _ => false
  | .inl _ _ => false
  | .fcall _ _ => false
  | .mrng _ => false
  | .mnext _ => false
  | _ => true
end
section
variable {P : Program} {N : Nat} {w0 : World} {S0 : Base} {o : Oper} {a : Act} {E : Env} {st : St}
theorem run_args {f : FuncId} {args : Array Operand} {ts : Array TypeId} {X : Operand} {caps : Array Value} (ho : o.op = .call { callee := .value X, args := args, argTypes := ts }) (hX : a.eval X = .func (.func f) #[] caps) (hc : Callable P f) :
    (execOp a.eval o).run P E.w = .ok (.enter f (args.map a.eval ++ caps)) E.w := by
  unfold execOp
  simp [ho, resolve, hX, Deferred.ofValue, invoke, hc _ _]
theorem args_vr (hs : ∀ m, VR E (a.tmps.getD m undef) (st.sl m)) {args : Array Operand} {ys : List O} (hy : lowOs args.toList = some ys) :
    args.size = ys.length ∧ ∀ (i : Nat) (v : Value) (u : V), (args.map a.eval)[i]? = some v → (ys.map (ev st.sl))[i]? = some u → VR E v u := by
  obtain ⟨h1, h2⟩ := mapM_get _ _ _ hy
  refine ⟨by simpa using h1, fun i v u hv hu => ?_⟩
  simp only [Array.getElem?_map, Option.map_eq_some_iff] at hv
  simp only [List.getElem?_map, Option.map_eq_some_iff] at hu
  obtain ⟨X, hX, rfl⟩ := hv
  obtain ⟨y, hy, rfl⟩ := hu
  exact ev_sound hs (h2 i X y (by simpa using hX) hy)
theorem lowCall_inv {callee : Callee} {as : Array Operand} {argTypes : Array TypeId} {x : DOp} (hl : lowCall P { callee := callee, args := as, argTypes := argTypes } = some x) :
    (∀ f args, x = .call f args → callee = .value (.func f) ∧ lowOs as.toList = some args) ∧ (∀ y args, x = .callv y args → ∃ X, callee = .value X ∧ lowO X = some y ∧ lowOs as.toList = some args) := by
  simp only [lowCall] at hl
  split at hl
  · split at hl
    · rename_i fn as' hfn has
      simp only [cond_eq_ite] at hl
      split at hl
      · cases hl; exact ⟨(fun f args e => by cases e; exact ⟨rfl, has⟩), (fun y args e => by cases e)⟩
      · cases hl
    · cases hl
  · rename_i X _
    split at hl
    · rename_i y' as' hy has
      cases hl; exact ⟨(fun f args e => by cases e), fun y args e => by cases e; exact ⟨X, rfl, hy, has⟩⟩
    · cases hl
  all_goals (repeat (first | (split at hl) | (simp only [cond_eq_ite] at hl))) <;> cases hl <;> exact ⟨(fun f args e => by cases e), fun y args e => by cases e⟩
end
section
variable [Glb] {P : Program} {N : Nat} {w0 : World} {S0 : Base} {o : Oper} {a : Act} {E : Env} {st : St}
def DOp.isCall : DOp → Bool
  | .call _ _ => true
  | .callv _ _ => true
  | _ => false
end
section
variable {P : Program} {N : Nat} {w0 : World} {S0 : Base} {o : Oper} {a : Act} {E : Env} {st : St}
theorem lowOp_call {op : Op} {x : DOp} (hl : lowOp P op = some x) (hx : x.isCall = true) : ∃ c, op = .call c ∧ lowCall P c = some x := by
  have no : ∀ {y : DOp}, some y = some x → y.isCall = false → False := fun h1 h2 => by cases h1; rw [hx] at h2; cases h2
  cases op with
  | call c => exact ⟨c, rfl, hl⟩
  | unOp op t X =>
    exfalso
    cases op <;> simp only [lowOp, Option.map_eq_some_iff] at hl <;> first | (obtain ⟨_, _, rfl⟩ := hl; cases hx) | cases hl
  | slice t X lo hi mx =>
    exfalso
    cases lo <;> cases hi <;> cases mx <;> simp only [lowOp] at hl <;> repeat' (first | exact no hl rfl | (split at hl) | (simp only [cond_eq_ite] at hl) | (cases hl; done))
  | binOp op t X Y ty =>
    exfalso
    cases op <;> simp only [lowOp] at hl <;> repeat' (first | exact no hl rfl | (split at hl) | (simp only [cond_eq_ite] at hl) | (cases hl; done))
  | _ =>
    exfalso
    simp only [lowOp] at hl
    repeat' (first | exact no hl rfl | (split at hl) | (simp only [cond_eq_ite] at hl) | (simp only [Option.map_eq_some_iff] at hl; obtain ⟨_, _, rfl⟩ := hl; cases hx) | (cases hl; done))
theorem lowOp_noM {op : Op} {ms : List Nat} {f : FuncId} {args : List O} (hl : lowOp P op = some (.mcall ms f args)) : False := by
  have no : ∀ {y : DOp}, some y = some (DOp.mcall ms f args) → (match y with | .mcall _ _ _ => true | _ => false) = false → False := fun h1 h2 => by cases h1; cases h2
  cases op with
  | call c =>
    obtain ⟨callee, as, argTypes⟩ := c
    simp only [lowOp, lowCall] at hl
    repeat' (first | exact no hl rfl | (split at hl) | (simp only [cond_eq_ite] at hl) | (cases hl; done))
  | unOp op t X =>
    cases op <;> simp only [lowOp, Option.map_eq_some_iff] at hl <;> first | (obtain ⟨_, _, hl⟩ := hl; cases hl) | cases hl
  | slice t X lo hi mx =>
    cases lo <;> cases hi <;> cases mx <;> simp only [lowOp] at hl <;> repeat' (first | exact no hl rfl | (split at hl) | (simp only [cond_eq_ite] at hl) | (cases hl; done))
  | binOp op t X Y ty =>
    cases op <;> simp only [lowOp] at hl <;> repeat' (first | exact no hl rfl | (split at hl) | (simp only [cond_eq_ite] at hl) | (cases hl; done))
  | _ =>
    simp only [lowOp] at hl
    repeat' (first | exact no hl rfl | (split at hl) | (simp only [cond_eq_ite] at hl) | (simp only [Option.map_eq_some_iff] at hl; obtain ⟨_, _, hl⟩ := hl; cases hl; done) | (cases hl; done))
end
section
variable [Glb] {P : Program} {N : Nat} {w0 : World} {S0 : Base} {o : Oper} {a : Act} {E : Env} {st : St}
theorem effO_wp (h : SR N w0 S0 E st a.tmps) (hd : okDst N o.dst) {x : DOp} (hl : lowOp P o.op = some x) {e : Eff} (he : effO P x (st.nm o.dst) st e) {Q : Exit → Act → World → Prop} : o.wp P a E.w (Next' N w0 S0 a (st.app o.dst e)) Q := by
  have did : Did P N w0 S0 o a E (st.app o.dst e) → o.wp P a E.w (Next' N w0 S0 a (st.app o.dst e)) Q := by
    rintro ⟨nx, v, E', hr, hnx, hsr⟩
    unfold Oper.wp
    rw [hr]
    rcases hnx with rfl | ⟨rfl, rfl⟩
    · exact ⟨E', rfl, hsr, by cases o.dst <;> rfl⟩
    · exact ⟨E', rfl, hsr, by cases o.dst <;> rfl⟩
  have plain : inR (eff x (st.nm o.dst) st.sl st.bx) e → o.wp P a E.w (Next' N w0 S0 a (st.app o.dst e)) Q := fun hi => by
    have hs := eff_sound h hd hl
    cases hr : eff x (st.nm o.dst) st.sl st.bx with
    | no => rw [hr] at hi; exact hi.elim
    | yes e0 => rw [hr] at hi hs; cases hi; exact did hs
    | need c e0 => rw [hr] at hi hs; obtain ⟨hc, rfl⟩ := hi; exact did (hs hc)
    | alt c b f => rw [hr] at hi hs; obtain ⟨hc, rfl⟩ := hi; exact did (hs hc)
    | eq c t f => rw [hr] at hi hs; obtain ⟨hc, rfl⟩ := hi; exact did (hs hc)
  cases x with
  | call f args =>
    obtain ⟨ts, rd, r, hc, hr, hf, rfl⟩ := he
    obtain ⟨⟨callee, as, argTypes⟩, ho, hl'⟩ := lowOp_call hl rfl
    obtain ⟨rfl, has⟩ := (lowCall_inv hl').1 f args rfl
    obtain ⟨h1, h2⟩ := args_vr h.sl has
    have hex := run_args (E := E) (a := a) (caps := #[]) ho rfl hr.1
    rw [Array.append_empty] at hex
    exact call_wp h hd hex (by simp [h1]) h2 hc hr hf
  | callv x args =>
    obtain ⟨f, caps, hfn, ts, rd, r, hc, hr, hf, rfl⟩ := he
    obtain ⟨⟨callee, as, argTypes⟩, ho, hl'⟩ := lowOp_call hl rfl
    obtain ⟨X, rfl, hX, has⟩ := (lowCall_inv hl').2 x args rfl
    obtain ⟨h1, h2⟩ := args_vr h.sl has
    have hx := ev_sound h.sl hX
    have key : ∃ cv : Array Value, a.eval X = .func (.func f) #[] cv ∧ cv.size = caps.length ∧ ∀ (i : Nat) (v : Value) (u : V), cv[i]? = some v → caps[i]? = some u → VR E v u := by
      unfold fnOf at hfn
      split at hfn
      · rename_i g cs hv
        simp only [Option.some.injEq, Prod.mk.injEq] at hfn
        obtain ⟨rfl, rfl⟩ := hfn
        rw [hv] at hx
        have hrep := hx.inv_t
        generalize a.eval X = v at hrep
        cases hrep with
        | clos _ cv _ hs hh =>
          refine ⟨cv, rfl, by simpa using hs, fun i v u hv hu => ?_⟩
          simp only [List.getElem?_map, Option.map_eq_some_iff] at hu
          obtain ⟨t, ht, rfl⟩ := hu
          exact .t _ _ (hh i v t hv ht)
      · rename_i g cs hv
        simp only [Option.some.injEq, Prod.mk.injEq] at hfn
        obtain ⟨rfl, rfl⟩ := hfn
        rw [hv] at hx
        generalize a.eval X = v at hx
        cases hx with
        | fn _ cv _ hs hh => exact ⟨cv, rfl, hs, hh⟩
      · cases hfn
    obtain ⟨cv, hX', hsz, hcv⟩ := key
    have hex := run_args (E := E) (a := a) ho hX' hr.1
    refine call_wp h hd hex (by simp [h1, hsz]) (fun i v u hv hu => ?_) hc hr hf
    by_cases hi : i < as.size
    · rw [Array.getElem?_append_left (by simpa using hi)] at hv
      rw [List.getElem?_append_left (by simp; omega)] at hu
      exact h2 i v u hv hu
    · rw [Array.getElem?_append_right (by simp; omega)] at hv
      rw [List.getElem?_append_right (by simp; omega)] at hu
      simp only [Array.size_map, List.length_map] at hv hu
      rw [← h1] at hu
      exact hcv _ v u hv hu
  | mcall ms f args => exact (lowOp_noM hl).elim
  | _ => exact plain he
end
end Go.DL
end
section
namespace Go.DL
open Go.RowKit
section
variable [Glb] {P : Program} {N : Nat} {w0 : World} {S0 : Base} {o : Oper} {a : Act} {E : Env} {st : St}
theorem SR.step {E' : Env} {b : Array Value} (h : SR N w0 S0 E st b) (g : Grow E E') (hk : E'.κ = E.κ) (hl : E'.live = E.live) (hbx : ∀ n, E.live n = true → E'.w.heap[E.κ n]? = E.w.heap[E.κ n]? ∧ ∀ o, ¬ E'.S (E.κ n) o)
    (hrows : ∀ r g, E'.ρ r = some g → E'.B ≤ g ∧ g < E'.w.heap.size ∧ ∀ n, E'.live n = true → E'.κ n ≠ g) (hrinj : ∀ r r' g, E'.ρ r = some g → E'.ρ r' = some g → r = r') (hlt : ∀ b o, E'.S b o → b < E'.w.heap.size)
    (hb : Below w0.heap.size w0 E'.w) (hs1 : ∀ b o, E'.S b o → S0.S b o ∨ w0.heap.size ≤ b) (hob : ∀ (k : Nat) (o : Obj), noCells o = true → E.w.heap[k]? = some o → E'.w.heap[k]? = some o) : SR N w0 S0 E' st b := by
  refine ⟨h.size, g.B.trans h.base, h.glob, fun m => (h.sl m).grow g, fun k m => (h.gh k m).grow g, fun n b' hn => ?_, fun n => by rw [hl]; exact h.live n, by rw [hk, hl]; exact h.inj, hrows, hrinj, hlt, hb, fun b o hs => g.S b o (h.s0 b o hs), hs1, fun k o hk => ⟨(h.obj k o hk).1, hob k o (h.obj k o hk).1 (h.obj k o hk).2⟩, h.cx⟩
  have hlive : E.live n = true := by rw [h.live, hn]; rfl
  obtain ⟨h1, h2⟩ := hbx n hlive
  rw [hk]
  exact (h.bx n b' hn).grow g h1 h2
end
section
variable {P : Program} {N : Nat} {w0 : World} {S0 : Base} {o : Oper} {a : Act} {E : Env} {st : St}
mutual
theorem VR.dg {ρ' : Nat → Option Nat} {r d : Nat} (hρ : ∀ q, q ≠ r → q ≠ d → ρ' q = E.ρ q) : ∀ {u : V} {v : Value}, VR E v u → VR { E with ρ := ρ' } v (DL.dg r d u)
  | .top, v, _ => .top v
  | .raw x, v, h => by
    cases h with
    | raw _ h1 => exact .raw _ h1
  | .t x, v, h => .t v x h.inv_t
  | .ptr n off, v, h => by
    obtain ⟨rfl, hl⟩ := h.inv_ptr
    exact .ptr (E := { E with ρ := ρ' }) n off hl
  | .mp n, v, h => by
    obtain ⟨rfl, hl⟩ := h.inv_mp
    exact .mp (E := { E with ρ := ρ' }) n hl
  | .view n off len size, v, h => by
    obtain ⟨cap, rfl, hc, hl⟩ := h.inv_view
    exact .view (E := { E with ρ := ρ' }) n off len size cap hl hc
  | .own q e n xs, v, h => by
    have ho := h.inv_own
    unfold DL.dg
    cases hc : (Nat.beq q r || Nat.beq q d) with
    | true => exact .t _ _ ho.rep
    | false =>
      rw [Bool.or_eq_false_iff] at hc
      have h1 : q ≠ r := fun e => by rw [e, beq_self] at hc; cases hc.1
      have h2 : q ≠ d := fun e => by rw [e, beq_self] at hc; cases hc.2
      exact .own _ _ _ _ _ ⟨ho.ex, ho.uni, ho.one, fun g hg => ⟨(hρ q h1 h2).trans (ho.row g hg).1, (ho.row g hg).2⟩⟩
  | .full size xs, v, h => by
    cases h with
    | full a len _ _ hr => exact .full (E := { E with ρ := ρ' }) a len size xs hr
  | .fn f caps, v, h => by
    cases h with
    | fn _ cs _ hs hh =>
      obtain ⟨h1, h2⟩ := VR.dgs hρ (cs := cs) (us := caps) hs hh
      exact .fn f cs _ h1 h2
  | .tup vs, v, h => by
    cases h with
    | tup cs _ hs hh =>
      obtain ⟨h1, h2⟩ := VR.dgs hρ (cs := cs) (us := vs) hs hh
      exact .tup cs _ h1 h2
  | .agv vs, v, h => by
    cases h with
    | agv cs _ hs h1 hh =>
      obtain ⟨k1, k2⟩ := VR.dgs hρ (cs := cs) (us := vs) hs hh
      exact .agv cs _ k1 h1 k2
theorem VR.dgs {ρ' : Nat → Option Nat} {r d : Nat} (hρ : ∀ q, q ≠ r → q ≠ d → ρ' q = E.ρ q) : ∀ {us : List V} {cs : Array Value}, cs.size = us.length → (∀ (i : Nat) (x : Value) (u : V), cs[i]? = some x → us[i]? = some u → VR E x u) →
    cs.size = (DL.dgs r d us).length ∧ ∀ (i : Nat) (x : Value) (u : V), cs[i]? = some x → (DL.dgs r d us)[i]? = some u → VR { E with ρ := ρ' } x u
  | [], cs, hs, _ => ⟨hs, fun i x u _ hu => by simp [DL.dgs] at hu⟩
  | u0 :: us, cs, hs, h => by
    have hpos : 0 < cs.size := by simp at hs; omega
    have h0 := VR.dg hρ (h 0 cs[0] u0 (by simp [hpos]) rfl)
    obtain ⟨h1, h2⟩ := VR.dgs hρ (us := us) (cs := cs.extract 1 cs.size) (by simp at hs ⊢; omega) (fun i x u hx hu => h (i + 1) x u (by
      rw [Array.getElem?_extract] at hx
      split at hx
      · rwa [Nat.add_comm] at hx
      · cases hx) (by simpa using hu))
    refine ⟨by simp [DL.dgs] at h1 ⊢; omega, fun i x u hx hu => ?_⟩
    cases i with
    | zero =>
      simp [DL.dgs, hpos] at hx hu
      subst hx; subst hu; exact h0
    | succ i =>
      have hlt : i + 1 < cs.size := (Array.getElem?_eq_some_iff.1 hx).1
      exact h2 i x u (by rw [Array.getElem?_extract, if_pos (by omega), Nat.add_comm]; exact hx) (by simpa [DL.dgs] using hu)
end
theorem dgs_map (r d : Nat) : ∀ vs : List V, DL.dgs r d vs = vs.map (DL.dg r d)
  | [] => rfl
  | v :: vs => by unfold DL.dgs; rw [dgs_map r d vs]; rfl
end
section
variable [Glb] {P : Program} {N : Nat} {w0 : World} {S0 : Base} {o : Oper} {a : Act} {E : Env} {st : St}
theorem SR.dg {b : Array Value} (h : SR N w0 S0 E st b) (r d : Nat) : SR N w0 S0 { E with ρ := fun q => if q = r ∨ q = d then none else E.ρ q } (st.dg r d) b := by
  have hρ : ∀ q, q ≠ r → q ≠ d → (fun q => if q = r ∨ q = d then none else E.ρ q) q = E.ρ q := fun q h1 h2 => by simp [h1, h2]
  have hsome : ∀ q g, (if q = r ∨ q = d then none else E.ρ q) = some g → E.ρ q = some g := fun q g hq => by
    split at hq
    · cases hq
    · exact hq
  refine ⟨h.size, h.base, h.glob, fun m => (h.sl m).dg hρ, fun k m => (h.gh k m).dg hρ, fun n b' hn => ?_, fun n => ?_, h.inj, fun q g hq => h.rows q g (hsome q g hq), fun q q' g h1 h2 => h.rinj q q' g (hsome q g h1) (hsome q' g h2), h.lt, h.below, h.s0, h.s1, h.obj, h.cx⟩
  · have hn : (st.bx n).map (dgB r d) = some b' := hn
    simp only [Option.map_eq_some_iff] at hn
    obtain ⟨b0, hb0, rfl⟩ := hn
    have hB := h.bx n b0 hb0
    obtain ⟨ob, hg, hob⟩ := hB.at_
    refine ⟨hB.old, hB.free, ob, hg, ?_⟩
    cases hob with
    | map arr clock ag sh es mb hm => exact .map arr clock ag sh es mb ⟨hm.size, hm.at_, hm.lt, hm.apart, hm.mb⟩
    | itd k arr c ag sh es ix hgk hS hR => exact ObjR.itd (E := { E with ρ := fun q => if q = r ∨ q = d then none else E.ρ q }) k arr c ag sh es ix hgk hS ⟨hR.size, hR.at_, hR.lt, hR.apart, hR.mb⟩
    | it m bs c ix hl => exact ObjR.it (E := { E with ρ := fun q => if q = r ∨ q = d then none else E.ρ q }) m bs c ix hl
    | cells cs e _ hc =>
    refine .cells cs e _ ?_
    cases hc with
    | d m ts hl hs hh => exact .d m ts hl hs hh
    | v vs hs hh =>
      refine .v _ (by rw [dgs_map, List.length_map]; exact hs) (fun i x u hx hu => ?_)
      rw [dgs_map, List.getElem?_map, Option.map_eq_some_iff] at hu
      obtain ⟨u0, hu0, rfl⟩ := hu
      obtain ⟨h1, h2⟩ := hh i x u0 hx hu0
      exact ⟨h1.dg hρ, h2⟩
  · show E.live n = ((st.bx n).map (dgB r d)).isSome
    rw [h.live, Option.isSome_map]
structure News (E : Env) (size : Nat) (ys : List T) (news : List Value) : Prop where
  len : news.length = (ys.flatMap T.cells).length
  rep : ∀ (i : Nat) (x : Value) (t : T), news[i]? = some x → (ys.flatMap T.cells)[i]? = some t → Rep E.S E.w x t
  uni : ∀ x ∈ ys, x.cells.length = size
  one : ∀ t ∈ ys.flatMap T.cells, t.one = true
theorem SR.newRow (h : SR N w0 S0 E st a.tmps) {d q : Nat} (hd : d < N) {e : TypeId} {size : Nat} {xs : List T} {cells : List Value} {rest : Array Value} {cap : Nat} (hn : News E size xs cells) (hnone : E.ρ q = none) {w' : World} (hw : w' = E.w ∨ w' = E.w.drew)
    (hcap : xs.length ≤ cap) (hm : cap ≤ maxLen) (hsz : (cells.toArray ++ rest).size = cap * size) :
    ∃ E' : Env, E'.w = w'.alloc (.cells (cells.toArray ++ rest) e) ∧ SR N w0 S0 E' (st.put d (.own q e size xs)) (a.tmps.setIfInBounds d (.slice (some ⟨w'.heap.size, 0, none⟩) xs.length cap)) := by
  have hws : w'.heap.size = E.w.heap.size := by rcases hw with rfl | rfl <;> rfl
  have hwb : Below E.w.heap.size E.w w' := by rcases hw with rfl | rfl; exact Below.refl _ _; exact (Below.refl _ _).drew
  let cs : Array Value := cells.toArray ++ rest
  let E' : Env := { E with w := w'.alloc (.cells cs e), S := fun b o => E.S b o ∨ (b = E.w.heap.size ∧ o < cells.length), ρ := upd E.ρ q (some E.w.heap.size) }
  have hb : Below E.w.heap.size E.w (w'.alloc (.cells cs e)) := hwb.trans ((Below.refl _ _).alloc (by omega) _)
  have notnew : ∀ b o, E.S b o → b ≠ E.w.heap.size := fun b o hs e => by have := h.lt b o hs; omega
  have g : Grow E E' := by
    refine ⟨rfl, fun n hl => ⟨hl, rfl⟩, fun r k hr => ?_, fun b o hs => .inl hs, fun b o hs => Same.of_below hb (h.lt b o hs)⟩
    have hrd : r ≠ q := fun e => by rw [e, hnone] at hr; cases hr
    have hk := (h.rows r k hr).2.1
    refine ⟨(upd_other _ _ _ _ hrd).trans hr, hb.block k hk, fun o => ⟨fun hs => hs.elim id fun hh => absurd hh.1 (by omega), .inl⟩⟩
  have hsr : SR N w0 S0 E' st a.tmps := by
    refine h.step g rfl rfl (fun n hl => ?_) (fun r k hr => ?_) (fun r r' k h1 h2 => ?_) (fun b o hs => ?_) ?_ (fun b o hs => ?_) (fun k o _ hk => (hb.block k (Array.getElem?_eq_some_iff.1 hk).1).trans hk)
    · have hlt : E.κ n < E.w.heap.size := by
        rw [h.live] at hl
        obtain ⟨b', hb'⟩ := Option.isSome_iff_exists.1 hl
        obtain ⟨_, h1, _⟩ := (h.bx n b' hb').at_
        exact (Array.getElem?_eq_some_iff.1 h1).1
      refine ⟨hb.block _ hlt, fun o hs => ?_⟩
      rcases hs with hs | ⟨hs, _⟩
      · rw [h.live] at hl
        obtain ⟨b', hb'⟩ := Option.isSome_iff_exists.1 hl
        exact (h.bx n b' hb').free o hs
      · omega
    · have hr : upd E.ρ q (some E.w.heap.size) r = some k := hr
      by_cases hrd : r = q
      · subst hrd
        rw [upd_same] at hr
        cases hr
        refine ⟨by show E.B ≤ _; rw [h.base]; exact h.below.size, by show _ < (w'.alloc _).heap.size; simp; omega, fun n hl => ?_⟩
        rw [show E'.live n = E.live n from rfl, h.live] at hl
        obtain ⟨b', hb'⟩ := Option.isSome_iff_exists.1 hl
        obtain ⟨_, h1, _⟩ := (h.bx n b' hb').at_
        have := (Array.getElem?_eq_some_iff.1 h1).1
        show E.κ n ≠ _
        omega
      · rw [upd_other _ _ _ _ hrd] at hr
        obtain ⟨h1, h2, h3⟩ := h.rows r k hr
        exact ⟨h1, by show k < (w'.alloc _).heap.size; simp; omega, h3⟩
    · have h1 : upd E.ρ q (some E.w.heap.size) r = some k := h1
      have h2 : upd E.ρ q (some E.w.heap.size) r' = some k := h2
      by_cases e1 : r = q <;> by_cases e2 : r' = q
      · rw [e1, e2]
      · subst e1
        rw [upd_same] at h1; rw [upd_other _ _ _ _ e2] at h2
        cases h1
        have := (h.rows r' _ h2).2.1; omega
      · subst e2
        rw [upd_same] at h2; rw [upd_other _ _ _ _ e1] at h1
        cases h2
        have := (h.rows r _ h1).2.1; omega
      · rw [upd_other _ _ _ _ e1] at h1; rw [upd_other _ _ _ _ e2] at h2
        exact h.rinj r r' k h1 h2
    · show b < (w'.alloc _).heap.size
      rcases hs with hs | ⟨hs, _⟩
      · have := h.lt b o hs; simp; omega
      · simp; omega
    · exact h.below.trans (hb.mono h.below.size)
    · rcases hs with hs | ⟨hs, _⟩
      · exact h.s1 b o hs
      · right; have := h.below.size; omega
  have hcur : (w'.alloc (.cells cs e)).heap[w'.heap.size]? = some (.cells cs e (0, 0)) := heap_alloc_new _ _
  have hfl := flat_len hn.uni
  have htake : cs.toList.take (xs.length * size) = cells := by
    show (cells.toArray ++ rest).toList.take _ = _
    rw [Array.toList_append, List.toList_toArray, ← hfl, ← hn.len]
    exact List.take_left
  have hown : Owns E' (.slice (some ⟨w'.heap.size, 0, none⟩) xs.length cap) q e size xs := by
    refine ⟨⟨cells, ⟨by rw [hn.len, hfl], .inr ⟨w'.heap.size, cap, cs, rfl, ?_, hcur, hcap, hm, hsz, htake⟩⟩, hn.len, fun i x t hx ht => g.rep (hn.rep i x t hx ht)⟩, hn.uni, hn.one, fun k hk => ?_⟩
    · show E.B ≤ _
      rw [hws, h.base]; exact h.below.size
    · simp only [Value.ownBlock, Option.some.injEq] at hk
      subst hk
      refine ⟨by show upd E.ρ q _ q = _; rw [upd_same, hws], fun o => ?_⟩
      show (E.S w'.heap.size o ∨ (w'.heap.size = E.w.heap.size ∧ o < cells.length)) ↔ _
      rw [← hn.len, hws]
      exact ⟨fun hh => hh.elim (fun hs => absurd rfl (notnew _ _ hs)) (·.2), fun hh => .inr ⟨rfl, hh⟩⟩
  exact ⟨E', rfl, hsr.put hd (.own _ _ _ _ _ hown)⟩
theorem SR.rowIn (h : SR N w0 S0 E st a.tmps) {d q g0 : Nat} (hd : d < N) {e : TypeId} {size : Nat} {xs : List T} {cells : List Value} {rest : Array Value} {cap k : Nat} (hn : News E size xs cells) (hnone : E.ρ q = none)
    {cur : Array Value} (hcur : E.w.heap[g0]? = some (.cells cur e (0, 0))) (hold : E.B ≤ g0) (hbox : ∀ n, E.live n = true → E.κ n ≠ g0) (hother : ∀ r, E.ρ r ≠ some g0) (hS : ∀ o, E.S g0 o ↔ o < k) (hk : k ≤ cells.length)
    (hpre : ∀ o, o < k → (cells.toArray ++ rest)[o]? = cur[o]?) (hcap : xs.length ≤ cap) (hm : cap ≤ maxLen) (hsz : (cells.toArray ++ rest).size = cap * size) :
    ∃ E' : Env, E'.w = E.w.setRow g0 (cells.toArray ++ rest) ∧ SR N w0 S0 E' (st.put d (.own q e size xs)) (a.tmps.setIfInBounds d (.slice (some ⟨g0, 0, none⟩) xs.length cap)) := by
  let cs : Array Value := cells.toArray ++ rest
  let E' : Env := { E with w := E.w.setRow g0 cs, S := fun b o => E.S b o ∨ (b = g0 ∧ o < cells.length), ρ := upd E.ρ q (some g0) }
  have hlt0 : g0 < E.w.heap.size := (Array.getElem?_eq_some_iff.1 hcur).1
  have other : ∀ k, k ≠ g0 → (E.w.setRow g0 cs).heap[k]? = E.w.heap[k]? := fun k hk => setRow_other _ _ _ _ hk
  have hsize : (E.w.setRow g0 cs).heap.size = E.w.heap.size := by simp
  have hnew : (E.w.setRow g0 cs).heap[g0]? = some (.cells cs e (0, 0)) := setRow_heap _ _ _ _ _ _ hcur
  have g : Grow E E' := by
    refine ⟨rfl, fun n hl => ⟨hl, rfl⟩, fun r k hr => ?_, fun b o hs => .inl hs, fun b o hs => ?_⟩
    · have hrd : r ≠ q := fun e => by rw [e, hnone] at hr; cases hr
      have hkg : k ≠ g0 := fun e => hother r (e ▸ hr)
      exact ⟨(upd_other _ _ _ _ hrd).trans hr, other k hkg, fun o => ⟨fun hs => hs.elim id fun hh => absurd hh.1 hkg, .inl⟩⟩
    · by_cases hbg : b = g0
      · subst hbg
        refine ⟨?_, fun arr c hg => by rw [hcur] at hg; cases hg⟩
        show (E.w.setRow b cs).cell? _ = _
        rw [cell_of_row _ _ _ _ _ _ hnew, cell_of_row _ _ _ _ _ _ hcur]
        exact hpre o ((hS o).1 hs)
      · exact Same.of_block (other b hbg)
  have hsr : SR N w0 S0 E' st a.tmps := by
    refine h.step g rfl rfl (fun n hl => ⟨other _ (hbox n hl), fun o hs => ?_⟩) (fun r k hr => ?_) (fun r r' k h1 h2 => ?_) (fun b o hs => ?_) ?_ (fun b o hs => ?_) (fun k o hc hk => (other k fun e => by rw [e, hcur] at hk; cases hk; cases hc).trans hk)
    · rcases hs with hs | ⟨hs, _⟩
      · rw [h.live] at hl
        obtain ⟨b', hb'⟩ := Option.isSome_iff_exists.1 hl
        exact (h.bx n b' hb').free o hs
      · exact hbox n hl hs
    · have hr : upd E.ρ q (some g0) r = some k := hr
      by_cases hrd : r = q
      · subst hrd
        rw [upd_same] at hr
        cases hr
        exact ⟨hold, by show _ < (E.w.setRow _ _).heap.size; rw [hsize]; exact hlt0, hbox⟩
      · rw [upd_other _ _ _ _ hrd] at hr
        obtain ⟨h1, h2, h3⟩ := h.rows r k hr
        exact ⟨h1, by show _ < (E.w.setRow _ _).heap.size; rw [hsize]; exact h2, h3⟩
    · have h1 : upd E.ρ q (some g0) r = some k := h1
      have h2 : upd E.ρ q (some g0) r' = some k := h2
      by_cases e1 : r = q <;> by_cases e2 : r' = q
      · rw [e1, e2]
      · subst e1
        rw [upd_same] at h1; rw [upd_other _ _ _ _ e2] at h2
        cases h1
        exact absurd h2 (hother r')
      · subst e2
        rw [upd_same] at h2; rw [upd_other _ _ _ _ e1] at h1
        cases h2
        exact absurd h1 (hother r)
      · rw [upd_other _ _ _ _ e1] at h1; rw [upd_other _ _ _ _ e2] at h2
        exact h.rinj r r' k h1 h2
    · show b < (E.w.setRow _ _).heap.size
      rw [hsize]
      rcases hs with hs | ⟨hs, _⟩
      · exact h.lt b o hs
      · omega
    · refine h.below.trans (.of rfl rfl rfl (by show _ ≤ (E.w.setRow _ _).heap.size; rw [hsize]; exact Nat.le_refl _) (fun k hk => other k ?_) (Nat.le_refl _))
      have := hold
      rw [h.base] at this
      omega
    · rcases hs with hs | ⟨hs, _⟩
      · exact h.s1 b o hs
      · right; rw [← h.base]; omega
  have hfl := flat_len hn.uni
  have htake : cs.toList.take (xs.length * size) = cells := by
    show (cells.toArray ++ rest).toList.take _ = _
    rw [Array.toList_append, List.toList_toArray, ← hfl, ← hn.len]
    exact List.take_left
  have hown : Owns E' (.slice (some ⟨g0, 0, none⟩) xs.length cap) q e size xs := by
    refine ⟨⟨cells, ⟨by rw [hn.len, hfl], .inr ⟨g0, cap, cs, rfl, hold, hnew, hcap, hm, hsz, htake⟩⟩, hn.len, fun i x t hx ht => g.rep (hn.rep i x t hx ht)⟩, hn.uni, hn.one, fun k' hk' => ?_⟩
    simp only [Value.ownBlock, Option.some.injEq] at hk'
    subst hk'
    refine ⟨by show upd E.ρ q _ q = _; rw [upd_same], fun o => ?_⟩
    show (E.S g0 o ∨ (g0 = g0 ∧ o < cells.length)) ↔ _
    rw [← hn.len]
    exact ⟨fun hh => hh.elim (fun hs => by have := (hS o).1 hs; omega) (·.2), fun hh => .inr ⟨rfl, hh⟩⟩
  exact ⟨E', rfl, hsr.put hd (.own _ _ _ _ _ hown)⟩
end
end Go.DL
end
section
namespace Go.DL
open Go.RowKit
section
variable [Glb] {P : Program} {N : Nat} {w0 : World} {S0 : Base} {o : Oper} {a : Act} {E : Env} {st : St}
end
section
variable {P : Program} {N : Nat} {w0 : World} {S0 : Base} {o : Oper} {a : Act} {E : Env} {st : St}
theorem News.append {size : Nat} {xs ys : List T} {c1 c2 : List Value} (h1 : News E size xs c1) (h2 : News E size ys c2) : News E size (xs ++ ys) (c1 ++ c2) := by
  refine ⟨by simp [h1.len, h2.len], fun i x t hx ht => ?_, fun x hx => ?_, fun t ht => ?_⟩
  · rw [List.flatMap_append] at ht
    by_cases hi : i < c1.length
    · rw [List.getElem?_append_left hi] at hx
      rw [List.getElem?_append_left (by rw [← h1.len]; exact hi)] at ht
      exact h1.rep i x t hx ht
    · rw [List.getElem?_append_right (by omega)] at hx
      rw [List.getElem?_append_right (by rw [← h1.len]; omega), ← h1.len] at ht
      exact h2.rep _ x t hx ht
  · rcases List.mem_append.1 hx with h | h
    · exact h1.uni x h
    · exact h2.uni x h
  · rw [List.flatMap_append] at ht
    rcases List.mem_append.1 ht with h | h
    · exact h1.one t h
    · exact h2.one t h
theorem run_append_room' {t u ty e : TypeId} {i : TypeInfo} (ht : P.underlying t = some (.slice e)) (hi : P.info? e = some i) {g sLen cap : Nat} {cur : Array Value} {te : TypeId} (hg : E.w.heap[g]? = some (.cells cur te (0, 0))) {y : Value} {n : Nat} {news : List Value} (hs : Src P i.size u y n news E.w)
    (hfit : sLen + n ≤ cap) (hroom : sLen * i.size + news.length ≤ cur.size) :
    (Builtin.append_ #[t, u] ty #[.slice (some ⟨g, 0, none⟩) sLen cap, y]).run P E.w = .ok (.slice (some ⟨g, 0, none⟩) (sLen + n) cap) (E.w.setRow g (cur.toList.take (sLen * i.size) ++ news ++ cur.toList.drop (sLen * i.size + news.length)).toArray) := by
  have hst := run_storeCells_at (P := P) g (sLen * i.size) te news 0 cur E.w hg (by omega) hs.one
  simp only [Nat.add_zero] at hst
  have hadd : (⟨g, 0, none⟩ : Addr).add (sLen * i.size) = ⟨g, sLen * i.size, none⟩ := by rw [addr_add, Nat.zero_add]
  rcases hs.kind with ⟨e', hk⟩ | hk <;> simp [Builtin.append_, run_underlying ht, run_underlying hk, sizeOf, typeInfo, hi, hs.len, hfit, hs.cells, hadd, hst]
end
section
variable [Glb] {P : Program} {N : Nat} {w0 : World} {S0 : Base} {o : Oper} {a : Act} {E : Env} {st : St}
theorem append_did (h : SR N w0 S0 E st a.tmps) {d q : Nat} (hd : d < N) {t ty e : TypeId} {i : TypeInfo} {z : Value} (ht : P.underlying t = some (.slice e)) (hi : P.info? e = some i) (hz : i.zero = some z) (hzs : z.cells.size = i.size) (hsz : 0 < i.size) (hby : 0 < i.bytes)
    {v : Value} {r : Nat} {xs : List T} (hv : Owns E v r e i.size xs) {y : Value} {u : TypeId} {ys : List T} {news : List Value} (hsy : SrcR P E y i.size ys news) (hk : (∃ e', P.underlying u = some (.slice e')) ∨ P.underlying u = some .string) (hroom : (xs.length + ys.length) * i.bytes ≤ 140737488355328) :
    ∃ (v' : Value) (E' : Env), (Builtin.append_ #[t, u] ty #[v, y]).run P E.w = .ok v' E'.w ∧ SR N w0 S0 E' ((st.dg r q).put d (.own q e i.size (xs ++ ys))) (a.tmps.setIfInBounds d v') := by
  have h1 := h.dg r q
  have hnone : (fun x => if x = r ∨ x = q then none else E.ρ x) q = none := by simp
  obtain ⟨cells, hown, hcl, hcr⟩ := hv.ex
  have hN1 : News { E with ρ := fun x => if x = r ∨ x = q then none else E.ρ x } i.size xs cells := ⟨hcl, hcr, hv.uni, hv.one⟩
  have hle : xs.length + ys.length ≤ 140737488355328 := Nat.le_trans (Nat.le_mul_of_pos_right _ hby) hroom
  have hml : xs.length + ys.length ≤ maxLen := by unfold maxLen; omega
  by_cases hm : ys.length = 0
  · -- nothing is appended
    have hy0 : ys = [] := List.eq_nil_of_length_eq_zero hm
    subst hy0
    have hn0 : news = [] := List.eq_nil_of_length_eq_zero (by simpa using hsy.len)
    subst hn0
    have hs := hsy.src' hk
    have nothing : ∀ {A : Option Addr} {n cap : Nat}, n ≤ cap → (Builtin.append_ #[t, u] ty #[.slice A n cap, y]).run P E.w = .ok (.slice A n cap) E.w := fun {A n cap} hn => Go.run_append_nothing E.w t u ty e i ht hi A n cap hn y hs
    rw [List.append_nil]
    rcases hown.2 with ⟨rfl, hn0⟩ | ⟨g, cap, cur, rfl, hbg, hg, hnc, hcm, hcs, htake⟩
    · refine ⟨.slice none 0 0, { E with ρ := fun x => if x = r ∨ x = q then none else E.ρ x }, nothing (Nat.le_refl _), h1.put hd (.own _ _ _ _ _ ⟨⟨cells, hown, hcl, hcr⟩, hv.uni, hv.one, fun g hg => by simp [Value.ownBlock] at hg⟩)⟩
    · obtain ⟨hrow, hstab⟩ := hv.row g rfl
      have hcur : cells.toArray ++ (cur.toList.drop (xs.length * i.size)).toArray = cur := by
        apply Array.ext'
        simp only [Array.toList_append, List.toList_toArray]
        rw [← htake, List.take_append_drop]
      obtain ⟨E', hw, hsr⟩ := h1.rowIn (rest := (cur.toList.drop (xs.length * i.size)).toArray) (cap := cap) (k := (xs.flatMap T.cells).length) hd hN1 hnone hg hbg (h.rows r g hrow).2.2 (fun q hq => by
          dsimp only at hq
          split at hq
          · cases hq
          · rename_i hne; exact hne (.inl (h.rinj q r g hq hrow))) (fun o => hstab o) (by rw [hcl]; exact Nat.le_refl _) (fun o _ => by rw [hcur]) hnc hcm (by rw [hcur]; exact hcs)
      refine ⟨_, E', ?_, hsr⟩
      rw [hw, hcur, setRow_self _ _ _ _ _ hg]
      exact nothing hnc
  · have hN2 : News E i.size ys news := ⟨hsy.len, hsy.rep, hsy.uni, hsy.one⟩
    have hs := hsy.src' hk
    have hN2' : News { E with ρ := fun x => if x = r ∨ x = q then none else E.ρ x } i.size ys news := ⟨hN2.len, hN2.rep, hN2.uni, hN2.one⟩
    have hN := hN1.append hN2'
    have hl2 : news.length = ys.length * i.size := by rw [hN2.len, flat_len hN2.uni]
    have hl1 : cells.length = xs.length * i.size := by rw [hcl, flat_len hv.uni]
    have h63 : ((xs.length + ys.length : Nat) : Int) ≤ 9223372036854775807 := by omega
    have moved : ∀ old, old < xs.length + ys.length → ∃ E' : Env, E'.w = E.w.drew.alloc (.cells ((cells ++ news).toArray ++ Builtin.zeroCells z.cells (grownCap E.w (xs.length + ys.length) old e - (xs.length + ys.length))) e) ∧
        SR N w0 S0 E' ((st.dg r q).put d (.own q e i.size (xs ++ ys))) (a.tmps.setIfInBounds d (.slice (some ⟨E.w.heap.size, 0, none⟩) (xs ++ ys).length (grownCap E.w (xs.length + ys.length) old e))) := fun old hold => by
      have hge := grownCap_ge E.w (xs.length + ys.length) old e
      have hcm := grownCap_le_maxLen E.w (xs.length + ys.length) old e hml
      have := h1.newRow (e := e) (rest := Builtin.zeroCells z.cells (grownCap E.w (xs.length + ys.length) old e - (xs.length + ys.length))) (cap := grownCap E.w (xs.length + ys.length) old e) hd hN hnone (w' := E.w.drew) (.inr rfl) (by simpa using hge) hcm (by
        simp only [Array.size_append, List.size_toArray, List.length_append, size_zeroCells, hzs, hl1, hl2, ← Nat.add_mul]
        congr 1; omega)
      exact this
    rcases hown.2 with ⟨rfl, hn0⟩ | ⟨g, cap, cur, rfl, hbg, hg, hnc, hcm, hcs, htake⟩
    · have hx : xs = [] := List.eq_nil_of_length_eq_zero hn0
      subst hx
      have hc0 : cells = [] := List.eq_nil_of_length_eq_zero (by simpa using hcl)
      subst hc0
      obtain ⟨E', hw, hsr⟩ := moved 0 (by simp; omega)
      have hr := run_append_grow_src (P := P) E.w t u ty e i z ht hi hz none 0 0 [] (by simp [Builtin.firstCells]) y ys.length news hs (by omega) (by simpa using h63) (growslice_fits (by omega) (by simpa using hroom))
      simp only [List.length_nil, Nat.zero_add, List.nil_append] at hw hsr hr ⊢
      exact ⟨_, E', by rw [hw]; exact hr, hsr⟩
    · by_cases hfit : xs.length + ys.length ≤ cap
      · have hroom2 : xs.length * i.size + news.length ≤ cur.size := by rw [hl2, hcs, ← Nat.add_mul]; exact Nat.mul_le_mul_right _ hfit
        have hr := run_append_room' (E := E) (ty := ty) ht hi hg hs hfit hroom2
        obtain ⟨hrow, hstab⟩ := hv.row g rfl
        have hcur : (cur.toList.take (xs.length * i.size) ++ news ++ cur.toList.drop (xs.length * i.size + news.length)).toArray = (cells ++ news).toArray ++ (cur.toList.drop (xs.length * i.size + news.length)).toArray := by
          rw [htake]; simp
        rw [hcur] at hr
        obtain ⟨E', hw, hsr⟩ := h1.rowIn (rest := (cur.toList.drop (xs.length * i.size + news.length)).toArray) (cap := cap) (k := (xs.flatMap T.cells).length) hd hN hnone hg hbg (h.rows r g hrow).2.2 (fun q hq => by
            dsimp only at hq
            split at hq
            · cases hq
            · rename_i hne; exact hne (.inl (h.rinj q r g hq hrow))) (fun o => hstab o) (by rw [List.length_append, hcl]; exact Nat.le_add_right _ _) (fun o ho => by
            rw [← hcl] at ho
            rw [Array.getElem?_append_left (by simp; omega), List.getElem?_toArray, List.getElem?_append_left ho, ← htake, List.getElem?_take, if_pos (by omega)]
            simp) (by simpa using hfit) hcm (by simp only [Array.size_append, List.size_toArray, List.length_append, List.length_drop, Array.length_toList]; omega)
        refine ⟨_, E', ?_, hsr⟩
        rw [hw, List.length_append]
        exact hr
      · have holds := hown.cells (g := g) rfl
        have hr := run_append_grow_src (P := P) E.w t u ty e i z ht hi hz (some ⟨g, 0, none⟩) xs.length cap cells (run_firstCells_some E.w.drew i.size xs.length ⟨g, 0, none⟩ xs.length cap cells hl1 (by simpa using holds)) y ys.length news hs (by omega) h63 (growslice_fits (by omega) hroom)
        obtain ⟨E', hw, hsr⟩ := moved cap (by omega)
        refine ⟨_, E', ?_, hsr⟩
        rw [hw, List.length_append]
        exact hr
theorem appT_did {b : Array Value} (h : SR N w0 S0 E st b) {t ty u e : TypeId} {i : TypeInfo} {z : Value} (ht : P.underlying t = some (.slice e)) (hi : P.info? e = some i) (hz : i.zero = some z) (hzs : z.cells.size = i.size) (hsz : 0 < i.size) (hby : 0 < i.bytes)
    {A : Option Addr} {len : Nat} {xs : List T} (hv : Rep E.S E.w (.slice A len len) (.slice i.size xs)) {y : Value} {ys : List T} {news : List Value} (hsy : SrcR P E y i.size ys news) (hk : (∃ e', P.underlying u = some (.slice e')) ∨ P.underlying u = some .string) (hroom : (xs.length + ys.length) * i.bytes ≤ 140737488355328) :
    ∃ (v' : Value) (E' : Env), (Builtin.append_ #[t, u] ty #[.slice A len len, y]).run P E.w = .ok v' E'.w ∧ SR N w0 S0 E' st b ∧ Rep E'.S E'.w v' (.slice i.size (xs ++ ys)) := by
  have hs := hsy.src' hk
  have hl2 : news.length = ys.length * i.size := by rw [hsy.len, flat_len hsy.uni]
  by_cases hm : ys.length = 0
  · have hy0 : ys = [] := List.eq_nil_of_length_eq_zero hm
    subst hy0
    have hn0 : news = [] := List.eq_nil_of_length_eq_zero (by simpa using hsy.len)
    subst hn0
    exact ⟨_, E, Go.run_append_nothing E.w t u ty e i ht hi A len len (Nat.le_refl _) y hs, h, by rw [List.append_nil]; exact hv⟩
  · have hle : xs.length + ys.length ≤ 140737488355328 := Nat.le_trans (Nat.le_mul_of_pos_right _ hby) hroom
    have hv0 := hv
    cases hv with
    | slice _ b0 off _ _ _ _ g hlen hc hu h1 ha hg hrep =>
    subst hlen
    have hl1 := flat_len hu
    have get : ∀ j v, ((List.range (xs.flatMap T.cells).length).map g)[j]? = some v → j < (xs.flatMap T.cells).length ∧ g j = v := fun j v hj => by
      have hlt : j < (xs.flatMap T.cells).length := by simpa using (List.getElem?_eq_some_iff.1 hj).1
      rw [List.getElem?_map, List.getElem?_range hlt] at hj
      exact ⟨hlt, by simpa using hj⟩
    let olds : List Value := (List.range (xs.flatMap T.cells).length).map g
    have hol : olds.length = xs.length * i.size := by simp [olds, hl1]
    have hold : (Builtin.firstCells i.size xs.length (.slice A xs.length xs.length)).run P E.w.drew = .ok olds.toArray E.w.drew := by
      by_cases h0 : xs.length = 0
      · have ho0 : olds = [] := List.eq_nil_of_length_eq_zero (by rw [hol, h0, Nat.zero_mul])
        rw [ho0, h0]
        cases A with
        | none => simp [Builtin.firstCells]
        | some ad => simp [Builtin.firstCells, loadCells, loadCellsFrom]
      · rw [ha (by rw [hl1]; exact Nat.mul_pos (by omega) hsz)]
        refine run_firstCells_some E.w.drew i.size xs.length ⟨b0, off, none⟩ xs.length xs.length olds hol (fun j v hj => ?_)
        obtain ⟨hlt, rfl⟩ := get j v hj
        rw [addr_add]
        simpa using (hg j hlt).1
    have hr := run_append_grow_src (P := P) E.w t u ty e i z ht hi hz A xs.length xs.length olds hold y ys.length news hs (by omega) (by omega) (growslice_fits (by omega) hroom)
    have hge := grownCap_ge E.w (xs.length + ys.length) xs.length e
    generalize hcs : (olds ++ news).toArray ++ Builtin.zeroCells z.cells (grownCap E.w (xs.length + ys.length) xs.length e - (xs.length + ys.length)) = cs at hr
    have hb : Below E.w.heap.size E.w (E.w.drew.alloc (.cells cs e)) := ((Below.refl _ _).drew).alloc (Nat.le_refl _) _
    have h' := h.world hb (fun b o => E.S b o ∨ (E.w.heap.size ≤ b ∧ b < (E.w.drew.alloc (.cells cs e)).heap.size)) (fun b o => ⟨fun hh => hh.elim .inl fun k => .inr ⟨.inr k, k⟩, fun hh => hh.elim .inl fun k => k.1⟩)
    refine ⟨_, { E with w := E.w.drew.alloc (.cells cs e), S := fun b o => E.S b o ∨ (E.w.heap.size ≤ b ∧ b < (E.w.drew.alloc (.cells cs e)).heap.size) }, hr, h', ?_⟩
    have hnew : (E.w.drew.alloc (.cells cs e)).heap[E.w.heap.size]? = some (.cells cs e (0, 0)) := heap_alloc_new E.w.drew _
    have hcat : ((xs ++ ys).flatMap T.cells).length = (olds ++ news).length := by
      rw [List.flatMap_append, List.length_append, List.length_append, hl1, hol, hsy.len]
    have up : ∀ {v : Value} {t : T}, Rep E.S E.w v t → Rep (fun b o => E.S b o ∨ (E.w.heap.size ≤ b ∧ b < (E.w.drew.alloc (.cells cs e)).heap.size)) (E.w.drew.alloc (.cells cs e)) v t := fun hr => hr.mono (fun b o hs => .inl hs) (fun b o hs => Same.of_below hb (h.lt b o hs))
    refine .slice _ E.w.heap.size 0 _ _ _ _ (fun j => (olds ++ news)[j]?.getD undef) (by simp) hge (fun x hx => ?_) (fun t ht => ?_) (fun _ => rfl) (fun j hj => ?_) (fun j t ht => ?_)
    · rcases List.mem_append.1 hx with hx | hx
      · exact hu x hx
      · exact hsy.uni x hx
    · rw [List.flatMap_append] at ht
      rcases List.mem_append.1 ht with ht | ht
      · exact h1 t ht
      · exact hsy.one t ht
    · rw [hcat] at hj
      refine ⟨?_, .inr ⟨Nat.le_refl _, by simp⟩⟩
      rw [Nat.zero_add, cell_of_row _ _ _ _ _ _ hnew, ← hcs, Array.getElem?_append_left (by simpa using hj)]
      simp [List.getElem?_eq_getElem hj]
    · have hj : j < (olds ++ news).length := by rw [← hcat]; exact (List.getElem?_eq_some_iff.1 ht).1
      rw [List.flatMap_append] at ht
      show Rep _ _ ((olds ++ news)[j]?.getD undef) t
      by_cases h2 : j < olds.length
      · rw [List.getElem?_append_left (by omega)] at ht
        rw [List.getElem?_append_left h2]
        have hjx : j < (xs.flatMap T.cells).length := by omega
        have : olds[j]? = some (g j) := by show ((List.range _).map g)[j]? = _; rw [List.getElem?_map, List.getElem?_range hjx]; rfl
        rw [this]
        exact up (hrep j t ht)
      · rw [List.getElem?_append_right (by omega)] at ht
        rw [List.getElem?_append_right (by omega)]
        have e1 : j - (xs.flatMap T.cells).length = j - olds.length := by omega
        rw [e1] at ht
        have hlt : j - olds.length < news.length := by rw [List.length_append] at hj; omega
        rw [List.getElem?_eq_getElem hlt]
        exact up (hsy.rep _ _ t (List.getElem?_eq_getElem hlt) ht)
theorem SR.adoptBox {b : Array Value} (h : SR N w0 S0 E st b) {q g : Nat} (hq : st.bx q = none) (hg : ∀ m, E.live m = true → E.κ m ≠ g) (hρ : ∀ r, E.ρ r ≠ some g) {bx : BX} (hB : BoxR E g bx) :
    SR N w0 S0 { E with κ := upd E.κ q g, live := upd E.live q true } { st with bx := upd st.bx q (some bx) } b := by
  have hdead : E.live q = false := by rw [h.live, hq]; rfl
  have ne : ∀ m, E.live m = true → m ≠ q := fun m hm e => by rw [e, hdead] at hm; cases hm
  have gr : Grow E { E with κ := upd E.κ q g, live := upd E.live q true } :=
    ⟨rfl, fun m hm => ⟨by show upd E.live q true m = true; rw [upd_other _ _ _ _ (ne m hm)]; exact hm, upd_other _ _ _ _ (ne m hm)⟩, fun r k hr => ⟨hr, rfl, fun _ => Iff.rfl⟩, fun _ _ hs => hs, fun _ _ _ => Same.rfl⟩
  refine ⟨h.size, h.base, h.glob, fun m => (h.sl m).grow gr, fun k m => (h.gh k m).grow gr, fun m b' hm => ?_, fun m => ?_, fun m m' hm hm' he => ?_, fun r k hr => ?_, h.rinj, h.lt, h.below, h.s0, h.s1, h.obj, h.cx⟩
  · by_cases hmq : m = q
    · subst hmq
      have hb' : bx = b' := by
        have : upd st.bx m (some bx) m = some b' := hm
        rw [upd_same] at this
        exact Option.some.inj this
      subst hb'
      show BoxR _ (upd E.κ m g m) bx
      rw [upd_same]
      exact hB.grow gr rfl hB.free
    · have hm' : st.bx m = some b' := by
        have : upd st.bx q (some bx) m = some b' := hm
        rwa [upd_other _ _ _ _ hmq] at this
      show BoxR _ (upd E.κ q g m) b'
      rw [upd_other _ _ _ _ hmq]
      have := h.bx m b' hm'
      exact this.grow gr rfl this.free
  · show upd E.live q true m = (upd st.bx q (some bx) m).isSome
    by_cases hmq : m = q
    · subst hmq; rw [upd_same, upd_same]; rfl
    · rw [upd_other _ _ _ _ hmq, upd_other _ _ _ _ hmq]; exact h.live m
  · have hm : upd E.live q true m = true := hm
    have hm' : upd E.live q true m' = true := hm'
    have he : upd E.κ q g m = upd E.κ q g m' := he
    by_cases h1 : m = q <;> by_cases h2 : m' = q
    · rw [h1, h2]
    · subst h1
      rw [upd_other _ _ _ _ h2] at hm'
      rw [upd_same, upd_other _ _ _ _ h2] at he
      exact absurd he.symm (hg m' hm')
    · subst h2
      rw [upd_other _ _ _ _ h1] at hm
      rw [upd_same, upd_other _ _ _ _ h1] at he
      exact absurd he (hg m hm)
    · rw [upd_other _ _ _ _ h1] at hm he
      rw [upd_other _ _ _ _ h2] at hm' he
      exact h.inj m m' hm hm' he
  · obtain ⟨h1, h2, h3⟩ := h.rows r k hr
    refine ⟨h1, h2, fun m hm => ?_⟩
    have hm : upd E.live q true m = true := hm
    show upd E.κ q g m ≠ k
    by_cases hmq : m = q
    · subst hmq; rw [upd_same]; exact fun e => hρ r (e ▸ hr)
    · rw [upd_other _ _ _ _ hmq] at hm ⊢; exact h3 m hm
end
section
variable {P : Program} {N : Nat} {w0 : World} {S0 : Base} {o : Oper} {a : Act} {E : Env} {st : St}
theorem VR.view' {E : Env} (n off len size cap : Nat) {g : Nat} (hl : E.live n = true) (hg : E.κ n = g) (hc : len ≤ cap) : VR E (.slice (some ⟨g, off, none⟩) len cap) (.view n off len size) := by
  subst hg; exact .view n off len size cap hl hc
end
section
variable [Glb] {P : Program} {N : Nat} {w0 : World} {S0 : Base} {o : Oper} {a : Act} {E : Env} {st : St}
theorem appV_did {b : Array Value} (h : SR N w0 S0 E st b) {t ty u e : TypeId} {i : TypeInfo} {z : Value} (ht : P.underlying t = some (.slice e)) (hi : P.info? e = some i) (hz : i.zero = some z) (hby : 0 < i.bytes)
    {A : Option Addr} {y : Value} {ys : List T} {news : List Value} (hsy : SrcR P E y i.size ys news) (hk : (∃ e', P.underlying u = some (.slice e')) ∨ P.underlying u = some .string) (hpos : 0 < ys.length) (hroom : ys.length * i.bytes ≤ 140737488355328) {q : Nat} (hq : st.bx q = none) :
    ∃ (v' : Value) (E' : Env), (Builtin.append_ #[t, u] ty #[.slice A 0 0, y]).run P E.w = .ok v' E'.w ∧ SR N w0 S0 E' { st with bx := upd st.bx q (some (.d (ys.length * i.size) (ys.flatMap T.cells))) } b ∧ VR E' v' (.view q 0 ys.length i.size) := by
  have hs := hsy.src' hk
  have hl2 : news.length = ys.length * i.size := by rw [hsy.len, flat_len hsy.uni]
  have hle : ys.length ≤ 140737488355328 := Nat.le_trans (Nat.le_mul_of_pos_right _ hby) hroom
  have hold : (Builtin.firstCells i.size 0 (.slice A 0 0)).run P E.w.drew = .ok ([] : List Value).toArray E.w.drew := by
    cases A with
    | none => simp [Builtin.firstCells]
    | some ad => simp [Builtin.firstCells, loadCells, loadCellsFrom]
  have hr := run_append_grow_src (P := P) E.w t u ty e i z ht hi hz A 0 0 [] hold y ys.length news hs (by omega) (by omega) (growslice_fits (by omega) (by simpa using hroom))
  have hge := grownCap_ge E.w (0 + ys.length) 0 e
  generalize hcs : (([] : List Value) ++ news).toArray ++ Builtin.zeroCells z.cells (grownCap E.w (0 + ys.length) 0 e - (0 + ys.length)) = cs at hr
  have hb : Below E.w.heap.size E.w (E.w.drew.alloc (.cells cs e)) := ((Below.refl _ _).drew).alloc (Nat.le_refl _) _
  have h' := h.world hb E.S (fun b o => ⟨.inl, fun hh => hh.elim id (·.1)⟩)
  have hnew : (E.w.drew.alloc (.cells cs e)).heap[E.w.heap.size]? = some (.cells cs e (0, 0)) := heap_alloc_new E.w.drew _
  have hB : BoxR { E with w := E.w.drew.alloc (.cells cs e), S := E.S } E.w.heap.size (.d (ys.length * i.size) (ys.flatMap T.cells)) := by
    refine ⟨?_, fun o hS => absurd (h.lt _ o hS) (Nat.lt_irrefl _), _, hnew, .cells cs e _ (.d _ _ (by rw [← hsy.len, hl2]) ?_ fun j x t hx ht => ?_)⟩
    · show E.B ≤ _; rw [h.base]; exact h.below.size
    · rw [← hcs]; simp [hl2]
    · have hj : j < news.length := by rw [hsy.len]; exact (List.getElem?_eq_some_iff.1 ht).1
      rw [← hcs, List.nil_append, Array.getElem?_append_left (by simpa using hj), List.getElem?_toArray] at hx
      exact ⟨(hsy.rep j x t hx ht).mono (fun b o hs => hs) (fun b o hs => Same.of_below hb (h.lt b o hs)), hsy.one t (List.mem_of_getElem? ht)⟩
  have klt : ∀ m, E.live m = true → E.κ m < E.w.heap.size := fun m hm => by
    rw [h.live] at hm
    obtain ⟨b', hb'⟩ := Option.isSome_iff_exists.1 hm
    exact (h.bx m b' hb').lt
  have h2 := h'.adoptBox (q := q) (g := E.w.heap.size) hq (fun m hm => by have := klt m hm; show E.κ m ≠ _; omega) (fun r hr => by
    have := (h.rows r _ hr).2.1; omega) hB
  refine ⟨_, _, hr, h2, ?_⟩
  rw [Nat.zero_add]
  rw [Nat.zero_add] at hge
  exact VR.view' q 0 ys.length i.size _ (upd_same _ _ _) (upd_same _ _ _) hge
end
end Go.DL
end
section
namespace Go.DL
open Go.RowKit
section
variable [Glb] {P : Program} {N : Nat} {w0 : World} {S0 : Base} {o : Oper} {a : Act} {E : Env} {st : St}
end
section
variable {P : Program} {N : Nat} {w0 : World} {S0 : Base} {o : Oper} {a : Act} {E : Env} {st : St}
theorem fillS_imp {sl : Nat → V} {size : Nat} : ∀ {ps : List (Nat × O)} {es ts : List T} {c c' : Prop}, fillS sl size es c ps = some (ts, c') → c' → c
  | [], es, ts, c, c', h, hc => by simp [fillS] at h; rw [h.2]; exact hc
  | (i, x) :: rest, es, ts, c, c', h, hc => by
    unfold fillS at h
    split at h
    · cases h
    · exact (fillS_imp h hc).1
    · cases hb : Nat.beq size 1 with
      | false => rw [hb] at h; cases h
      | true => rw [hb] at h; exact fillS_imp h hc
    · cases h
theorem putL_append {α : Type} (A B : List α) (k n : Nat) (v : List α) : putL (A ++ B) (A.length + k) n v = A ++ putL B k n v := by
  unfold putL
  rw [List.take_length_add_append, Nat.add_assoc, List.drop_length_add_append, List.append_assoc]
theorem flat_set {size : Nat} : ∀ {es : List T} (_ : ∀ x ∈ es, x.cells.length = size) (i : Nat) (t : T) (_ : t.cells.length = size) (_ : i < es.length), (es.set i t).flatMap T.cells = putL (es.flatMap T.cells) (i * size) size t.cells
  | [], _, i, t, _, hi => by simp at hi
  | x :: es, hu, i, t, ht, hi => by
    have hx := hu x (by simp)
    have hes : ∀ y ∈ es, y.cells.length = size := fun y hy => hu y (List.mem_cons_of_mem _ hy)
    cases i with
    | zero =>
      simp only [List.set_cons_zero, List.flatMap_cons, Nat.zero_mul]
      unfold putL
      simp only [List.take_zero, List.nil_append, Nat.zero_add]
      rw [← hx, List.drop_left]
    | succ i =>
      have hi' : i < es.length := by simpa using hi
      have ih := flat_set hes i t ht hi'
      simp only [List.set_cons_succ, List.flatMap_cons, ih]
      rw [← putL_append, hx]
      congr 1
      rw [Nat.add_mul]; omega
theorem fillS_sound (hs : ∀ m, VR E (a.tmps.getD m undef) (st.sl m)) {size : Nat} : ∀ (parts : List (Nat × Operand)) (ps : List (Nat × Nat × O)) (cells : Array Value) (es ts : List T) (c c' : Prop), lowParts (fun i => some (i, 0)) parts = some ps →
      CRep E.S E.w cells.toList (es.flatMap T.cells) → (∀ x ∈ es, x.cells.length = size) → (∀ p ∈ ps, p.1 < es.length) → fillS st.sl size es c (ps.map fun p => (p.1, p.2.2)) = some (ts, c') → c' →
      ∃ cells', Instr.fill (fun i => some (i * size, size)) cells (parts.map fun (i, x) => (i, a.eval x)) = some cells' ∧ CRep E.S E.w cells'.toList (ts.flatMap T.cells) ∧ (∀ x ∈ ts, x.cells.length = size) ∧ ts.length = es.length
  | [], ps, cells, es, ts, c, c', hl, hc, hu, _, hf, _ => by
    simp [lowParts] at hl; subst hl
    simp [fillS] at hf
    exact ⟨cells, rfl, hf.1 ▸ hc, hf.1 ▸ hu, by rw [hf.1]⟩
  | (i, X) :: rest, ps, cells, es, ts, c, c', hl, hc, hu, hb, hf, hc' => by
    obtain ⟨off, sz, y, r, h1, h2, h3, rfl⟩ := lowParts_get rfl hl
    simp only [Option.some.injEq, Prod.mk.injEq] at h1
    obtain ⟨rfl, rfl⟩ := h1
    have he := ev_sound hs h2
    have hi : i < es.length := hb (i, 0, y) (by simp)
    have hb' : ∀ p ∈ r, p.1 < es.length := fun p hp => hb p (List.mem_cons_of_mem _ hp)
    have hfl := flat_len hu
    have hle : i * size + size ≤ (es.flatMap T.cells).length := by
      rw [hfl]
      have : (i + 1) * size ≤ es.length * size := Nat.mul_le_mul_right _ hi
      rw [Nat.add_mul] at this; omega
    have step : ∀ (t : T), CRep E.S E.w (a.eval X).cells.toList t.cells → t.cells.length = size → ∀ c0, fillS st.sl size (es.set i t) c0 (r.map fun p => (p.1, p.2.2)) = some (ts, c') →
        ∃ cells', Instr.fill (fun i => some (i * size, size)) cells (((i, X) :: rest).map fun (i, x) => (i, a.eval x)) = some cells' ∧ CRep E.S E.w cells'.toList (ts.flatMap T.cells) ∧ (∀ x ∈ ts, x.cells.length = size) ∧ ts.length = es.length := fun t hr hlen c0 hf' => by
      have hsz : (a.eval X).cells.size = size := by have := hr.1; simp at this; omega
      have hcl : cells.size = (es.flatMap T.cells).length := by have := hc.1; simpa using this
      have hput : CRep E.S E.w ((a.eval X).cells.zipIdx.foldl (fun (cs : Array Value) (p : Value × Nat) => cs.setIfInBounds (i * size + p.2) p.1) cells).toList ((es.set i t).flatMap T.cells) := by
        rw [arr_fold _ _ _ (by omega), hsz, flat_set hu i t hlen hi]
        exact hc.put hr (by simpa using hsz) (by rw [Array.length_toList]; omega)
      have hu' : ∀ x ∈ es.set i t, x.cells.length = size := fun x hx => by
        rcases List.mem_or_eq_of_mem_set hx with h | h
        · exact hu x h
        · rw [h]; exact hlen
      obtain ⟨cells', g1, g2, g3, g4⟩ := fillS_sound hs rest r _ (es.set i t) ts c0 c' h3 hput hu' (fun p hp => by rw [List.length_set]; exact hb' p hp) hf' hc'
      refine ⟨cells', ?_, g2, g3, by rw [g4, List.length_set]⟩
      simp only [List.map_cons, Instr.fill]
      rw [if_neg (by simp [hsz]; omega)]
      exact g1
    simp only [List.map_cons] at hf
    unfold fillS at hf
    split at hf
    · cases hf
    · rename_i cs ha
      have hr := asT_sound he ha
      obtain ⟨hc1, hc2⟩ := hr.cells (fun ts e => by cases e)
      have himp := fillS_imp hf hc'
      exact step (.agg cs) ⟨by simpa using hc1, fun j x t hx ht => hc2 j x t (by simpa using hx) ht⟩ himp.2 _ hf
    · rename_i t h1' h2' ha
      cases hb1 : Nat.beq size 1 with
      | false => rw [hb1] at hf; cases hf
      | true =>
        rw [hb1] at hf
        have hs1 : size = 1 := Nat.eq_of_beq_eq_true hb1
        subst hs1
        have hr := asT_sound he ha
        have h1 : t.one = true := by
          cases t with
          | agg cs => exact absurd rfl (h2' cs)
          | tup ts => exact absurd rfl (h1' ts)
          | _ => rfl
        refine step t ⟨by rw [hr.cells_one h1, T.cells_one h1]; rfl, fun j x u hx hu => ?_⟩ (by rw [T.cells_one h1]; rfl) _ hf
        rw [hr.cells_one h1] at hx
        rw [T.cells_one h1] at hu
        cases j with
        | zero => simp at hx hu; subst hx; subst hu; exact ⟨hr, h1⟩
        | succ j => simp at hu
    · cases hf
theorem elem0 {zs : List T} {size : Nat} (hl : zs.length = size) (hone : ∀ t ∈ zs, t.one = true) : (cond (Nat.beq size 1) (zs.headD .nil) (.agg zs)).cells = zs := by
  cases hb : Nat.beq size 1 with
  | false => rfl
  | true =>
    have h1 : size = 1 := Nat.eq_of_beq_eq_true hb
    match zs, hl with
    | [z], _ => exact T.cells_one (hone z (by simp))
    | [], hl => simp at hl; omega
    | _ :: _ :: _, hl => simp at hl; omega
theorem flat_replicate {e : T} {zs : List T} (h : e.cells = zs) : ∀ n, (List.replicate n e).flatMap T.cells = (List.replicate n zs).flatten
  | 0 => rfl
  | n + 1 => by rw [List.replicate_succ, List.flatMap_cons, h, List.replicate_succ, List.flatten_cons, flat_replicate h n]
end
section
variable [Glb] {P : Program} {N : Nat} {w0 : World} {S0 : Base} {o : Oper} {a : Act} {E : Env} {st : St}
theorem buildS_did (h : SR N w0 S0 E st a.tmps) {d q : Nat} (hd : d < N) {t e : TypeId} {j : TypeInfo} {n : Nat} {parts : Array (Nat × Operand)} (ho : o.op = .buildSlice t n parts) (ht : P.underlying t = some (.slice e)) (hj : P.info? e = some j) {zs : List T} (hz : zeroT P e = some zs)
    (hsz : 0 < j.size) (hbig : n * j.size ≤ 16777216) {ps : List (Nat × Nat × O)} (hps : lowParts (fun i => some (i, 0)) parts.toList = some ps) (hin : ∀ p ∈ ps, p.1 < n) {es : List T} {c : Prop}
    (hf : fillS st.sl j.size (List.replicate n (cond (Nat.beq j.size 1) (zs.headD .nil) (.agg zs))) True (ps.map fun p => (p.1, p.2.2)) = some (es, c)) (hc : c) :
    ∃ (v' : Value) (E' : Env), (∃ A, v' = .slice A es.length es.length) ∧ (execOp a.eval o).run P E.w = .ok (.value v') E'.w ∧ SR N w0 S0 E' ((st.dg q q).put d (.own q e j.size es)) (a.tmps.setIfInBounds d v') := by
  obtain ⟨i, z, hi, hiz, hisz, hzsz, hrep, tt, htt, htc⟩ := zeroT_spec hz
  rw [hj] at hi
  cases hi
  have hzl : 0 < zs.length := by omega
  have hones : ∀ u ∈ zs, u.one = true := fun u hu => by
    obtain ⟨k, hk⟩ := List.mem_iff_getElem?.1 hu
    have hlt : k < z.cells.size := by have := (List.getElem?_eq_some_iff.1 hk).1; omega
    exact (hrep E.S E.w k z.cells[k] u (by simp [hlt]) hk).2
  have he0 := elem0 hisz.symm hones
  have hflat := flat_replicate he0 n
  let cells0 : Array Value := (Array.range (n * j.size)).map (z.cells[· % z.cells.size]!)
  have hc0 : CRep E.S E.w cells0.toList ((List.replicate n (cond (Nat.beq j.size 1) (zs.headD .nil) (.agg zs))).flatMap T.cells) := by
    rw [hflat]
    have hlen : (List.replicate n zs).flatten.length = n * j.size := by simp [hisz]
    refine ⟨by rw [hlen]; simp [cells0], fun k x u hx hu => ?_⟩
    have hk : k < n * j.size := by rw [← hlen]; exact (List.getElem?_eq_some_iff.1 hu).1
    rw [flatten_get hzl n k (by rw [← hisz]; exact hk)] at hu
    have hmod : k % z.cells.size < z.cells.size := Nat.mod_lt _ (by omega)
    have hx' : z.cells[k % z.cells.size]? = some x := by
      have : cells0.toList[k]? = some (z.cells[k % z.cells.size]!) := by simp [cells0, hk]
      rw [this] at hx
      rw [← hx]
      simp [hmod]
    rw [hzsz] at hx'
    exact hrep E.S E.w _ x u hx' hu
  have hu0 : ∀ x ∈ List.replicate n (cond (Nat.beq j.size 1) (zs.headD .nil) (.agg zs)), x.cells.length = j.size := fun x hx => by
    rw [List.eq_of_mem_replicate hx, he0]; exact hisz.symm
  obtain ⟨cells', g1, g2, g3, g4⟩ := fillS_sound h.sl parts.toList ps cells0 _ es True c hps hc0 hu0 (fun p hp => by rw [List.length_replicate]; exact hin p hp) hf hc
  rw [List.length_replicate] at g4
  have h1 := h.dg q q
  have hnone : (fun x => if x = q ∨ x = q then none else E.ρ x) q = none := by simp
  have hones' : ∀ t ∈ es.flatMap T.cells, t.one = true := fun u hu => by
    obtain ⟨k, hk⟩ := List.mem_iff_getElem?.1 hu
    have hlt : k < cells'.toList.length := by rw [g2.1]; exact (List.getElem?_eq_some_iff.1 hk).1
    exact (g2.2 k _ u (List.getElem?_eq_getElem hlt) hk).2
  have hN : News { E with ρ := fun x => if x = q ∨ x = q then none else E.ρ x } j.size es cells'.toList := ⟨g2.1, fun k x u hx hu => (g2.2 k x u hx hu).1, g3, hones'⟩
  have hcs : cells'.size = n * j.size := by
    have := g2.1
    rw [flat_len g3, g4] at this
    simpa using this
  obtain ⟨E', hw, hsr⟩ := h1.newRow (e := e) (rest := #[]) (cap := n) hd hN hnone (w' := E.w) (.inl rfl) (by rw [g4]; exact Nat.le_refl _) (by unfold maxLen; have : n ≤ n * j.size := Nat.le_mul_of_pos_right _ hsz; omega) (by simpa using hcs)
  refine ⟨_, E', ⟨some ⟨E.w.heap.size, 0, none⟩, by rw [g4]⟩, ?_, hsr⟩
  rw [hw]
  have ptl : (parts.map fun (i, x) => (i, a.eval x)).toList = parts.toList.map fun (i, x) => (i, a.eval x) := by simp
  have g1' : Instr.fill (fun i => some (i * j.size, j.size)) ((Array.range (n * j.size)).map (z.cells[· % z.cells.size]!)) (parts.toList.map fun (i, x) => (i, a.eval x)) = some cells' := g1
  unfold execOp
  simp only [ho, Instr.buildSlice, Sem.run_bind, run_underlying ht, Result.andThen_ok, run_sizeOf hj]
  have hle : ¬ n * j.size > 2 ^ 24 := by simp; omega
  rw [if_neg hle]
  by_cases hne : n * j.size = 0
  · rw [hne] at g1'
    simp only [hne, if_true, Sem.run_bind, Result.andThen_ok, Sem.run_pure, ptl]
    have e0 : ∀ f : Nat → Value, (Array.range 0).map f = #[] := fun f => by simp
    rw [e0] at g1'
    simp only [e0, g1', newRow, Sem.run_bind, run_newObj, Result.andThen_ok, Sem.run_pure, World.alloc_eq, g4]
    simp
  · simp only [zeroValue, typeInfo, hne, if_false, Sem.run_bind, run_program, Result.andThen_ok, hj, Sem.run_pure, hiz, ptl]
    simp only [g1', newRow, Sem.run_bind, run_newObj, Result.andThen_ok, Sem.run_pure, World.alloc_eq, g4]
    simp
def dataSt (st : St) : St := { sl := fun m => match asT (st.sl m) with | some x => .t x | none => .top, bx := fun _ => none }
theorem data_sr (h : SR N w0 S0 E st a.tmps) : SR N E.w { S := E.S } { S := E.S, w := E.w, B := E.w.heap.size, κ := fun _ => 0, ρ := fun _ => none, live := fun _ => false } (dataSt st) a.tmps := by
  refine ⟨h.size, rfl, h.globE, fun m => ?_, fun k m => .top _, fun n b hb => (by cases hb), fun n => rfl, fun n m hn => (by cases hn), fun r g hr => (by cases hr), fun r r' g hr => (by cases hr), h.lt, Below.refl _ _, fun b o h => h, fun b o h => .inl h, fun g o hg => (by cases hg), trivial⟩
  show VR _ _ (match asT (st.sl m) with | some x => V.t x | none => .top)
  cases hx : asT (st.sl m) with
  | none => exact .top _
  | some x =>
    have hr : Rep E.S E.w (a.tmps.getD m undef) x := asT_sound (h.sl m) hx
    exact .t _ _ hr
end
section
variable {P : Program} {N : Nat} {w0 : World} {S0 : Base} {o : Oper} {a : Act} {E : Env} {st : St}
theorem data_asT (x : O) : asT (ev (dataSt st).sl x) = asT (ev st.sl x) := by
  cases x with
  | const t => rfl
  | tmp m =>
    show asT (match asT (st.sl m) with | some x => V.t x | none => .top) = asT (st.sl m)
    cases hx : asT (st.sl m) with
    | none => rfl
    | some x => rfl
theorem data_fillS {size : Nat} : ∀ {ps : List (Nat × O)} {es : List T} {c : Prop}, fillS (dataSt st).sl size es c ps = fillS st.sl size es c ps
  | [], _, _ => rfl
  | (i, x) :: ps, es, c => by
    unfold fillS
    rw [data_asT]
    split
    · rfl
    · rw [data_fillS]
    · rw [data_fillS]
    · rfl
end
section
variable [Glb] {P : Program} {N : Nat} {w0 : World} {S0 : Base} {o : Oper} {a : Act} {E : Env} {st : St}
theorem buildT_did (h : SR N w0 S0 E st a.tmps) {d : Nat} (hd : d < N) {t e : TypeId} {j : TypeInfo} {n : Nat} {parts : Array (Nat × Operand)} (ho : o.op = .buildSlice t n parts) (ht : P.underlying t = some (.slice e)) (hj : P.info? e = some j) {zs : List T} (hz : zeroT P e = some zs)
    (hsz : 0 < j.size) (hbig : n * j.size ≤ 16777216) {ps : List (Nat × Nat × O)} (hps : lowParts (fun i => some (i, 0)) parts.toList = some ps) (hin : ∀ p ∈ ps, p.1 < n) {es : List T} {c : Prop}
    (hf : fillS st.sl j.size (List.replicate n (cond (Nat.beq j.size 1) (zs.headD .nil) (.agg zs))) True (ps.map fun p => (p.1, p.2.2)) = some (es, c)) (hc : c) (hdst : o.dst = some d) :
    Did P N w0 S0 o a E (st.app (some d) { val := .t (.slice j.size es) }) ∧ Did P N w0 S0 o a E (st.app (some d) { val := .full j.size es }) := by
  obtain ⟨v', E', ⟨A, hA⟩, hr, hsr⟩ := buildS_did (d := d) (q := 0) (data_sr h) hd ho ht hj hz hsz hbig hps hin (by rw [data_fillS]; exact hf) hc
  have hv := hsr.sl d
  have hget : (a.tmps.setIfInBounds d v').getD d undef = v' := by
    have : d < a.tmps.size := by rw [h.size]; exact hd
    simp [this]
  rw [hget] at hv
  have hsl : (((dataSt st).dg 0 0).put d (.own 0 e j.size es)).sl d = .own 0 e j.size es := upd_same _ _ _
  rw [hsl] at hv
  have hrep : Rep (fun b o => E.S b o ∨ (E.w.heap.size ≤ b ∧ b < E'.w.heap.size)) E'.w v' (.slice j.size es) := hv.inv_own.rep.mono (fun b o hs => (hsr.s1 b o hs).imp id fun hle => ⟨hle, hsr.lt b o hs⟩) (fun _ _ _ => Same.rfl)
  have hb : Below E.w.heap.size E.w E'.w := hsr.below
  have h' := h.world hb (fun b o => E.S b o ∨ (E.w.heap.size ≤ b ∧ b < E'.w.heap.size)) (fun b o => ⟨fun hh => hh.elim .inl fun k => .inr ⟨.inr k, k⟩, fun hh => hh.elim .inl fun k => k.1⟩)
  refine ⟨⟨_, v', { E with w := E'.w, S := fun b o => E.S b o ∨ (E.w.heap.size ≤ b ∧ b < E'.w.heap.size) }, hr, .inl rfl, ?_⟩, ⟨_, v', { E with w := E'.w, S := fun b o => E.S b o ∨ (E.w.heap.size ≤ b ∧ b < E'.w.heap.size) }, hr, .inl rfl, ?_⟩⟩
  · rw [hdst]
    exact h'.putO (d := some d) hd (.t _ _ hrep)
  · rw [hdst]
    subst hA
    exact h'.putO (d := some d) hd (.full A es.length j.size es hrep)
end
end Go.DL
end
section
namespace Go.DL
open Go.RowKit
section
variable [Glb] {P : Program} {N : Nat} {w0 : World} {S0 : Base} {o : Oper} {a : Act} {E : Env} {st : St}
end
section
variable {P : Program} {N : Nat} {w0 : World} {S0 : Base} {o : Oper} {a : Act} {E : Env} {st : St}
theorem app_t {d : Option Nat} {v : V} {rd : List Nat} : st.app d { val := v, rd := rd } = st.set d v := by cases d <;> rfl
theorem wpR_in {r : EffR} {d : Option Nat} {K : St → Prop} (h : wpR r d st K) : ∃ e, inR r e ∧ K (st.app d e) := by
  cases r with
  | no => exact h.elim
  | yes e => exact ⟨e, rfl, h⟩
  | need c e => exact ⟨e, ⟨h.1, rfl⟩, h.2⟩
  | alt c b f => exact ⟨f b, ⟨h.1, rfl⟩, h.2 b rfl⟩
  | eq c t f => exact ⟨f t, ⟨h.1, rfl⟩, h.2 t rfl⟩
end
section
variable [Glb] {P : Program} {N : Nat} {w0 : World} {S0 : Base} {o : Oper} {a : Act} {E : Env} {st : St}
theorem wpCall_in {f : FuncId} {args : List V} {d : Option Nat} {K : St → Prop} (h : wpCall P f args d st K) : ∃ ts rd r, convs st.bx args = some (ts, rd) ∧ DCalls P f ts r ∧ (rd = [] ∨ r.flat = true) ∧ K (st.set d (.t r)) := by
  unfold wpCall at h
  split at h
  · rename_i ts hc
    obtain ⟨r, h1, h2⟩ := h
    exact ⟨ts, [], r, hc, h1, .inl rfl, h2⟩
  · rename_i ts x xs hc
    obtain ⟨r, h1, h2, h3⟩ := h
    exact ⟨ts, _, r, hc, h1, .inr h2, h3⟩
  · exact h.elim
end
section
variable {P : Program} {N : Nat} {w0 : World} {S0 : Base} {o : Oper} {a : Act} {E : Env} {st : St}
theorem app_m {st : St} {d : Option Nat} {v : V} {m : Nat} {b : BX} : st.app d { val := v, wr := some (m, b) } = ({ st with bx := upd st.bx m (some b) } : St).set d v := by cases d <;> rfl
end
section
variable [Glb] {P : Program} {N : Nat} {w0 : World} {S0 : Base} {o : Oper} {a : Act} {E : Env} {st : St}
theorem wpO_eff {x : DOp} (hx : x.plain = true) {d : Option Nat} {K : St → Prop} (h : wpO P x d st K) : ∃ e, effO P x (st.nm d) st e ∧ K (st.app d e) := by
  have gen : ∀ x : DOp, (wpO P x d st K → wpR (eff x (st.nm d) st.sl st.bx) d st K) → (∀ e, inR (eff x (st.nm d) st.sl st.bx) e → effO P x (st.nm d) st e) → wpO P x d st K → ∃ e, effO P x (st.nm d) st e ∧ K (st.app d e) := fun x h1 h2 h => by
    obtain ⟨e, he, hk⟩ := wpR_in (h1 h)
    exact ⟨e, h2 e he, hk⟩
  cases x with
  | append => cases hx
  | appV => cases hx
  | buildS => cases hx
  | inl => cases hx
  | fcall => cases hx
  | mrng => cases hx
  | mnext => cases hx
  | call f args =>
    obtain ⟨ts, rd, r, h1, h2, h3, h4⟩ := wpCall_in h
    exact ⟨_, ⟨ts, rd, r, h1, h2, h3, rfl⟩, by rw [app_t]; exact h4⟩
  | callv x args =>
    unfold wpO at h
    simp only at h
    split at h
    · rename_i f caps hv
      obtain ⟨ts, rd, r, h1, h2, h3, h4⟩ := wpCall_in h
      exact ⟨_, ⟨f, caps.map .t, by rw [hv]; rfl, ts, rd, r, h1, h2, h3, rfl⟩, by rw [app_t]; exact h4⟩
    · rename_i f caps hv
      obtain ⟨ts, rd, r, h1, h2, h3, h4⟩ := wpCall_in h
      exact ⟨_, ⟨f, caps, by rw [hv]; rfl, ts, rd, r, h1, h2, h3, rfl⟩, by rw [app_t]; exact h4⟩
    · exact h.elim
  | mcall ms f args =>
    obtain ⟨need, fr, m, b, r, h1, h2, h3, h4, h5, h6⟩ := h
    exact ⟨_, ⟨need, fr, m, b, r, h1, h2, h3, h4, h5, rfl⟩, by rw [app_m]; exact h6⟩
  | _ => exact gen _ id (fun _ h => h) h
end
section
variable {P : Program} {N : Nat} {w0 : World} {S0 : Base} {o : Oper} {a : Act} {E : Env} {st : St}
theorem zero_info {e : TypeId} {j : TypeInfo} (hj : P.info? e = some j) {zs : List T} (hz : zeroT P e = some zs) : ∃ z, j.zero = some z ∧ z.cells.size = j.size := by
  obtain ⟨i, z, hi, hiz, h1, h2, _⟩ := zeroT_spec hz
  rw [hj] at hi
  cases hi
  exact ⟨z, hiz, by omega⟩
theorem Owns.nil (r : Nat) (e : TypeId) (size : Nat) : Owns E (.slice none 0 0) r e size [] :=
  ⟨⟨[], World.ownsRow_nil _ _ _ _, rfl, fun i x t hx => by simp at hx⟩, fun x hx => by simp at hx, fun t ht => by simp at ht, fun g hg => by simp [Value.ownBlock] at hg⟩
theorem lowOp_noinl {op : Op} {f : FuncId} {args : List O} (hl : lowOp P op = some (.inl f args)) : False := by
  have no : ∀ {y : DOp}, some y = some (DOp.inl f args) → (match y with | .inl _ _ => true | _ => false) = false → False := fun h1 h2 => by cases h1; cases h2
  cases op with
  | call c =>
    obtain ⟨callee, as, argTypes⟩ := c
    simp only [lowOp, lowCall] at hl
    repeat' (first | exact no hl rfl | (split at hl) | (simp only [cond_eq_ite] at hl) | (cases hl; done))
  | unOp op t X =>
    cases op <;> simp only [lowOp, Option.map_eq_some_iff] at hl <;> first | (obtain ⟨_, _, hl⟩ := hl; cases hl) | cases hl
  | slice t X lo hi mx =>
    cases lo <;> cases hi <;> cases mx <;> simp only [lowOp] at hl <;> repeat' (first | exact no hl rfl | (split at hl) | (simp only [cond_eq_ite] at hl) | (cases hl; done))
  | binOp op t X Y ty =>
    cases op <;> simp only [lowOp] at hl <;> repeat' (first | exact no hl rfl | (split at hl) | (simp only [cond_eq_ite] at hl) | (cases hl; done))
  | _ =>
    simp only [lowOp] at hl
    repeat' (first | exact no hl rfl | (split at hl) | (simp only [cond_eq_ite] at hl) | (simp only [Option.map_eq_some_iff] at hl; obtain ⟨_, _, hl⟩ := hl; cases hl; done) | (cases hl; done))
theorem lowOp_noF {op : Op} {f : FuncId} {args : List O} (hl : lowOp P op = some (.fcall f args)) : False := by
  have no : ∀ {y : DOp}, some y = some (DOp.fcall f args) → (match y with | .fcall _ _ => true | _ => false) = false → False := fun h1 h2 => by cases h1; cases h2
  cases op with
  | call c =>
    obtain ⟨callee, as, argTypes⟩ := c
    simp only [lowOp, lowCall] at hl
    repeat' (first | exact no hl rfl | (split at hl) | (simp only [cond_eq_ite] at hl) | (cases hl; done))
  | unOp op t X =>
    cases op <;> simp only [lowOp, Option.map_eq_some_iff] at hl <;> first | (obtain ⟨_, _, hl⟩ := hl; cases hl) | cases hl
  | slice t X lo hi mx =>
    cases lo <;> cases hi <;> cases mx <;> simp only [lowOp] at hl <;> repeat' (first | exact no hl rfl | (split at hl) | (simp only [cond_eq_ite] at hl) | (cases hl; done))
  | binOp op t X Y ty =>
    cases op <;> simp only [lowOp] at hl <;> repeat' (first | exact no hl rfl | (split at hl) | (simp only [cond_eq_ite] at hl) | (cases hl; done))
  | _ =>
    simp only [lowOp] at hl
    repeat' (first | exact no hl rfl | (split at hl) | (simp only [cond_eq_ite] at hl) | (simp only [Option.map_eq_some_iff] at hl; obtain ⟨_, _, hl⟩ := hl; cases hl; done) | (cases hl; done))
theorem lowOp_noV {op : Op} {size bytes : Nat} {s x : O} (hl : lowOp P op = some (.appV size bytes s x)) : False := by
  have no : ∀ {y : DOp}, some y = some (DOp.appV size bytes s x) → (match y with | .appV _ _ _ _ => true | _ => false) = false → False := fun h1 h2 => by cases h1; cases h2
  cases op with
  | call c =>
    obtain ⟨callee, as, argTypes⟩ := c
    simp only [lowOp, lowCall] at hl
    repeat' (first | exact no hl rfl | (split at hl) | (simp only [cond_eq_ite] at hl) | (cases hl; done))
  | unOp op t X =>
    cases op <;> simp only [lowOp, Option.map_eq_some_iff] at hl <;> first | (obtain ⟨_, _, hl⟩ := hl; cases hl) | cases hl
  | slice t X lo hi mx =>
    cases lo <;> cases hi <;> cases mx <;> simp only [lowOp] at hl <;> repeat' (first | exact no hl rfl | (split at hl) | (simp only [cond_eq_ite] at hl) | (cases hl; done))
  | binOp op t X Y ty =>
    cases op <;> simp only [lowOp] at hl <;> repeat' (first | exact no hl rfl | (split at hl) | (simp only [cond_eq_ite] at hl) | (cases hl; done))
  | _ =>
    simp only [lowOp] at hl
    repeat' (first | exact no hl rfl | (split at hl) | (simp only [cond_eq_ite] at hl) | (simp only [Option.map_eq_some_iff] at hl; obtain ⟨_, _, hl⟩ := hl; cases hl; done) | (cases hl; done))
theorem lowOp_buildS {e : TypeId} {size n : Nat} {zs : List T} {parts : List (Nat × O)} (hl : lowOp P o.op = some (.buildS e size n zs parts)) : ∃ t ps j, o.op = .buildSlice t n ps ∧ P.underlying t = some (.slice e) ∧ P.info? e = some j ∧ zeroT P e = some zs ∧ size = j.size ∧ 0 < j.size ∧ n * j.size ≤ 16777216 ∧ ∃ qs, lowParts (fun i => some (i, 0)) ps.toList = some qs ∧ (∀ p ∈ qs, p.1 < n) ∧ parts = qs.map fun p => (p.1, p.2.2) := by
  have no : ∀ {y : DOp}, some y = some (DOp.buildS e size n zs parts) → y.plain = true → False := fun h1 h2 => by cases h1; cases h2
  have noA : ∀ {t e' s b X Y}, some (DOp.append t e' s b X Y) = some (DOp.buildS e size n zs parts) → False := fun h1 => by cases h1
  cases ho : o.op with
  | buildSlice t n' ps =>
    rw [ho] at hl
    simp only [lowOp] at hl
    split at hl
    · rename_i e' hu
      split at hl
      · rename_i j zs' de hj hz hud
        split at hl
        · rename_i qs hq
          simp only [cond_eq_ite] at hl
          split at hl
          · rename_i hc
            simp only [Bool.and_eq_true, List.all_eq_true] at hc
            cases hl
            have lt : ∀ {n}, Nat.blt 0 n = true → 0 < n := fun h => Nat.lt_of_lt_of_le (Nat.lt_succ_self 0) (Nat.le_of_ble_eq_true h)
            exact ⟨t, ps, j, rfl, hu, hj, hz, rfl, lt hc.1.1.2, Nat.le_of_ble_eq_true hc.1.1.1, qs, hq, fun p hp => Nat.le_of_ble_eq_true (hc.2 p hp), rfl⟩
          · cases hl
        · cases hl
      · cases hl
    · cases hl
  | call c =>
    exfalso
    rw [ho] at hl
    simp only [lowOp, lowCall] at hl
    repeat' (first | exact no hl rfl | exact noA hl | (split at hl) | (simp only [cond_eq_ite] at hl) | (cases hl; done))
  | unOp op t' X =>
    exfalso
    rw [ho] at hl
    cases op <;> simp only [lowOp, Option.map_eq_some_iff] at hl <;> first | (obtain ⟨_, _, hl⟩ := hl; cases hl) | cases hl
  | slice t' X lo hi mx =>
    exfalso
    rw [ho] at hl
    cases lo <;> cases hi <;> cases mx <;> simp only [lowOp] at hl <;> repeat' (first | exact no hl rfl | (split at hl) | (simp only [cond_eq_ite] at hl) | (cases hl; done))
  | binOp op t' X Y ty =>
    exfalso
    rw [ho] at hl
    cases op <;> simp only [lowOp] at hl <;> repeat' (first | exact no hl rfl | (split at hl) | (simp only [cond_eq_ite] at hl) | (cases hl; done))
  | _ =>
    exfalso
    rw [ho] at hl
    simp only [lowOp] at hl
    repeat' (first | exact no hl rfl | (split at hl) | (simp only [cond_eq_ite] at hl) | (simp only [Option.map_eq_some_iff] at hl; obtain ⟨_, _, hl⟩ := hl; cases hl; done) | (cases hl; done))
end
section
variable [Glb] {P : Program} {N : Nat} {w0 : World} {S0 : Base} {o : Oper} {a : Act} {E : Env} {st : St}
theorem effO_did (h : SR N w0 S0 E st a.tmps) (hd : okDst N o.dst) {x : DOp} (hl : lowOp P o.op = some x) (hx : x.isCall = false) {e : Eff} (he : effO P x (st.nm o.dst) st e) : Did P N w0 S0 o a E (st.app o.dst e) := by
  have plain : inR (eff x (st.nm o.dst) st.sl st.bx) e → Did P N w0 S0 o a E (st.app o.dst e) := fun hi => by
    have hs := eff_sound h hd hl
    cases hr : eff x (st.nm o.dst) st.sl st.bx with
    | no => rw [hr] at hi; exact hi.elim
    | yes e0 => rw [hr] at hi hs; cases hi; exact hs
    | need c e0 => rw [hr] at hi hs; obtain ⟨hc, rfl⟩ := hi; exact hs hc
    | alt c b f => rw [hr] at hi hs; obtain ⟨hc, rfl⟩ := hi; exact hs hc
    | eq c t f => rw [hr] at hi hs; obtain ⟨hc, rfl⟩ := hi; exact hs hc
  cases x with
  | call f args => cases hx
  | callv y args => cases hx
  | mcall ms f args => exact (lowOp_noM hl).elim
  | _ => exact plain he
end
section
variable {P : Program} {N : Nat} {w0 : World} {S0 : Base} {o : Oper} {a : Act} {E : Env} {st : St}
theorem lowOp_mrng {op : Op} {m : O} (hl : lowOp P op = some (.mrng m)) : ∃ t kt e X, op = .range t X ∧ P.underlying t = some (.map kt e) ∧ lowO X = some m := by
  cases op with
  | range t X =>
    simp only [lowOp] at hl
    split at hl
    · rename_i kt e y hu hy; cases hl; exact ⟨t, kt, e, X, rfl, hu, hy⟩
    · cases hl
  | next X b => cases b <;> simp only [lowOp, cond_false, cond_true, Option.map_eq_some_iff] at hl <;> first | (cases hl; done) | (obtain ⟨_, _, hl⟩ := hl; cases hl)
  | call c =>
    exfalso
    obtain ⟨callee, as, argTypes⟩ := c
    simp only [lowOp, lowCall] at hl
    repeat' (first | (split at hl) | (simp only [cond_eq_ite] at hl) | (cases hl; done))
  | unOp op t' X =>
    exfalso
    cases op <;> simp only [lowOp, Option.map_eq_some_iff] at hl <;> first | (obtain ⟨_, _, hl⟩ := hl; cases hl) | cases hl
  | slice t' X lo hi mx =>
    exfalso
    cases lo <;> cases hi <;> cases mx <;> simp only [lowOp] at hl <;> repeat' (first | (split at hl) | (simp only [cond_eq_ite] at hl) | (cases hl; done))
  | binOp op t' X Y ty =>
    exfalso
    cases op <;> simp only [lowOp] at hl <;> repeat' (first | (split at hl) | (simp only [cond_eq_ite] at hl) | (cases hl; done))
  | _ =>
    exfalso
    simp only [lowOp] at hl
    repeat' (first | (split at hl) | (simp only [cond_eq_ite] at hl) | (simp only [Option.map_eq_some_iff] at hl; obtain ⟨_, _, hl⟩ := hl; cases hl; done) | (cases hl; done))
theorem lowOp_mnext {op : Op} {m : O} (hl : lowOp P op = some (.mnext m)) : ∃ X, op = .next X false ∧ lowO X = some m := by
  cases op with
  | next X b =>
    cases b with
    | true => cases hl
    | false =>
      simp only [lowOp, cond_false, Option.map_eq_some_iff] at hl
      obtain ⟨y, hy, hl⟩ := hl
      cases hl
      exact ⟨X, rfl, hy⟩
  | call c =>
    exfalso
    obtain ⟨callee, as, argTypes⟩ := c
    simp only [lowOp, lowCall] at hl
    repeat' (first | (split at hl) | (simp only [cond_eq_ite] at hl) | (cases hl; done))
  | unOp op t' X =>
    exfalso
    cases op <;> simp only [lowOp, Option.map_eq_some_iff] at hl <;> first | (obtain ⟨_, _, hl⟩ := hl; cases hl) | cases hl
  | slice t' X lo hi mx =>
    exfalso
    cases lo <;> cases hi <;> cases mx <;> simp only [lowOp] at hl <;> repeat' (first | (split at hl) | (simp only [cond_eq_ite] at hl) | (cases hl; done))
  | binOp op t' X Y ty =>
    exfalso
    cases op <;> simp only [lowOp] at hl <;> repeat' (first | (split at hl) | (simp only [cond_eq_ite] at hl) | (cases hl; done))
  | _ =>
    exfalso
    simp only [lowOp] at hl
    repeat' (first | (split at hl) | (simp only [cond_eq_ite] at hl) | (simp only [Option.map_eq_some_iff] at hl; obtain ⟨_, _, hl⟩ := hl; cases hl; done) | (cases hl; done))
end
section
variable [Glb] {P : Program} {N : Nat} {w0 : World} {S0 : Base} {o : Oper} {a : Act} {E : Env} {st : St}
theorem mrng_did (h : SR N w0 S0 E st a.tmps) (hd : okDst N o.dst) {m : O} (hl : lowOp P o.op = some (.mrng m)) {K : St → Prop} (hw : wpO P (.mrng m) o.dst st K) : ∃ st', K st' ∧ Did P N w0 S0 o a E st' := by
  obtain ⟨t, kt, e, X, ho, hu, hX⟩ := lowOp_mrng hl
  have hv := ev_sound h.sl hX
  unfold wpO at hw
  cases hdst : o.dst with
  | none => rw [hdst] at hw; exact hw.elim
  | some d =>
    rw [hdst] at hw hd
    simp only at hw
    cases hm : ev st.sl m with
    | mp b =>
      rw [hm] at hw hv
      simp only at hw
      obtain ⟨hM, hlv⟩ := hv.inv_mp
      split at hw
      · rename_i ag sh es mb hb hn
        obtain ⟨arr, clock, hg, hR⟩ := (h.bx b _ hb).map
        have hk := hw (arr.toList.map (·.born)) clock (by simp [hR.size]) hR.apart (fun x hx => by
          obtain ⟨y, hy, rfl⟩ := List.mem_map.1 hx
          exact hR.lt y hy)
        refine ⟨_, hk, ?_⟩
        -- the map's box: its entries' times are known now
        have h1 : SR N w0 S0 E { st with bx := upd st.bx b (some (.m ag sh es (some (arr.toList.map (·.born), clock)))) } a.tmps := by
          refine { h with bx := fun n c hn => ?_, live := fun n => ?_ }
          · by_cases hnb : n = b
            · subst hnb
              have : upd st.bx n (some (BX.m ag sh es (some (arr.toList.map (·.born), clock)))) n = some c := hn
              rw [upd_same] at this
              cases this
              have hB := h.bx n _ hb
              exact ⟨hB.old, hB.free, _, hg, .map arr clock ag sh es _ ⟨hR.size, hR.at_, hR.lt, hR.apart, fun p hp => by cases hp; rfl⟩⟩
            · have : upd st.bx b (some (BX.m ag sh es (some (arr.toList.map (·.born), clock)))) n = some c := hn
              rw [upd_other _ _ _ _ hnb] at this
              exact h.bx n c this
          · show E.live n = (upd st.bx b _ n).isSome
            by_cases hnb : n = b
            · subst hnb; rw [upd_same, h.live, hb]; rfl
            · rw [upd_other _ _ _ _ hnb]; exact h.live n
        have hnb : d + st.off ≠ b := fun e => by rw [e, hb] at hn; cases hn
        have hn' : (upd st.bx b (some (BX.m ag sh es (some (arr.toList.map (·.born), clock))))) (d + st.off) = none := by rw [upd_other _ _ _ _ hnb]; exact hn
        have h2 := h1.allocO (n := d + st.off) hn' (.mapIter (some (E.κ b)) clock #[] clock) (.it b (arr.toList.map (·.born)) clock []) (fun E' g => by
            obtain ⟨l1, l2⟩ := g.κ b hlv
            rw [← l2]
            exact ObjR.it b _ clock [] l1) (.pointer (some ⟨E.w.heap.size, 0, none⟩)) (.ptr (d + st.off) 0) (fun E' hk hl => by rw [← hk]; exact .ptr _ _ hl) hd
        refine ⟨.value (.pointer (some ⟨E.w.heap.size, 0, none⟩)), .pointer (some ⟨E.w.heap.size, 0, none⟩), { E with w := E.w.alloc (.mapIter (some (E.κ b)) clock #[] clock), κ := upd E.κ (d + st.off) E.w.heap.size, live := upd E.live (d + st.off) true }, ?_, .inl rfl, ?_⟩
        · unfold execOp
          simp [ho, Instr.range, hM, run_underlying hu, Go.MapKept.run_getObj_map hg]
        · rw [hdst]; exact h2
      · exact hw.elim
    | t x =>
      rw [hm] at hw hv
      cases x with
      | mapd ag sh ks vs =>
        simp only at hw
        split at hw
        · rename_i hn
          have hrep := hv.inv_t
          generalize hM : a.eval X = v at hrep
          cases hrep with
          | mapd g arr clock _ _ _ _ hk hvl hg r1 r2 ok lt apart =>
          have hR : MapR E arr clock ag sh (ks.zip vs) none := ⟨by rw [List.length_zip, hk, hvl]; simp, fun i x e hx he => by
            rw [List.getElem?_zip_eq_some] at he
            exact ⟨r1 i x e.1 hx he.1, r2 i x e.2 hx he.2, ok _ (List.mem_of_getElem? he.1)⟩, lt, apart, fun p hp => by cases hp⟩
          refine ⟨_, hw, .value (.pointer (some ⟨E.w.heap.size, 0, none⟩)), .pointer (some ⟨E.w.heap.size, 0, none⟩), { E with w := E.w.alloc (.mapIter (some g) clock #[] clock), κ := upd E.κ (d + st.off) E.w.heap.size, live := upd E.live (d + st.off) true }, ?_, .inl rfl, ?_⟩
          · unfold execOp
            simp [ho, Instr.range, hM, run_underlying hu, Go.MapKept.run_getObj_map hg.1]
          · rw [hdst]
            exact h.allocO (n := d + st.off) hn (.mapIter (some g) clock #[] clock) (.itd (ks.zip vs) []) (fun E' g' => ObjR.itd g arr clock ag sh _ [] ((g'.cell g 0 hg.2).map _ _ hg.1) (g'.S _ _ hg.2) (hR.grow g')) (.pointer (some ⟨E.w.heap.size, 0, none⟩)) (.ptr (d + st.off) 0) (fun E' hk hl => by rw [← hk]; exact .ptr _ _ hl) hd
        · exact hw.elim
      | _ => exact hw.elim
    | _ => rw [hm] at hw; exact hw.elim
end
section
variable {P : Program} {N : Nat} {w0 : World} {S0 : Base} {o : Oper} {a : Act} {E : Env} {st : St}
theorem run_pick {n : Nat} (hn : 0 < n) (w : World) : ∃ i w', i < n ∧ (choose (.mapNext n)).run P w = .ok i w' ∧ (w' = w ∨ w' = w.drew) := by
  rw [run_choose_drew]
  cases hf : (Question.mapNext n).forced with
  | true => exact ⟨0, w, hn, rfl, .inl rfl⟩
  | false => exact ⟨_, w.drew, Nat.mod_lt _ hn, rfl, .inr rfl⟩
theorem next_core {X : Operand} (ho : o.op = .next X false) {g k : Nat} (hP : a.eval X = .pointer (some ⟨k, 0, none⟩)) {arr : Array MapEntry} {c : Nat} {bs : List Nat} (hbs : bs = arr.toList.map (·.born)) (hnd : bs.Nodup) {ix : List Nat} (hix : ∀ j ∈ ix, j < arr.size)
    (hlt : ∀ x ∈ arr, x.born < c) (hg : E.w.heap[g]? = some (.map arr c)) (hgk : E.w.heap[k]? = some (.mapIter (some g) c (ix.map fun j => bs.getD j 0).toArray c)) :
    ∃ w', (w' = E.w ∨ w' = E.w.drew) ∧ (((∀ j, j < arr.size → j ∈ ix) ∧ (execOp a.eval o).run P E.w = .ok (.value (.tuple #[.bool false])) w') ∨
      ∃ (j : Nat) (x : MapEntry), arr[j]? = some x ∧ ¬ j ∈ ix ∧ (execOp a.eval o).run P E.w = .ok (.value (.tuple #[.bool true, x.key, x.val])) { w' with heap := w'.heap.setIfInBounds k (.mapIter (some g) c ((ix ++ [j]).map fun j => bs.getD j 0).toArray c) }) := by
  have hlen : bs.length = arr.size := by rw [hbs]; simp
  have hseen : ∀ (j : Nat) (x : MapEntry), arr[j]? = some x → ((ix.map fun j => bs.getD j 0).toArray.contains x.born = true ↔ j ∈ ix) := fun j x hx => by
    have hj : bs[j]? = some x.born := by rw [hbs]; simp [hx]
    have hjl : j < bs.length := (List.getElem?_eq_some_iff.1 hj).1
    simp only [List.contains_toArray, List.contains_iff_mem, List.mem_map]
    constructor
    · rintro ⟨i, hi, he⟩
      have hil : i < bs.length := by rw [hlen]; exact hix i hi
      rw [List.getD_eq_getElem?_getD, List.getElem?_eq_getElem hil, Option.getD_some] at he
      have hj' : bs[j] = x.born := by rw [List.getElem?_eq_getElem hjl] at hj; exact Option.some.inj hj
      have := (List.getElem_inj hnd).1 (he.trans hj'.symm)
      exact this ▸ hi
    · intro hi
      exact ⟨j, hi, by rw [List.getD_eq_getElem?_getD, hj]; rfl⟩
  generalize hS : (ix.map fun j => bs.getD j 0).toArray = seen at hseen hgk
  generalize hL : (arr.filter fun e => !seen.contains e.born) = left
  have hsub : ∀ x ∈ left, x ∈ arr ∧ seen.contains x.born = false := fun x hx => by
    rw [← hL, Array.mem_filter] at hx
    exact ⟨hx.1, by simpa using hx.2⟩
  have hold : (left.filter fun x => decide (x.born < c)) = left := Array.filter_eq_self.2 fun x hx => by simpa using hlt x (hsub x hx).1
  have hnew : (left.filter fun x => decide (x.born ≥ c)) = #[] := Array.filter_eq_empty_iff.2 fun x hx => by
    have := hlt x (hsub x hx).1
    simp; omega
  have hgone : (!seen.isEmpty && !arr.isEmpty && arr.all fun x => decide (x.born ≥ c)) = false := by
    cases he : arr.isEmpty with
    | true => simp
    | false =>
      have hpos : 0 < arr.size := by
        rw [Array.isEmpty_eq_false_iff] at he
        exact Array.size_pos_iff.2 he
      have : (arr.all fun x => decide (x.born ≥ c)) = false := by
        rw [Bool.eq_false_iff]
        intro hall
        rw [Array.all_eq_true] at hall
        have h1 := hall 0 hpos
        have h2 := hlt arr[0] (Array.getElem_mem hpos)
        simp at h1; omega
      simp [this]
  have hrun : (execOp a.eval o).run P E.w = ((choose (.mapNext ((if left.isEmpty then #[none] else #[]) ++ left.map some).size)).run P E.w).andThen fun i w' =>
      ((match ((if left.isEmpty then #[none] else #[]) ++ left.map some)[i]? with
      | some (some e) => (do setObj k (.mapIter (some g) c (seen.push e.born) c); pure (.tuple #[.bool true, e.key, e.val]))
      | some none => pure (.tuple #[.bool false])
      | none => stuck "Next: no such candidate" : Sem Value).run P w').andThen fun v w'' => .ok (.value v) w'' := by
    unfold execOp
    simp only [ho, hP, Instr.next, Sem.run_bind, run_getObj_iter hgk, Result.andThen_ok, Go.MapKept.run_getObj_map hg, hgone, hL, hold, hnew]
    simp only [Bool.false_eq_true, if_false, Array.append_empty, Sem.run_bind, Sem.run_pure, Result.andThen_ok]
    cases (choose (.mapNext ((if left.isEmpty = true then #[none] else #[]) ++ left.map some).size)).run P E.w <;> rfl
  have hheap : ∀ w', (w' = E.w ∨ w' = E.w.drew) → w'.heap = E.w.heap := fun w' hw' => by
    rcases hw' with rfl | rfl <;> rfl
  cases hE : left.isEmpty with
  | true =>
    have hleft : left = #[] := Array.isEmpty_iff.1 hE
    rw [hE] at hrun
    simp only [if_true] at hrun
    obtain ⟨i, w', hi, hch, hw'⟩ := run_pick (P := P) (n := (#[none] ++ left.map some).size) (by rw [hleft]; simp) E.w
    have hi0 : i = 0 := by rw [hleft] at hi; simpa using hi
    subst hi0
    rw [hch, hleft] at hrun
    refine ⟨w', hw', .inl ⟨fun j hja => ?_, by rw [hrun]; simp⟩⟩
    by_cases hin : j ∈ ix
    · exact hin
    · exfalso
      have hx := Array.getElem?_eq_getElem hja
      have hns : seen.contains (arr[j]).born = false := by
        rw [Bool.eq_false_iff]
        intro hc
        exact hin ((hseen j _ hx).1 hc)
      have : arr[j] ∈ left := by
        rw [← hL, Array.mem_filter]
        exact ⟨Array.getElem_mem hja, by rw [hns]; rfl⟩
      rw [hleft] at this
      simp at this
  | false =>
    rw [hE] at hrun
    simp only [Bool.false_eq_true, if_false, Array.empty_append] at hrun
    have hpos : 0 < left.size := Array.size_pos_iff.2 (Array.isEmpty_eq_false_iff.1 hE)
    obtain ⟨i, w', hi, hch, hw'⟩ := run_pick (P := P) (n := (left.map some).size) (by simpa using hpos) E.w
    have hi : i < left.size := by simpa using hi
    have hli : (left.map some)[i]? = some (some left[i]) := by simp [hi]
    rw [hch] at hrun
    simp only [Result.andThen_ok, hli] at hrun
    obtain ⟨h1, h2⟩ := hsub left[i] (Array.getElem_mem hi)
    obtain ⟨j, hj⟩ := Array.mem_iff_getElem?.1 h1
    have hjix : ¬ j ∈ ix := fun hh => by
      have := (hseen j _ hj).2 hh
      rw [h2] at this; cases this
    have hbj : bs.getD j 0 = left[i].born := by
      rw [List.getD_eq_getElem?_getD, hbs]; simp [hj]
    have hpush : seen.push left[i].born = ((ix ++ [j]).map fun j => bs.getD j 0).toArray := by
      rw [← hS, ← hbj]; simp
    refine ⟨w', hw', .inr ⟨j, left[i], hj, hjix, ?_⟩⟩
    have hset : (setObj k (.mapIter (some g) c (seen.push left[i].born) c)).run P w' = .ok () { w' with heap := w'.heap.setIfInBounds k (.mapIter (some g) c (seen.push left[i].born) c) } := by
      have : w'.heap[k]? = some (.mapIter (some g) c seen c) := by rw [hheap w' hw']; exact hgk
      simp [setObj, Sem.run, this]
    rw [hrun, ← hpush]
    simp [hset]
end
section
variable [Glb] {P : Program} {N : Nat} {w0 : World} {S0 : Base} {o : Oper} {a : Act} {E : Env} {st : St}
theorem next_end (h : SR N w0 S0 E st a.tmps) {d k : Nat} (hd : d < N) (hdst : o.dst = some d) {B : BX} (hbk : st.bx k = some B) {ob : Obj} (hgk : E.w.heap[E.κ k]? = some ob) {w' : World} (hw' : w' = E.w ∨ w' = E.w.drew) (ob' : Obj) (B' : BX)
    (hB : ∀ E' : Env, Grow { E with w := w' } E' → ObjR E' ob' B') {x : MapEntry} {e : T × T} (hr : Rep E.S E.w x.key e.1 ∧ Rep E.S E.w x.val e.2)
    (hrun : (execOp a.eval o).run P E.w = .ok (.value (.tuple #[.bool true, x.key, x.val])) { w' with heap := w'.heap.setIfInBounds (E.κ k) ob' }) (hnm : ∀ arr c, ob ≠ .map arr c) :
    Did P N w0 S0 o a E { st with sl := upd st.sl d (.t (.tup [.bool true, e.1, e.2])), bx := upd st.bx k (some B') } := by
  have world : SR N w0 S0 { E with w := w' } st a.tmps ∧ w'.heap = E.w.heap := by
    rcases hw' with rfl | rfl
    · exact ⟨h, rfl⟩
    · exact ⟨h.drew, rfl⟩
  refine ⟨.value (.tuple #[.bool true, x.key, x.val]), .tuple #[.bool true, x.key, x.val], { E with w := { w' with heap := w'.heap.setIfInBounds (E.κ k) ob' } }, hrun, .inl rfl, ?_⟩
  rw [hdst]
  have hwr := world.1.writeO hbk ob' B' hB
  refine hwr.put hd (.t _ _ (.tup _ _ rfl fun i' z u hz hu => ?_))
  have up : ∀ {v : Value} {t : T}, Rep E.S E.w v t → Rep E.S { w' with heap := w'.heap.setIfInBounds (E.κ k) ob' } v t := fun hr => hr.mono (fun _ _ h => h) (fun b' o' hs => by
    refine Same.of_block ?_
    have hne : b' ≠ E.κ k := fun e => (h.bx k _ hbk).free o' (e ▸ hs)
    show (w'.heap.setIfInBounds (E.κ k) ob')[b']? = _
    rw [world.2]
    exact (Go.MapKept.heap_set hgk).2 b' hne)
  match i', hz, hu with
  | 0, hz, hu => simp at hz hu; subst hz; subst hu; exact .bool _
  | 1, hz, hu => simp at hz hu; subst hz; subst hu; exact up hr.1
  | 2, hz, hu => simp at hz hu; subst hz; subst hu; exact up hr.2
  | i' + 3, hz, hu => simp at hz
theorem mnext_did (h : SR N w0 S0 E st a.tmps) (hd : okDst N o.dst) {y : O} (hl : lowOp P o.op = some (.mnext y)) {K : St → Prop} (hw : wpO P (.mnext y) o.dst st K) : ∃ st', K st' ∧ Did P N w0 S0 o a E st' := by
  obtain ⟨X, ho, hX⟩ := lowOp_mnext hl
  have hv := ev_sound h.sl hX
  unfold wpO at hw
  cases hdst : o.dst with
  | none => rw [hdst] at hw; exact hw.elim
  | some d =>
    rw [hdst] at hw hd
    simp only at hw
    have over : ∀ {w' : World}, (w' = E.w ∨ w' = E.w.drew) → (execOp a.eval o).run P E.w = .ok (.value (.tuple #[.bool false])) w' → Did P N w0 S0 o a E (st.put d (.t (.tup [.bool false]))) := fun {w'} hw' hrun => by
      have world : SR N w0 S0 { E with w := w' } st a.tmps := by
        rcases hw' with rfl | rfl
        · exact h
        · exact h.drew
      refine ⟨.value (.tuple #[.bool false]), .tuple #[.bool false], { E with w := w' }, hrun, .inl rfl, ?_⟩
      rw [hdst]
      exact world.put hd (.t _ _ (.tup _ _ rfl fun i x u hx hu => by
        cases i with
        | zero => simp at hx hu; subst hx; subst hu; exact .bool _
        | succ i => simp at hx))
    split at hw
    · rename_i k hk
      rw [hk] at hv
      obtain ⟨hP, hlk⟩ := hv.inv_ptr
      split at hw
      · rename_i b bs c ix hbk
        split at hw
        · rename_i ag sh es q hbb
          obtain ⟨hq, hnd, hlt, hlen, hix, hsome, hnone⟩ := hw
          obtain ⟨arr, clock, hg, hR⟩ := (h.bx b _ hbb).map
          have hmb := hR.mb q rfl
          rw [hq] at hmb
          simp only [Prod.mk.injEq] at hmb
          obtain ⟨hbs, rfl⟩ := hmb
          obtain ⟨ob, hgk, hob⟩ := (h.bx k _ hbk).at_
          cases hob with
          | cells _ _ _ hc => cases hc
          | it _ _ _ _ hlb =>
          obtain ⟨w', hw', ⟨hall, hrun⟩ | ⟨j, x, hj, hjix, hrun⟩⟩ := next_core (P := P) (a := a) (E := E) ho hP hbs hnd (fun j hj => by rw [hR.size]; exact hix j hj) (fun x hx => hR.lt x (by simpa using hx)) hg hgk
          · exact ⟨_, hnone fun j hj => hall j (by rw [hR.size]; exact hj), over hw' hrun⟩
          · have hjl : j < es.length := by rw [← hR.size]; exact (Array.getElem?_eq_some_iff.1 hj).1
            have he := List.getElem?_eq_getElem hjl
            have hval := hR.at_ j _ _ hj he
            exact ⟨_, hsome j _ he hjix, next_end h hd hdst hbk hgk hw' _ _ (fun E' g => by
              obtain ⟨l1, l2⟩ := g.κ b hlb
              have l2 : E'.κ b = E.κ b := l2
              rw [← l2]
              exact ObjR.it b bs c (ix ++ [j]) l1) ⟨hval.1, hval.2.1⟩ hrun (fun _ _ e => by cases e)⟩
        · exact hw.elim
      · rename_i es ix hbk
        obtain ⟨hix, hsome, hnone⟩ := hw
        obtain ⟨ob, hgk, hob⟩ := (h.bx k _ hbk).at_
        cases hob with
        | cells _ _ _ hc => cases hc
        | itd g arr c ag sh _ _ hg hS hR =>
        obtain ⟨w', hw', ⟨hall, hrun⟩ | ⟨j, x, hj, hjix, hrun⟩⟩ := next_core (P := P) (a := a) (E := E) ho hP rfl hR.apart (fun j hj => by rw [hR.size]; exact hix j hj) (fun x hx => hR.lt x (by simpa using hx)) hg hgk
        · exact ⟨_, hnone fun j hj => hall j (by rw [hR.size]; exact hj), over hw' hrun⟩
        · have hjl : j < es.length := by rw [← hR.size]; exact (Array.getElem?_eq_some_iff.1 hj).1
          have he := List.getElem?_eq_getElem hjl
          have hval := hR.at_ j _ _ hj he
          have hheap : w'.heap = E.w.heap := by rcases hw' with rfl | rfl <;> rfl
          exact ⟨_, hsome j _ he hjix, next_end h hd hdst hbk hgk hw' _ _ (fun E' g' => by
            have g0 : Grow E { E with w := w' } := ⟨rfl, fun _ hl => ⟨hl, rfl⟩, fun r k hr => ⟨hr, by show w'.heap[_]? = _; rw [hheap], fun _ => Iff.rfl⟩, fun _ _ hs => hs, fun b o hs => Same.of_block (by show w'.heap[_]? = _; rw [hheap])⟩
            have hg1 : ({ E with w := w' } : Env).w.heap[g]? = some (.map arr c) := by show w'.heap[g]? = _; rw [hheap]; exact hg
            exact ObjR.itd g arr c ag sh es (ix ++ [j]) ((g'.cell g 0 hS).map _ _ hg1) (g'.S _ _ hS) ((hR.grow g0).grow g')) ⟨hval.1, hval.2.1⟩ hrun (fun _ _ e => by cases e)⟩
      · exact hw.elim
    · exact hw.elim
end
section
variable {P : Program} {N : Nat} {w0 : World} {S0 : Base} {o : Oper} {a : Act} {E : Env} {st : St}
theorem lowOp_append {t e : TypeId} {size bytes : Nat} {s x : O} (hl : lowOp P o.op = some (.append t e size bytes s x)) :
    ∃ X Y u j z, o.op = .call { callee := .builtin .append, args := #[X, Y], argTypes := #[t, u] } ∧ ((∃ e', P.underlying u = some (.slice e')) ∨ P.underlying u = some .string) ∧ P.underlying t = some (.slice e) ∧ P.info? e = some j ∧ zeroT P e = some z ∧ size = j.size ∧ bytes = j.bytes ∧ 0 < j.size ∧ 0 < j.bytes ∧ lowO X = some s ∧ lowO Y = some x := by
  have no : ∀ {y : DOp}, some y = some (DOp.append t e size bytes s x) → y.plain = true → False := fun h1 h2 => by cases h1; cases h2
  cases ho : o.op with
  | call c =>
    rw [ho] at hl
    obtain ⟨callee, as, argTypes⟩ := c
    simp only [lowOp, lowCall] at hl
    split at hl
    · repeat' (first | exact (no hl rfl).elim | (split at hl) | (simp only [cond_eq_ite] at hl) | (cases hl; done))
    · repeat' (first | exact (no hl rfl).elim | (split at hl) | (simp only [cond_eq_ite] at hl) | (cases hl; done))
    · repeat' (first | exact (no hl rfl).elim | (split at hl) | (simp only [cond_eq_ite] at hl) | (cases hl; done))
    · repeat' (first | exact (no hl rfl).elim | (split at hl) | (simp only [cond_eq_ite] at hl) | (cases hl; done))
    · repeat' (first | exact (no hl rfl).elim | (split at hl) | (simp only [cond_eq_ite] at hl) | (cases hl; done))
    · split at hl
      · rename_i X Y t' u h1 h2
        split at hl
        · rename_i e' s' x' hu hs hx'
          split at hl
          · rename_i j z hj hz
            simp only [cond_eq_ite] at hl
            split at hl
            · rename_i hc
              simp only [Bool.and_eq_true] at hc
              cases hl
              have e1 : as = #[X, Y] := Array.toList_inj.1 (by simpa using h1)
              have hk : (∃ e', P.underlying u = some (.slice e')) ∨ P.underlying u = some .string := by
                rcases Bool.or_eq_true _ _ ▸ hc.1.1 with h | h
                · have e2 : t = u := Nat.eq_of_beq_eq_true h
                  exact .inl ⟨_, e2 ▸ hu⟩
                · unfold isStrT at h
                  split at h
                  · exact .inr (by assumption)
                  · cases h
              have e3 : argTypes = #[t, u] := Array.toList_inj.1 (by simpa using h2)
              subst e1; subst e3
              exact ⟨X, Y, u, j, z, rfl, hk, hu, hj, hz, rfl, rfl, Nat.lt_of_lt_of_le (Nat.lt_succ_self 0) (Nat.le_of_ble_eq_true hc.1.2), Nat.lt_of_lt_of_le (Nat.lt_succ_self 0) (Nat.le_of_ble_eq_true hc.2), hs, hx'⟩
            · cases hl
          · cases hl
        · cases hl
      · cases hl
    · repeat' (first | exact (no hl rfl).elim | (split at hl) | (simp only [cond_eq_ite] at hl) | (cases hl; done))
    · repeat' (first | exact (no hl rfl).elim | (split at hl) | (simp only [cond_eq_ite] at hl) | (cases hl; done))
    · repeat' (first | exact (no hl rfl).elim | (split at hl) | (simp only [cond_eq_ite] at hl) | (cases hl; done))
    · cases hl
  | unOp op t' X =>
    exfalso
    rw [ho] at hl
    cases op <;> simp only [lowOp, Option.map_eq_some_iff] at hl <;> first | (obtain ⟨_, _, hl⟩ := hl; cases hl) | cases hl
  | slice t' X lo hi mx =>
    exfalso
    rw [ho] at hl
    cases lo <;> cases hi <;> cases mx <;> simp only [lowOp] at hl <;> repeat' (first | exact no hl rfl | (split at hl) | (simp only [cond_eq_ite] at hl) | (cases hl; done))
  | binOp op t' X Y ty =>
    exfalso
    rw [ho] at hl
    cases op <;> simp only [lowOp] at hl <;> repeat' (first | exact no hl rfl | (split at hl) | (simp only [cond_eq_ite] at hl) | (cases hl; done))
  | _ =>
    exfalso
    rw [ho] at hl
    simp only [lowOp] at hl
    repeat' (first | exact no hl rfl | (split at hl) | (simp only [cond_eq_ite] at hl) | (simp only [Option.map_eq_some_iff] at hl; obtain ⟨_, _, hl⟩ := hl; cases hl; done) | (cases hl; done))
end
section
variable [Glb] {P : Program} {N : Nat} {w0 : World} {S0 : Base} {o : Oper} {a : Act} {E : Env} {st : St}
theorem wpO_did (h : SR N w0 S0 E st a.tmps) (hd : okDst N o.dst) {x : DOp} (hl : lowOp P o.op = some x) (hcall : x.isCall = false) {K : St → Prop} (hw : wpO P x o.dst st K) : ∃ st', K st' ∧ Did P N w0 S0 o a E st' := by
  by_cases hx : x.plain = true
  · obtain ⟨e, he, hk⟩ := wpO_eff hx hw
    exact ⟨_, hk, effO_did h hd hl hcall he⟩
  · have fin : ∀ (d : Nat) (st' : St), o.dst = some d → (∃ (v' : Value) (E' : Env), (execOp a.eval o).run P E.w = .ok (.value v') E'.w ∧ SR N w0 S0 E' st' (a.tmps.setIfInBounds d v')) → Did P N w0 S0 o a E st' := by
      rintro d st' hdst ⟨v', E', hr, hsr⟩
      exact ⟨_, v', E', hr, .inl rfl, by rw [hdst]; exact hsr⟩
    cases x with
    | append t e size bytes s x =>
      -- the operation is a call of the builtin
      have inv := lowOp_append hl
      obtain ⟨X, Y, u, j, zs, ho, hku, hu, hj, hz, rfl, rfl, hsz, hby, hX, hY⟩ := inv
      obtain ⟨z, hjz, hzs⟩ := zero_info hj hz
      have hvX := ev_sound h.sl hX
      have hvY := ev_sound h.sl hY
      have exec : ∀ (v y v' : Value) (w' : World), a.eval X = v → a.eval Y = y → (Builtin.append_ #[t, u] o.type #[v, y]).run P E.w = .ok v' w' → (execOp a.eval o).run P E.w = .ok (.value v') w' := fun v y v' w' h1 h2 hr =>
        exec_builtin ho (by simp [builtin, h1, h2, hr])
      unfold wpO at hw
      cases hdst : o.dst with
      | none => rw [hdst] at hw; exact hw.elim
      | some d =>
        rw [hdst] at hw hd
        simp only at hw
        have go : ∀ (r : Nat) (xs ys : List T), Owns E (a.eval X) r e j.size xs → (∃ news, SrcR P E (a.eval Y) j.size ys news) → (xs.length + ys.length) * j.bytes ≤ 140737488355328 → K ((st.dg r (d + st.off)).put d (.own (d + st.off) e j.size (xs ++ ys))) →
            ∃ st', K st' ∧ Did P N w0 S0 o a E st' := fun r xs ys hv ⟨news, hy⟩ hroom hk => by
          obtain ⟨v', E', hr, hsr⟩ := append_did (ty := o.type) h hd hu hj hjz hzs hsz hby hv hy hku hroom
          exact ⟨_, hk, fin d _ hdst ⟨v', E', exec _ _ _ _ rfl rfl hr, hsr⟩⟩
        unfold wpAppend at hw
        split at hw
        · rename_i n ys hy
          obtain ⟨hn, hw⟩ := hw
          have hry : ∃ news, SrcR P E (a.eval Y) j.size ys news := by
            rcases hn with rfl | rfl
            · exact srcT_sound h hvY hy hsz
            · exact srcT_empty h hvY hy
          split at hw
          · rename_i hs
            rw [hs] at hvX
            have hX' : a.eval X = .slice none 0 0 := by
              have := hvX.inv_t
              generalize a.eval X = v at this
              cases this; rfl
            exact go (d + st.off) [] ys (by rw [hX']; exact Owns.nil (d + st.off) e j.size) hry (by simpa using hw.1) (by simpa using hw.2)
          · rename_i r e' size' xs hs
            rw [hs] at hvX
            simp only [cond_eq_ite] at hw
            split at hw
            · rename_i hc
              rw [Bool.and_eq_true] at hc
              have h1 : e' = e := Nat.eq_of_beq_eq_true hc.1
              have h2 : size' = j.size := Nat.eq_of_beq_eq_true hc.2
              subst h1; subst h2
              exact go r xs ys hvX.inv_own hry hw.1 hw.2
            · exact hw.elim
          · exact hw.elim
        · rename_i hy
          have hry : ∃ news, SrcR P E (a.eval Y) j.size [] news := srcT_nil h hvY hy
          split at hw
          · rename_i hs
            rw [hs] at hvX
            have hX' : a.eval X = .slice none 0 0 := by
              have := hvX.inv_t
              generalize a.eval X = v at this
              cases this; rfl
            exact go (d + st.off) [] [] (by rw [hX']; exact Owns.nil (d + st.off) e j.size) hry (by simp) (by simpa using hw)
          · rename_i r e' size' xs hs
            rw [hs] at hvX
            simp only [cond_eq_ite] at hw
            split at hw
            · rename_i hc
              rw [Bool.and_eq_true] at hc
              have h1 : e' = e := Nat.eq_of_beq_eq_true hc.1
              have h2 : size' = j.size := Nat.eq_of_beq_eq_true hc.2
              subst h1; subst h2
              exact go r xs [] hvX.inv_own hry (by simpa using hw.1) (by simpa using hw.2)
            · exact hw.elim
          · exact hw.elim
        · exact hw.elim
    | buildS e size n zs parts =>
      have inv := lowOp_buildS hl
      obtain ⟨t, ps, j, ho, hu, hj, hz, rfl, hsz, hbig, qs, hqs, hin, rfl⟩ := inv
      unfold wpO at hw
      cases hdst : o.dst with
      | none => rw [hdst] at hw; exact hw.elim
      | some d =>
        rw [hdst] at hw hd
        simp only at hw
        split at hw
        · rename_i es c hf
          exact ⟨_, hw.2, fin d _ hdst (by obtain ⟨v2, E2, _, q1, q2⟩ := buildS_did h hd ho hu hj hz hsz hbig hqs hin hf hw.1; exact ⟨v2, E2, q1, q2⟩)⟩
        · exact hw.elim
    | inl f args => exact (lowOp_noinl hl).elim
    | appV => exact (lowOp_noV hl).elim
    | fcall f args => exact (lowOp_noF hl).elim
    | mrng m => exact mrng_did h hd hl hw
    | mnext y => exact mnext_did h hd hl hw
    | _ => exact absurd rfl hx
theorem wpO_wp (h : SR N w0 S0 E st a.tmps) (hd : okDst N o.dst) {x : DOp} (hl : lowOp P o.op = some x) {K : St → Prop} (hw : wpO P x o.dst st K) {Q : Exit → Act → World → Prop} : ∃ st', K st' ∧ o.wp P a E.w (Next' N w0 S0 a st') Q := by
  cases hcall : x.isCall with
  | true =>
    have hx : x.plain = true := by cases x <;> first | rfl | cases hcall
    obtain ⟨e, he, hk⟩ := wpO_eff hx hw
    exact ⟨_, hk, effO_wp h hd hl he⟩
  | false =>
    obtain ⟨st', hk, nx, v, E', hr, hnx, hsr⟩ := wpO_did h hd hl hcall hw
    refine ⟨st', hk, ?_⟩
    unfold Oper.wp
    rw [hr]
    rcases hnx with rfl | ⟨rfl, rfl⟩
    · exact ⟨E', rfl, hsr, by cases o.dst <;> rfl⟩
    · exact ⟨E', rfl, hsr, by cases o.dst <;> rfl⟩
end
end Go.DL
end
section
namespace Go.DL
open Go.RowKit
section
variable [Glb] {P : Program} {X : List FuncId} {N : Nat} {w0 : World} {S0 : Base} {o : Oper} {a : Act} {E : Env} {st : St}
end
section
variable {P : Program} {X : List FuncId} {N : Nat} {w0 : World} {S0 : Base} {o : Oper} {a : Act} {E : Env} {st : St}
theorem lowI_inv {ops : Array Oper} {i : DI} (hl : lowI P N X ops o = some i) : (∃ x, lowOp P o.op = some x ∧ i.op = markD X o.dst x) ∧ i.dst = o.dst ∧ okDst N o.dst ∧ i.after = (o.after.toList.filter fun e => Region.binds .any e).map (·.on) ∧
    ((o.guard = none ∧ i.guard = none) ∨ ∃ j want g, o.guard = some (j, want) ∧ (ops[j]?).bind (·.dst) = some g ∧ i.guard = some (g, want) ∧ g < N) := by
  have okd : ∀ {d : Option Nat}, okB N d = true → okDst N d := fun {d} h => by
    cases d with
    | none => trivial
    | some n => exact Nat.le_of_ble_eq_true h
  unfold lowI at hl
  split at hl
  · rename_i d hd
    simp only at hl
    split at hl
    · rename_i hg
      simp only [cond_eq_ite] at hl
      split at hl
      · rename_i hc
        cases hl
        exact ⟨⟨d, hd, rfl⟩, rfl, okd hc, rfl, .inl ⟨hg, rfl⟩⟩
      · cases hl
    · rename_i j want hg
      split at hl
      · rename_i g hj
        simp only [cond_eq_ite] at hl
        split at hl
        · rename_i hc
          cases hl
          rw [Bool.and_eq_true] at hc
          exact ⟨⟨d, hd, rfl⟩, rfl, okd hc.1, rfl, .inr ⟨j, want, g, hg, hj, rfl, Nat.le_of_ble_eq_true hc.2⟩⟩
        · cases hl
      · cases hl
  · cases hl
end
section
variable [Glb] {P : Program} {X : List FuncId} {N : Nat} {w0 : World} {S0 : Base} {o : Oper} {a : Act} {E : Env} {st : St}
theorem klive (h : SR N w0 S0 E st a.tmps) {n : Nat} (hl : E.live n = true) : E.κ n < E.w.heap.size := by
  rw [h.live] at hl
  obtain ⟨b', hb'⟩ := Option.isSome_iff_exists.1 hl
  obtain ⟨_, hg, _⟩ := (h.bx n b' hb').at_
  exact (Array.getElem?_eq_some_iff.1 hg).1
end
section
variable {P : Program} {X : List FuncId} {N : Nat} {w0 : World} {S0 : Base} {o : Oper} {a : Act} {E : Env} {st : St}
theorem pigeon : ∀ (n : Nat) (g : Nat → Nat), (∀ i, i ≤ n → g i < n) → ∃ i j, i < j ∧ j ≤ n ∧ g i = g j
  | 0, g, h => absurd (h 0 (Nat.le_refl 0)) (Nat.not_lt_zero _)
  | n + 1, g, h => by
    by_cases hv : ∃ i, i ≤ n ∧ g i = g (n + 1)
    · obtain ⟨i, hi, he⟩ := hv
      exact ⟨i, n + 1, by omega, Nat.le_refl _, he⟩
    · obtain ⟨i, j, h1, h2, h3⟩ := pigeon n (fun i => if g (n + 1) < g i then g i - 1 else g i) (fun i hi => by
        have a := h i (by omega)
        have b := h (n + 1) (Nat.le_refl _)
        have c : g i ≠ g (n + 1) := fun e => hv ⟨i, hi, e⟩
        split <;> omega)
      refine ⟨i, j, h1, by omega, ?_⟩
      have c1 : g i ≠ g (n + 1) := fun e => hv ⟨i, by omega, e⟩
      have c2 : g j ≠ g (n + 1) := fun e => hv ⟨j, h2, e⟩
      split at h3 <;> split at h3 <;> omega
end
section
variable [Glb] {P : Program} {X : List FuncId} {N : Nat} {w0 : World} {S0 : Base} {o : Oper} {a : Act} {E : Env} {st : St}
theorem SR.spare {b : Array Value} (h : SR N w0 S0 E st b) : ∃ q, E.ρ q = none := by
  apply Classical.byContradiction
  intro hn
  have hs : ∀ q, E.ρ q = some ((E.ρ q).getD 0) := fun q => by
    cases hq : E.ρ q with
    | none => exact absurd ⟨q, hq⟩ hn
    | some g => rfl
  obtain ⟨i, j, h1, _, h3⟩ := pigeon E.w.heap.size (fun q => (E.ρ q).getD 0) (fun i _ => (h.rows i _ (hs i)).2.1)
  have := h.rinj i j _ (hs i) (by rw [h3]; exact hs j)
  omega
theorem SR.adoptRow {b : Array Value} (h : SR N w0 S0 E st b) {q g k : Nat} (hnone : E.ρ q = none) (hg : ∀ m, E.live m = true → E.κ m ≠ g) (hρ : ∀ r, E.ρ r ≠ some g) (hlt : g < E.w.heap.size) (hold : E.B ≤ g) :
    SR N w0 S0 { E with S := fun b o => E.S b o ∨ (b = g ∧ o < k), ρ := upd E.ρ q (some g) } st b := by
  have gr : Grow E { E with S := fun b o => E.S b o ∨ (b = g ∧ o < k), ρ := upd E.ρ q (some g) } := by
    refine ⟨rfl, fun m hm => ⟨hm, rfl⟩, fun r k' hr => ?_, fun b o hs => .inl hs, fun _ _ _ => Same.rfl⟩
    have hrq : r ≠ q := fun e => by rw [e, hnone] at hr; cases hr
    refine ⟨(upd_other _ _ _ _ hrq).trans hr, rfl, fun o => ⟨fun hs => hs.elim id fun hh => absurd (hh.1 ▸ hr) (hρ r), .inl⟩⟩
  refine h.step gr rfl rfl (fun n hl => ⟨rfl, fun o hs => ?_⟩) (fun r k' hr => ?_) (fun r r' k' h1 h2 => ?_) (fun b o hs => ?_) h.below (fun b o hs => ?_) (fun k o _ hk => hk)
  · rcases hs with hs | ⟨hs, _⟩
    · rw [h.live] at hl
      obtain ⟨b', hb'⟩ := Option.isSome_iff_exists.1 hl
      exact (h.bx n b' hb').free o hs
    · exact hg n hl hs
  · have hr : upd E.ρ q (some g) r = some k' := hr
    by_cases hrq : r = q
    · subst hrq
      rw [upd_same] at hr
      cases hr
      exact ⟨hold, hlt, hg⟩
    · rw [upd_other _ _ _ _ hrq] at hr
      exact h.rows r k' hr
  · have h1 : upd E.ρ q (some g) r = some k' := h1
    have h2 : upd E.ρ q (some g) r' = some k' := h2
    by_cases e1 : r = q <;> by_cases e2 : r' = q
    · rw [e1, e2]
    · subst e1
      rw [upd_same] at h1; rw [upd_other _ _ _ _ e2] at h2
      cases h1
      exact absurd h2 (hρ r')
    · subst e2
      rw [upd_same] at h2; rw [upd_other _ _ _ _ e1] at h1
      cases h2
      exact absurd h1 (hρ r)
    · rw [upd_other _ _ _ _ e1] at h1; rw [upd_other _ _ _ _ e2] at h2
      exact h.rinj r r' k' h1 h2
  · rcases hs with hs | ⟨rfl, _⟩
    · exact h.lt b o hs
    · exact hlt
  · rcases hs with hs | ⟨rfl, _⟩
    · exact h.s1 b o hs
    · right; rw [← h.base]; exact hold
theorem fcall_world {f : FuncId} {us : List V} {ts : List T} {rd : List Nat} {e : TypeId} {size : Nat} {xs rest : List T} (hc : convs st.bx us = some (ts, rd)) (hr : FCalls P f ts e size xs rest)
    (h : SR N w0 S0 E st a.tmps) {vs : Array Value} (hlen : vs.size = us.length) (hv : ∀ (i : Nat) (v : Value) (u : V), vs[i]? = some v → us[i]? = some u → VR E v u) :
    Calls P f vs E.w fun en w' => ∃ (v : Value) (us : List Value), en = .returned (valRest v us) ∧ Below E.w.heap.size E.w w' ∧ Fresh E.w w' v e size xs ∧
      us.length = rest.length ∧ (∀ (i : Nat) (u : Value) (t : T), us[i]? = some u → rest[i]? = some t → t.flat = true ∧ Rep (fun _ _ => False) w' u t) ∧ SR N w0 S0 { E with w := w' } st a.tmps := by
  obtain ⟨c1, c2⟩ := convs_sound h.bx hc
  have hlt : ∀ b x, Sx E rd b x → b < E.w.heap.size := by
    rintro b x (h1 | ⟨n, _, hl, rfl⟩)
    · exact h.lt b x h1
    · exact klive h hl
  have hcall := hr.2 (Sx E rd) E.w vs.toList hlt (h.globX rd) (by simp; omega) (fun i v t hvi ht => by
    have hi : i < us.length := by rw [c1]; exact (List.getElem?_eq_some_iff.1 ht).1
    exact c2 i v _ t (hv i v _ (by simpa using hvi) (List.getElem?_eq_getElem hi)) (List.getElem?_eq_getElem hi) ht)
  refine Calls.mono (by simpa using hcall) ?_
  rintro en w' ⟨v, us', rfl, hb, hfr, hl, hrest⟩
  exact ⟨v, us', rfl, hb, hfr, hl, hrest, h.world hb E.S (fun b o => ⟨.inl, fun hh => hh.elim id fun k => k.1⟩)⟩
theorem wpX_wp (h : SR N w0 S0 E st a.tmps) (hd : okDst N o.dst) {x : DOp} (hl : lowOp P o.op = some x) {K : St → Prop} (hw : wpO P (markD X o.dst x) o.dst st K) {Q : Exit → Act → World → Prop} :
    o.wp P a E.w (fun a' w' => ∃ st', K st' ∧ Next' N w0 S0 a st' a' w') Q := by
  have plain : wpO P x o.dst st K → o.wp P a E.w (fun a' w' => ∃ st', K st' ∧ Next' N w0 S0 a st' a' w') Q := fun hw => by
    obtain ⟨st', hk, hh⟩ := wpO_wp h hd hl hw (Q := Q)
    exact Oper.wp_mono (fun a' w' hn => ⟨st', hk, hn⟩) hh
  have did : ∀ {st' : St}, K st' → Did P N w0 S0 o a E st' → o.wp P a E.w (fun a' w' => ∃ st', K st' ∧ Next' N w0 S0 a st' a' w') Q := by
    rintro st' hk ⟨nx, v, E', hr, hnx, hsr⟩
    unfold Oper.wp
    rw [hr]
    rcases hnx with rfl | ⟨rfl, rfl⟩
    · exact ⟨_, hk, E', rfl, hsr, by cases o.dst <;> rfl⟩
    · exact ⟨_, hk, E', rfl, hsr, by cases o.dst <;> rfl⟩
  cases x with
  | call f args =>
    have inl : WC P f (args.map (ev st.sl)) o.dst st K → o.wp P a E.w (fun a' w' => ∃ st', K st' ∧ Next' N w0 S0 a st' a' w') Q := fun hw => by
      obtain ⟨hc, hw⟩ := hw
      obtain ⟨⟨callee, as, argTypes⟩, ho, hl'⟩ := lowOp_call hl rfl
      obtain ⟨rfl, has⟩ := (lowCall_inv hl').1 f args rfl
      obtain ⟨h1, h2⟩ := args_vr h.sl has
      have hex := run_args (E := E) (a := a) (caps := #[]) ho rfl hc
      rw [Array.append_empty] at hex
      have := hw N w0 S0 E a.tmps (as.map a.eval) h (by simp [h1]) h2 (fun n hn => by rw [hn] at hd; exact hd)
      unfold Oper.wp
      rw [hex]
      refine Calls.mono this ?_
      rintro e w' ⟨v, rfl, E', st', rfl, hk, hsr⟩
      refine ⟨st', hk, E', rfl, ?_, by cases o.dst <;> rfl⟩
      cases hdst : o.dst with
      | none => rw [hdst] at hsr; exact hsr
      | some n => rw [hdst] at hsr; exact hsr
    have low : wpO P (markX X (.call f args)) o.dst st K → o.wp P a E.w (fun a' w' => ∃ st', K st' ∧ Next' N w0 S0 a st' a' w') Q := fun hw => by
      have hw : wpO P (cond (X.contains f) (.inl f args) (.call f args)) o.dst st K := hw
      cases hX : X.contains f with
      | false => rw [hX] at hw; exact plain hw
      | true => rw [hX] at hw; exact inl hw
    cases hdst : o.dst with
    | none =>
      rw [hdst] at hw
      exact low (by rw [hdst]; exact hw)
    | some d =>
      have hw' : wpO P (cond (X.contains (3000000 + d)) (.fcall f args) (match mset X d with
          | [] => markX X (.call f args)
          | n :: ns => .mcall (n :: ns) f args)) o.dst st K := by
        rw [hdst] at hw ⊢
        exact hw
      cases hX : X.contains (3000000 + d) with
      | false =>
        rw [hX] at hw'
        cases hM : mset X d with
        | nil => rw [hM] at hw'; exact low hw'
        | cons n ns =>
          rw [hM] at hw'
          obtain ⟨need, fr, m, b, r, h1, h2, h3, _, _, h6⟩ := hw'
          exact inl (h1 o.dst st K h2 h3 h6)
      | true =>
        rw [hX] at hw'
        have hw : wpFcall P f (args.map (ev st.sl)) o.dst st K := hw'
        rw [hdst] at hw
        unfold wpFcall at hw
        simp only at hw
        split at hw
        · rename_i ts rd hc
          obtain ⟨e, size, xs, hF, hk⟩ := hw
          obtain ⟨q, hq⟩ := h.spare
          obtain ⟨⟨callee, as, argTypes⟩, ho, hl'⟩ := lowOp_call hl rfl
          obtain ⟨rfl, has⟩ := (lowCall_inv hl').1 f args rfl
          obtain ⟨h1, h2⟩ := args_vr h.sl has
          have hex := run_args (E := E) (a := a) (caps := #[]) ho rfl hF.1
          rw [Array.append_empty] at hex
          have hd' : okDst N (some d) := by rw [hdst] at hd; exact hd
          have klt : ∀ m, E.live m = true → E.κ m < E.w.heap.size := fun m hm => klive h hm
          have hk := hk q
          unfold Oper.wp
          rw [hex]
          refine Calls.mono (fcall_world (a := a) hc hF h (by simp [h1]) h2) ?_
          rintro en w' ⟨v, us, rfl, hb, hfr, hul, _, h'⟩
          have hus : us = [] := List.eq_nil_of_length_eq_zero hul
          subst hus
          obtain ⟨cells, k1, k2, k3⟩ := hfr.ex
          rcases k1.2 with ⟨rfl, hn⟩ | ⟨g, cap, cur, rfl, hbg, hg, hcap, hm, hs, htk⟩
          · have hx : xs = [] := List.eq_nil_of_length_eq_zero hn
            subst hx
            refine ⟨_, hk, { E with w := w' }, rfl, ?_, by cases o.dst <;> rfl⟩
            rw [hdst]
            exact h'.putO (d := some d) hd' (.own _ _ _ _ _ (Owns.nil _ _ _))
          · have hlt : g < w'.heap.size := (Array.getElem?_eq_some_iff.1 hg).1
            have h2 := h'.adoptRow (q := q) (g := g) (k := (xs.flatMap T.cells).length) hq (fun m hm => by have := klt m hm; show E.κ m ≠ g; omega) (fun r hr => by
              have := (h.rows r g hr).2.1; omega) hlt (by show E.B ≤ g; rw [h.base]; have := h.below.size; omega)
            refine ⟨_, hk, { ({ E with w := w' } : Env) with S := fun b o => E.S b o ∨ (b = g ∧ o < (xs.flatMap T.cells).length), ρ := upd E.ρ q (some g) }, rfl, ?_, by cases o.dst <;> rfl⟩
            rw [hdst]
            refine h2.putO (d := some d) hd' (.own _ _ _ _ _ ⟨⟨cells, ⟨k1.1, .inr ⟨g, cap, cur, rfl, ?_, hg, hcap, hm, hs, htk⟩⟩, k2, fun i x t hx ht => (k3 i x t hx ht).of_flat (hfr.flat t (List.mem_of_getElem? ht))⟩, hfr.uni, hfr.one, fun g' hg' => ?_⟩)
            · show E.B ≤ g; rw [h.base]; have := h.below.size; omega
            · have hg2 : g = g' := Option.some.inj (show some g = some g' from hg')
              subst hg2
              refine ⟨upd_same _ _ _, fun o => ?_⟩
              show (E.S g o ∨ (g = g ∧ o < _)) ↔ _
              exact ⟨fun hh => hh.elim (fun hs => absurd (h.lt g o hs) (by omega)) (·.2), fun hh => .inr ⟨rfl, hh⟩⟩
        · exact hw.elim
  | append t e size bytes s x =>
    cases s with
    | const c => exact plain (by unfold markD at hw; exact hw)
    | tmp k =>
      have hw : wpO P (cond (X.contains (8000000 + k)) (cond (X.contains (9000000 + k)) (.appV size bytes (.tmp k) x) (.appT size bytes (.tmp k) x)) (.append t e size bytes (.tmp k) x)) o.dst st K := by
        unfold markD at hw
        exact hw
      cases hX : X.contains (8000000 + k) with
      | false => rw [hX] at hw; exact plain hw
      | true =>
      cases hX9 : X.contains (9000000 + k) with
      | true =>
        rw [hX, hX9] at hw
        obtain ⟨Xo, Y, u, j, zs, ho, hku, hu, hj, hz, rfl, rfl, hsz, hby, hXo, hY⟩ := lowOp_append hl
        obtain ⟨z, hjz, hzs⟩ := zero_info hj hz
        have hvX := ev_sound h.sl hXo
        have hvY := ev_sound h.sl hY
        have hw : wpO P (.appV j.size j.bytes (.tmp k) x) o.dst st K := hw
        cases hdst : o.dst with
        | none => rw [hdst] at hw; exact hw.elim
        | some d =>
          rw [hdst] at hw
          have hw : wpAppV j.size j.bytes d (d + st.off) (ev st.sl (.tmp k)) (ev st.sl x) st K := hw
          unfold wpAppV at hw
          split at hw
          · rename_i n ys hs hq
            simp only [cond_eq_ite] at hw
            split at hw
            · rename_i hnr
              obtain ⟨⟨rfl, hpos, hroom⟩, hk⟩ := hw
              obtain ⟨news, hsy⟩ := srcT_sound h hvY hs hsz
              have hA : ∃ A, a.eval Xo = .slice A 0 0 := by
                cases hv : ev st.sl (.tmp k) with
                | t y =>
                  rw [hv] at hnr hvX
                  cases y <;> first | exact absurd hnr Bool.false_ne_true | skip
                  have := hvX.inv_t
                  generalize a.eval Xo = v at this
                  cases this; exact ⟨none, rfl⟩
                | full sz xs =>
                  rw [hv] at hnr hvX
                  cases xs with
                  | cons x xs => exact absurd hnr Bool.false_ne_true
                  | nil =>
                    generalize a.eval Xo = v at hvX
                    cases hvX with
                    | full A len _ _ hr =>
                      cases hr with
                      | slice _ _ _ _ _ _ _ _ hlen => cases hlen; exact ⟨A, rfl⟩
                | _ => rw [hv] at hnr; exact absurd hnr Bool.false_ne_true
              obtain ⟨A, hA⟩ := hA
              obtain ⟨v', E', hrun, hsr, hvr⟩ := appV_did (ty := o.type) (t := t) (e := e) (u := u) (A := A) h hu hj hjz hby hsy hku hpos hroom hq
              refine did hk ⟨.value v', v', E', exec_builtin ho ?_, .inl rfl, ?_⟩
              · simp [builtin, hA, hrun]
              · rw [hdst] at hd ⊢
                exact hsr.putO (d := some d) hd hvr
            · exact hw.elim
          · exact hw.elim
      | false =>
        rw [hX, hX9] at hw
        obtain ⟨Xo, Y, u, j, zs, ho, hku, hu, hj, hz, rfl, rfl, hsz, hby, hXo, hY⟩ := lowOp_append hl
        obtain ⟨z, hjz, hzs⟩ := zero_info hj hz
        have hvX := ev_sound h.sl hXo
        have hvY := ev_sound h.sl hY
        have hw : wpR (eff (.appT j.size j.bytes (.tmp k) x) (st.nm o.dst) st.sl st.bx) o.dst st K := hw
        have go : ∀ {A : Option Addr} {len : Nat} {xs ys : List T}, a.eval Xo = .slice A len len → Rep E.S E.w (.slice A len len) (.slice j.size xs) → (∃ news, SrcR P E (a.eval Y) j.size ys news) → (xs.length + ys.length) * j.bytes ≤ 140737488355328 →
            K (st.app o.dst { val := .t (.slice j.size (xs ++ ys)) }) → o.wp P a E.w (fun a' w' => ∃ st', K st' ∧ Next' N w0 S0 a st' a' w') Q := fun hX hr ⟨news, hsy⟩ hroom hk => by
          obtain ⟨v', E', hrun, hsr, hrep⟩ := appT_did (ty := o.type) (t := t) (e := e) (u := u) h hu hj hjz hzs hsz hby hr hsy hku hroom
          refine did hk ⟨.value v', v', E', exec_builtin ho ?_, .inl rfl, ?_⟩
          · simp [builtin, hX, hrun]
          · rw [app_t]; exact hsr.putO hd (.t _ _ hrep)
        have src : ∀ {n : Nat} {ys : List T}, srcT st.bx (ev st.sl x) = some (.slice n ys) → (n = j.size ∨ ys = []) → ∃ news, SrcR P E (a.eval Y) j.size ys news := fun hs hn => by
          rcases hn with rfl | rfl
          · exact srcT_sound h hvY hs hsz
          · exact srcT_empty h hvY hs
        have nilX : ev st.sl (.tmp k) = .t .nil → a.eval Xo = .slice none 0 0 := fun hv => by
          rw [hv] at hvX
          have := hvX.inv_t
          generalize a.eval Xo = v at this
          cases this; rfl
        have nilR : Rep E.S E.w (.slice none 0 0) (.slice j.size []) :=
          .slice none 0 0 0 0 j.size [] (fun _ => undef) rfl (Nat.le_refl _) (fun x hx => by simp at hx) (fun t ht => by simp at ht) (fun hh => by simp at hh) (fun i hi => by simp at hi) (fun i t ht => by simp at ht)
        unfold eff at hw
        simp only at hw
        split at hw
        · rename_i n ys hs
          split at hw
          · rename_i sz xs hv
            simp only [cond_eq_ite] at hw
            split at hw
            · rename_i hb
              have hb := Nat.eq_of_beq_eq_true hb
              subst hb
              obtain ⟨⟨hn, hroom⟩, hk⟩ := hw
              rw [hv] at hvX
              generalize hXv : a.eval Xo = vX at hvX
              cases hvX with
              | full A len _ _ hr => exact go hXv hr (src hs hn) hroom hk
            · exact hw.elim
          · rename_i hv
            obtain ⟨⟨hn, hroom⟩, hk⟩ := hw
            exact go (nilX hv) nilR (src hs hn) (by simpa using hroom) (by simpa using hk)
          · exact hw.elim
        · rename_i hs
          split at hw
          · rename_i sz xs hv
            simp only [cond_eq_ite] at hw
            split at hw
            · rename_i hb
              have hb := Nat.eq_of_beq_eq_true hb
              subst hb
              obtain ⟨hroom, hk⟩ := hw
              rw [hv] at hvX
              generalize hXv : a.eval Xo = vX at hvX
              cases hvX with
              | full A len _ _ hr => exact go (ys := []) hXv hr (srcT_nil h hvY hs) (by simpa using hroom) (by simpa using hk)
            · exact hw.elim
          · rename_i hv
            obtain ⟨_, hk⟩ := hw
            exact go (ys := []) (nilX hv) nilR (srcT_nil h hvY hs) (by simp) (by simpa using hk)
          · exact hw.elim
        · exact hw.elim
  | buildS e size n zs parts =>
    obtain ⟨t, ps, j, ho, hu, hj, hz, rfl, hsz, hbig, qs, hqs, hin, rfl⟩ := lowOp_buildS hl
    have mk : ∀ {es : List T} {c : Prop} {d : Nat}, o.dst = some d → fillS st.sl j.size (List.replicate n (cond (Nat.beq j.size 1) (zs.headD .nil) (.agg zs))) True (qs.map fun p => (p.1, p.2.2)) = some (es, c) → c →
        Did P N w0 S0 o a E (st.app (some d) { val := .t (.slice j.size es) }) ∧ Did P N w0 S0 o a E (st.app (some d) { val := .full j.size es }) := fun hdst hf hc =>
      buildT_did h (by rw [hdst] at hd; exact hd) ho hu hj hz hsz hbig hqs hin hf hc hdst
    have low : wpO P (markX X (.buildS e j.size n zs (qs.map fun p => (p.1, p.2.2)))) o.dst st K → o.wp P a E.w (fun a' w' => ∃ st', K st' ∧ Next' N w0 S0 a st' a' w') Q := fun hw => by
      have hw : wpO P (cond (X.contains 2000000) (.buildT j.size n zs (qs.map fun p => (p.1, p.2.2))) (.buildS e j.size n zs (qs.map fun p => (p.1, p.2.2)))) o.dst st K := hw
      cases hX : X.contains 2000000 with
      | false => rw [hX] at hw; exact plain hw
      | true =>
        rw [hX] at hw
        have hw : wpR (eff (.buildT j.size n zs (qs.map fun p => (p.1, p.2.2))) (st.nm o.dst) st.sl st.bx) o.dst st K := hw
        cases hdst : o.dst with
        | none => rw [hdst] at hw; exact hw.elim
        | some d =>
          rw [hdst] at hw
          simp only [eff, St.nm] at hw
          cases hf : fillS st.sl j.size (List.replicate n (cond (Nat.beq j.size 1) (zs.headD .nil) (.agg zs))) True (qs.map fun p => (p.1, p.2.2)) with
          | none => rw [hf] at hw; exact hw.elim
          | some ec =>
            obtain ⟨es, c⟩ := ec
            rw [hf] at hw
            obtain ⟨hc, hk⟩ := hw
            exact did hk (mk hdst hf hc).1
    cases hdst : o.dst with
    | none =>
      rw [hdst] at hw low
      unfold markD at hw
      exact low hw
    | some d =>
      have hw' : wpO P (cond (X.contains (8000000 + d)) (.buildF j.size n zs (qs.map fun p => (p.1, p.2.2))) (markX X (.buildS e j.size n zs (qs.map fun p => (p.1, p.2.2))))) o.dst st K := by
        rw [hdst] at hw ⊢
        unfold markD at hw
        exact hw
      cases hX : X.contains (8000000 + d) with
      | false => rw [hX] at hw'; exact low hw'
      | true =>
        rw [hX] at hw'
        have hw : wpR (eff (.buildF j.size n zs (qs.map fun p => (p.1, p.2.2))) (st.nm o.dst) st.sl st.bx) o.dst st K := hw'
        rw [hdst] at hw
        simp only [eff, St.nm] at hw
        cases hf : fillS st.sl j.size (List.replicate n (cond (Nat.beq j.size 1) (zs.headD .nil) (.agg zs))) True (qs.map fun p => (p.1, p.2.2)) with
        | none => rw [hf] at hw; exact hw.elim
        | some ec =>
          obtain ⟨es, c⟩ := ec
          rw [hf] at hw
          obtain ⟨hc, hk⟩ := hw
          exact did hk (mk hdst hf hc).2
  | _ => exact plain (by unfold markD at hw; exact hw)
end
section
variable {P : Program} {X : List FuncId} {N : Nat} {w0 : World} {S0 : Base} {o : Oper} {a : Act} {E : Env} {st : St}
theorem skip_vr (E : Env) : VR E undef skipV := .t _ _ (.tup #[] [] rfl (fun i x t hx _ => by simp at hx))
theorem skip_inv {v : Value} (h : VR E v skipV) : v = .tuple #[] := by
  cases h with
  | t _ _ h =>
    cases h with
    | tup cs ts hs _ =>
      have : cs = #[] := by
        cases cs with
        | mk l => cases l with
          | nil => rfl
          | cons a r => simp at hs
      rw [this]
end
section
variable [Glb] {P : Program} {X : List FuncId} {N : Nat} {w0 : World} {S0 : Base} {o : Oper} {a : Act} {E : Env} {st : St}
theorem wpI_wp (h : SR N w0 S0 E st a.tmps) {ops : Array Oper} {k : Nat} (ho : ops[k]? = some o) {i : DI} (hl : lowI P N X ops o = some i) {K : St → Prop} (hw : wpI P i st K) {Q : Exit → Act → World → Prop} :
    wpOp P ops Q k (fun a' w' => ∃ st', K st' ∧ Next' N w0 S0 a st' a' w') a E.w := by
  obtain ⟨⟨x, h1, hx⟩, h2, h3, _, h4⟩ := lowI_inv hl
  have run : wpO P i.op i.dst st K → Region.wanted o (yielded ops a.tmps) = true → wpOp P ops Q k (fun a' w' => ∃ st', K st' ∧ Next' N w0 S0 a st' a' w') a E.w := fun hw hwant => by
    rw [h2, hx] at hw
    unfold wpOp
    simp only [ho, hwant, if_true]
    exact .inl (wpX_wp h h3 h1 hw)
  have skip : K (st.set i.dst skipV) → Region.wanted o (yielded ops a.tmps) = false → wpOp P ops Q k (fun a' w' => ∃ st', K st' ∧ Next' N w0 S0 a st' a' w') a E.w := fun hk hwant => by
    unfold wpOp
    simp only [ho, hwant, Bool.false_eq_true, if_false]
    refine ⟨_, hk, ?_⟩
    rw [h2]
    exact ⟨E, rfl, h.putO h3 (skip_vr E), by cases o.dst <;> rfl⟩
  unfold wpI at hw
  rcases h4 with ⟨hg, hi⟩ | ⟨j, want, g, hg, hj, hi, hlt⟩
  · rw [hi] at hw
    exact run hw (by unfold Region.wanted; rw [hg])
  · rw [hi] at hw
    simp only at hw
    have yl : ∀ b, st.sl g = .t (.bool b) → yielded ops a.tmps j = some b := fun b hb => by
      have hv := h.sl g
      rw [hb] at hv
      have hv := hv.inv_bool
      have hsz : g < a.tmps.size := by rw [h.size]; exact hlt
      have : a.tmps[g]? = some (.bool b) := by
        rw [Array.getElem?_eq_getElem hsz]
        simpa [hsz] using hv
      unfold yielded
      rw [hj]
      simp [this]
    have wn : ∀ b, st.sl g = .t (.bool b) → Region.wanted o (yielded ops a.tmps) = (b == want) := fun b hb => by
      unfold Region.wanted
      rw [hg]
      simp only [yl b hb]
      cases b <;> cases want <;> rfl
    split at hw
    · rename_i b hb
      have hwn := wn b hb
      cases b <;> cases want <;> simp only at hw
      · exact run hw hwn
      · exact skip hw hwn
      · exact skip hw hwn
      · exact run hw hwn
    · rename_i hb
      refine skip hw ?_
      have hv := skip_inv (hb ▸ h.sl g)
      unfold Region.wanted
      rw [hg]
      have : yielded ops a.tmps j = none := by
        have hsz : g < a.tmps.size := by rw [h.size]; exact hlt
        have : a.tmps[g]? = some (.tuple #[]) := by
          rw [Array.getElem?_eq_getElem hsz]
          simpa [hsz] using hv
        unfold yielded
        rw [hj]
        simp [this]
      simp only [this]
      rfl
    · exact hw.elim
end
section
variable {P : Program} {X : List FuncId} {N : Nat} {w0 : World} {S0 : Base} {o : Oper} {a : Act} {E : Env} {st : St}
theorem lowIs_get {ops : Array Oper} : ∀ {l : List Oper} {is : List DI}, lowIs P N X ops l = some is → l.length = is.length ∧ ∀ (k : Nat) (o : Oper), l[k]? = some o → ∃ i, is[k]? = some i ∧ lowI P N X ops o = some i
  | [], is, h => by simp [lowIs] at h; subst h; exact ⟨rfl, fun k o hk => by simp at hk⟩
  | o :: l, is, h => by
    unfold lowIs at h
    split at h
    · rename_i d ds hd hds
      cases h
      obtain ⟨h1, h2⟩ := lowIs_get hds
      refine ⟨by simp [h1], fun k o' hk => ?_⟩
      cases k with
      | zero => simp at hk; subst hk; exact ⟨d, rfl, hd⟩
      | succ k => simp at hk; simpa using h2 k o' hk
    · cases h
end
section
variable [Glb] {P : Program} {X : List FuncId} {N : Nat} {w0 : World} {S0 : Base} {o : Oper} {a : Act} {E : Env} {st : St}
def pick' (is : List DI) (ks : List Nat) : List DI := ks.map fun k => is[k]?.getD default
theorem wpIs_wp {ops : Array Oper} {is : List DI} (hl : lowIs P N X ops ops.toList = some is) {Q : Exit → Act → World → Prop} {K : St → Prop} {ds : List Deferred} (hQ : ∀ a w, EndIs N w0 S0 ds K a w → Q .normal a w) :
    ∀ (ks : List Nat) (_ : ∀ k ∈ ks, k < ops.size) {a : Act} {E : Env} {st : St} (_ : SR N w0 S0 E st a.tmps) (_ : a.defers = ds) (_ : wpIs P (pick' is ks) st K), wpOps P ops Q ks a E.w
  | [], _, a, E, st, h, hd, hw => hQ a E.w ⟨E, st, rfl, h, hd, hw⟩
  | k :: ks, hk, a, E, st, h, hd, hw => by
    have hlt := hk k (by simp)
    have ho : ops[k]? = some ops[k] := Array.getElem?_eq_getElem hlt
    obtain ⟨i, hi, hli⟩ := (lowIs_get hl).2 k _ (Array.getElem?_toList.trans ho)
    have hw' : wpI P i st fun st' => wpIs P (pick' is ks) st' K := by
      have := hw
      unfold pick' at this
      rw [List.map_cons, hi] at this
      exact this
    rw [wpOps_cons]
    refine wpOp_mono ?_ (wpI_wp h ho hli hw' (Q := Q))
    rintro a' w' ⟨st', hk', E', rfl, hsr, hdf⟩
    exact wpIs_wp hl hQ ks (fun k hk' => hk k (List.mem_cons_of_mem _ hk')) hsr (hdf.trans hd) hk'
end
section
variable {P : Program} {X : List FuncId} {N : Nat} {w0 : World} {S0 : Base} {o : Oper} {a : Act} {E : Env} {st : St}
theorem pick_range (is : List DI) : pick' is (List.range is.length) = is := by
  apply List.ext_getElem?
  intro k
  unfold pick'
  by_cases hk : k < is.length
  · simp [hk]
  · simp [hk]
end
section
variable [Glb] {P : Program} {X : List FuncId} {N : Nat} {w0 : World} {S0 : Base} {o : Oper} {a : Act} {E : Env} {st : St}
theorem region_wp (h : SR N w0 S0 E st a.tmps) {ops : Array Oper} {is : List DI} (hl : lowIs P N X ops ops.toList = some is) {Q : Exit → Act → World → Prop} {K : St → Prop} (hQ : ∀ a' w, EndIs N w0 S0 a.defers K a' w → Q .normal a' w)
    (hw : wpIs P is st K) {id : Nat} : (Code.region id ops false).wp P Q a E.w := by
  refine wp_region (wpIs_wp hl hQ _ (fun k hk => by simpa using hk) h rfl ?_)
  have : ops.size = is.length := by simpa using (lowIs_get hl).1
  rw [this, pick_range]
  exact hw
end
end Go.DL
end
section
namespace Go.DL
open Go.RowKit
section
variable [Glb] {P : Program}
end
section
variable {P : Program}
theorem bx12 {v : V} {n : Nat} (h : n ∈ bx1 v) : n ∈ bx2 v := by
  cases v with
  | fn f caps => simp [bx1] at h
  | _ => exact h
theorem bx23 {v : V} {n : Nat} (h : n ∈ bx2 v) : n ∈ bxs v := by
  cases v with
  | fn f caps =>
    obtain ⟨c, h1, h2⟩ := List.mem_flatMap.1 h
    exact List.mem_flatMap.2 ⟨c, h1, bx12 h2⟩
  | _ => exact h
theorem conv1_local {b1 b2 : Nat → Option BX} {v : V} (h : ∀ n ∈ bx1 v, ∀ b, b1 n = some b → b2 n = some b) {r : T × List Nat} (hc : conv1 b1 v = some r) : conv1 b2 v = some r := by
  cases v with
  | ptr n off =>
    simp only [conv1] at hc ⊢
    cases hb : b1 n with
    | none => rw [hb] at hc; cases hc
    | some b => rw [hb] at hc; rw [h n (by simp [bx1]) b hb]; exact hc
  | view n off len size =>
    simp only [conv1] at hc ⊢
    cases hb : b1 n with
    | none => rw [hb] at hc; cases hc
    | some b => rw [hb] at hc; rw [h n (by simp [bx1]) b hb]; exact hc
  | mp n =>
    simp only [conv1] at hc ⊢
    cases hb : b1 n with
    | none => rw [hb] at hc; cases hc
    | some b => rw [hb] at hc; rw [h n (by simp [bx1]) b hb]; exact hc
  | _ => exact hc
theorem convL_local {b1 b2 : Nat → Option BX} : ∀ {vs : List V}, (∀ n ∈ vs.flatMap bx1, ∀ b, b1 n = some b → b2 n = some b) → ∀ {r : List T × List Nat}, convL b1 vs = some r → convL b2 vs = some r
  | [], _, r, hc => hc
  | v :: vs, h, r, hc => by
    unfold convL at hc ⊢
    split at hc
    · rename_i x r1 xs rs hx hxs
      rw [conv1_local (fun n hn => h n (by simp [hn])) hx, convL_local (fun n hn => h n (by simp only [List.flatMap_cons, List.mem_append]; exact .inr hn)) hxs]
      exact hc
    · cases hc
theorem conv_local {b1 b2 : Nat → Option BX} {v : V} (h : ∀ n ∈ bx2 v, ∀ b, b1 n = some b → b2 n = some b) {r : T × List Nat} (hc : conv b1 v = some r) : conv b2 v = some r := by
  cases v with
  | fn f caps =>
    unfold conv at hc ⊢
    simp only at hc ⊢
    split at hc
    · rename_i ts rd hts
      rw [convL_local h hts]
      exact hc
    · cases hc
  | top => exact conv1_local (v := .top) h hc
  | t x => exact conv1_local (v := .t x) h hc
  | ptr n off => exact conv1_local (v := .ptr n off) h hc
  | view n off len size => exact conv1_local (v := .view n off len size) h hc
  | own r e n xs => exact conv1_local (v := .own r e n xs) h hc
  | full n xs => exact conv1_local (v := .full n xs) h hc
  | tup vs => exact conv1_local (v := .tup vs) h hc
  | agv vs => exact conv1_local (v := .agv vs) h hc
  | raw x => exact conv1_local (v := .raw x) h hc
  | mp n => exact conv1_local (v := .mp n) h hc
theorem convs_local {b1 b2 : Nat → Option BX} : ∀ {vs : List V}, (∀ n ∈ vs.flatMap bx2, ∀ b, b1 n = some b → b2 n = some b) → ∀ {r : List T × List Nat}, convs b1 vs = some r → convs b2 vs = some r
  | [], _, r, hc => hc
  | v :: vs, h, r, hc => by
    unfold convs at hc ⊢
    split at hc
    · rename_i x r1 xs rs hx hxs
      rw [conv_local (fun n hn => h n (by simp [hn])) hx, convs_local (fun n hn => h n (by simp only [List.flatMap_cons, List.mem_append]; exact .inr hn)) hxs]
      exact hc
    · cases hc
theorem ev_eq {s1 s2 : Nat → V} {x : O} (h : ∀ m ∈ x.reads, s2 m = s1 m) : ev s2 x = ev s1 x := by
  cases x with
  | tmp n => exact h n (by simp [O.reads])
  | const t => rfl
theorem evs_eq {s1 s2 : Nat → V} : ∀ {xs : List O}, (∀ m ∈ osReads xs, s2 m = s1 m) → xs.map (ev s2) = xs.map (ev s1)
  | [], _ => rfl
  | x :: xs, h => by
    rw [List.map_cons, List.map_cons, ev_eq (fun m hm => h m (by simp [osReads, hm])), evs_eq (fun m hm => h m (by simp [osReads, hm]))]
theorem evo_eq {s1 s2 : Nat → V} {x : Option O} (h : ∀ m ∈ optO x, s2 m = s1 m) : x.map (ev s2) = x.map (ev s1) := by
  cases x with
  | none => rfl
  | some x => rw [Option.map_some, Option.map_some, ev_eq h]
theorem fillT_eq {s1 s2 : Nat → V} : ∀ {ps : List (Nat × Nat × O)} {zs : List T} {c : Prop}, (∀ m ∈ osReads (ps.map (·.2.2)), s2 m = s1 m) → fillT s2 zs c ps = fillT s1 zs c ps
  | [], _, _, _ => rfl
  | (off, size, x) :: ps, zs, c, h => by
    unfold fillT
    rw [ev_eq (s1 := s1) (fun m hm => h m (by simp [osReads, hm]))]
    split
    · rfl
    · rw [fillT_eq fun m hm => h m (by simp [osReads, hm])]
    · rw [fillT_eq fun m hm => h m (by simp [osReads, hm])]
    · rfl
theorem fillV_eq {s1 s2 : Nat → V} : ∀ {ps : List (Nat × Nat × O)} {zs : List V} {c : Prop}, (∀ m ∈ osReads (ps.map (·.2.2)), s2 m = s1 m) → fillV s2 zs c ps = fillV s1 zs c ps
  | [], zs, c, _ => rfl
  | (off, size, x) :: rest, zs, c, h => by
    unfold fillV
    rw [ev_eq (s1 := s1) (fun m hm => h m (by simp [osReads, hm]))]
    have hr : ∀ m ∈ osReads (rest.map (·.2.2)), s2 m = s1 m := fun m hm => h m (by simp [osReads, hm])
    split
    · rfl
    · rw [fillV_eq hr]
    · rfl
    · rfl
    · rfl
    · rw [fillV_eq hr]
theorem fillS_eq {s1 s2 : Nat → V} {size : Nat} : ∀ {ps : List (Nat × O)} {es : List T} {c : Prop}, (∀ m ∈ osReads (ps.map (·.2)), s2 m = s1 m) → fillS s2 size es c ps = fillS s1 size es c ps
  | [], _, _, _ => rfl
  | (i, x) :: ps, es, c, h => by
    unfold fillS
    rw [ev_eq (s1 := s1) (fun m hm => h m (by simp [osReads, hm]))]
    split
    · rfl
    · rw [fillS_eq fun m hm => h m (by simp [osReads, hm])]
    · rw [fillS_eq fun m hm => h m (by simp [osReads, hm])]
    · rfl
theorem mem_bxs_ev {sl : Nat → V} {x : O} {n : Nat} (h : n ∈ bxs (ev sl x)) : ∃ m ∈ x.reads, n ∈ bxs (sl m) := by
  cases x with
  | tmp m => exact ⟨m, by simp [O.reads], h⟩
  | const t => simp [ev, bxs, bx1] at h
theorem mem_bxs_evs {sl : Nat → V} : ∀ {xs : List O} {n : Nat}, n ∈ (xs.map (ev sl)).flatMap bx2 → ∃ m ∈ osReads xs, n ∈ bxs (sl m)
  | [], n, h => by simp at h
  | x :: xs, n, h => by
    simp only [List.map_cons, List.flatMap_cons, List.mem_append] at h
    rcases h with h | h
    · obtain ⟨m, h1, h2⟩ := mem_bxs_ev (bx23 h)
      exact ⟨m, by simp [osReads, h1], h2⟩
    · obtain ⟨m, h1, h2⟩ := mem_bxs_evs h
      exact ⟨m, by simp [osReads, h1], h2⟩
theorem srcT_local {b1 b2 : Nat → Option BX} {v : V} (h : ∀ n ∈ bx1 v, ∀ b, b1 n = some b → b2 n = some b) {r : T} (hc : srcT b1 v = some r) : srcT b2 v = some r := by
  unfold srcT at hc ⊢
  split at hc
  · exact hc
  · split at hc
    · rename_i t rd hq
      rw [conv1_local h hq]
      exact hc
    · cases hc
  · exact hc
end
section
variable [Glb] {P : Program}
theorem effO_local {x : DOp} (hx : x.cls.std = true) {d : Option Nat} {s1 s2 : St} (hs : ∀ m ∈ x.reads, s2.sl m = s1.sl m) (hb : ∀ n ∈ x.tch s1.sl, ∀ b, s1.bx n = some b → s2.bx n = some b)
    (hd : x.cls = .make → ∀ n, d = some n → s1.bx n = none → s2.bx n = none) (hM : x.cls = .mut → s2.bx = s1.bx) {e : Eff} (h : effO P x d s1 e) : effO P x d s2 e := by
  have pure : eff x d s2.sl s2.bx = eff x d s1.sl s1.bx → inR (eff x d s1.sl s1.bx) e → inR (eff x d s2.sl s2.bx) e := fun h1 h2 => by rw [h1]; exact h2
  cases x with
  | append | appV | bad | buildS | inl | fcall | clr | mdel | mclr | mrng | mnext | ment | copy => exact absurd hx Bool.false_ne_true
  | mov x => exact pure (by simp only [eff, ev_eq hs]) h
  | pick c a b =>
    refine pure ?_ h
    simp only [DOp.reads, List.mem_append] at hs
    simp only [eff]
    rw [ev_eq fun m hm => hs m (.inl (.inl hm)), ev_eq fun m hm => hs m (.inl (.inr hm)), ev_eq fun m hm => hs m (.inr hm)]
  | alloc zs =>
    cases d with
    | none => exact h
    | some n =>
      have h : inR (eff (.alloc zs) (some n) s1.sl s1.bx) e := h
      show inR (eff (.alloc zs) (some n) s2.sl s2.bx) e
      simp only [eff] at h ⊢
      cases hb1 : s1.bx n with
      | some c => rw [hb1] at h; exact h.elim
      | none => rw [hd rfl n rfl hb1]; rw [hb1] at h; exact h
  | mkmap ag sh =>
    cases d with
    | none => exact h
    | some n =>
      have h : inR (eff (.mkmap ag sh) (some n) s1.sl s1.bx) e := h
      show inR (eff (.mkmap ag sh) (some n) s2.sl s2.bx) e
      simp only [eff] at h ⊢
      cases hb1 : s1.bx n with
      | some c => rw [hb1] at h; exact h.elim
      | none => rw [hd rfl n rfl hb1]; rw [hb1] at h; exact h
  | mkslice size bytes zs l c =>
    simp only [DOp.reads, List.mem_append] at hs
    have hel := ev_eq (s1 := s1.sl) (s2 := s2.sl) (x := l) fun q hq => hs q (.inl hq)
    have hec := ev_eq (s1 := s1.sl) (s2 := s2.sl) (x := c) fun q hq => hs q (.inr hq)
    cases d with
    | none => exact h
    | some n =>
      have h : inR (eff (.mkslice size bytes zs l c) (some n) s1.sl s1.bx) e := h
      show inR (eff (.mkslice size bytes zs l c) (some n) s2.sl s2.bx) e
      simp only [eff] at h ⊢
      rw [hel, hec]
      cases hb1 : s1.bx n with
      | some c => rw [hb1] at h; exact h.elim
      | none => rw [hd rfl n rfl hb1]; rw [hb1] at h; exact h
  | mlook ag sh z ok m k =>
    simp only [DOp.reads, List.mem_append] at hs
    have hev := ev_eq (s1 := s1.sl) (s2 := s2.sl) (x := m) fun q hq => hs q (.inl hq)
    have hek := ev_eq (s1 := s1.sl) (s2 := s2.sl) (x := k) fun q hq => hs q (.inr hq)
    have h : inR (eff (.mlook ag sh z ok m k) d s1.sl s1.bx) e := h
    show inR (eff (.mlook ag sh z ok m k) d s2.sl s2.bx) e
    simp only [eff] at h ⊢
    rw [hev, hek]
    cases hv : ev s1.sl m with
    | mp b =>
      rw [hv] at h
      simp only at h ⊢
      cases hbx : s1.bx b with
      | none => rw [hbx] at h; exact h.elim
      | some c =>
        rw [hb b (by show b ∈ bx1 (ev s1.sl m); rw [hv]; simp [bx1]) c hbx]
        rw [hbx] at h
        exact h
    | t x => rw [hv] at h; cases x <;> exact h
    | _ => rw [hv] at h; exact h
  | mput ag sh m k v =>
    simp only [DOp.reads, List.mem_append] at hs
    have hev := ev_eq (s1 := s1.sl) (s2 := s2.sl) (x := m) fun q hq => hs q (.inl (.inl hq))
    have hek := ev_eq (s1 := s1.sl) (s2 := s2.sl) (x := k) fun q hq => hs q (.inl (.inr hq))
    have hew := ev_eq (s1 := s1.sl) (s2 := s2.sl) (x := v) fun q hq => hs q (.inr hq)
    have h : inR (eff (.mput ag sh m k v) d s1.sl s1.bx) e := h
    show inR (eff (.mput ag sh m k v) d s2.sl s2.bx) e
    simp only [eff] at h ⊢
    rw [hev, hek, hew]
    cases hv : ev s1.sl m with
    | mp b =>
      rw [hv] at h
      simp only at h ⊢
      cases hbx : s1.bx b with
      | none => rw [hbx] at h; exact h.elim
      | some c =>
        rw [hb b (by show b ∈ bx1 (ev s1.sl m); rw [hv]; simp [bx1]) c hbx]
        rw [hbx] at h
        exact h
    | _ => rw [hv] at h; exact h
  | mlen m =>
    have hev := ev_eq hs
    have h : inR (eff (.mlen m) d s1.sl s1.bx) e := h
    show inR (eff (.mlen m) d s2.sl s2.bx) e
    simp only [eff] at h ⊢
    rw [hev]
    cases hv : ev s1.sl m with
    | mp b =>
      rw [hv] at h
      simp only at h ⊢
      cases hbx : s1.bx b with
      | none => rw [hbx] at h; exact h.elim
      | some c =>
        rw [hb b (by show b ∈ bx1 (ev s1.sl m); rw [hv]; simp [bx1]) c hbx]
        rw [hbx] at h
        exact h
    | t x => rw [hv] at h; cases x <;> exact h
    | _ => rw [hv] at h; exact h
  | box m x =>
    cases d with
    | none => exact h
    | some n =>
      have h : inR (eff (.box m x) (some n) s1.sl s1.bx) e := h
      show inR (eff (.box m x) (some n) s2.sl s2.bx) e
      simp only [eff] at h ⊢
      rw [ev_eq hs]
      cases hb1 : s1.bx n with
      | some c =>
        rw [hb1] at h
        cases hbo : boxOf m (ev s1.sl x) with
        | none => rw [hbo] at h; exact h.elim
        | some q => rw [hbo] at h; exact h.elim
      | none => rw [hd rfl n rfl hb1]; rw [hb1] at h; exact h
  | load n agg a =>
    have hev := ev_eq hs
    have h : inR (eff (.load n agg a) d s1.sl s1.bx) e := h
    show inR (eff (.load n agg a) d s2.sl s2.bx) e
    simp only [eff] at h ⊢
    rw [hev]
    cases hv : ev s1.sl a with
    | ptr b off =>
      rw [hv] at h
      simp only at h ⊢
      cases hbx : s1.bx b with
      | none => rw [hbx] at h; exact h.elim
      | some c =>
        rw [hb b (by show b ∈ bx1 (ev s1.sl a); rw [hv]; simp [bx1]) c hbx]
        rw [hbx] at h
        exact h
    | t x => rw [hv] at h; cases x <;> exact h
    | _ => rw [hv] at h; exact h
  | store n a x =>
    simp only [DOp.reads, List.mem_append] at hs
    have hev := ev_eq (s1 := s1.sl) (s2 := s2.sl) (x := a) fun m hm => hs m (.inl hm)
    have hex := ev_eq (s1 := s1.sl) (s2 := s2.sl) (x := x) fun m hm => hs m (.inr hm)
    have h : inR (eff (.store n a x) d s1.sl s1.bx) e := h
    show inR (eff (.store n a x) d s2.sl s2.bx) e
    simp only [eff] at h ⊢
    rw [hev, hex]
    cases hv : ev s1.sl a with
    | ptr b off =>
      rw [hv] at h
      simp only at h ⊢
      cases hbx : s1.bx b with
      | none => rw [hbx] at h; exact h.elim
      | some c =>
        rw [hb b (by show b ∈ bx1 (ev s1.sl a); rw [hv]; simp [bx1]) c hbx]
        rw [hbx] at h
        exact h
    | _ => rw [hv] at h; exact h
  | offA k x => exact pure (by simp only [eff, ev_eq hs]) h
  | fld off size agg x => exact pure (by simp only [eff, ev_eq hs]) h
  | not x => exact pure (by simp only [eff, ev_eq hs]) h
  | neg x => exact pure (by simp only [eff, ev_eq hs]) h
  | conv k x => exact pure (by simp only [eff, ev_eq hs]) h
  | len x => exact pure (by simp only [eff, ev_eq hs]) h
  | lenS x => exact pure (by simp only [eff, ev_eq hs]) h
  | ext x i => exact pure (by simp only [eff, ev_eq hs]) h
  | nilck x => exact pure (by simp only [eff, ev_eq hs]) h
  | arrP n x => exact pure (by simp only [eff, ev_eq hs]) h
  | isnil k n x => exact pure (by simp only [eff, ev_eq hs]) h
  | cpl x => exact pure (by simp only [eff, ev_eq hs]) h
  | slice3 size x hi mx =>
    simp only [DOp.reads, List.mem_append] at hs
    exact pure (by simp only [eff]; rw [ev_eq fun m hm => hs m (.inl (.inl hm)), ev_eq fun m hm => hs m (.inl (.inr hm)), ev_eq fun m hm => hs m (.inr hm)]) h
  | buildF size n zs ps =>
    have : fillS s2.sl size (List.replicate n (cond (Nat.beq size 1) (zs.headD .nil) (.agg zs))) True ps = fillS s1.sl size (List.replicate n (cond (Nat.beq size 1) (zs.headD .nil) (.agg zs))) True ps := fillS_eq hs
    exact pure (by simp only [eff]; rw [this]) h
  | appT size bytes s x =>
    simp only [DOp.reads, List.mem_append] at hs
    have hes := ev_eq (s1 := s1.sl) (s2 := s2.sl) (x := s) fun q hq => hs q (.inl hq)
    have hex := ev_eq (s1 := s1.sl) (s2 := s2.sl) (x := x) fun q hq => hs q (.inr hq)
    have h : inR (eff (.appT size bytes s x) d s1.sl s1.bx) e := h
    show inR (eff (.appT size bytes s x) d s2.sl s2.bx) e
    simp only [eff] at h ⊢
    rw [hes, hex]
    cases hv : srcT s1.bx (ev s1.sl x) with
    | none => rw [hv] at h; exact h.elim
    | some r =>
      rw [srcT_local (fun n hn => hb n hn) hv]
      rw [hv] at h
      exact h
  | prim p x =>
    have hev := ev_eq hs
    have h : inR (eff (.prim p x) d s1.sl s1.bx) e := h
    show inR (eff (.prim p x) d s2.sl s2.bx) e
    simp only [eff] at h ⊢
    rw [hev]
    cases hv : conv1 s1.bx (ev s1.sl x) with
    | none => rw [hv] at h; exact h.elim
    | some r =>
      rw [conv1_local (fun n hn => hb n hn) hv]
      rw [hv] at h
      exact h
  | idxA _ _ a x =>
    simp only [DOp.reads, List.mem_append] at hs
    exact pure (by simp only [eff]; rw [ev_eq fun m hm => hs m (.inl hm), ev_eq fun m hm => hs m (.inr hm)]) h
  | idxL _ a x =>
    simp only [DOp.reads, List.mem_append] at hs
    exact pure (by simp only [eff]; rw [ev_eq fun m hm => hs m (.inl hm), ev_eq fun m hm => hs m (.inr hm)]) h
  | idxV _ _ _ a x =>
    simp only [DOp.reads, List.mem_append] at hs
    exact pure (by simp only [eff]; rw [ev_eq fun m hm => hs m (.inl hm), ev_eq fun m hm => hs m (.inr hm)]) h
  | idxS a x =>
    simp only [DOp.reads, List.mem_append] at hs
    exact pure (by simp only [eff]; rw [ev_eq fun m hm => hs m (.inl hm), ev_eq fun m hm => hs m (.inr hm)]) h
  | bin _ a x =>
    simp only [DOp.reads, List.mem_append] at hs
    exact pure (by simp only [eff]; rw [ev_eq fun m hm => hs m (.inl hm), ev_eq fun m hm => hs m (.inr hm)]) h
  | eqv _ _ a x =>
    simp only [DOp.reads, List.mem_append] at hs
    exact pure (by simp only [eff]; rw [ev_eq fun m hm => hs m (.inl hm), ev_eq fun m hm => hs m (.inr hm)]) h
  | eqB _ a x =>
    simp only [DOp.reads, List.mem_append] at hs
    exact pure (by simp only [eff]; rw [ev_eq fun m hm => hs m (.inl hm), ev_eq fun m hm => hs m (.inr hm)]) h
  | maxI a x =>
    simp only [DOp.reads, List.mem_append] at hs
    exact pure (by simp only [eff]; rw [ev_eq fun m hm => hs m (.inl hm), ev_eq fun m hm => hs m (.inr hm)]) h
  | minI a x =>
    simp only [DOp.reads, List.mem_append] at hs
    exact pure (by simp only [eff]; rw [ev_eq fun m hm => hs m (.inl hm), ev_eq fun m hm => hs m (.inr hm)]) h
  | slice _ x lo hi =>
    simp only [DOp.reads, List.mem_append] at hs
    exact pure (by simp only [eff]; rw [ev_eq fun m hm => hs m (.inl (.inl hm)), evo_eq fun m hm => hs m (.inl (.inr hm)), evo_eq fun m hm => hs m (.inr hm)]) h
  | sliceS x lo hi =>
    simp only [DOp.reads, List.mem_append] at hs
    exact pure (by simp only [eff]; rw [ev_eq fun m hm => hs m (.inl (.inl hm)), evo_eq fun m hm => hs m (.inl (.inr hm)), evo_eq fun m hm => hs m (.inr hm)]) h
  | sliceA _ _ x lo hi =>
    simp only [DOp.reads, List.mem_append] at hs
    exact pure (by simp only [eff]; rw [ev_eq fun m hm => hs m (.inl (.inl hm)), evo_eq fun m hm => hs m (.inl (.inr hm)), evo_eq fun m hm => hs m (.inr hm)]) h
  | build zs ps => exact pure (by simp only [eff]; rw [fillT_eq hs, fillV_eq hs]) h
  | buildT size n zs ps =>
    have : fillS s2.sl size (List.replicate n (cond (Nat.beq size 1) (zs.headD .nil) (.agg zs))) True ps = fillS s1.sl size (List.replicate n (cond (Nat.beq size 1) (zs.headD .nil) (.agg zs))) True ps := fillS_eq hs
    exact pure (by simp only [eff]; rw [this]) h
  | mkfn f xs => exact pure (by simp only [eff]; rw [evs_eq hs]) h
  | call f args =>
    obtain ⟨ts, rd, r, h1, h2⟩ := h
    refine ⟨ts, rd, r, ?_, h2⟩
    rw [evs_eq (s1 := s1.sl) hs]
    exact convs_local (fun n hn => hb n hn) h1
  | mcall ms f args =>
    have hbx := hM rfl
    obtain ⟨need, fr, m, b, r, h1, h2, h3, h4, h5, h6⟩ := h
    refine ⟨need, fr, m, b, r, ?_, fun p hp => by rw [hbx]; exact h2 p hp, fun n hn => by rw [hbx]; exact h3 n hn, h4, by rw [hbx]; exact h5, h6⟩
    rw [evs_eq (s1 := s1.sl) hs]
    exact h1
  | callv x args =>
    simp only [DOp.reads, List.mem_append] at hs
    simp only [DOp.tch, List.mem_append] at hb
    obtain ⟨f, caps, hf, ts, rd, r, h1, h2⟩ := h
    refine ⟨f, caps, ?_, ts, rd, r, ?_, h2⟩
    · rw [ev_eq (s1 := s1.sl) fun m hm => hs m (.inl hm)]; exact hf
    · rw [evs_eq (s1 := s1.sl) fun m hm => hs m (.inr hm)]
      refine convs_local (fun n hn => ?_) h1
      rw [List.flatMap_append, List.mem_append] at hn
      rcases hn with hn | hn
      · exact hb n (.inr hn)
      · have : n ∈ bxs (ev s1.sl x) := by
          unfold fnOf at hf
          split at hf
          · simp only [Option.some.injEq, Prod.mk.injEq] at hf
            obtain ⟨-, rfl⟩ := hf
            obtain ⟨c, hc, hn⟩ := List.mem_flatMap.1 hn
            obtain ⟨t, _, rfl⟩ := List.mem_map.1 hc
            cases hn
          · rename_i g cs hv
            simp only [Option.some.injEq, Prod.mk.injEq] at hf
            obtain ⟨-, rfl⟩ := hf
            rw [hv]; exact hn
          · cases hf
        exact hb n (.inl this)
theorem effO_wr {x : DOp} (hx : x.cls.std = true) {d : Option Nat} {st : St} {e : Eff} (h : effO P x d st e) : e.wr = none ∨ (∃ n b, x.cls = .make ∧ d = some n ∧ st.bx n = none ∧ e.wr = some (n, b)) ∨ (∃ n b, x.cls.wr = true ∧ n ∈ x.tch st.sl ∧ (st.bx n).isSome = true ∧ e.wr = some (n, b)) := by
  cases x with
  | append | appV | bad | buildS | inl | fcall | clr | mdel | mclr | mrng | mnext | ment | copy => exact absurd hx Bool.false_ne_true
  | call f args => obtain ⟨ts, rd, r, _, _, _, rfl⟩ := h; exact .inl rfl
  | callv x args => obtain ⟨_, _, _, ts, rd, r, _, _, _, rfl⟩ := h; exact .inl rfl
  | mcall ms f args => obtain ⟨need, fr, m, b, r, _, _, _, h4, h5, rfl⟩ := h; exact .inr (.inr ⟨m, b, rfl, h4, h5, rfl⟩)
  | alloc zs =>
    have h : inR (eff (.alloc zs) d st.sl st.bx) e := h
    cases d with
    | none => exact h.elim
    | some n =>
      simp only [eff] at h
      cases hb : st.bx n with
      | none => rw [hb] at h; cases h; exact .inr (.inl ⟨n, _, rfl, rfl, hb, rfl⟩)
      | some b => rw [hb] at h; exact h.elim
  | mkmap ag sh =>
    have h : inR (eff (.mkmap ag sh) d st.sl st.bx) e := h
    cases d with
    | none => exact h.elim
    | some n =>
      simp only [eff] at h
      cases hb : st.bx n with
      | none => rw [hb] at h; cases h; exact .inr (.inl ⟨n, _, rfl, rfl, hb, rfl⟩)
      | some b => rw [hb] at h; exact h.elim
  | mkslice size bytes zs l c =>
    have h : inR (eff (.mkslice size bytes zs l c) d st.sl st.bx) e := h
    cases d with
    | none => exact h.elim
    | some n =>
      simp only [eff] at h
      split at h
      · rename_i hb _ _
        obtain ⟨_, rfl⟩ := h
        exact .inr (.inl ⟨n, _, rfl, rfl, hb, rfl⟩)
      · exact h.elim
  | mput ag sh m k v =>
    have h : inR (eff (.mput ag sh m k v) d st.sl st.bx) e := h
    simp only [eff] at h
    split at h
    · rename_i b hv
      split at h
      · rename_i ag' sh' es _ hbx
        split at h
        · rename_i key x hk hx
          cases hs : mapSame ag sh ag' sh' with
          | false => rw [hs] at h; exact h.elim
          | true =>
            rw [hs] at h
            obtain ⟨_, rfl⟩ := h
            exact .inr (.inr ⟨b, _, rfl, by show b ∈ bx1 (ev st.sl m); rw [hv]; simp [bx1], by rw [hbx]; rfl, rfl⟩)
        · exact h.elim
      · exact h.elim
    · exact h.elim
  | box m x =>
    have h : inR (eff (.box m x) d st.sl st.bx) e := h
    cases d with
    | none => exact h.elim
    | some n =>
      simp only [eff] at h
      cases hb : st.bx n with
      | none =>
        rw [hb] at h
        cases hc : boxOf m (ev st.sl x) with
        | none => rw [hc] at h; exact h.elim
        | some p => rw [hc] at h; obtain ⟨_, rfl⟩ := h; exact .inr (.inl ⟨n, _, rfl, rfl, hb, rfl⟩)
      | some b => rw [hb] at h; exact h.elim
  | store k a x =>
    have h : inR (eff (.store k a x) d st.sl st.bx) e := h
    simp only [eff] at h
    cases hv : ev st.sl a with
    | ptr b off =>
      rw [hv] at h
      simp only at h
      cases hbx : st.bx b with
      | none => rw [hbx] at h; exact h.elim
      | some c =>
        rw [hbx] at h
        have hw : ∃ bx', e.wr = some (b, bx') := by
          simp only [storeB, cond_eq_ite] at h
          repeat' (first | exact h.elim | (obtain ⟨_, rfl⟩ := h; exact ⟨_, rfl⟩) | (split at h) | (unfold inR at h; simp only at h; first | exact h.elim | (obtain ⟨_, rfl⟩ := h; exact ⟨_, rfl⟩)))
        obtain ⟨bx', hw⟩ := hw
        exact .inr (.inr ⟨b, bx', rfl, by show b ∈ bx1 (ev st.sl a); rw [hv]; simp [bx1], by rw [hbx]; rfl, hw⟩)
    | _ => rw [hv] at h; exact h.elim
  | _ =>
    refine .inl ?_
    simp only [effO, eff, loadB, partT, binI, binS, val, valT, tval, cond_eq_ite] at h
    repeat' (first | exact h.elim | (subst h; rfl) | (obtain ⟨_, rfl⟩ := h; rfl) | (split at h) | (unfold inR at h; simp only at h; first | exact h.elim | (subst h; rfl) | (obtain ⟨_, rfl⟩ := h; rfl)))
end
end Go.DL
end
