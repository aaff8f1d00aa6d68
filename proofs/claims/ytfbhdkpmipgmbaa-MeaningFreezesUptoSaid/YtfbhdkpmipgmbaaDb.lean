/- Joined by program: parts of a data level over the model, and of the program's functions over it. No statement here. -/
import Derived.Test.YtfbhdkpmipgmbaaDa
import Derived.Laws.Sem
import Derived.RangeFuncLeaves
import Derived.RangeFuncRecord
import Derived.OrdersIn
import Derived.RangeFuncIn
import Derived.RangeFuncOwn
import Derived.DataReads
import Derived.Carry
import Derived.ProofKit
import Derived.OpenShut
import Derived.Below
import Derived.JoinedCond
section
/- The data level: regions, in their order and in whatever order is drawn. Generic over the program; no statement here. -/
namespace Go.DL
open Go.RowKit

variable {P : Program} {N : Nat} {w0 : World} {S0 : Base} {o : Oper} {a : Act} {E : Env} {st : St}

theorem app_t {d : Option Nat} {v : V} {rd : List Nat} : st.app d { val := v, rd := rd } = st.set d v := by cases d <;> rfl

theorem wpR_in {r : EffR} {d : Option Nat} {K : St → Prop} (h : wpR r d st K) : ∃ e, inR r e ∧ K (st.app d e) := by
  cases r with
  | no => exact h.elim
  | yes e => exact ⟨e, rfl, h⟩
  | need c e => exact ⟨e, ⟨h.1, rfl⟩, h.2⟩
  | alt c b f => exact ⟨f b, ⟨h.1, rfl⟩, h.2 b rfl⟩
  | eq c t f => exact ⟨f t, ⟨h.1, rfl⟩, h.2 t rfl⟩

theorem wpCall_in {f : FuncId} {args : List V} {d : Option Nat} {K : St → Prop} (h : wpCall P f args d st K) : ∃ ts rd r, convs st.bx args = some (ts, rd) ∧ DCalls P f ts r ∧ (rd = [] ∨ r.flat = true) ∧ K (st.set d (.t r)) := by
  unfold wpCall at h
  split at h
  · rename_i ts hc
    obtain ⟨r, h1, h2⟩ := h
    exact ⟨ts, [], r, hc, h1, .inl rfl, h2⟩
  · rename_i ts x xs hc
    obtain ⟨r, h1, h2, h3⟩ := h
    exact ⟨ts, _, r, hc, h1, .inr h2, h3⟩
  · exact h.elim

theorem wpO_eff {x : DOp} (hx : x.plain = true) {d : Option Nat} {K : St → Prop} (h : wpO P x d st K) : ∃ e, effO P x (st.nm d) st e ∧ K (st.app d e) := by
  have gen : ∀ x : DOp, (wpO P x d st K → wpR (eff x (st.nm d) st.sl st.bx) d st K) → (∀ e, inR (eff x (st.nm d) st.sl st.bx) e → effO P x (st.nm d) st e) → wpO P x d st K → ∃ e, effO P x (st.nm d) st e ∧ K (st.app d e) := fun x h1 h2 h => by
    obtain ⟨e, he, hk⟩ := wpR_in (h1 h)
    exact ⟨e, h2 e he, hk⟩
  cases x with
  | append => cases hx
  | buildS => cases hx
  | inl => cases hx
  | call f args =>
    obtain ⟨ts, rd, r, h1, h2, h3, h4⟩ := wpCall_in h
    exact ⟨_, ⟨ts, rd, r, h1, h2, h3, rfl⟩, by rw [app_t]; exact h4⟩
  | callv x args =>
    unfold wpO at h
    simp only at h
    split at h
    · rename_i f caps hv
      obtain ⟨ts, rd, r, h1, h2, h3, h4⟩ := wpCall_in h
      exact ⟨_, ⟨f, caps.map .t, by rw [hv]; rfl, ts, rd, r, h1, h2, h3, rfl⟩, by rw [app_t]; exact h4⟩
    · rename_i f caps hv
      obtain ⟨ts, rd, r, h1, h2, h3, h4⟩ := wpCall_in h
      exact ⟨_, ⟨f, caps, by rw [hv]; rfl, ts, rd, r, h1, h2, h3, rfl⟩, by rw [app_t]; exact h4⟩
    · exact h.elim
  | _ => exact gen _ id (fun _ h => h) h

theorem zero_info {e : TypeId} {j : TypeInfo} (hj : P.info? e = some j) {zs : List T} (hz : zeroT P e = some zs) : ∃ z, j.zero = some z ∧ z.cells.size = j.size := by
  obtain ⟨i, z, hi, hiz, h1, h2, _⟩ := zeroT_spec hz
  rw [hj] at hi
  cases hi
  exact ⟨z, hiz, by omega⟩

theorem Owns.nil (r : Nat) (e : TypeId) (size : Nat) : Owns E (.slice none 0 0) r e size [] :=
  ⟨⟨[], World.ownsRow_nil _ _ _ _, rfl, fun i x t hx => by simp at hx⟩, fun x hx => by simp at hx, fun t ht => by simp at ht, fun g hg => by simp [Value.ownBlock] at hg⟩

theorem lowOp_noinl {op : Op} {f : FuncId} {args : List O} (hl : lowOp P op = some (.inl f args)) : False := by
  have no : ∀ {y : DOp}, some y = some (DOp.inl f args) → (match y with | .inl _ _ => true | _ => false) = false → False := fun h1 h2 => by cases h1; cases h2
  cases op with
  | call c =>
    obtain ⟨callee, as, argTypes⟩ := c
    simp only [lowOp, lowCall] at hl
    repeat' (first | exact no hl rfl | (split at hl) | (simp only [cond_eq_ite] at hl) | (cases hl; done))
  | unOp op t X =>
    cases op <;> simp only [lowOp, Option.map_eq_some_iff] at hl <;> first | (obtain ⟨_, _, hl⟩ := hl; cases hl) | cases hl
  | slice t X lo hi mx =>
    cases mx <;> simp only [lowOp] at hl <;> repeat' (first | exact no hl rfl | (split at hl) | (simp only [cond_eq_ite] at hl) | (cases hl; done))
  | binOp op t X Y ty =>
    cases op <;> simp only [lowOp] at hl <;> repeat' (first | exact no hl rfl | (split at hl) | (simp only [cond_eq_ite] at hl) | (cases hl; done))
  | _ =>
    simp only [lowOp] at hl
    repeat' (first | exact no hl rfl | (split at hl) | (simp only [cond_eq_ite] at hl) | (simp only [Option.map_eq_some_iff] at hl; obtain ⟨_, _, hl⟩ := hl; cases hl; done) | (cases hl; done))

theorem lowOp_buildS {e : TypeId} {size n : Nat} {zs : List T} {parts : List (Nat × O)} (hl : lowOp P o.op = some (.buildS e size n zs parts)) : ∃ t ps j, o.op = .buildSlice t n ps ∧ P.underlying t = some (.slice e) ∧ P.info? e = some j ∧ zeroT P e = some zs ∧ size = j.size ∧ 0 < j.size ∧ n * j.size ≤ 16777216 ∧ ∃ qs, lowParts (fun i => some (i, 0)) ps.toList = some qs ∧ (∀ p ∈ qs, p.1 < n) ∧ parts = qs.map fun p => (p.1, p.2.2) := by
  have no : ∀ {y : DOp}, some y = some (DOp.buildS e size n zs parts) → y.plain = true → False := fun h1 h2 => by cases h1; cases h2
  have noA : ∀ {t e' s b X Y}, some (DOp.append t e' s b X Y) = some (DOp.buildS e size n zs parts) → False := fun h1 => by cases h1
  cases ho : o.op with
  | buildSlice t n' ps =>
    rw [ho] at hl
    simp only [lowOp] at hl
    split at hl
    · rename_i e' hu
      split at hl
      · rename_i j zs' de hj hz hud
        split at hl
        · rename_i qs hq
          simp only [cond_eq_ite] at hl
          split at hl
          · rename_i hc
            simp only [Bool.and_eq_true, List.all_eq_true] at hc
            cases hl
            have lt : ∀ {n}, Nat.blt 0 n = true → 0 < n := fun h => Nat.lt_of_lt_of_le (Nat.lt_succ_self 0) (Nat.le_of_ble_eq_true h)
            exact ⟨t, ps, j, rfl, hu, hj, hz, rfl, lt hc.1.1.2, Nat.le_of_ble_eq_true hc.1.1.1, qs, hq, fun p hp => Nat.le_of_ble_eq_true (hc.2 p hp), rfl⟩
          · cases hl
        · cases hl
      · cases hl
    · cases hl
  | call c =>
    exfalso
    rw [ho] at hl
    simp only [lowOp, lowCall] at hl
    repeat' (first | exact no hl rfl | exact noA hl | (split at hl) | (simp only [cond_eq_ite] at hl) | (cases hl; done))
  | unOp op t' X =>
    exfalso
    rw [ho] at hl
    cases op <;> simp only [lowOp, Option.map_eq_some_iff] at hl <;> first | (obtain ⟨_, _, hl⟩ := hl; cases hl) | cases hl
  | slice t' X lo hi mx =>
    exfalso
    rw [ho] at hl
    cases mx <;> simp only [lowOp] at hl <;> repeat' (first | exact no hl rfl | (split at hl) | (simp only [cond_eq_ite] at hl) | (cases hl; done))
  | binOp op t' X Y ty =>
    exfalso
    rw [ho] at hl
    cases op <;> simp only [lowOp] at hl <;> repeat' (first | exact no hl rfl | (split at hl) | (simp only [cond_eq_ite] at hl) | (cases hl; done))
  | _ =>
    exfalso
    rw [ho] at hl
    simp only [lowOp] at hl
    repeat' (first | exact no hl rfl | (split at hl) | (simp only [cond_eq_ite] at hl) | (simp only [Option.map_eq_some_iff] at hl; obtain ⟨_, _, hl⟩ := hl; cases hl; done) | (cases hl; done))

theorem effO_did (h : SR N w0 S0 E st a.tmps) (hd : okDst N o.dst) {x : DOp} (hl : lowOp P o.op = some x) (hx : x.isCall = false) {e : Eff} (he : effO P x (st.nm o.dst) st e) : Did P N w0 S0 o a E (st.app o.dst e) := by
  have plain : inR (eff x (st.nm o.dst) st.sl st.bx) e → Did P N w0 S0 o a E (st.app o.dst e) := fun hi => by
    have hs := eff_sound h hd hl
    cases hr : eff x (st.nm o.dst) st.sl st.bx with
    | no => rw [hr] at hi; exact hi.elim
    | yes e0 => rw [hr] at hi hs; cases hi; exact hs
    | need c e0 => rw [hr] at hi hs; obtain ⟨hc, rfl⟩ := hi; exact hs hc
    | alt c b f => rw [hr] at hi hs; obtain ⟨hc, rfl⟩ := hi; exact hs hc
    | eq c t f => rw [hr] at hi hs; obtain ⟨hc, rfl⟩ := hi; exact hs hc
  cases x with
  | call f args => cases hx
  | callv y args => cases hx
  | _ => exact plain he

/-- Whatever the operation, if it is no call: it does what the precondition says. -/
theorem wpO_did (h : SR N w0 S0 E st a.tmps) (hd : okDst N o.dst) {x : DOp} (hl : lowOp P o.op = some x) (hcall : x.isCall = false) {K : St → Prop} (hw : wpO P x o.dst st K) : ∃ st', K st' ∧ Did P N w0 S0 o a E st' := by
  by_cases hx : x.plain = true
  · obtain ⟨e, he, hk⟩ := wpO_eff hx hw
    exact ⟨_, hk, effO_did h hd hl hcall he⟩
  · have fin : ∀ (d : Nat) (st' : St), o.dst = some d → (∃ (v' : Value) (E' : Env), (execOp a.eval o).run P E.w = .ok (.value v') E'.w ∧ SR N w0 S0 E' st' (a.tmps.setIfInBounds d v')) → Did P N w0 S0 o a E st' := by
      rintro d st' hdst ⟨v', E', hr, hsr⟩
      exact ⟨_, v', E', hr, .inl rfl, by rw [hdst]; exact hsr⟩
    cases x with
    | append t e size bytes s x =>
      -- the operation is a call of the builtin
      have inv : ∃ X Y j z, o.op = .call { callee := .builtin .append, args := #[X, Y], argTypes := #[t, t] } ∧ P.underlying t = some (.slice e) ∧ P.info? e = some j ∧ zeroT P e = some z ∧ size = j.size ∧ bytes = j.bytes ∧ 0 < j.size ∧ 0 < j.bytes ∧
          lowO X = some s ∧ lowO Y = some x := by
        have no : ∀ {y : DOp}, some y = some (DOp.append t e size bytes s x) → y.plain = true → False := fun h1 h2 => by cases h1; cases h2
        cases ho : o.op with
        | call c =>
          rw [ho] at hl
          obtain ⟨callee, as, argTypes⟩ := c
          simp only [lowOp, lowCall] at hl
          split at hl
          · repeat' (first | exact (no hl rfl).elim | (split at hl) | (simp only [cond_eq_ite] at hl) | (cases hl; done))
          · repeat' (first | exact (no hl rfl).elim | (split at hl) | (simp only [cond_eq_ite] at hl) | (cases hl; done))
          · repeat' (first | exact (no hl rfl).elim | (split at hl) | (simp only [cond_eq_ite] at hl) | (cases hl; done))
          · repeat' (first | exact (no hl rfl).elim | (split at hl) | (simp only [cond_eq_ite] at hl) | (cases hl; done))
          · repeat' (first | exact (no hl rfl).elim | (split at hl) | (simp only [cond_eq_ite] at hl) | (cases hl; done))
          · split at hl
            · rename_i X Y t' u h1 h2
              split at hl
              · rename_i e' s' x' hu hs hx'
                split at hl
                · rename_i j z hj hz
                  simp only [cond_eq_ite] at hl
                  split at hl
                  · rename_i hc
                    simp only [Bool.and_eq_true] at hc
                    cases hl
                    have e1 : as = #[X, Y] := Array.toList_inj.1 (by simpa using h1)
                    have e2 : t = u := Nat.eq_of_beq_eq_true hc.1.1
                    subst e2
                    have e3 : argTypes = #[t, t] := Array.toList_inj.1 (by simpa using h2)
                    subst e1; subst e3
                    exact ⟨X, Y, j, z, rfl, hu, hj, hz, rfl, rfl, Nat.lt_of_lt_of_le (Nat.lt_succ_self 0) (Nat.le_of_ble_eq_true hc.1.2), Nat.lt_of_lt_of_le (Nat.lt_succ_self 0) (Nat.le_of_ble_eq_true hc.2), hs, hx'⟩
                  · cases hl
                · cases hl
              · cases hl
            · cases hl
          · repeat' (first | exact (no hl rfl).elim | (split at hl) | (simp only [cond_eq_ite] at hl) | (cases hl; done))
          · cases hl
        | unOp op t' X =>
          exfalso
          rw [ho] at hl
          cases op <;> simp only [lowOp, Option.map_eq_some_iff] at hl <;> first | (obtain ⟨_, _, hl⟩ := hl; cases hl) | cases hl
        | slice t' X lo hi mx =>
          exfalso
          rw [ho] at hl
          cases mx <;> simp only [lowOp] at hl <;> repeat' (first | exact no hl rfl | (split at hl) | (simp only [cond_eq_ite] at hl) | (cases hl; done))
        | binOp op t' X Y ty =>
          exfalso
          rw [ho] at hl
          cases op <;> simp only [lowOp] at hl <;> repeat' (first | exact no hl rfl | (split at hl) | (simp only [cond_eq_ite] at hl) | (cases hl; done))
        | _ =>
          exfalso
          rw [ho] at hl
          simp only [lowOp] at hl
          repeat' (first | exact no hl rfl | (split at hl) | (simp only [cond_eq_ite] at hl) | (simp only [Option.map_eq_some_iff] at hl; obtain ⟨_, _, hl⟩ := hl; cases hl; done) | (cases hl; done))
      obtain ⟨X, Y, j, zs, ho, hu, hj, hz, rfl, rfl, hsz, hby, hX, hY⟩ := inv
      obtain ⟨z, hjz, hzs⟩ := zero_info hj hz
      have hvX := ev_sound h.sl hX
      have hvY := ev_sound h.sl hY
      have exec : ∀ (v y v' : Value) (w' : World), a.eval X = v → a.eval Y = y → (Builtin.append_ #[t, t] o.type #[v, y]).run P E.w = .ok v' w' → (execOp a.eval o).run P E.w = .ok (.value v') w' := fun v y v' w' h1 h2 hr =>
        exec_builtin ho (by simp [builtin, h1, h2, hr])
      unfold wpO at hw
      cases hdst : o.dst with
      | none => rw [hdst] at hw; exact hw.elim
      | some d =>
        rw [hdst] at hw hd
        simp only at hw
        have go : ∀ (r : Nat) (xs ys : List T), Owns E (a.eval X) r e j.size xs → Rep E.S E.w (a.eval Y) (.slice j.size ys) → (xs.length + ys.length) * j.bytes ≤ 140737488355328 → K ((st.dg r (d + st.off)).put d (.own (d + st.off) e j.size (xs ++ ys))) →
            ∃ st', K st' ∧ Did P N w0 S0 o a E st' := fun r xs ys hv hy hroom hk => by
          obtain ⟨v', E', hr, hsr⟩ := append_did (ty := o.type) h hd hu hj hjz hzs hsz hby hv hy hroom
          exact ⟨_, hk, fin d _ hdst ⟨v', E', exec _ _ _ _ rfl rfl hr, hsr⟩⟩
        unfold wpAppend at hw
        split at hw
        · rename_i n ys hy
          have hry := asT_sound hvY hy
          obtain ⟨hn, hw⟩ := hw
          have hry : Rep E.S E.w (a.eval Y) (.slice j.size ys) := by
            rcases hn with rfl | rfl
            · exact hry
            · generalize a.eval Y = y at hry
              cases hry with
              | slice A b off len cap _ _ g hl' hc' hu' h1 ha hg hrep =>
                exact .slice A b off len cap j.size [] g hl' hc' (fun x hx => by simp at hx) (fun t ht => by simp at ht) ha hg hrep
          split at hw
          · rename_i hs
            rw [hs] at hvX
            have hX' : a.eval X = .slice none 0 0 := by
              have := hvX.inv_t
              generalize a.eval X = v at this
              cases this; rfl
            exact go (d + st.off) [] ys (by rw [hX']; exact Owns.nil (d + st.off) e j.size) hry (by simpa using hw.1) (by simpa using hw.2)
          · rename_i r e' size' xs hs
            rw [hs] at hvX
            simp only [cond_eq_ite] at hw
            split at hw
            · rename_i hc
              rw [Bool.and_eq_true] at hc
              have h1 : e' = e := Nat.eq_of_beq_eq_true hc.1
              have h2 : size' = j.size := Nat.eq_of_beq_eq_true hc.2
              subst h1; subst h2
              exact go r xs ys hvX.inv_own hry hw.1 hw.2
            · exact hw.elim
          · exact hw.elim
        · rename_i hy
          have hry := asT_sound hvY hy
          have hry : Rep E.S E.w (a.eval Y) (.slice j.size []) := by
            generalize a.eval Y = y at hry
            cases hry
            exact .slice none 0 0 0 0 _ [] (fun _ => undef) rfl (Nat.le_refl _) (fun x hx => by simp at hx) (fun t ht => by simp at ht) (fun hh => by simp at hh) (fun i hi => by simp at hi) (fun i t ht => by simp at ht)
          split at hw
          · rename_i hs
            rw [hs] at hvX
            have hX' : a.eval X = .slice none 0 0 := by
              have := hvX.inv_t
              generalize a.eval X = v at this
              cases this; rfl
            exact go (d + st.off) [] [] (by rw [hX']; exact Owns.nil (d + st.off) e j.size) hry (by simp) (by simpa using hw)
          · rename_i r e' size' xs hs
            rw [hs] at hvX
            simp only [cond_eq_ite] at hw
            split at hw
            · rename_i hc
              rw [Bool.and_eq_true] at hc
              have h1 : e' = e := Nat.eq_of_beq_eq_true hc.1
              have h2 : size' = j.size := Nat.eq_of_beq_eq_true hc.2
              subst h1; subst h2
              exact go r xs [] hvX.inv_own hry (by simpa using hw.1) (by simpa using hw.2)
            · exact hw.elim
          · exact hw.elim
        · exact hw.elim
    | buildS e size n zs parts =>
      have inv := lowOp_buildS hl
      obtain ⟨t, ps, j, ho, hu, hj, hz, rfl, hsz, hbig, qs, hqs, hin, rfl⟩ := inv
      unfold wpO at hw
      cases hdst : o.dst with
      | none => rw [hdst] at hw; exact hw.elim
      | some d =>
        rw [hdst] at hw hd
        simp only at hw
        split at hw
        · rename_i es c hf
          exact ⟨_, hw.2, fin d _ hdst (buildS_did h hd ho hu hj hz hsz hbig hqs hin hf hw.1)⟩
        · exact hw.elim
    | inl f args => exact (lowOp_noinl hl).elim
    | _ => exact absurd rfl hx

/-- Whatever the operation: it does what the precondition says. -/
theorem wpO_wp (h : SR N w0 S0 E st a.tmps) (hd : okDst N o.dst) {x : DOp} (hl : lowOp P o.op = some x) {K : St → Prop} (hw : wpO P x o.dst st K) {Q : Exit → Act → World → Prop} : ∃ st', K st' ∧ o.wp P a E.w (Next' N w0 S0 a st') Q := by
  cases hcall : x.isCall with
  | true =>
    have hx : x.plain = true := by cases x <;> first | rfl | cases hcall
    obtain ⟨e, he, hk⟩ := wpO_eff hx hw
    exact ⟨_, hk, effO_wp h hd hl he⟩
  | false =>
    obtain ⟨st', hk, nx, v, E', hr, hnx, hsr⟩ := wpO_did h hd hl hcall hw
    refine ⟨st', hk, ?_⟩
    unfold Oper.wp
    rw [hr]
    rcases hnx with rfl | ⟨rfl, rfl⟩
    · exact ⟨E', rfl, hsr, by cases o.dst <;> rfl⟩
    · exact ⟨E', rfl, hsr, by cases o.dst <;> rfl⟩

end Go.DL
end
section
/- The data level: one operation with its guard; a region in the order of its text. Generic over the program; no statement here. -/
namespace Go.DL
open Go.RowKit

variable {P : Program} {X : List FuncId} {N : Nat} {w0 : World} {S0 : Base} {o : Oper} {a : Act} {E : Env} {st : St}

theorem lowI_inv {ops : Array Oper} {i : DI} (hl : lowI P N X ops o = some i) : (∃ x, lowOp P o.op = some x ∧ i.op = markX X x) ∧ i.dst = o.dst ∧ okDst N o.dst ∧ i.after = (o.after.toList.filter fun e => Region.binds .any e).map (·.on) ∧
    ((o.guard = none ∧ i.guard = none) ∨ ∃ j want g, o.guard = some (j, want) ∧ (ops[j]?).bind (·.dst) = some g ∧ i.guard = some (g, want) ∧ g < N) := by
  have okd : ∀ {d : Option Nat}, okB N d = true → okDst N d := fun {d} h => by
    cases d with
    | none => trivial
    | some n => exact Nat.le_of_ble_eq_true h
  unfold lowI at hl
  split at hl
  · rename_i d hd
    simp only at hl
    split at hl
    · rename_i hg
      simp only [cond_eq_ite] at hl
      split at hl
      · rename_i hc
        cases hl
        exact ⟨⟨d, hd, rfl⟩, rfl, okd hc, rfl, .inl ⟨hg, rfl⟩⟩
      · cases hl
    · rename_i j want hg
      split at hl
      · rename_i g hj
        simp only [cond_eq_ite] at hl
        split at hl
        · rename_i hc
          cases hl
          rw [Bool.and_eq_true] at hc
          exact ⟨⟨d, hd, rfl⟩, rfl, okd hc.1, rfl, .inr ⟨j, want, g, hg, hj, rfl, Nat.le_of_ble_eq_true hc.2⟩⟩
        · cases hl
      · cases hl
  · cases hl

/-- One operation, calls of all kinds. -/
theorem wpX_wp (h : SR N w0 S0 E st a.tmps) (hd : okDst N o.dst) {x : DOp} (hl : lowOp P o.op = some x) {K : St → Prop} (hw : wpO P (markX X x) o.dst st K) {Q : Exit → Act → World → Prop} :
    o.wp P a E.w (fun a' w' => ∃ st', K st' ∧ Next' N w0 S0 a st' a' w') Q := by
  have plain : wpO P x o.dst st K → o.wp P a E.w (fun a' w' => ∃ st', K st' ∧ Next' N w0 S0 a st' a' w') Q := fun hw => by
    obtain ⟨st', hk, hh⟩ := wpO_wp h hd hl hw (Q := Q)
    exact Oper.wp_mono (fun a' w' hn => ⟨st', hk, hn⟩) hh
  cases x with
  | call f args =>
    have hw : wpO P (cond (X.contains f) (.inl f args) (.call f args)) o.dst st K := hw
    cases hX : X.contains f with
    | false => rw [hX] at hw; exact plain hw
    | true =>
      rw [hX] at hw
      obtain ⟨hc, hw⟩ : WC P f (args.map (ev st.sl)) o.dst st K := hw
      obtain ⟨⟨callee, as, argTypes⟩, ho, hl'⟩ := lowOp_call hl rfl
      obtain ⟨rfl, has⟩ := (lowCall_inv hl').1 f args rfl
      obtain ⟨h1, h2⟩ := args_vr h.sl has
      have hex := run_args (E := E) (a := a) (caps := #[]) ho rfl hc
      rw [Array.append_empty] at hex
      have := hw N w0 S0 E a.tmps (as.map a.eval) h (by simp [h1]) h2 (fun n hn => by rw [hn] at hd; exact hd)
      unfold Oper.wp
      rw [hex]
      refine Calls.mono this ?_
      rintro e w' ⟨v, rfl, E', st', rfl, hk, hsr⟩
      refine ⟨st', hk, E', rfl, ?_, by cases o.dst <;> rfl⟩
      cases hdst : o.dst with
      | none => rw [hdst] at hsr; exact hsr
      | some n => rw [hdst] at hsr; exact hsr
  | buildS e size n zs parts =>
    have hw : wpO P (cond (X.contains 2000000) (.buildT size n zs parts) (.buildS e size n zs parts)) o.dst st K := hw
    cases hX : X.contains 2000000 with
    | false => rw [hX] at hw; exact plain hw
    | true =>
      rw [hX] at hw
      obtain ⟨t, ps, j, ho, hu, hj, hz, rfl, hsz, hbig, qs, hqs, hin, rfl⟩ := lowOp_buildS hl
      have hw : wpR (eff (.buildT j.size n zs (qs.map fun p => (p.1, p.2.2))) (st.nm o.dst) st.sl st.bx) o.dst st K := hw
      cases hdst : o.dst with
      | none => rw [hdst] at hw; exact hw.elim
      | some d =>
        rw [hdst] at hw hd
        simp only [eff, St.nm] at hw
        cases hf : fillS st.sl j.size (List.replicate n (cond (Nat.beq j.size 1) (zs.headD .nil) (.agg zs))) True (qs.map fun p => (p.1, p.2.2)) with
        | none => rw [hf] at hw; exact hw.elim
        | some ec =>
          obtain ⟨es, c⟩ := ec
          rw [hf] at hw
          obtain ⟨hc, hk⟩ := hw
          obtain ⟨nx, v, E', hr, hnx, hsr⟩ := buildT_did h hd ho hu hj hz hsz hbig hqs hin hf hc hdst
          unfold Oper.wp
          rw [hr]
          rcases hnx with rfl | ⟨rfl, rfl⟩
          · exact ⟨_, hk, E', rfl, hsr, by cases o.dst <;> rfl⟩
          · exact ⟨_, hk, E', rfl, hsr, by cases o.dst <;> rfl⟩
  | _ => exact plain hw

theorem skip_vr (E : Env) : VR E undef skipV := .t _ _ (.tup #[] [] rfl (fun i x t hx _ => by simp at hx))

theorem skip_inv {v : Value} (h : VR E v skipV) : v = .tuple #[] := by
  cases h with
  | t _ _ h =>
    cases h with
    | tup cs ts hs _ =>
      have : cs = #[] := by
        cases cs with
        | mk l => cases l with
          | nil => rfl
          | cons a r => simp at hs
      rw [this]

theorem wpI_wp (h : SR N w0 S0 E st a.tmps) {ops : Array Oper} {k : Nat} (ho : ops[k]? = some o) {i : DI} (hl : lowI P N X ops o = some i) {K : St → Prop} (hw : wpI P i st K) {Q : Exit → Act → World → Prop} :
    wpOp P ops Q k (fun a' w' => ∃ st', K st' ∧ Next' N w0 S0 a st' a' w') a E.w := by
  obtain ⟨⟨x, h1, hx⟩, h2, h3, _, h4⟩ := lowI_inv hl
  have run : wpO P i.op i.dst st K → Region.wanted o (yielded ops a.tmps) = true → wpOp P ops Q k (fun a' w' => ∃ st', K st' ∧ Next' N w0 S0 a st' a' w') a E.w := fun hw hwant => by
    rw [h2, hx] at hw
    unfold wpOp
    simp only [ho, hwant, if_true]
    exact .inl (wpX_wp h h3 h1 hw)
  have skip : K (st.set i.dst skipV) → Region.wanted o (yielded ops a.tmps) = false → wpOp P ops Q k (fun a' w' => ∃ st', K st' ∧ Next' N w0 S0 a st' a' w') a E.w := fun hk hwant => by
    unfold wpOp
    simp only [ho, hwant, Bool.false_eq_true, if_false]
    refine ⟨_, hk, ?_⟩
    rw [h2]
    exact ⟨E, rfl, h.putO h3 (skip_vr E), by cases o.dst <;> rfl⟩
  unfold wpI at hw
  rcases h4 with ⟨hg, hi⟩ | ⟨j, want, g, hg, hj, hi, hlt⟩
  · rw [hi] at hw
    exact run hw (by unfold Region.wanted; rw [hg])
  · rw [hi] at hw
    simp only at hw
    have yl : ∀ b, st.sl g = .t (.bool b) → yielded ops a.tmps j = some b := fun b hb => by
      have hv := h.sl g
      rw [hb] at hv
      have hv := hv.inv_bool
      have hsz : g < a.tmps.size := by rw [h.size]; exact hlt
      have : a.tmps[g]? = some (.bool b) := by
        rw [Array.getElem?_eq_getElem hsz]
        simpa [hsz] using hv
      unfold yielded
      rw [hj]
      simp [this]
    have wn : ∀ b, st.sl g = .t (.bool b) → Region.wanted o (yielded ops a.tmps) = (b == want) := fun b hb => by
      unfold Region.wanted
      rw [hg]
      simp only [yl b hb]
      cases b <;> cases want <;> rfl
    split at hw
    · rename_i b hb
      have hwn := wn b hb
      cases b <;> cases want <;> simp only at hw
      · exact run hw hwn
      · exact skip hw hwn
      · exact skip hw hwn
      · exact run hw hwn
    · rename_i hb
      refine skip hw ?_
      have hv := skip_inv (hb ▸ h.sl g)
      unfold Region.wanted
      rw [hg]
      have : yielded ops a.tmps j = none := by
        have hsz : g < a.tmps.size := by rw [h.size]; exact hlt
        have : a.tmps[g]? = some (.tuple #[]) := by
          rw [Array.getElem?_eq_getElem hsz]
          simpa [hsz] using hv
        unfold yielded
        rw [hj]
        simp [this]
      simp only [this]
      rfl
    · exact hw.elim

theorem lowIs_get {ops : Array Oper} : ∀ {l : List Oper} {is : List DI}, lowIs P N X ops l = some is → l.length = is.length ∧ ∀ (k : Nat) (o : Oper), l[k]? = some o → ∃ i, is[k]? = some i ∧ lowI P N X ops o = some i
  | [], is, h => by simp [lowIs] at h; subst h; exact ⟨rfl, fun k o hk => by simp at hk⟩
  | o :: l, is, h => by
    unfold lowIs at h
    split at h
    · rename_i d ds hd hds
      cases h
      obtain ⟨h1, h2⟩ := lowIs_get hds
      refine ⟨by simp [h1], fun k o' hk => ?_⟩
      cases k with
      | zero => simp at hk; subst hk; exact ⟨d, rfl, hd⟩
      | succ k => simp at hk; simpa using h2 k o' hk
    · cases h

/-- The instructions of these numbers. -/
def pick' (is : List DI) (ks : List Nat) : List DI := ks.map fun k => is[k]?.getD default

theorem wpIs_wp {ops : Array Oper} {is : List DI} (hl : lowIs P N X ops ops.toList = some is) {Q : Exit → Act → World → Prop} {K : St → Prop} {ds : List Deferred} (hQ : ∀ a w, EndIs N w0 S0 ds K a w → Q .normal a w) :
    ∀ (ks : List Nat) (_ : ∀ k ∈ ks, k < ops.size) {a : Act} {E : Env} {st : St} (_ : SR N w0 S0 E st a.tmps) (_ : a.defers = ds) (_ : wpIs P (pick' is ks) st K), wpOps P ops Q ks a E.w
  | [], _, a, E, st, h, hd, hw => hQ a E.w ⟨E, st, rfl, h, hd, hw⟩
  | k :: ks, hk, a, E, st, h, hd, hw => by
    have hlt := hk k (by simp)
    have ho : ops[k]? = some ops[k] := Array.getElem?_eq_getElem hlt
    obtain ⟨i, hi, hli⟩ := (lowIs_get hl).2 k _ (Array.getElem?_toList.trans ho)
    have hw' : wpI P i st fun st' => wpIs P (pick' is ks) st' K := by
      have := hw
      unfold pick' at this
      rw [List.map_cons, hi] at this
      exact this
    rw [wpOps_cons]
    refine wpOp_mono ?_ (wpI_wp h ho hli hw' (Q := Q))
    rintro a' w' ⟨st', hk', E', rfl, hsr, hdf⟩
    exact wpIs_wp hl hQ ks (fun k hk' => hk k (List.mem_cons_of_mem _ hk')) hsr (hdf.trans hd) hk'

theorem pick_range (is : List DI) : pick' is (List.range is.length) = is := by
  apply List.ext_getElem?
  intro k
  unfold pick'
  by_cases hk : k < is.length
  · simp [hk]
  · simp [hk]

theorem region_wp (h : SR N w0 S0 E st a.tmps) {ops : Array Oper} {is : List DI} (hl : lowIs P N X ops ops.toList = some is) {Q : Exit → Act → World → Prop} {K : St → Prop} (hQ : ∀ a' w, EndIs N w0 S0 a.defers K a' w → Q .normal a' w)
    (hw : wpIs P is st K) {id : Nat} : (Code.region id ops false).wp P Q a E.w := by
  refine wp_region (wpIs_wp hl hQ _ (fun k hk => by simpa using hk) h rfl ?_)
  have : ops.size = is.length := by simpa using (lowIs_get hl).1
  rw [this, pick_range]
  exact hw

end Go.DL
end
section
/- The data level: what an operation does hangs on the slots and boxes that it looks at. Generic over the program; no statement here. -/
namespace Go.DL
open Go.RowKit

variable {P : Program}

theorem bx12 {v : V} {n : Nat} (h : n ∈ bx1 v) : n ∈ bx2 v := by
  cases v with
  | fn f caps => simp [bx1] at h
  | _ => exact h

theorem bx23 {v : V} {n : Nat} (h : n ∈ bx2 v) : n ∈ bxs v := by
  cases v with
  | fn f caps =>
    obtain ⟨c, h1, h2⟩ := List.mem_flatMap.1 h
    exact List.mem_flatMap.2 ⟨c, h1, bx12 h2⟩
  | _ => exact h

theorem conv1_local {b1 b2 : Nat → Option BX} {v : V} (h : ∀ n ∈ bx1 v, ∀ b, b1 n = some b → b2 n = some b) {r : T × List Nat} (hc : conv1 b1 v = some r) : conv1 b2 v = some r := by
  cases v with
  | ptr n off =>
    simp only [conv1] at hc ⊢
    cases hb : b1 n with
    | none => rw [hb] at hc; cases hc
    | some b => rw [hb] at hc; rw [h n (by simp [bx1]) b hb]; exact hc
  | view n off len size =>
    simp only [conv1] at hc ⊢
    cases hb : b1 n with
    | none => rw [hb] at hc; cases hc
    | some b => rw [hb] at hc; rw [h n (by simp [bx1]) b hb]; exact hc
  | _ => exact hc

theorem convL_local {b1 b2 : Nat → Option BX} : ∀ {vs : List V}, (∀ n ∈ vs.flatMap bx1, ∀ b, b1 n = some b → b2 n = some b) → ∀ {r : List T × List Nat}, convL b1 vs = some r → convL b2 vs = some r
  | [], _, r, hc => hc
  | v :: vs, h, r, hc => by
    unfold convL at hc ⊢
    split at hc
    · rename_i x r1 xs rs hx hxs
      rw [conv1_local (fun n hn => h n (by simp [hn])) hx, convL_local (fun n hn => h n (by simp only [List.flatMap_cons, List.mem_append]; exact .inr hn)) hxs]
      exact hc
    · cases hc

theorem conv_local {b1 b2 : Nat → Option BX} {v : V} (h : ∀ n ∈ bx2 v, ∀ b, b1 n = some b → b2 n = some b) {r : T × List Nat} (hc : conv b1 v = some r) : conv b2 v = some r := by
  cases v with
  | fn f caps =>
    unfold conv at hc ⊢
    simp only at hc ⊢
    split at hc
    · rename_i ts rd hts
      rw [convL_local h hts]
      exact hc
    · cases hc
  | top => exact conv1_local (v := .top) h hc
  | t x => exact conv1_local (v := .t x) h hc
  | ptr n off => exact conv1_local (v := .ptr n off) h hc
  | view n off len size => exact conv1_local (v := .view n off len size) h hc
  | own r e n xs => exact conv1_local (v := .own r e n xs) h hc
  | tup vs => exact conv1_local (v := .tup vs) h hc
  | raw x => exact conv1_local (v := .raw x) h hc

theorem convs_local {b1 b2 : Nat → Option BX} : ∀ {vs : List V}, (∀ n ∈ vs.flatMap bx2, ∀ b, b1 n = some b → b2 n = some b) → ∀ {r : List T × List Nat}, convs b1 vs = some r → convs b2 vs = some r
  | [], _, r, hc => hc
  | v :: vs, h, r, hc => by
    unfold convs at hc ⊢
    split at hc
    · rename_i x r1 xs rs hx hxs
      rw [conv_local (fun n hn => h n (by simp [hn])) hx, convs_local (fun n hn => h n (by simp only [List.flatMap_cons, List.mem_append]; exact .inr hn)) hxs]
      exact hc
    · cases hc

theorem ev_eq {s1 s2 : Nat → V} {x : O} (h : ∀ m ∈ x.reads, s2 m = s1 m) : ev s2 x = ev s1 x := by
  cases x with
  | tmp n => exact h n (by simp [O.reads])
  | const t => rfl

theorem evs_eq {s1 s2 : Nat → V} : ∀ {xs : List O}, (∀ m ∈ osReads xs, s2 m = s1 m) → xs.map (ev s2) = xs.map (ev s1)
  | [], _ => rfl
  | x :: xs, h => by
    rw [List.map_cons, List.map_cons, ev_eq (fun m hm => h m (by simp [osReads, hm])), evs_eq (fun m hm => h m (by simp [osReads, hm]))]

theorem evo_eq {s1 s2 : Nat → V} {x : Option O} (h : ∀ m ∈ optO x, s2 m = s1 m) : x.map (ev s2) = x.map (ev s1) := by
  cases x with
  | none => rfl
  | some x => rw [Option.map_some, Option.map_some, ev_eq h]

theorem fillT_eq {s1 s2 : Nat → V} : ∀ {ps : List (Nat × Nat × O)} {zs : List T} {c : Prop}, (∀ m ∈ osReads (ps.map (·.2.2)), s2 m = s1 m) → fillT s2 zs c ps = fillT s1 zs c ps
  | [], _, _, _ => rfl
  | (off, size, x) :: ps, zs, c, h => by
    unfold fillT
    rw [ev_eq (s1 := s1) (fun m hm => h m (by simp [osReads, hm]))]
    split
    · rfl
    · rw [fillT_eq fun m hm => h m (by simp [osReads, hm])]
    · rw [fillT_eq fun m hm => h m (by simp [osReads, hm])]
    · rfl

theorem fillS_eq {s1 s2 : Nat → V} {size : Nat} : ∀ {ps : List (Nat × O)} {es : List T} {c : Prop}, (∀ m ∈ osReads (ps.map (·.2)), s2 m = s1 m) → fillS s2 size es c ps = fillS s1 size es c ps
  | [], _, _, _ => rfl
  | (i, x) :: ps, es, c, h => by
    unfold fillS
    rw [ev_eq (s1 := s1) (fun m hm => h m (by simp [osReads, hm]))]
    split
    · rfl
    · rw [fillS_eq fun m hm => h m (by simp [osReads, hm])]
    · rw [fillS_eq fun m hm => h m (by simp [osReads, hm])]
    · rfl

theorem mem_bxs_ev {sl : Nat → V} {x : O} {n : Nat} (h : n ∈ bxs (ev sl x)) : ∃ m ∈ x.reads, n ∈ bxs (sl m) := by
  cases x with
  | tmp m => exact ⟨m, by simp [O.reads], h⟩
  | const t => simp [ev, bxs, bx1] at h

theorem mem_bxs_evs {sl : Nat → V} : ∀ {xs : List O} {n : Nat}, n ∈ (xs.map (ev sl)).flatMap bx2 → ∃ m ∈ osReads xs, n ∈ bxs (sl m)
  | [], n, h => by simp at h
  | x :: xs, n, h => by
    simp only [List.map_cons, List.flatMap_cons, List.mem_append] at h
    rcases h with h | h
    · obtain ⟨m, h1, h2⟩ := mem_bxs_ev (bx23 h)
      exact ⟨m, by simp [osReads, h1], h2⟩
    · obtain ⟨m, h1, h2⟩ := mem_bxs_evs h
      exact ⟨m, by simp [osReads, h1], h2⟩

/-- The same slots, and the boxes that are looked at: the same effect. -/
theorem effO_local {x : DOp} (hx : x.cls ≠ .wild) {d : Option Nat} {s1 s2 : St} (hs : ∀ m ∈ x.reads, s2.sl m = s1.sl m) (hb : ∀ n ∈ x.tch s1.sl, ∀ b, s1.bx n = some b → s2.bx n = some b)
    (hd : x.cls = .make → ∀ n, d = some n → s1.bx n = none → s2.bx n = none) {e : Eff} (h : effO P x d s1 e) : effO P x d s2 e := by
  have pure : eff x d s2.sl s2.bx = eff x d s1.sl s1.bx → inR (eff x d s1.sl s1.bx) e → inR (eff x d s2.sl s2.bx) e := fun h1 h2 => by rw [h1]; exact h2
  cases x with
  | append | buildS | inl | clr => exact absurd rfl hx
  | mov x => exact pure (by simp only [eff, ev_eq hs]) h
  | pick c a b =>
    refine pure ?_ h
    simp only [DOp.reads, List.mem_append] at hs
    simp only [eff]
    rw [ev_eq fun m hm => hs m (.inl (.inl hm)), ev_eq fun m hm => hs m (.inl (.inr hm)), ev_eq fun m hm => hs m (.inr hm)]
  | alloc zs =>
    cases d with
    | none => exact h
    | some n =>
      have h : inR (eff (.alloc zs) (some n) s1.sl s1.bx) e := h
      show inR (eff (.alloc zs) (some n) s2.sl s2.bx) e
      simp only [eff] at h ⊢
      cases hb1 : s1.bx n with
      | some c => rw [hb1] at h; exact h.elim
      | none => rw [hd rfl n rfl hb1]; rw [hb1] at h; exact h
  | box m x =>
    cases d with
    | none => exact h
    | some n =>
      have h : inR (eff (.box m x) (some n) s1.sl s1.bx) e := h
      show inR (eff (.box m x) (some n) s2.sl s2.bx) e
      simp only [eff] at h ⊢
      rw [ev_eq hs]
      cases hb1 : s1.bx n with
      | some c =>
        rw [hb1] at h
        cases hbo : boxOf m (ev s1.sl x) with
        | none => rw [hbo] at h; exact h.elim
        | some q => rw [hbo] at h; exact h.elim
      | none => rw [hd rfl n rfl hb1]; rw [hb1] at h; exact h
  | load n agg a =>
    have hev := ev_eq hs
    have h : inR (eff (.load n agg a) d s1.sl s1.bx) e := h
    show inR (eff (.load n agg a) d s2.sl s2.bx) e
    simp only [eff] at h ⊢
    rw [hev]
    cases hv : ev s1.sl a with
    | ptr b off =>
      rw [hv] at h
      simp only at h ⊢
      cases hbx : s1.bx b with
      | none => rw [hbx] at h; exact h.elim
      | some c =>
        rw [hb b (by show b ∈ bx1 (ev s1.sl a); rw [hv]; simp [bx1]) c hbx]
        rw [hbx] at h
        exact h
    | t x => rw [hv] at h; cases x <;> exact h
    | _ => rw [hv] at h; exact h
  | store n a x =>
    simp only [DOp.reads, List.mem_append] at hs
    have hev := ev_eq (s1 := s1.sl) (s2 := s2.sl) (x := a) fun m hm => hs m (.inl hm)
    have hex := ev_eq (s1 := s1.sl) (s2 := s2.sl) (x := x) fun m hm => hs m (.inr hm)
    have h : inR (eff (.store n a x) d s1.sl s1.bx) e := h
    show inR (eff (.store n a x) d s2.sl s2.bx) e
    simp only [eff] at h ⊢
    rw [hev, hex]
    cases hv : ev s1.sl a with
    | ptr b off =>
      rw [hv] at h
      simp only at h ⊢
      cases hbx : s1.bx b with
      | none => rw [hbx] at h; exact h.elim
      | some c =>
        rw [hb b (by show b ∈ bx1 (ev s1.sl a); rw [hv]; simp [bx1]) c hbx]
        rw [hbx] at h
        exact h
    | _ => rw [hv] at h; exact h
  | offA k x => exact pure (by simp only [eff, ev_eq hs]) h
  | fld off size agg x => exact pure (by simp only [eff, ev_eq hs]) h
  | not x => exact pure (by simp only [eff, ev_eq hs]) h
  | neg x => exact pure (by simp only [eff, ev_eq hs]) h
  | conv k x => exact pure (by simp only [eff, ev_eq hs]) h
  | len x => exact pure (by simp only [eff, ev_eq hs]) h
  | lenS x => exact pure (by simp only [eff, ev_eq hs]) h
  | ext x i => exact pure (by simp only [eff, ev_eq hs]) h
  | nilck x => exact pure (by simp only [eff, ev_eq hs]) h
  | idxA _ _ a x =>
    simp only [DOp.reads, List.mem_append] at hs
    exact pure (by simp only [eff]; rw [ev_eq fun m hm => hs m (.inl hm), ev_eq fun m hm => hs m (.inr hm)]) h
  | idxL _ a x =>
    simp only [DOp.reads, List.mem_append] at hs
    exact pure (by simp only [eff]; rw [ev_eq fun m hm => hs m (.inl hm), ev_eq fun m hm => hs m (.inr hm)]) h
  | idxV _ _ _ a x =>
    simp only [DOp.reads, List.mem_append] at hs
    exact pure (by simp only [eff]; rw [ev_eq fun m hm => hs m (.inl hm), ev_eq fun m hm => hs m (.inr hm)]) h
  | idxS a x =>
    simp only [DOp.reads, List.mem_append] at hs
    exact pure (by simp only [eff]; rw [ev_eq fun m hm => hs m (.inl hm), ev_eq fun m hm => hs m (.inr hm)]) h
  | bin _ a x =>
    simp only [DOp.reads, List.mem_append] at hs
    exact pure (by simp only [eff]; rw [ev_eq fun m hm => hs m (.inl hm), ev_eq fun m hm => hs m (.inr hm)]) h
  | eqv _ _ a x =>
    simp only [DOp.reads, List.mem_append] at hs
    exact pure (by simp only [eff]; rw [ev_eq fun m hm => hs m (.inl hm), ev_eq fun m hm => hs m (.inr hm)]) h
  | eqB _ a x =>
    simp only [DOp.reads, List.mem_append] at hs
    exact pure (by simp only [eff]; rw [ev_eq fun m hm => hs m (.inl hm), ev_eq fun m hm => hs m (.inr hm)]) h
  | maxI a x =>
    simp only [DOp.reads, List.mem_append] at hs
    exact pure (by simp only [eff]; rw [ev_eq fun m hm => hs m (.inl hm), ev_eq fun m hm => hs m (.inr hm)]) h
  | minI a x =>
    simp only [DOp.reads, List.mem_append] at hs
    exact pure (by simp only [eff]; rw [ev_eq fun m hm => hs m (.inl hm), ev_eq fun m hm => hs m (.inr hm)]) h
  | slice _ x lo hi =>
    simp only [DOp.reads, List.mem_append] at hs
    exact pure (by simp only [eff]; rw [ev_eq fun m hm => hs m (.inl (.inl hm)), evo_eq fun m hm => hs m (.inl (.inr hm)), evo_eq fun m hm => hs m (.inr hm)]) h
  | sliceS x lo hi =>
    simp only [DOp.reads, List.mem_append] at hs
    exact pure (by simp only [eff]; rw [ev_eq fun m hm => hs m (.inl (.inl hm)), evo_eq fun m hm => hs m (.inl (.inr hm)), evo_eq fun m hm => hs m (.inr hm)]) h
  | sliceA _ _ x lo hi =>
    simp only [DOp.reads, List.mem_append] at hs
    exact pure (by simp only [eff]; rw [ev_eq fun m hm => hs m (.inl (.inl hm))]) h
  | build zs ps => exact pure (by simp only [eff]; rw [fillT_eq hs]) h
  | buildT size n zs ps =>
    have : fillS s2.sl size (List.replicate n (cond (Nat.beq size 1) (zs.headD .nil) (.agg zs))) True ps = fillS s1.sl size (List.replicate n (cond (Nat.beq size 1) (zs.headD .nil) (.agg zs))) True ps := fillS_eq hs
    exact pure (by simp only [eff]; rw [this]) h
  | mkfn f xs => exact pure (by simp only [eff]; rw [evs_eq hs]) h
  | call f args =>
    obtain ⟨ts, rd, r, h1, h2⟩ := h
    refine ⟨ts, rd, r, ?_, h2⟩
    rw [evs_eq (s1 := s1.sl) hs]
    exact convs_local (fun n hn => hb n hn) h1
  | callv x args =>
    simp only [DOp.reads, List.mem_append] at hs
    simp only [DOp.tch, List.mem_append] at hb
    obtain ⟨f, caps, hf, ts, rd, r, h1, h2⟩ := h
    refine ⟨f, caps, ?_, ts, rd, r, ?_, h2⟩
    · rw [ev_eq (s1 := s1.sl) fun m hm => hs m (.inl hm)]; exact hf
    · rw [evs_eq (s1 := s1.sl) fun m hm => hs m (.inr hm)]
      refine convs_local (fun n hn => ?_) h1
      rw [List.flatMap_append, List.mem_append] at hn
      rcases hn with hn | hn
      · exact hb n (.inr hn)
      · have : n ∈ bxs (ev s1.sl x) := by
          unfold fnOf at hf
          split at hf
          · simp only [Option.some.injEq, Prod.mk.injEq] at hf
            obtain ⟨-, rfl⟩ := hf
            obtain ⟨c, hc, hn⟩ := List.mem_flatMap.1 hn
            obtain ⟨t, _, rfl⟩ := List.mem_map.1 hc
            cases hn
          · rename_i g cs hv
            simp only [Option.some.injEq, Prod.mk.injEq] at hf
            obtain ⟨-, rfl⟩ := hf
            rw [hv]; exact hn
          · cases hf
        exact hb n (.inl this)

/-- What an operation writes: nothing, or a box of its own slot's name that was not there. -/
theorem effO_wr {x : DOp} (hx : x.cls ≠ .wild) {d : Option Nat} {st : St} {e : Eff} (h : effO P x d st e) : e.wr = none ∨ (∃ n b, d = some n ∧ st.bx n = none ∧ e.wr = some (n, b)) ∨ (∃ n b, x.cls = .store ∧ n ∈ x.tch st.sl ∧ (st.bx n).isSome = true ∧ e.wr = some (n, b)) := by
  cases x with
  | append | buildS | inl | clr => exact absurd rfl hx
  | call f args => obtain ⟨ts, rd, r, _, _, _, rfl⟩ := h; exact .inl rfl
  | callv x args => obtain ⟨_, _, _, ts, rd, r, _, _, _, rfl⟩ := h; exact .inl rfl
  | alloc zs =>
    have h : inR (eff (.alloc zs) d st.sl st.bx) e := h
    cases d with
    | none => exact h.elim
    | some n =>
      simp only [eff] at h
      cases hb : st.bx n with
      | none => rw [hb] at h; cases h; exact .inr (.inl ⟨n, _, rfl, hb, rfl⟩)
      | some b => rw [hb] at h; exact h.elim
  | box m x =>
    have h : inR (eff (.box m x) d st.sl st.bx) e := h
    cases d with
    | none => exact h.elim
    | some n =>
      simp only [eff] at h
      cases hb : st.bx n with
      | none =>
        rw [hb] at h
        cases hc : boxOf m (ev st.sl x) with
        | none => rw [hc] at h; exact h.elim
        | some p => rw [hc] at h; obtain ⟨_, rfl⟩ := h; exact .inr (.inl ⟨n, _, rfl, hb, rfl⟩)
      | some b => rw [hb] at h; exact h.elim
  | store k a x =>
    have h : inR (eff (.store k a x) d st.sl st.bx) e := h
    simp only [eff] at h
    cases hv : ev st.sl a with
    | ptr b off =>
      rw [hv] at h
      simp only at h
      cases hbx : st.bx b with
      | none => rw [hbx] at h; exact h.elim
      | some c =>
        rw [hbx] at h
        have hw : ∃ bx', e.wr = some (b, bx') := by
          simp only [storeB, cond_eq_ite] at h
          repeat' (first | exact h.elim | (obtain ⟨_, rfl⟩ := h; exact ⟨_, rfl⟩) | (split at h) | (unfold inR at h; simp only at h; first | exact h.elim | (obtain ⟨_, rfl⟩ := h; exact ⟨_, rfl⟩)))
        obtain ⟨bx', hw⟩ := hw
        exact .inr (.inr ⟨b, bx', rfl, by show b ∈ bx1 (ev st.sl a); rw [hv]; simp [bx1], by rw [hbx]; rfl, hw⟩)
    | _ => rw [hv] at h; exact h.elim
  | _ =>
    refine .inl ?_
    simp only [effO, eff, loadB, partT, binI, binS, val, valT, tval, cond_eq_ite] at h
    repeat' (first | exact h.elim | (subst h; rfl) | (obtain ⟨_, rfl⟩ := h; rfl) | (split at h) | (unfold inR at h; simp only at h; first | exact h.elim | (subst h; rfl) | (obtain ⟨_, rfl⟩ := h; rfl)))

end Go.DL
end
section
/- The data level: a region whose order is drawn. Generic over the program; no statement here. -/
namespace Go.DL
open Go.RowKit

variable {P : Program} {X : List FuncId} {N : Nat} {w0 : World} {S0 : Base} {o : Oper} {a : Act} {E : Env} {st : St}

theorem in_wpR {r : EffR} {d : Option Nat} {K : St → Prop} {e : Eff} (h : inR r e) (hk : K (st.app d e)) : wpR r d st K := by
  cases r with
  | no => exact h
  | yes e0 => cases h; exact hk
  | need c e0 => obtain ⟨hc, rfl⟩ := h; exact ⟨hc, hk⟩
  | alt c b f => obtain ⟨hc, rfl⟩ := h; exact ⟨hc, fun b' hb => hb ▸ hk⟩
  | eq c t f => obtain ⟨hc, rfl⟩ := h; exact ⟨hc, fun b' hb => hb ▸ hk⟩

theorem in_wpCall {f : FuncId} {args : List V} {d : Option Nat} {K : St → Prop} {ts : List T} {rd : List Nat} {r : T} (h1 : convs st.bx args = some (ts, rd)) (h2 : DCalls P f ts r) (h3 : rd = [] ∨ r.flat = true) (hk : K (st.set d (.t r))) : wpCall P f args d st K := by
  unfold wpCall
  rw [h1]
  cases rd with
  | nil => exact ⟨r, h2, hk⟩
  | cons x xs =>
    rcases h3 with h3 | h3
    · cases h3
    · exact ⟨r, h2, h3, hk⟩

theorem eff_wpO {x : DOp} (hx : x.cls ≠ .wild) {d : Option Nat} {K : St → Prop} {e : Eff} (h : effO P x (st.nm d) st e) (hk : K (st.app d e)) : wpO P x d st K := by
  have gen : ∀ x : DOp, (wpR (eff x (st.nm d) st.sl st.bx) d st K → wpO P x d st K) → (effO P x (st.nm d) st e → inR (eff x (st.nm d) st.sl st.bx) e) → effO P x (st.nm d) st e → wpO P x d st K := fun x h1 h2 h => h1 (in_wpR (h2 h) hk)
  cases x with
  | append | buildS | inl | clr => exact absurd rfl hx
  | call f args =>
    obtain ⟨ts, rd, r, h1, h2, h3, rfl⟩ := h
    rw [app_t] at hk
    exact in_wpCall h1 h2 h3 hk
  | callv x args =>
    obtain ⟨f, caps, hf, ts, rd, r, h1, h2, h3, rfl⟩ := h
    rw [app_t] at hk
    unfold fnOf at hf
    unfold wpO
    simp only
    split at hf
    · rename_i g cs hv
      simp only [Option.some.injEq, Prod.mk.injEq] at hf
      obtain ⟨rfl, rfl⟩ := hf
      try rw [hv]
      exact in_wpCall h1 h2 h3 hk
    · rename_i g cs hv
      simp only [Option.some.injEq, Prod.mk.injEq] at hf
      obtain ⟨rfl, rfl⟩ := hf
      try rw [hv]
      exact in_wpCall h1 h2 h3 hk
    · cases hf
  | _ => exact gen _ id id h

theorem DOp.plain_of {x : DOp} (h : x.cls ≠ .wild) : x.plain = true := by cases x <;> first | rfl | exact absurd rfl h

theorem wpI_eff {i : DI} (hx : i.op.cls ≠ .wild) {K : St → Prop} (h : wpI P i st K) : ∃ e, effI P i st e ∧ K (st.app i.dst e) := by
  unfold wpI at h
  cases hg : i.guard with
  | none =>
    rw [hg] at h
    obtain ⟨e, he, hk⟩ := wpO_eff (DOp.plain_of hx) h
    exact ⟨e, by unfold effI; rw [hg]; exact he, hk⟩
  | some gw =>
    obtain ⟨g, want⟩ := gw
    rw [hg] at h
    simp only at h
    split at h
    · rename_i b hb
      have run : b = want → wpO P i.op i.dst st K → ∃ e, effI P i st e ∧ K (st.app i.dst e) := fun hw h => by
        obtain ⟨e, he, hk⟩ := wpO_eff (DOp.plain_of hx) h
        exact ⟨e, by unfold effI; rw [hg]; exact .inl ⟨b, hb, .inl ⟨hw, he⟩⟩, hk⟩
      have skip : b ≠ want → K (st.set i.dst skipV) → ∃ e, effI P i st e ∧ K (st.app i.dst e) := fun hw h => ⟨{ val := skipV }, by unfold effI; rw [hg]; exact .inl ⟨b, hb, .inr ⟨hw, rfl⟩⟩, h⟩
      cases b <;> cases want <;> simp only at h
      · exact run rfl h
      · exact skip (by decide) h
      · exact skip (by decide) h
      · exact run rfl h
    · rename_i hb
      exact ⟨{ val := skipV }, by unfold effI; rw [hg]; exact .inr ⟨hb, rfl⟩, h⟩
    · exact h.elim

theorem eff_wpI {i : DI} (hx : i.op.cls ≠ .wild) {K : St → Prop} {e : Eff} (h : effI P i st e) (hk : K (st.app i.dst e)) : wpI P i st K := by
  unfold effI at h
  unfold wpI
  cases hg : i.guard with
  | none => rw [hg] at h; exact eff_wpO hx h hk
  | some gw =>
    obtain ⟨g, want⟩ := gw
    rw [hg] at h
    rcases h with ⟨b, hb, h⟩ | ⟨hb, rfl⟩
    · simp only [hb]
      rcases h with ⟨rfl, he⟩ | ⟨hne, rfl⟩
      · cases b <;> exact eff_wpO hx he hk
      · cases b <;> cases want <;> simp only <;> first | exact absurd rfl hne | exact hk
    · simp only [hb]; exact hk

/-! ### two operations that are independent -/
/-- What an operation looks at is there. -/
def LiveAt (j : DI) (st : St) : Prop := ∀ n ∈ j.op.tch st.sl, (st.bx n).isSome = true

theorem effI_local {i : DI} (hx : i.op.cls ≠ .wild) {s1 s2 : St} (hs : ∀ m ∈ i.reads, s2.sl m = s1.sl m) (hb : ∀ n ∈ i.op.tch s1.sl, ∀ b, s1.bx n = some b → s2.bx n = some b)
    (ho : s2.off = s1.off) (hd : ∀ n, s1.nm i.dst = some n → s1.bx n = none → s2.bx n = none) {e : Eff} (h : effI P i s1 e) : effI P i s2 e := by
  have hnm : s2.nm i.dst = s1.nm i.dst := by unfold St.nm; rw [ho]
  have op : effO P i.op (s1.nm i.dst) s1 e → effO P i.op (s2.nm i.dst) s2 e := by
   rw [hnm]
   exact effO_local hx (fun m hm => hs m (by unfold DI.reads; simp [hm])) hb (fun _ => hd)
  unfold effI at h ⊢
  cases hg : i.guard with
  | none => rw [hg] at h; exact op h
  | some gw =>
    obtain ⟨g, want⟩ := gw
    rw [hg] at h
    rcases h with ⟨b, hbv, h⟩ | ⟨hbv, h⟩
    · exact .inl ⟨b, (hs g (by unfold DI.reads; rw [hg]; simp)).trans hbv, h.imp (fun h => ⟨h.1, op h.2⟩) id⟩
    · exact .inr ⟨(hs g (by unfold DI.reads; rw [hg]; simp)).trans hbv, h⟩

/-- What is written: nothing; a new box of the own name; a box that is looked at (a store). -/
def Wrote (i : DI) (st : St) (e : Eff) : Prop := e.wr = none ∨ (∃ n b, st.nm i.dst = some n ∧ st.bx n = none ∧ e.wr = some (n, b)) ∨ ∃ n b, i.op.cls = .store ∧ n ∈ i.op.tch st.sl ∧ (st.bx n).isSome = true ∧ e.wr = some (n, b)

theorem effI_wr {i : DI} (hx : i.op.cls ≠ .wild) {e : Eff} (h : effI P i st e) : Wrote i st e := by
  unfold effI at h
  split at h
  · exact effO_wr hx h
  · obtain ⟨b, _, ⟨_, h⟩ | ⟨_, rfl⟩⟩ | ⟨_, rfl⟩ := h
    · exact effO_wr hx h
    · exact .inl rfl
    · exact .inl rfl

theorem app_sl (d : Option Nat) (e : Eff) (m : Nat) (h : d ≠ some m) : (st.app d e).sl m = st.sl m := by
  unfold St.app
  cases d with
  | none => split <;> rfl
  | some n =>
    have hne : m ≠ n := fun hh => h (by rw [hh])
    split <;> exact upd_other _ _ _ _ hne

theorem app_bx (d : Option Nat) (e : Eff) (n : Nat) (h : ∀ b, e.wr ≠ some (n, b)) : (st.app d e).bx n = st.bx n := by
  unfold St.app
  simp only
  split
  · rename_i k c hw
    have hne : n ≠ k := fun hh => h c (by rw [hh]; exact hw)
    show upd (st.set d e.val).bx k (some c) n = _
    rw [upd_other _ _ _ _ hne]
    cases d <;> rfl
  · cases d <;> rfl

theorem upd_comm {α : Type} (f : Nat → α) {n m : Nat} (h : n ≠ m) (x y : α) : upd (upd f n x) m y = upd (upd f m y) n x := by
  funext k
  by_cases h1 : k = m
  · subst h1
    rw [upd_same, upd_other _ _ _ _ (fun hh => h hh.symm), upd_same]
  · rw [upd_other _ _ _ _ h1]
    by_cases h2 : k = n
    · subst h2; rw [upd_same, upd_same]
    · rw [upd_other _ _ _ _ h2, upd_other _ _ _ _ h2, upd_other _ _ _ _ h1]

theorem St.ext' {s1 s2 : St} (h1 : s1.sl = s2.sl) (h2 : s1.bx = s2.bx) (h3 : s1.gh = s2.gh) (h4 : s1.off = s2.off) (h5 : s1.cx = s2.cx) : s1 = s2 := by cases s1; cases s2; cases h1; cases h2; cases h3; cases h4; cases h5; rfl

theorem set_gh (s : St) (d : Option Nat) (v : V) : (s.set d v).gh = s.gh := by cases d <;> rfl
theorem set_off (s : St) (d : Option Nat) (v : V) : (s.set d v).off = s.off := by cases d <;> rfl
theorem app_gh (s : St) (d : Option Nat) (e : Eff) : (s.app d e).gh = s.gh := by unfold St.app; simp only; split <;> exact set_gh _ _ _
theorem app_off (s : St) (d : Option Nat) (e : Eff) : (s.app d e).off = s.off := by unfold St.app; simp only; split <;> exact set_off _ _ _

theorem app_cx (s : St) (d : Option Nat) (e : Eff) : (s.app d e).cx = s.cx := by
  have : ∀ (s : St) (d : Option Nat) (v : V), (s.set d v).cx = s.cx := fun s d v => by cases d <;> rfl
  unfold St.app; simp only; split <;> exact this _ _ _

theorem nm_ne {s s' : St} (hs : s'.off = s.off) {d1 d2 : Option Nat} (hd : ∀ n, d1 = some n → d2 ≠ some n) {n : Nat} (h1 : s.nm d1 = some n) (h2 : s'.nm d2 = some n) : False := by
  cases d1 with
  | none => cases h1
  | some m =>
    cases d2 with
    | none => cases h2
    | some k =>
      simp only [St.nm, Option.some.injEq] at h1 h2
      exact hd m rfl (by rw [hs] at h2; have : k = m := by omega
                         rw [this])

theorem app_comm {d1 d2 : Option Nat} (hd : ∀ n, d1 = some n → d2 ≠ some n) {e1 e2 : Eff} (hw : ∀ n b m c, e1.wr = some (n, b) → e2.wr = some (m, c) → n ≠ m) :
    (st.app d1 e1).app d2 e2 = (st.app d2 e2).app d1 e1 := by
  have hsl : ∀ (s : St) d e, (s.app d e).sl = (s.set d e.val).sl := fun s d e => by unfold St.app; simp only; split <;> rfl
  have hbx : ∀ (s : St) d e, (s.app d e).bx = match e.wr with | some (n, c) => upd s.bx n (some c) | none => s.bx := fun s d e => by
    unfold St.app
    simp only
    cases e.wr with
    | none => cases d <;> rfl
    | some p => cases d <;> rfl
  refine St.ext' ?_ ?_ (by simp only [app_gh]) (by simp only [app_off]) (by simp only [app_cx])
  · rw [hsl, hsl]
    cases d1 with
    | none => cases d2 <;> simp only [St.set, hsl]
    | some n1 =>
      cases d2 with
      | none => simp only [St.set, hsl]
      | some n2 =>
        simp only [St.set, hsl]
        exact upd_comm _ (fun e => hd n1 rfl (by rw [e])) _ _
  · rw [hbx, hbx, hbx, hbx]
    cases h1 : e1.wr with
    | none => rfl
    | some p1 =>
      cases h2 : e2.wr with
      | none => rfl
      | some p2 => exact upd_comm _ (hw p1.1 p1.2 p2.1 p2.2 h1 h2) _ _

theorem memN_iff {n : Nat} : ∀ {l : List Nat}, memN n l = true ↔ n ∈ l
  | [] => by simp [memN]
  | m :: l => by
    unfold memN
    cases h : Nat.beq n m with
    | true => simp [Nat.eq_of_beq_eq_true h]
    | false =>
      have : n ≠ m := fun e => by rw [e, beq_self] at h; cases h
      simp [memN_iff, this]

theorem indep_spec {i j : DI} (h : i.indep j = true) : i.op.cls ≠ .wild ∧ j.op.cls ≠ .wild ∧ (∀ d, i.dst = some d → d ∉ j.reads) ∧ (∀ d, i.dst = some d → j.dst ≠ some d) ∧ (∀ d, j.dst = some d → d ∉ i.reads) ∧
    (clsPair i.op.cls j.op.cls = some false ∨ clsPair i.op.cls j.op.cls = some true) := by
  unfold DI.indep at h
  rw [Bool.and_eq_true] at h
  obtain ⟨h1, h2⟩ := h
  unfold DI.apart at h1
  rw [Bool.and_eq_true] at h1
  refine ⟨fun hc => ?_, fun hc => ?_, fun d hd hm => ?_, fun d hd he => ?_, fun d hd hm => ?_, ?_⟩
  · rw [hc] at h2; simp [clsPair] at h2
  · rw [hc] at h2; revert h2; cases i.op.cls <;> simp [clsPair]
  · have := h1.1; rw [hd] at this; simp [memN_iff.2 hm] at this
  · have := h1.1; rw [hd] at this; simp [he, isD, beq_self] at this
  · have := h1.2; rw [hd] at this; simp [memN_iff.2 hm] at this
  · cases hc : clsPair i.op.cls j.op.cls with
    | none => rw [hc] at h2; cases h2
    | some b => cases b <;> simp

theorem disj_no {a b : List Nat} (h : disj a b = true) {n : Nat} (h1 : n ∈ a) (h2 : n ∈ b) : False := by
  unfold disj at h
  rw [List.all_eq_true] at h
  have := h n h1
  rw [List.contains_iff_mem.2 h2] at this
  cases this

/-- In this state neither of the two writes what the other looks at, nor do both write one box. -/
theorem pair_apart {i j : DI} (hc : clsPair i.op.cls j.op.cls = some false ∨ disj (i.op.tch st.sl) (j.op.tch st.sl) = true) {n : Nat} :
    (i.op.cls = .store → n ∈ i.op.tch st.sl → n ∈ j.op.tch st.sl → False) ∧ (j.op.cls = .store → n ∈ i.op.tch st.sl → n ∈ j.op.tch st.sl → False) := by
  rcases hc with hc | hd
  · have key : ∀ x y : DOp, x.cls = .store → (clsPair x.cls y.cls = some false ∨ clsPair y.cls x.cls = some false) → ∀ sl, y.tch sl = [] := fun x y hx hp sl => by
      rw [hx] at hp
      cases y <;> first | rfl | (simp [DOp.cls, clsPair] at hp)
    refine ⟨fun hi _ h2 => ?_, fun hj h1 _ => ?_⟩
    · rw [key i.op j.op hi (.inl hc)] at h2; cases h2
    · rw [key j.op i.op hj (.inr hc)] at h1; cases h1
  · exact ⟨fun _ h1 h2 => disj_no hd h1 h2, fun _ h1 h2 => disj_no hd h1 h2⟩

theorem tch_eq {x : DOp} {s1 s2 : Nat → V} (h : ∀ m ∈ x.reads, s2 m = s1 m) : x.tch s2 = x.tch s1 := by
  cases x with
  | load n agg a => show bx1 _ = bx1 _; rw [ev_eq h]
  | store n a y => show bx1 _ = bx1 _; rw [ev_eq fun m hm => h m (by simp [DOp.reads, hm])]
  | call f args => show List.flatMap _ _ = List.flatMap _ _; rw [evs_eq h]
  | callv y args => show bxs _ ++ List.flatMap _ _ = bxs _ ++ List.flatMap _ _; rw [ev_eq fun m hm => h m (by simp [DOp.reads, hm]), evs_eq fun m hm => h m (by simp [DOp.reads, hm])]
  | _ => rfl

theorem chk_acc {l : List Nat} {acc acc' : Nat → List Nat} {t : List Nat} (h : ∀ k, acc' k = acc k ∨ acc' k = []) (hc : chk l acc t = true) : chk l acc' t = true := by
  unfold chk at hc ⊢
  rw [List.all_eq_true] at hc ⊢
  intro i hi
  rcases h i with e | e
  · rw [e]; exact hc i hi
  · rw [e]; rfl

theorem wpR_mono {r : EffR} {d : Option Nat} {K K' : St → Prop} (hk : ∀ s, K s → K' s) (h : wpR r d st K) : wpR r d st K' := by
  cases r with
  | no => exact h
  | yes e => exact hk _ h
  | need c e => exact ⟨h.1, hk _ h.2⟩
  | alt c b f => exact ⟨h.1, fun b' e => hk _ (h.2 b' e)⟩
  | eq c t f => exact ⟨h.1, fun t' e => hk _ (h.2 t' e)⟩

theorem wpCall_mono {f : FuncId} {args : List V} {d : Option Nat} {K K' : St → Prop} (hk : ∀ s, K s → K' s) (h : wpCall P f args d st K) : wpCall P f args d st K' := by
  unfold wpCall at h ⊢
  split at h
  · obtain ⟨r, h1, h2⟩ := h; exact ⟨r, h1, hk _ h2⟩
  · obtain ⟨r, h1, h2, h3⟩ := h; exact ⟨r, h1, h2, hk _ h3⟩
  · exact h

theorem WC_mono {f : FuncId} {us : List V} {d : Option Nat} {K K' : St → Prop} (hk : ∀ s, K s → K' s) (h : WC P f us d st K) : WC P f us d st K' :=
  ⟨h.1, fun N w0 S0 E a vs h1 h2 h3 h4 => (h.2 N w0 S0 E a vs h1 h2 h3 h4).mono fun e w' ⟨v, hv, E', st', hw, hK, hs⟩ => ⟨v, hv, E', st', hw, hk _ hK, hs⟩⟩

theorem cond_mono {b : Bool} {A B C : Prop} (h : A → B) : (cond b A C) → cond b B C := by cases b <;> simp; exact h

theorem wpAppend_mono {e : TypeId} {size bytes d q : Nat} {s x : V} {K K' : St → Prop} (hk : ∀ s, K s → K' s) (h : wpAppend e size bytes d q s x st K) : wpAppend e size bytes d q s x st K' := by
  unfold wpAppend at h ⊢
  split at h
  · refine ⟨h.1, ?_⟩
    have h := h.2
    split at h
    · exact ⟨h.1, hk _ h.2⟩
    · exact cond_mono (fun h => ⟨h.1, hk _ h.2⟩) h
    · exact h
  · split at h
    · exact hk _ h
    · exact cond_mono (fun h => ⟨h.1, hk _ h.2⟩) h
    · exact h
  · exact h

theorem wpO_mono {o : DOp} {d : Option Nat} {K K' : St → Prop} (hk : ∀ s, K s → K' s) (h : wpO P o d st K) : wpO P o d st K' := by
  unfold wpO at h ⊢
  split at h
  · cases d with
    | none => exact h
    | some n => exact wpAppend_mono hk h
  · cases d with
    | none => exact h
    | some n =>
      revert h
      simp only
      split
      · exact fun h => ⟨h.1, hk _ h.2⟩
      · exact fun h => h
  · exact wpCall_mono hk h
  · exact WC_mono hk h
  · revert h
    split
    · exact wpCall_mono hk
    · exact wpCall_mono hk
    · exact fun h => h
  · exact wpR_mono hk h

theorem wpI_mono {i : DI} {K K' : St → Prop} (hk : ∀ s, K s → K' s) (h : wpI P i st K) : wpI P i st K' := by
  unfold wpI at h ⊢
  split at h
  · exact wpO_mono hk h
  · revert h
    split
    · split
      · exact wpO_mono hk
      · exact wpO_mono hk
      · exact hk _
      · exact hk _
    · exact hk _
    · exact fun h => h

/-- Fewer that are held apart. -/
theorem wpIsD_acc {ck : List (List Nat)} {K : St → Prop} : ∀ {l : List (Nat × DI)} {acc acc' : Nat → List Nat} {st : St}, (∀ k, acc' k = acc k ∨ acc' k = []) → wpIsD P ck acc l st K → wpIsD P ck acc' l st K
  | [], _, _, _, _, h => h
  | (j, i) :: l, acc, acc', st, ha, h => by
    refine ⟨chk_acc ha h.1, wpI_mono (fun s hs => ?_) h.2⟩
    refine wpIsD_acc (fun k => ?_) hs
    by_cases hk : k = j
    · subst hk; rw [upd_same, upd_same]; exact .inl rfl
    · rw [upd_other _ _ _ _ hk, upd_other _ _ _ _ hk]; exact ha k

/-- What is asked of j where it stands, asked here. -/
theorem wpIsD_chk {ck : List (List Nat)} {jk : Nat} {j : DI} {post : List (Nat × DI)} {K : St → Prop} : ∀ {pre : List (Nat × DI)} {acc : Nat → List Nat} {st : St}, (∀ p ∈ pre, p.2.indep j = true) →
    wpIsD P ck acc (pre ++ (jk, j) :: post) st K → ∃ acc', (∀ k, k ∉ pre.map (·.1) → acc' k = acc k) ∧ chk (ck[jk]?.getD []) acc' (j.op.tch st.sl) = true
  | [], acc, st, _, h => ⟨acc, fun _ _ => rfl, h.1⟩
  | (ik, i) :: pre, acc, st, hp, h => by
    obtain ⟨c1, c2, a1, a2, a3, hcp⟩ := indep_spec (hp (ik, i) (by simp))
    obtain ⟨ei, hei, hk⟩ := wpI_eff c1 h.2
    obtain ⟨acc', h1, h2⟩ := wpIsD_chk (fun p hpp => hp p (List.mem_cons_of_mem _ hpp)) hk
    refine ⟨acc', fun k hk => ?_, ?_⟩
    · simp only [List.map_cons, List.mem_cons, not_or] at hk
      rw [h1 k hk.2, upd_other _ _ _ _ hk.1]
    · rwa [tch_eq fun m hm => app_sl _ _ _ fun he => a1 m he (by unfold DI.reads; simp [hm])] at h2

/-- What runs apart from what stands before it may run first. -/
theorem wpIsD_front {ck : List (List Nat)} {jk : Nat} {j : DI} {post : List (Nat × DI)} {K : St → Prop} : ∀ {pre : List (Nat × DI)} {acc : Nat → List Nat} {st : St},
    (∀ p ∈ pre, p.2.indep j = true ∧ (clsPair p.2.op.cls j.op.cls = some true → p.1 ∈ ck[jk]?.getD [])) → ((pre.map (·.1)).Nodup) → (∀ p ∈ pre, p.1 ≠ jk) → (∀ p ∈ pre, acc p.1 = []) → acc jk = [] → LiveAt j st →
    wpIsD P ck acc (pre ++ (jk, j) :: post) st K → wpI P j st fun st' => wpIsD P ck acc (pre ++ post) st' K
  | [], acc, st, _, _, _, _, h0, _, h => wpI_mono (fun s hs => wpIsD_acc (fun k => (by
      by_cases hk : k = jk
      · exact .inr (hk ▸ h0)
      · exact .inl (upd_other _ _ _ _ hk).symm)) hs) h.2
  | (ik, i) :: pre, acc, st, hp, hnd, hne, hacc, h0, hl, h => by
    obtain ⟨hij, hik⟩ := hp (ik, i) (by simp)
    obtain ⟨c1, c2, a1, a2, a3, hcp⟩ := indep_spec hij
    obtain ⟨hchk, h⟩ := h
    obtain ⟨ei, hei, hk⟩ := wpI_eff c1 h
    have wi := effI_wr c1 hei
    have hslj : ∀ m ∈ j.reads, (st.app i.dst ei).sl m = st.sl m := fun m hm => app_sl _ _ _ fun he => a1 m he hm
    have htj : j.op.tch (st.app i.dst ei).sl = j.op.tch st.sl := tch_eq fun m hm => hslj m (by unfold DI.reads; simp [hm])
    have nd : (ik ∉ pre.map (·.1)) ∧ (pre.map (·.1)).Nodup := List.nodup_cons.1 hnd
    have hp' : ∀ p ∈ pre, p.2.indep j = true ∧ (clsPair p.2.op.cls j.op.cls = some true → p.1 ∈ ck[jk]?.getD []) := fun p hpp => hp p (List.mem_cons_of_mem _ hpp)
    -- the boxes are apart
    have hdis : clsPair i.op.cls j.op.cls = some false ∨ disj (i.op.tch st.sl) (j.op.tch st.sl) = true := by
      rcases hcp with hcp | hcp
      · exact .inl hcp
      · refine .inr ?_
        obtain ⟨acc', q1, q2⟩ := wpIsD_chk (fun p hpp => (hp' p hpp).1) hk
        rw [htj] at q2
        unfold chk at q2
        rw [List.all_eq_true] at q2
        have h2 := q2 ik (hik hcp)
        rwa [q1 ik nd.1, upd_same] at h2
    have extj : ∀ n ∈ j.op.tch st.sl, (st.app i.dst ei).bx n = st.bx n := fun n hn => by
      refine app_bx _ _ _ fun b' hw => ?_
      rcases wi with wi | ⟨n', b'', h1, h2, h3⟩ | ⟨n', b'', h1, h2, h3, h4⟩
      · rw [wi] at hw; cases hw
      · rw [h3] at hw; cases hw
        have := hl n hn
        rw [h2] at this; cases this
      · rw [h4] at hw; cases hw
        exact (pair_apart hdis).1 h1 h2 hn
    have none_i : ∀ n, (st.app i.dst ei).bx n = none → st.bx n = none := fun n hn => by
      rw [← hn]
      refine (app_bx _ _ _ fun b' hw => ?_).symm
      have : (st.app i.dst ei).bx n = some b' := by
        unfold St.app
        simp only [hw]
        exact upd_same _ _ _
      rw [this] at hn; cases hn
    have hl' : LiveAt j (st.app i.dst ei) := fun n hn => by
      rw [htj] at hn
      rw [extj n hn]; exact hl n hn
    have hrec := wpIsD_front hp' nd.2 (fun p hpp => hne p (List.mem_cons_of_mem _ hpp)) (fun p hpp => by
        by_cases hk : p.1 = ik
        · exact absurd (hk ▸ List.mem_map_of_mem hpp) nd.1
        · rw [upd_other _ _ _ _ hk]; exact hacc p (List.mem_cons_of_mem _ hpp)) (by
        by_cases hk : jk = ik
        · exact absurd hk.symm (hne (ik, i) (by simp))
        · rw [upd_other _ _ _ _ hk]; exact h0) hl' hk
    obtain ⟨ej, hej, hk2⟩ := wpI_eff c2 hrec
    have hej0 : effI P j st ej := by
      refine effI_local c2 (fun m hm => (hslj m hm).symm) (fun n hn b hb => ?_) (app_off _ _ _).symm (fun n _ hn => none_i n hn) hej
      rw [htj] at hn
      rw [← extj n hn]; exact hb
    have wj := effI_wr c2 hej0
    refine eff_wpI c2 hej0 ?_
    have hti : i.op.tch (st.app j.dst ej).sl = i.op.tch st.sl := tch_eq fun m hm => app_sl _ _ _ fun he => a3 m he (by unfold DI.reads; simp [hm])
    refine ⟨by rw [hti]; exact hchk, ?_⟩
    refine eff_wpI (e := ei) c1 (effI_local c1 (fun m hm => app_sl _ _ _ fun he => a3 m he hm) (fun n hn b hb => ?_) (app_off _ _ _) (fun n hn hbn => ?_) hei) ?_
    · rw [app_bx]; exact hb
      intro b' hw
      rcases wj with wj | ⟨n', b'', h1, h2, h3⟩ | ⟨n', b'', h1, h2, h3, h4⟩
      · rw [wj] at hw; cases hw
      · rw [h3] at hw; cases hw; rw [h2] at hb; cases hb
      · rw [h4] at hw; cases hw
        exact (pair_apart hdis).2 h1 hn h2
    · rw [app_bx]; exact hbn
      intro b hw
      rcases wj with wj | ⟨n', b', h1, h2, h3⟩ | ⟨n', b', h1, h2, h3, h4⟩
      · rw [wj] at hw; cases hw
      · rw [h3] at hw; cases hw; exact nm_ne (s := st) (s' := st) rfl a2 hn h1
      · rw [h4] at hw; cases hw
        rw [hbn] at h3; cases h3
    · rw [hti, app_comm (fun n h1 h2 => a2 n h2 h1) (fun n b m c hwj hwi hnm => ?_)]
      · exact hk2
      · subst hnm
        rcases wi with wi | ⟨n1, b1, k1, k2, k3⟩ | ⟨n1, b1, k1, k2, k3, k4⟩
        · rw [wi] at hwi; cases hwi
        · rw [k3] at hwi; cases hwi
          rcases wj with wj | ⟨n2, b2, l1, l2, l3⟩ | ⟨n2, b2, l1, l2, l3, l4⟩
          · rw [wj] at hwj; cases hwj
          · rw [l3] at hwj; cases hwj; exact nm_ne (s := st) (s' := st) rfl a2 k1 l1
          · rw [l4] at hwj; cases hwj; rw [k2] at l3; cases l3
        · rw [k4] at hwi; cases hwi
          rcases wj with wj | ⟨n2, b2, l1, l2, l3⟩ | ⟨n2, b2, l1, l2, l3, l4⟩
          · rw [wj] at hwj; cases hwj
          · rw [l3] at hwj; cases hwj; rw [l2] at k3; cases k3
          · rw [l4] at hwj; cases hwj
            exact (pair_apart hdis).1 k1 k2 l2

theorem wpIsD_of {K : St → Prop} : ∀ {l : List (Nat × DI)} {acc : Nat → List Nat} {st : St}, wpIs P (l.map (·.2)) st K → wpIsD P [] acc l st K
  | [], _, _, h => h
  | (j, i) :: l, acc, st, h => ⟨rfl, wpI_mono (fun _ hs => wpIsD_of hs) h⟩

theorem bx1_live {v : Value} {u : V} (h : VR E v u) (n : Nat) (hn : n ∈ bx1 u) : E.live n = true := by
  cases h <;> simp [bx1] at hn <;> subst hn <;> assumption

theorem bx2_live {v : Value} {u : V} (h : VR E v u) (n : Nat) (hn : n ∈ bx2 u) : E.live n = true := by
  cases u with
  | fn f vs =>
    cases h with
    | fn _ cs _ hs hv =>
      obtain ⟨c, hc, hn⟩ := List.mem_flatMap.1 hn
      obtain ⟨i, hi⟩ := List.mem_iff_getElem?.1 hc
      have hlt : i < cs.size := by rw [hs]; exact (List.getElem?_eq_some_iff.1 hi).1
      exact bx1_live (hv i _ c (Array.getElem?_eq_getElem hlt) hi) n hn
  | ptr k off => exact bx1_live h n hn
  | view k off len size => exact bx1_live h n hn
  | _ => cases hn

theorem bxs_live {v : Value} {u : V} (h : VR E v u) (n : Nat) (hn : n ∈ bxs u) : E.live n = true := by
  cases u with
  | fn f vs =>
    cases h with
    | fn _ cs _ hs hv =>
      obtain ⟨c, hc, hn⟩ := List.mem_flatMap.1 hn
      obtain ⟨i, hi⟩ := List.mem_iff_getElem?.1 hc
      have hlt : i < cs.size := by rw [hs]; exact (List.getElem?_eq_some_iff.1 hi).1
      exact bx2_live (hv i _ c (Array.getElem?_eq_getElem hlt) hi) n hn
  | ptr k off => exact bx1_live h n hn
  | view k off len size => exact bx1_live h n hn
  | _ => cases hn

theorem SR.liveAt {t : Array Value} (h : SR N w0 S0 E st t) (j : DI) : LiveAt j st := fun n hn => by
  have ev_live : ∀ (x : O), n ∈ bxs (ev st.sl x) → (st.bx n).isSome = true := fun x hx => by
    obtain ⟨m, _, hm⟩ := mem_bxs_ev hx
    rw [← h.live]; exact bxs_live (h.sl m) n hm
  have evs_live : ∀ (xs : List O), n ∈ (xs.map (ev st.sl)).flatMap bx2 → (st.bx n).isSome = true := fun xs hx => by
    obtain ⟨m, _, hm⟩ := mem_bxs_evs hx
    rw [← h.live]; exact bxs_live (h.sl m) n hm
  unfold DOp.tch at hn
  split at hn
  · exact ev_live _ (bx23 (bx12 hn))
  · exact ev_live _ (bx23 (bx12 hn))
  · exact evs_live _ hn
  · rcases List.mem_append.1 hn with hn | hn
    · exact ev_live _ hn
    · exact evs_live _ hn
  · cases hn

end Go.DL
end
section
/- The data level: a region whose order is drawn does what it does in the order of its text. Generic over the program; no statement here. -/
namespace Go.DL
open Go.RowKit

variable {P : Program} {X : List FuncId} {N : Nat} {w0 : World} {S0 : Base} {a : Act} {E : Env} {st : St}

/-- The names that an instruction waits for. -/
def aft (is : List DI) (k : Nat) : List Nat := (is[k]?.getD default).after

theorem has_iff {m k : Nat} : has m k = true ↔ m.testBit k = true := by
  unfold has Nat.testBit
  have h : Nat.land (Nat.shiftRight m k) 1 = 1 &&& (m >>> k) := Nat.and_comm _ _
  rw [h]
  have h1 : (1 &&& (m >>> k)) = (m >>> k) % 2 := by rw [Nat.and_comm]; exact Nat.and_one_is_mod _
  rw [h1]
  rcases Nat.mod_two_eq_zero_or_one (m >>> k) with e | e <;> rw [e] <;> simp

theorem has_mask {acc : List Nat} : ∀ {l : List Nat} {i : Nat}, has (maskOf acc l) i = true → i ∈ l ∨ ∃ k ∈ l, has (acc[k]?.getD 0) i = true
  | [], i, h => by
    rw [has_iff] at h
    simp [maskOf] at h
  | k :: ks, i, h => by
    rw [has_iff] at h
    have e : maskOf acc (k :: ks) = ((1 <<< k) ||| (acc[k]?.getD 0)) ||| maskOf acc ks := rfl
    rw [e, Nat.testBit_or, Nat.testBit_or, Bool.or_eq_true, Bool.or_eq_true] at h
    rcases h with (h | h) | h
    · left
      rw [Nat.testBit_shiftLeft] at h
      simp only [Bool.and_eq_true, decide_eq_true_eq] at h
      have : i - k = 0 := by
        rcases Nat.eq_zero_or_pos (i - k) with h0 | h0
        · exact h0
        · exfalso
          have := h.2
          rw [Nat.testBit_lt_two_pow (x := 1) (by exact Nat.one_lt_two_pow (by omega))] at this
          cases this
      have : i = k := by omega
      simp [this]
    · exact .inr ⟨k, by simp, has_iff.2 h⟩
    · rcases has_mask (has_iff.2 h) with h | ⟨k', h1, h2⟩
      · exact .inl (List.mem_cons_of_mem _ h)
      · exact .inr ⟨k', List.mem_cons_of_mem _ h1, h2⟩

theorem depsOf_spec {L : Nat → Prop} {is0 : List DI} (hcl : ∀ k, L k → ∀ e ∈ aft is0 k, L e) : ∀ (is : List DI) (acc : List Nat), (∀ k, is0[acc.length + k]? = is[k]?) →
    (∀ k, (∀ e ∈ aft is0 k, L e) → ∀ i, has (acc[k]?.getD 0) i = true → L i) → ∀ k, (∀ e ∈ aft is0 k, L e) → ∀ i, has ((depsOf acc is)[k]?.getD 0) i = true → L i
  | [], acc, _, hacc => hacc
  | d :: is, acc, his, hacc => by
    unfold depsOf
    refine depsOf_spec hcl is _ (fun k => ?_) (fun k hk i hi => ?_)
    · have := his (k + 1)
      simp only [List.length_append, List.length_cons, List.length_nil]
      rw [show acc.length + (0 + 1) + k = acc.length + (k + 1) by omega, this]
      simp
    · rcases Nat.lt_trichotomy k acc.length with h | h | h
      · rw [List.getElem?_append_left h] at hi
        exact hacc k hk i hi
      · subst h
        have hd : is0[acc.length]? = some d := by simpa using his 0
        have ha : aft is0 acc.length = d.after := by unfold aft; rw [hd]; rfl
        rw [List.getElem?_append_right (Nat.le_refl _)] at hi
        simp only [Nat.sub_self, List.getElem?_cons_zero, Option.getD_some] at hi
        rw [ha] at hk
        rcases has_mask hi with hi | ⟨k', hk', hi⟩
        · exact hk i hi
        · exact hacc k' (hcl k' (hk k' hk')) i hi
      · rw [List.getElem?_eq_none (by simp; omega)] at hi
        rw [has_iff] at hi
        simp at hi

theorem okPre_spec {m : Nat} {j : DI} : ∀ {c k : Nat} {is : List DI}, okPre m j k c is = true → ∀ x i, x < c → is[x]? = some i → has m (k + x) = true ∨ i.indep j = true
  | 0, _, _, _, x, _, hx, _ => absurd hx (by omega)
  | c + 1, k, [], _, x, i, _, hi => by simp at hi
  | c + 1, k, i0 :: is, h, x, i, hx, hi => by
    unfold okPre at h
    simp only [cond_eq_ite, ite_eq_left_iff, Bool.not_eq_true, Bool.if_true_left, Bool.decide_eq_true, Bool.or_eq_true, if_false_right, Bool.and_eq_true] at h
    cases x with
    | zero =>
      simp at hi; subst hi
      revert h
      cases has m k <;> cases i0.indep j <;> simp_all
    | succ x =>
      have h2 : okPre m j (k + 1) c is = true := by
        revert h
        cases has m k <;> cases i0.indep j <;> simp_all
      have := okPre_spec h2 x i (by omega) (by simpa using hi)
      rwa [show k + 1 + x = k + (x + 1) by omega] at this

theorem okAll_spec {is : List DI} : ∀ {rest : List DI} {n : Nat} {ms : List Nat}, okAll is n rest ms = true → ∀ x j, rest[x]? = some j → (∀ e ∈ j.after, e < n + x) ∧ okPre (ms[x]?.getD 0) j 0 (n + x) is = true
  | [], n, ms, _, x, j, hj => by simp at hj
  | j0 :: rest, n, [], h, x, j, hj => by simp [okAll] at h
  | j0 :: rest, n, m :: ms, h, x, j, hj => by
    unfold okAll at h
    have h3 : (j0.after.all fun i => Nat.blt i n) = true ∧ okPre m j0 0 n is = true ∧ okAll is (n + 1) rest ms = true := by
      revert h
      cases (j0.after.all fun i => Nat.blt i n) <;> cases okPre m j0 0 n is <;> simp
    cases x with
    | zero =>
      simp at hj; subst hj
      refine ⟨fun e he => ?_, h3.2.1⟩
      exact Nat.le_of_ble_eq_true (List.all_eq_true.1 h3.1 e he)
    | succ x =>
      have := okAll_spec h3.2.2 x j (by simpa using hj)
      rw [show n + 1 + x = n + (x + 1) by omega] at this
      simpa using this

theorem drawOk_spec {is : List DI} (h : drawOk is = true) {j : Nat} (hj : j < is.length) : (∀ e ∈ aft is j, e < j) ∧ ∀ i, i < j → has ((depsOf [] is)[j]?.getD 0) i = true ∨ (is[i]?.getD default).indep (is[j]?.getD default) = true := by
  have h1 := okAll_spec h j _ (List.getElem?_eq_getElem hj)
  rw [Nat.zero_add] at h1
  refine ⟨fun e he => ?_, fun i hi => ?_⟩
  · unfold aft at he
    rw [List.getElem?_eq_getElem hj] at he
    exact h1.1 e he
  · have hi' : i < is.length := by omega
    have := okPre_spec h1.2 i _ hi (List.getElem?_eq_getElem hi')
    rw [Nat.zero_add] at this
    rw [List.getElem?_eq_getElem hj, List.getElem?_eq_getElem hi']
    exact this

theorem ckPre_spec {m : Nat} {j : DI} : ∀ {c k : Nat} {is : List DI} (x : Nat) (i : DI), x < c → is[x]? = some i → has m (k + x) = false → clsPair i.op.cls j.op.cls = some true → k + x ∈ ckPre m j k c is
  | 0, _, _, x, _, hx, _, _, _ => absurd hx (by omega)
  | c + 1, k, [], x, i, _, hi, _, _ => by simp at hi
  | c + 1, k, i0 :: is, x, i, hx, hi, hn, hc => by
    unfold ckPre
    cases x with
    | zero =>
      simp at hi; subst hi
      rw [Nat.add_zero] at hn
      rw [hn, hc]
      simp [isTrue]
    | succ x =>
      have h := ckPre_spec (m := m) (j := j) (c := c) (k := k + 1) (is := is) x i (by omega) (by simpa using hi) (by rwa [show k + 1 + x = k + (x + 1) by omega]) hc
      rw [show k + 1 + x = k + (x + 1) by omega] at h
      cases (bif has m k then false else isTrue (clsPair i0.op.cls j.op.cls)) with
      | true => exact List.mem_cons_of_mem _ h
      | false => exact h

theorem ckAll_spec {is : List DI} : ∀ {rest : List DI} {n : Nat} {ms : List Nat}, rest.length ≤ ms.length → ∀ x j, rest[x]? = some j → (ckAll is n rest ms)[x]?.getD [] = ckPre (ms[x]?.getD 0) j 0 (n + x) is
  | [], n, ms, _, x, j, hj => by simp at hj
  | j0 :: rest, n, [], h, x, j, hj => by simp at h
  | j0 :: rest, n, m :: ms, h, x, j, hj => by
    unfold ckAll
    cases x with
    | zero => simp at hj; subst hj; simp
    | succ x =>
      have := ckAll_spec (is := is) (rest := rest) (n := n + 1) (ms := ms) (by simpa using h) x j (by simpa using hj)
      rw [show n + 1 + x = n + (x + 1) by omega] at this
      simpa using this

theorem depsOf_len : ∀ (is : List DI) (acc : List Nat), (depsOf acc is).length = acc.length + is.length
  | [], acc => by simp [depsOf]
  | i :: is, acc => by unfold depsOf; rw [depsOf_len is]; simp; omega

def pickI (is : List DI) (ks : List Nat) : List (Nat × DI) := ks.map fun k => (k, is[k]?.getD default)

/-- The pairs that are held apart are those that must be. -/
def CkOk (is : List DI) (ck : List (List Nat)) : Prop := ∀ j, j < is.length → ∀ i, i < j → has ((depsOf [] is)[j]?.getD 0) i = false → clsPair (is[i]?.getD default).op.cls (is[j]?.getD default).op.cls = some true → i ∈ ck[j]?.getD []

theorem ckPairs_ok (is : List DI) : CkOk is (ckPairs is) := fun j hj i hi hn hc => by
  unfold ckPairs
  have hi' : i < is.length := by omega
  rw [ckAll_spec (by rw [depsOf_len]; simp) j _ (List.getElem?_eq_getElem hj), Nat.zero_add]
  rw [List.getElem?_eq_getElem hj, List.getElem?_eq_getElem hi'] at hc
  have := ckPre_spec (k := 0) (is := is) i _ hi (List.getElem?_eq_getElem hi') (by rwa [Nat.zero_add]) hc
  rwa [Nat.zero_add] at this

theorem ckOf_ok (is : List DI) : CkOk is (ckOf is) := by
  unfold ckOf
  cases h : (ckPairs is).all (·.isEmpty) with
  | false => exact ckPairs_ok is
  | true =>
    intro j hj i hi hn hc
    exfalso
    have := ckPairs_ok is j hj i hi hn hc
    rw [List.all_eq_true] at h
    cases hx : (ckPairs is)[j]? with
    | none => rw [hx] at this; simp at this
    | some l =>
      rw [hx, Option.getD_some] at this
      have := h l (List.mem_of_getElem? hx)
      cases l with
      | nil => rename_i h1; cases h1
      | cons a r => cases this

theorem numb_pick {is : List DI} : ∀ (l : List DI) (k : Nat), (∀ m, is[k + m]? = l[m]?) → numb k l = (List.range' k l.length).map fun k => (k, is[k]?.getD default)
  | [], k, _ => rfl
  | i :: l, k, h => by
    have h0 : is[k]? = some i := by simpa using h 0
    show (k, i) :: numb (k + 1) l = _
    rw [numb_pick l (k + 1) fun m => by have := h (m + 1); simp at this; rw [← this]; congr 1; omega]
    rw [List.length_cons, List.range'_succ, List.map_cons, h0]
    rfl

theorem wpAny_of {ck : List (List Nat)} {ops : Array Oper} {is : List DI} (hl : lowIs P N X ops ops.toList = some is) (hok : drawOk is = true) (hck : CkOk is ck) {Q : Exit → Act → World → Prop} {K : St → Prop} {ds : List Deferred} (hQ : ∀ a w, EndIs N w0 S0 ds K a w → Q .normal a w) :
    ∀ (fuel : Nat) (listed : Array Bool) (rem : List Nat) {a : Act} {E : Env} {st : St} (_ : SR N w0 S0 E st a.tmps) (_ : a.defers = ds) (_ : listed.size = ops.size) (_ : rem = (List.range ops.size).filter (fun k => !listed.getD k true)) (_ : rem.length = fuel)
      (_ : ∀ k, listed.getD k false = true → ∀ e ∈ aft is k, listed.getD e false = true) (_ : wpIsD P ck (fun _ => []) (pickI is rem) st K), wpAny P .any ops Q fuel listed a E.w := by
  have hlen : ops.size = is.length := by simpa using (lowIs_get hl).1
  -- an operation that may run now
  have rdy : ∀ (listed : Array Bool) (j : Nat), j ∈ Region.ready .any ops listed → j < ops.size ∧ listed.getD j true = false ∧ ∀ e ∈ aft is j, listed.getD e false = true := fun listed j hj => by
    obtain ⟨h1, o, ho, h2⟩ := mem_ready.1 hj
    refine ⟨(Array.getElem?_eq_some_iff.1 ho).1, h1, fun e he => ?_⟩
    obtain ⟨i, hi, hli⟩ := (lowIs_get hl).2 j o (Array.getElem?_toList.trans ho)
    obtain ⟨_, _, _, ha, _⟩ := lowI_inv hli
    unfold aft at he
    rw [hi, Option.getD_some, ha, List.mem_map] at he
    obtain ⟨x, hx, rfl⟩ := he
    rw [List.mem_filter] at hx
    exact h2 x (by simpa using hx.1) hx.2
  have rdy' : ∀ (listed : Array Bool) (j : Nat), j < ops.size → listed.getD j true = false → (∀ e ∈ aft is j, listed.getD e false = true) → j ∈ Region.ready .any ops listed := fun listed j hlt h1 h2 => by
    have ho : ops[j]? = some ops[j] := Array.getElem?_eq_getElem hlt
    refine mem_ready.2 ⟨h1, _, ho, fun e he hb => ?_⟩
    obtain ⟨i, hi, hli⟩ := (lowIs_get hl).2 j _ (Array.getElem?_toList.trans ho)
    obtain ⟨_, _, _, ha, _⟩ := lowI_inv hli
    refine h2 _ ?_
    unfold aft
    rw [hi, Option.getD_some, ha, List.mem_map]
    exact ⟨e, List.mem_filter.2 ⟨by simpa using he, hb⟩, rfl⟩
  have mem : ∀ (listed : Array Bool) (j : Nat), j ∈ (List.range ops.size).filter (fun k => !listed.getD k true) ↔ j < ops.size ∧ listed.getD j true = false := fun listed j => by
    rw [List.mem_filter, List.mem_range]; simp
  have flip : ∀ (listed : Array Bool) (j : Nat), j < listed.size → (listed.getD j true = listed.getD j false) := fun listed j h => by simp [h]
  intro fuel
  induction fuel with
  | zero =>
    intro listed rem a E st h hd hsz hrem hfu hcl hw
    have h0 : rem = [] := List.eq_nil_of_length_eq_zero hfu
    refine ⟨?_, ?_⟩
    · cases hr : Region.ready .any ops listed with
      | nil => rfl
      | cons x xs =>
        have hx := rdy listed x (by rw [hr]; simp)
        have : x ∈ rem := by rw [hrem]; exact (mem listed x).2 ⟨hx.1, hx.2.1⟩
        rw [h0] at this; cases this
    · rw [h0] at hw; exact hQ a E.w ⟨E, st, rfl, h, hd, hw⟩
  | succ fuel ih =>
    intro listed rem a E st h hd hsz hrem hfu hcl hw
    refine ⟨fun hr => ?_, fun j hj => ?_⟩
    · exfalso
      cases hm : rem with
      | nil => rw [hm] at hfu; cases hfu
      | cons k rest =>
        have hk : k < ops.size ∧ listed.getD k true = false := (mem listed k).1 (by rw [← hrem, hm]; simp)
        have hsort : rem.Pairwise (· < ·) := by rw [hrem]; exact List.Pairwise.filter _ List.pairwise_lt_range
        have : k ∈ Region.ready .any ops listed := by
          refine rdy' listed k hk.1 hk.2 fun e he => ?_
          have hlt := (drawOk_spec hok (by omega)).1 e he
          cases hle : listed.getD e false with
          | true => rfl
          | false =>
            exfalso
            have hin : e ∈ rem := by rw [hrem]; exact (mem listed e).2 ⟨by omega, by rw [flip _ _ (by omega)]; exact hle⟩
            rw [hm] at hin hsort
            rcases List.mem_cons.1 hin with rfl | hin
            · omega
            · have := (List.pairwise_cons.1 hsort).1 e hin; omega
        rw [hr] at this; cases this
    · obtain ⟨hj1, hj2, hj3⟩ := rdy listed j hj
      have hjr : j ∈ rem := by rw [hrem]; exact (mem listed j).2 ⟨hj1, hj2⟩
      obtain ⟨pre, post, hpp⟩ := List.append_of_mem hjr
      have hsort : rem.Pairwise (· < ·) := by rw [hrem]; exact List.Pairwise.filter _ List.pairwise_lt_range
      have ho : ops[j]? = some ops[j] := Array.getElem?_eq_getElem hj1
      obtain ⟨i, hi, hli⟩ := (lowIs_get hl).2 j _ (Array.getElem?_toList.trans ho)
      have hpu : ∀ p ∈ pre, p < j ∧ listed.getD p true = false := fun p hp => by
        rw [hpp] at hsort
        exact ⟨(List.pairwise_append.1 hsort).2.2 p hp j (by simp), ((mem listed p).1 (by rw [← hrem, hpp]; simp [hp])).2⟩
      have hnd' : ∀ p ∈ pre, has ((depsOf [] is)[j]?.getD 0) p = false := fun p hp => by
        refine Bool.eq_false_iff.2 fun hdep => ?_
        have := depsOf_spec (L := fun k => listed.getD k false = true) (is0 := is) hcl is [] (by simp) (fun k _ i hi => by rw [has_iff] at hi; simp at hi) j hj3 p hdep
        have h2 := (hpu p hp).2
        rw [flip _ _ (by have := (hpu p hp).1; omega)] at h2
        rw [h2] at this; cases this
      have hpre : ∀ x ∈ pickI is pre, x.2.indep i = true ∧ (clsPair x.2.op.cls i.op.cls = some true → x.1 ∈ ck[j]?.getD []) := fun x hx => by
        obtain ⟨p, hp, rfl⟩ := List.mem_map.1 hx
        have hlt := (hpu p hp).1
        refine ⟨?_, fun hc => ?_⟩
        · rcases (drawOk_spec hok (by omega)).2 p hlt with hdep | hind
          · rw [hnd' p hp] at hdep; cases hdep
          · rw [hi, Option.getD_some] at hind; exact hind
        · refine hck j (by omega) p hlt (hnd' p hp) ?_
          rw [hi, Option.getD_some]; exact hc
      have hnodup : rem.Nodup := hsort.imp (fun h => Nat.ne_of_lt h)
      have hnd0 : pre.Nodup := by rw [hpp] at hnodup; exact (List.nodup_append.1 hnodup).1
      have hfst : (pickI is pre).map (·.1) = pre := by unfold pickI; rw [List.map_map]; exact List.map_id' _
      have hw1 : wpI P i st fun st' => wpIsD P ck (fun _ => []) (pickI is pre ++ pickI is post) st' K := by
        refine wpIsD_front hpre (by rw [hfst]; exact hnd0) (fun x hx => ?_) (fun _ _ => rfl) rfl (h.liveAt i) ?_
        · obtain ⟨p, hp, rfl⟩ := List.mem_map.1 hx
          exact Nat.ne_of_lt (hpu p hp).1
        · rw [hpp] at hw
          unfold pickI at hw ⊢
          rw [List.map_append, List.map_cons, hi] at hw
          exact hw
      refine wpOp_mono ?_ (wpI_wp h ho hli hw1 (Q := Q))
      rintro a' w' ⟨st', hk', E', rfl, hsr, hdf⟩
      refine ih _ (pre ++ post) hsr (hdf.trans hd) (by simp [hsz]) ?_ ?_ (fun k hk e he => ?_) ?_
      · have hnd : rem.Nodup := hsort.imp (fun h => Nat.ne_of_lt h)
        have h1 : (List.range ops.size).filter (fun k => !(listed.setIfInBounds j true).getD k true) = rem.filter (fun k => decide (k ≠ j)) := by
          rw [hrem, List.filter_filter]
          refine List.filter_congr fun k hk => ?_
          by_cases hkj : j = k
          · subst hkj
            have : j < listed.size := by omega
            simp [this]
          · rw [getD_set_ne _ hkj]
            have : (k ≠ j) := fun e => hkj e.symm
            simp [this]
        rw [h1, hpp, List.filter_append, List.filter_cons]
        rw [hpp] at hnd
        have hn1 : ∀ x ∈ pre, x ≠ j := fun x hx he => (List.nodup_append.1 hnd).2.2 x hx j (by simp) he
        have hn2 : ∀ x ∈ post, x ≠ j := fun x hx he => (List.nodup_cons.1 (List.nodup_append.1 hnd).2.1).1 (he ▸ hx)
        rw [List.filter_eq_self.2 (fun x hx => by simpa using hn1 x hx), List.filter_eq_self.2 (fun x hx => by simpa using hn2 x hx)]
        simp
      · rw [hpp] at hfu
        simp at hfu ⊢
        omega
      · by_cases hkj : j = k
        · subst hkj; exact getD_set_true (hj3 e he)
        · rw [getD_set_ne _ hkj] at hk
          exact getD_set_true (hcl k hk e he)
      · unfold pickI at hk' ⊢
        rw [List.map_append]
        exact hk'

theorem regionAny_wp (hm : P.follows .mixedOrders = true) (h : SR N w0 S0 E st a.tmps) {ops : Array Oper} {is : List DI} (hl : lowIs P N X ops ops.toList = some is) (hok : drawOk is = true) {Q : Exit → Act → World → Prop} {K : St → Prop}
    (hQ : ∀ a' w, EndIs N w0 S0 a.defers K a' w → Q .normal a' w) (hw : wpIsD P (ckOf is) (fun _ => []) (numb 0 is) st K) {id : Nat} : (Code.region id ops true).wp P Q a E.w := by
  refine wp_region_any hm (wpAny_of (E := { E with w := E.w.drew }) hl hok (ckOf_ok is) hQ _ _ _ h.drew rfl (by simp) rfl ?_ ?_ ?_)
  · rw [List.filter_eq_self.2]
    · simp
    · intro k hk
      rw [List.mem_range] at hk
      simp [hk]
  · intro k hk
    exfalso
    by_cases hlt : k < ops.size
    · simp [hlt] at hk
    · simp [hlt] at hk
  · rw [List.filter_eq_self.2]
    · have : ops.size = is.length := by simpa using (lowIs_get hl).1
      rw [this]
      rw [numb_pick (is := is) is 0 (fun m => by simp)] at hw
      rw [← List.range_eq_range'] at hw
      exact hw
    · intro k hk
      rw [List.mem_range] at hk
      simp [hk]

end Go.DL
end
section
/- The data level: code. Generic over the program; no statement here. -/
namespace Go.DL
open Go.RowKit

variable {P : Program} {X : List FuncId} {N : Nat} {w0 : World} {S0 : Base} {a : Act} {E : Env} {st : St}

/-! ### a state of which less is kept -/
theorem lk_mem {α : Type} {d : α} : ∀ {l : List (Nat × α)} {n : Nat}, lk d l n = d ∨ (n, lk d l n) ∈ l
  | [], n => .inl rfl
  | (k, v) :: r, n => by
    unfold lk
    by_cases h : n = k
    · subst h; rw [beq_self]; exact .inr (by simp)
    · rw [beq_ne h]
      rcases lk_mem (d := d) (l := r) (n := n) with h | h
      · exact .inl h
      · exact .inr (List.mem_cons_of_mem _ h)

theorem leSl_mem {ks : List Nat} {bx : Nat → Option BX} : ∀ {l : List (Nat × V)} {sl : Nat → V}, leSl ks bx l sl → ∀ p ∈ l, LeV ks bx p.2 (sl p.1)
  | [], _, _, p, hp => by simp at hp
  | (n, v) :: r, sl, h, p, hp => by
    rcases List.mem_cons.1 hp with rfl | hp
    · exact h.1
    · exact leSl_mem h.2 p hp

theorem leGh_mem {ks : List Nat} {bx : Nat → Option BX} : ∀ {l : List (Nat × List (Nat × V))} {gh : Nat → Nat → V}, leGh ks bx l gh → ∀ p ∈ l, leSl ks bx p.2 (gh p.1)
  | [], _, _, p, hp => by simp at hp
  | (n, v) :: r, sl, h, p, hp => by
    rcases List.mem_cons.1 hp with rfl | hp
    · exact h.1
    · exact leGh_mem h.2 p hp

theorem leBx_mem {ks : List Nat} {bx : Nat → Option BX} : ∀ {l : List (Nat × BX)}, leBx ks bx l → ∀ p ∈ l, LeB ks bx p.2 (bx p.1)
  | [], _, p, hp => by simp at hp
  | (n, v) :: r, h, p, hp => by
    rcases List.mem_cons.1 hp with rfl | hp
    · exact h.1
    · exact leBx_mem h.2 p hp

theorem inGo_mem {ks : List Nat} : ∀ {vs : List V}, inBx.go ks vs = true → ∀ v ∈ vs, inBx ks v = true
  | [], _, v, hv => by simp at hv
  | u :: us, h, v, hv => by
    simp only [inBx.go, Bool.and_eq_true] at h
    rcases List.mem_cons.1 hv with rfl | hv
    · exact h.1
    · exact inGo_mem h.2 v hv

/-- Some boxes turn to stone: their cells become stable. -/
def Env.stone (E : Env) (live : Nat → Bool) : Env := { E with live := live, S := fun b o => E.S b o ∨ ∃ n, E.live n = true ∧ live n = false ∧ b = E.κ n }

theorem VR.live {v : Value} {u : V} (h : VR E v u) : ∀ {ks : List Nat} {live : Nat → Bool}, (∀ n, ks.contains n = true → live n = true) → (∀ r g, E.ρ r = some g → ∀ n, E.live n = true → E.κ n ≠ g) → inBx ks u = true → VR (E.stone live) v u := by
  have up : ∀ {live : Nat → Bool} {v : Value} {t : T}, Rep E.S E.w v t → Rep (E.stone live).S (E.stone live).w v t := fun h => h.mono (fun b o h => .inl h) (fun _ _ _ => rfl)
  induction h with
  | top v => intro _ _ _ _ _; exact .top v
  | t v x h => intro _ _ _ _ _; exact .t v x (up h)
  | ptr n off _ => intro ks live hl _ hi; exact VR.ptr (E := E.stone live) n off (hl n hi)
  | view n off len size cap _ hc => intro ks live hl _ hi; exact VR.view (E := E.stone live) n off len size cap (hl n hi) hc
  | own v r e size xs h =>
    intro _ live _ hr _
    obtain ⟨cells, h1, h2, h3⟩ := h.ex
    refine .own v r e size xs ⟨⟨cells, h1, h2, fun i x t hx ht => up (h3 i x t hx ht)⟩, h.uni, h.one, fun g hg => ⟨(h.row g hg).1, fun o => ⟨?_, fun ho => .inl (((h.row g hg).2 o).2 ho)⟩⟩⟩
    rintro (hs | ⟨n, hn, _, he⟩)
    · exact ((h.row g hg).2 o).1 hs
    · exact absurd he.symm (hr r g (h.row g hg).1 n hn)
  | fn f cs vs hs _ ih => intro ks live hl hr hi; exact .fn f cs vs hs fun i x u hx hu => ih i x u hx hu hl hr (inGo_mem hi u (List.mem_of_getElem? hu))
  | raw v h1 => intro _ _ _ _ _; exact .raw v h1
  | tup cs vs hs _ ih => intro ks live hl hr hi; exact .tup cs vs hs fun i x u hx hu => ih i x u hx hu hl hr (inGo_mem hi u (List.mem_of_getElem? hu))

theorem leCells_get {ks : List Nat} {bx : Nat → Option BX} : ∀ {us vs : List V}, leCells ks bx us vs → us.length = vs.length ∧ ∀ (i : Nat) (u v : V), us[i]? = some u → vs[i]? = some v → LeV ks bx u v
  | [], [], _ => ⟨rfl, fun i u v hu => by simp at hu⟩
  | u :: us, v :: vs, h => by
    obtain ⟨h1, h2⟩ := leCells_get h.2
    refine ⟨by simp [h1], fun i x y hx hy => ?_⟩
    cases i with
    | zero => simp at hx hy; subst hx; subst hy; exact h.1
    | succ i => simp at hx hy; exact h2 i x y hx hy
  | [], _ :: _, h => h.elim
  | _ :: _, [], h => h.elim

theorem caps_cut {cs : Array Value} {A B : List V} {v : V} (hs : cs.size = (A ++ v :: B).length) (h : ∀ (i : Nat) (x : Value) (u : V), cs[i]? = some x → (A ++ v :: B)[i]? = some u → VR E x u) :
    ∃ (c d : Array Value) (p : Value), cs = c ++ #[p] ++ d ∧ VR E p v ∧ c.size = A.length ∧ d.size = B.length ∧ (∀ (i : Nat) (x : Value) (u : V), c[i]? = some x → A[i]? = some u → VR E x u) ∧ (∀ (i : Nat) (x : Value) (u : V), d[i]? = some x → B[i]? = some u → VR E x u) := by
  have hlen : cs.toList.length = A.length + (1 + B.length) := by simp at hs ⊢; omega
  obtain ⟨l1, l2, h1, h2⟩ : ∃ l1 l2, cs.toList = l1 ++ l2 ∧ l1.length = A.length := ⟨cs.toList.take A.length, cs.toList.drop A.length, (List.take_append_drop _ _).symm, by simp; simp at hlen; omega⟩
  match l2, h1 with
  | [], h1 => rw [h1] at hlen; simp at hlen; omega
  | p :: l3, h1 =>
    have hcs : cs = l1.toArray ++ #[p] ++ l3.toArray := Array.toList_inj.1 (by rw [h1]; simp)
    have h3 : l3.length = B.length := by rw [h1] at hlen; simp at hlen; omega
    have get : ∀ i, cs[i]? = (l1 ++ p :: l3)[i]? := fun i => by rw [← Array.getElem?_toList, h1]
    refine ⟨l1.toArray, l3.toArray, p, hcs, ?_, by simpa using h2, by simpa using h3, fun i x u hx hu => ?_, fun i x u hx hu => ?_⟩
    · exact h A.length p v (by rw [get, ← h2]; simp) (by simp)
    · have hlt : i < A.length := (List.getElem?_eq_some_iff.1 hu).1
      exact h i x u (by rw [get, List.getElem?_append_left (by omega)]; simpa using hx) (by rw [List.getElem?_append_left hlt]; exact hu)
    · exact h (A.length + (i + 1)) x u (by
        rw [get, List.getElem?_append_right (by omega)]
        rw [show A.length + (i + 1) - l1.length = i + 1 by omega]
        simpa using hx) (by
        rw [List.getElem?_append_right (by omega)]
        rw [show A.length + (i + 1) - A.length = i + 1 by omega]
        simpa using hu)

theorem SR.weak (h : SR N w0 S0 E st a.tmps) {s : Wk} (hw : weak s st) : ∃ E' : Env, E'.w = E.w ∧ SR N w0 S0 E' s.mk' a.tmps := by
  obtain ⟨h1, h2, h4, _, hcx, h3⟩ := hw
  have m1 := leSl_mem h1
  have m2 := leBx_mem h2
  have m3 := leGh_mem h4
  unfold Wk.closed at h3
  simp only [Bool.and_eq_true, List.all_eq_true] at h3
  obtain ⟨⟨c1, c2⟩, c3⟩ := h3
  -- the boxes that are kept
  have inb : ∀ n b, s.mk'.bx n = some b → (n, b) ∈ s.bx := fun n b hb => by
    have hb' : lk none (s.bx.map fun p => (p.1, some p.2)) n = some b := hb
    rcases lk_mem (d := none) (l := s.bx.map fun p => (p.1, some p.2)) (n := n) with hh | hh
    · rw [hh] at hb'; cases hb'
    · rw [hb', List.mem_map] at hh
      obtain ⟨p, hp, he⟩ := hh
      cases he; exact hp
  have isB : ∀ n, s.keys.contains n = true → (s.mk'.bx n).isSome = true := fun n hn => by
    show (lk none (s.bx.map fun p => (p.1, some p.2)) n).isSome = true
    unfold Wk.keys at hn
    revert hn
    generalize s.bx = l
    induction l with
    | nil => intro hn; simp at hn
    | cons p l ih =>
      intro hn
      simp only [List.map_cons]
      unfold lk
      by_cases hk : n = p.1
      · rw [hk, beq_self]; rfl
      · rw [beq_ne hk]
        refine ih ?_
        simp only [List.map_cons, List.contains_cons, Bool.or_eq_true, beq_iff_eq] at hn
        exact hn.resolve_left hk
  have old : ∀ n b, s.mk'.bx n = some b → ∃ b0, st.bx n = some b0 ∧ LeB s.keys st.bx b (some b0) ∧ inBB s.keys b = true := fun n b hb => by
    have hm := inb n b hb
    have hle := m2 _ hm
    have hin := c2 _ hm
    simp only at hle
    cases hb0 : st.bx n with
    | none => rw [hb0] at hle; cases hle
    | some b0 => rw [hb0] at hle; exact ⟨b0, rfl, hle, hin⟩
  have lv : ∀ n, (s.mk'.bx n).isSome = true → E.live n = true := fun n hn => by
    obtain ⟨b, hb⟩ := Option.isSome_iff_exists.1 hn
    obtain ⟨b0, h0, _⟩ := old n b hb
    rw [h.live, h0]; rfl
  have dead : ∀ n, ¬ n ∈ s.keys → (s.mk'.bx n).isSome = false := fun n hn => by
    cases hb : s.mk'.bx n with
    | none => rfl
    | some b => exact absurd (List.mem_map.2 ⟨_, inb n b hb, rfl⟩) hn
  have klt : ∀ n, E.live n = true → E.κ n < E.w.heap.size := fun n hl => by
    rw [h.live] at hl
    obtain ⟨b', hb'⟩ := Option.isSome_iff_exists.1 hl
    obtain ⟨cs, e, hg, _⟩ := (h.bx n b' hb').at_
    exact (Array.getElem?_eq_some_iff.1 hg).1
  have hrk : ∀ r g, E.ρ r = some g → ∀ n, E.live n = true → E.κ n ≠ g := fun r g hr => (h.rows r g hr).2.2
  let lv' : Nat → Bool := fun n => (s.mk'.bx n).isSome
  have lev : ∀ {v : Value} {u u' : V}, VR E v u → LeV s.keys st.bx u' u → inBx s.keys u' = true → VR (E.stone lv') v u' := fun {v u u'} hv hl hi => by
    have up : ∀ {v : Value} {t : T}, Rep E.S E.w v t → Rep (E.stone lv').S (E.stone lv').w v t := fun h => h.mono (fun b o h => .inl h) (fun _ _ _ => rfl)
    cases hl with
    | same => exact hv.live isB hrk hi
    | nil r e n =>
      have := hv.inv_t
      cases this
      exact .own _ r e n [] (Owns.nil r e n)
    | data r e n xs =>
      cases hv with
      | own _ _ _ _ _ h => exact .t _ _ (up h.rep)
    | empty n =>
      have := hv.inv_t
      cases this
      exact .t _ _ (.slice none 0 0 0 0 _ [] (fun _ => undef) rfl (Nat.le_refl _) (fun x hx => by simp at hx) (fun t ht => by simp at ht) (fun hh => by simp at hh) (fun i hi => by simp at hi) (fun i t ht => by simp at ht))
    | conv _ x rd hc hk =>
      refine .t _ _ ((conv_sound h.bx hv hc).mono ?_ (fun _ _ _ => rfl))
      rintro b o (hs | ⟨n, hn, hln, rfl⟩)
      · exact .inl hs
      · exact .inr ⟨n, hln, dead n (hk n hn), rfl⟩
    | top => exact .top _
    | knot n f A B xa ra xb rb hb ha hbb hk =>
      obtain ⟨rfl, hln⟩ := hv.inv_ptr
      obtain ⟨cs, e, hg, hcr⟩ := (h.bx n _ hb).at_
      obtain ⟨L1, M1⟩ := convL_sound h.bx ha
      obtain ⟨L2, M2⟩ := convL_sound h.bx hbb
      have sx : ∀ {rd : List Nat}, (∀ m ∈ rd, m ∈ n :: (ra ++ rb)) → ∀ b o, Sx E rd b o → (E.stone lv').S b o := fun {rd} hsub b o hs => by
        rcases hs with hs | ⟨m, hm, hlm, rfl⟩
        · exact .inl hs
        · exact .inr ⟨m, hlm, dead m (hk m (hsub m hm)), rfl⟩
      cases hcr with
      | v _ hs hh =>
        have hs : 1 ≤ cs.size := hs
        have g0 : cs[0]? = some cs[0] := Array.getElem?_eq_getElem (by omega)
        have v0 := (hh 0 _ _ g0 rfl).1
        generalize hc0 : cs[0] = z0 at v0 g0
        cases v0 with
        | fn _ d1 _ hs1 hv1 =>
          obtain ⟨p1, p2, p3, rfl, p4, p5, p6, p7, p8⟩ := caps_cut hs1 hv1
          have z1' := p4.inv_ptr.1
          subst z1'
          refine .t _ _ (.knot (E.κ n) 0 f p1 p2 xa xb (by omega) (by omega) ⟨?_, .inr ⟨n, hln, dead n (hk n (by simp)), rfl⟩⟩ (fun i x t hx ht => ?_) fun i x t hx ht => ?_)
          · show E.w.cell? _ = _
            rw [cell_of_row _ _ _ _ _ _ hg]
            exact g0
          · have hi : i < A.length := by rw [L1]; exact (List.getElem?_eq_some_iff.1 ht).1
            exact (M1 i x _ t (p7 i x _ hx (List.getElem?_eq_getElem hi)) (List.getElem?_eq_getElem hi) ht).mono (sx fun m hm => by simp [hm]) (fun _ _ _ => rfl)
          · have hi : i < B.length := by rw [L2]; exact (List.getElem?_eq_some_iff.1 ht).1
            exact (M2 i x _ t (p8 i x _ hx (List.getElem?_eq_getElem hi)) (List.getElem?_eq_getElem hi) ht).mono (sx fun m hm => by simp [hm]) (fun _ _ _ => rfl)
  refine ⟨E.stone lv', rfl, h.size, h.base, fun m => ?_, fun k m => ?_, fun n b hb => ?_, fun n => rfl, fun n m hn hm he => h.inj n m (lv n hn) (lv m hm) he, fun r g hr => ?_, h.rinj, fun b o hs => ?_, h.below, fun b o hs => .inl (h.s0 b o hs), fun b o hs => ?_, h.obj, hcx _ _ h.cx⟩
  · show VR _ _ (lk .top s.sl m)
    rcases lk_mem (d := V.top) (l := s.sl) (n := m) with hh | hh
    · rw [hh]; exact .top _
    · exact lev (h.sl m) (m1 _ hh) (c1 _ hh)
  · show VR _ _ (lk .top (lk [] s.gh k) m)
    rcases lk_mem (d := ([] : List (Nat × V))) (l := s.gh) (n := k) with hh | hh
    · rw [hh]; exact .top _
    · rcases lk_mem (d := V.top) (l := lk [] s.gh k) (n := m) with hg | hg
      · rw [hg]; exact .top _
      · exact lev (h.gh k m) (leSl_mem (m3 _ hh) _ hg) (c3 _ hh _ hg)
  · obtain ⟨b0, h0, hle, hin⟩ := old n b hb
    obtain ⟨g1, g2, cs, e, g3, g4⟩ := h.bx n b0 h0
    have hln : lv' n = true := by show (s.mk'.bx n).isSome = true; rw [hb]; rfl
    refine ⟨g1, fun o hs => ?_, cs, e, g3, ?_⟩
    · rcases hs with hs | ⟨m, hm, hmd, he⟩
      · exact g2 o hs
      · have := h.inj n m (lv n hln) hm he
        subst this
        rw [hln] at hmd; cases hmd
    · cases hle with
      | same =>
        cases g4 with
        | d n ts hl hs hh => exact .d n ts hl hs fun i x t hx ht => ⟨(hh i x t hx ht).1.mono (fun b o h => .inl h) (fun _ _ _ => rfl), (hh i x t hx ht).2⟩
        | v vs hs hh =>
          simp only [inBB, List.all_eq_true] at hin
          exact .v vs hs fun i x u hx hu => ⟨(hh i x u hx hu).1.live isB hrk (hin u (List.mem_of_getElem? hu)), (hh i x u hx hu).2⟩
      | v us vs hc =>
        obtain ⟨k1, k2⟩ := leCells_get hc
        simp only [inBB, List.all_eq_true] at hin
        cases g4 with
        | v _ hs hh =>
          refine .v us (by omega) fun i x u hx hu => ?_
          have hlt : i < vs.length := by rw [← k1]; exact (List.getElem?_eq_some_iff.1 hu).1
          have := hh i x vs[i] hx (List.getElem?_eq_getElem hlt)
          exact ⟨lev this.1 (k2 i u _ hu (List.getElem?_eq_getElem hlt)) (hin u (List.mem_of_getElem? hu)), this.2⟩
      | dv n us ts hc =>
        obtain ⟨k1, k2⟩ := leCells_get hc
        simp only [inBB, List.all_eq_true] at hin
        cases g4 with
        | d _ _ hl hs hh =>
          rw [List.length_map] at k1
          refine .v us (by omega) fun i x u hx hu => ?_
          have hlt : i < ts.length := by rw [← k1]; exact (List.getElem?_eq_some_iff.1 hu).1
          have := hh i x ts[i] hx (List.getElem?_eq_getElem hlt)
          exact ⟨lev (.t _ _ this.1) (k2 i u _ hu (by rw [List.getElem?_map, List.getElem?_eq_getElem hlt]; rfl)) (hin u (List.mem_of_getElem? hu)), this.1.one this.2⟩
  · obtain ⟨k1, k2, k3⟩ := h.rows r g hr
    exact ⟨k1, k2, fun n hn => k3 n (lv n hn)⟩
  · rcases hs with hs | ⟨n, hn, _, rfl⟩
    · exact h.lt b o hs
    · exact klt n hn
  · rcases hs with hs | ⟨n, hn, _, rfl⟩
    · exact h.s1 b o hs
    · right
      rw [h.live] at hn
      obtain ⟨b', hb'⟩ := Option.isSome_iff_exists.1 hn
      have := (h.bx n b' hb').old
      rw [h.base] at this
      exact this

/-! ### code -/
theorem wpIs_bare {K : St → Prop} : ∀ {is : List DI} {st : St}, wpIs P (is.map DI.bare) st K ↔ wpIs P is st K
  | [], _ => Iff.rfl
  | i :: is, st => ⟨fun h => wpI_mono (i := i) (fun _ => wpIs_bare.1) h, fun h => wpI_mono (i := i.bare) (fun _ => wpIs_bare.2) h⟩

theorem wpIsD_bare {ck : List (List Nat)} {K : St → Prop} : ∀ {is : List DI} {k : Nat} {acc : Nat → List Nat} {st : St}, wpIsD P ck acc (numb k (is.map DI.bare)) st K ↔ wpIsD P ck acc (numb k is) st K
  | [], _, _, _ => Iff.rfl
  | i :: is, k, acc, st => ⟨fun h => ⟨h.1, wpI_mono (i := i) (fun _ => wpIsD_bare.1) h.2⟩, fun h => ⟨h.1, wpI_mono (i := i.bare) (fun _ => wpIsD_bare.2) h.2⟩⟩

theorem cutAt_eq {a : Code} {d : DCode} : ∃ b, cutAt X a d = cond b (.cut d) d := by
  cases a with
  | region id ops dr => exact ⟨X.contains (5000000 + id), rfl⟩
  | _ => exact ⟨false, rfl⟩

theorem Exits.mono {N : Nat} {w0 : World} {S0 : Base} {ds : List Deferred} {Q Q' : DExit → St → Prop} (hq : ∀ e s, Q e s → Q' e s) : ∀ {e : Exit} {a' : Act} {w' : World}, Exits N w0 S0 ds Q e a' w' → Exits N w0 S0 ds Q' e a' w' := by
  have key : ∀ (de : DExit) (a' : Act) (w' : World), EndIs N w0 S0 ds (Q de) a' w' → EndIs N w0 S0 ds (Q' de) a' w' := by
    rintro de a' w' ⟨E', st', rfl, hsr, hdf, hk⟩
    exact ⟨E', st', rfl, hsr, hdf, hq _ _ hk⟩
  intro e a' w' h
  cases e with
  | normal => exact key .normal _ _ h
  | exit id => exact key (.exit id) _ _ h
  | ret => exact key .ret _ _ h
  | goto l => exact h
  | panic ch => exact h
  | outgrown => exact h

theorem Exits.less {a : Act} {ds : List Deferred} {K : DExit → St → Prop} : ∀ {e : Exit} {a' : Act} {w' : World}, Exits N w0 S0 ds (OrLess K) e a' w' → Exits N w0 S0 ds K e a' w' := by
  have key : ∀ (de : DExit) (a' : Act) (w' : World), EndIs N w0 S0 ds (OrLess K de) a' w' → EndIs N w0 S0 ds (K de) a' w' := by
    rintro de a' w' ⟨E', st', rfl, hsr, hdf, hq | ⟨s', hs', hq⟩⟩
    · exact ⟨E', st', rfl, hsr, hdf, hq⟩
    · obtain ⟨E'', he, hsr''⟩ := hsr.weak hs'
      exact ⟨E'', s'.mk', he, hsr'', hdf, hq⟩
  intro e a' w' h
  cases e with
  | normal => exact key .normal _ _ h
  | exit id => exact key (.exit id) _ _ h
  | ret => exact key .ret _ _ h
  | goto l => exact h
  | panic ch => exact h
  | outgrown => exact h

theorem cut_wp {c : Code} {b : Bool} {d : DCode} {a : Act} {E : Env} {st : St} {K : DExit → St → Prop} (_ : SR N w0 S0 E st a.tmps) (hw : wpC P (cond b (.cut d) d) st K)
    (hh : ∀ K, wpC P d st K → c.wp P (Exits N w0 S0 a.defers K) a E.w) : c.wp P (Exits N w0 S0 a.defers K) a E.w := by
  cases b with
  | false => exact hh K hw
  | true =>
    have hw : CutWp (wpC P d) st K := hw
    unfold CutWp at hw
    obtain ⟨R, hR, hend⟩ := hw
    exact wp_mono (hh R hR) fun e a' w' h => Exits.less (a := a) (Exits.mono hend h)

theorem wpC_wp (hm : P.follows .mixedOrders = true) : ∀ {c : Code} {d : DCode} (_ : lowC P N X c = some d) {a : Act} {E : Env} {st : St} {K : DExit → St → Prop} (_ : SR N w0 S0 E st a.tmps) (_ : wpC P d st K),
    c.wp P (Exits N w0 S0 a.defers K) a E.w := by
  intro c
  induction c with
  | skip =>
    intro d hl a E st K h hw
    cases hl
    exact wp_skip ⟨E, st, rfl, h, rfl, hw⟩
  | ret =>
    intro d hl a E st K h hw
    cases hl
    exact wp_ret ⟨E, st, rfl, h, rfl, hw⟩
  | exit id =>
    intro d hl a E st K h hw
    cases hl
    exact wp_exit ⟨E, st, rfl, h, rfl, hw⟩
  | region id ops draw =>
    intro d hl a E st K h hw
    unfold lowC at hl
    cases hX : X.contains (1000000 + id) with
    | true =>
      rw [hX] at hl
      cases hl
      exact hw w0 S0 E a h
    | false =>
    rw [hX] at hl
    simp only [cond_false] at hl
    split at hl
    · rename_i is his
      rw [cond_eq_ite] at hl
      split at hl
      · rename_i hc
        obtain rfl := (Option.some.inj hl).symm
        refine cut_wp h (c := .region id ops draw) hw fun K hw => ?_
        cases draw with
        | false => exact region_wp h his (fun a' w hh => hh) (wpIs_bare.1 hw)
        | true =>
          have hw : wpC P (.region (is.map DI.bare) (ckOf is)) st K := hw
          have hw' : wpIsD P (ckOf is) (fun _ => []) (numb 0 is) st (K .normal) := by
            revert hw
            cases ckOf is with
            | nil =>
              intro hw
              refine wpIsD_of ?_
              have : ∀ (l : List DI) (k : Nat), (numb k l).map (·.2) = l := fun l => by
                induction l with
                | nil => exact fun _ => rfl
                | cons i l ih => exact fun k => congrArg (i :: ·) (ih (k + 1))
              rw [this]
              exact wpIs_bare.1 hw
            | cons p r => exact fun hw => wpIsD_bare.1 hw
          exact regionAny_wp hm h his (by simpa using hc) (fun a' w hh => hh) hw'
      · cases hl
    · cases hl
  | seq x y ih1 ih2 =>
    intro d hl a E st K h hw
    unfold lowC at hl
    split at hl
    · rename_i dx dy hx hy
      obtain rfl := (Option.some.inj hl).symm
      obtain ⟨cb, hcb⟩ := cutAt_eq (X := X) (a := x) (d := .seq dx dy)
      rw [hcb] at hw
      refine cut_wp h (c := .seq x y) hw fun K hw => ?_
      refine wp_seq (wp_mono (ih1 hx h hw) ?_)
      intro e a' w' hh
      cases e with
      | normal =>
        obtain ⟨E', st', rfl, hsr, hdf, hk⟩ := hh
        rw [← hdf]
        exact ih2 hy hsr hk
      | exit id => exact hh
      | ret => exact hh
      | goto l => exact hh
      | panic ch => exact hh
      | outgrown => exact hh
    · cases hl
  | cond c x y ih1 ih2 =>
    intro d hl a E st K h hw
    unfold lowC at hl
    split at hl
    · rename_i z dx dy hz hx hy
      cases hl
      have hv := ev_sound h.sl hz
      have hw : condT z (wpC P dx) (wpC P dy) st K := hw
      unfold condT at hw
      split at hw
      · rename_i hb
        rw [hb] at hv
        exact wp_cond_true hv.inv_bool (ih1 hx h hw)
      · rename_i hb
        rw [hb] at hv
        exact wp_cond_false hv.inv_bool (ih2 hy h hw)
      · exact hw.elim
    · cases hl
  | block id b ih =>
    intro d hl a E st K h hw
    unfold lowC at hl
    split at hl
    · rename_i db hb
      obtain rfl := (Option.some.inj hl).symm
      refine cut_wp h (c := .block id b) hw fun K hw => ?_
      refine wp_block (wp_mono (ih hb h hw) ?_)
      intro e a' w' hh
      cases e with
      | normal => exact hh
      | exit k =>
        have hh : EndIs N w0 S0 a.defers (fun st' => bif Nat.beq k id then K .normal st' else K (.exit k) st') a' w' := hh
        show if k = id then _ else _
        by_cases hk : k = id
        · rw [if_pos hk]
          obtain ⟨E', st', e1, e2, e3, e4⟩ := hh
          rw [hk, beq_self] at e4
          exact ⟨E', st', e1, e2, e3, e4⟩
        · rw [if_neg hk]
          obtain ⟨E', st', e1, e2, e3, e4⟩ := hh
          rw [beq_ne hk] at e4
          exact ⟨E', st', e1, e2, e3, e4⟩
      | ret => exact hh
      | goto l => exact hh
      | panic ch => exact hh
      | outgrown => exact hh
    · cases hl
  | loop b ih =>
    intro d hl a E st K h hw
    unfold lowC at hl
    split at hl
    · rename_i db hb
      cases hl
      have hw : LoopWp (wpC P db) st K := hw
      unfold LoopWp at hw
      obtain ⟨I, n0, s0, hs0, hi0, round⟩ := hw
      refine wp_loop_ghost (fun n a' w' => a'.defers = a.defers ∧ ∃ (E' : Env) (s : Wk), E'.w = w' ∧ SR N w0 S0 E' s.mk' a'.tmps ∧ I n s) n0 ?_ ?_
      · obtain ⟨E', he, hsr⟩ := h.weak hs0
        exact ⟨rfl, E', s0, he, hsr, hi0⟩
      · rintro n a1 w1 ⟨hdf, E1, s, rfl, hsr, hi⟩
        obtain ⟨R, hR, hend⟩ := round n s hi
        refine wp_mono (ih hb hsr hR) ?_
        intro e a' w' hh
        have hh := Exits.mono hend hh
        rw [hdf] at hh
        cases e with
        | normal =>
          obtain ⟨E', st', rfl, hsr', hdf', m, s', hlt, hs', hi'⟩ := hh
          obtain ⟨E'', he, hsr''⟩ := hsr'.weak hs'
          exact ⟨m, hlt, hdf', E'', s', he, hsr'', hi'⟩
        | exit id =>
          obtain ⟨E', st', rfl, hsr', hdf', hq | ⟨s', hs', hq⟩⟩ := hh
          · exact ⟨E', st', rfl, hsr', hdf', hq⟩
          · obtain ⟨E'', he, hsr''⟩ := hsr'.weak hs'
            exact ⟨E'', s'.mk', he, hsr'', hdf', hq⟩
        | ret => exact hh
        | goto l => exact hh
        | panic ch => exact hh
        | outgrown => exact hh
    · cases hl
  | _ => intro d hl; cases hl

end Go.DL
end
section
/- The data level: a function's contract from its lowered body. Generic over the program; no statement here. -/
namespace Go.DL
open Go.RowKit

variable {P : Program} {X : List FuncId} {N : Nat} {w0 : World} {S0 : Base} {a : Act} {E : Env} {st : St}

def resT : List T → T
  | [x] => x
  | xs => .tup xs

def sizesOf (P : Program) (t : TypeId) : Option (Nat × Bool) :=
  match P.underlying t, P.info? t with
  | some _, some i => cond (aggT P t || Nat.beq i.size 1) (some (i.size, aggT P t)) none
  | _, _ => none

/-- What a variable in a box reads as, when it is handed back. -/
theorem load_res (h : SR N w0 S0 E st a.tmps) {t : TypeId} {d : TypeDesc} {i : TypeInfo} (hu : P.underlying t = some d) (hi : P.info? t = some i) {b off : Nat} {bx : BX} (hb : st.bx b = some bx) {x : T}
    (hx : match loadB b bx off i.size (aggT P t) with
      | .yes e => asT e.val = some x
      | .eq c t _ => c ∧ t = x
      | _ => False) : ∃ v, (loadVar t ⟨E.κ b, off, none⟩).run P E.w = .ok v E.w ∧ Rep E.S E.w v x := by
  have hB := h.bx b bx hb
  obtain ⟨cs, e, hg, hc⟩ := hB.at_
  have cell : ∀ j, E.w.cell? ⟨E.κ b, j, none⟩ = cs[j]? := fun j => cell_of_row _ _ _ _ _ _ hg
  cases hc with
  | d m ts hl hs hrep =>
    unfold loadB partT at hx
    cases hag : aggT P t with
    | true =>
      rw [hag] at hx
      have big : off + i.size ≤ m → ∃ v, (loadVar t ⟨E.κ b, off, none⟩).run P E.w = .ok v E.w ∧ Rep E.S E.w v (.agg ((ts.drop off).take i.size)) := fun hle => by
        have hl2 : ((cs.toList.drop off).take i.size).length = i.size := by simp; omega
        refine ⟨_, run_loadVar_agg hu hi hag _ _ _ ((cs.toList.drop off).take i.size) hl2 fun j v hj => ?_, rep_part (fun j x u hx hu' => ?_) ?_⟩
        · rw [getElem?_dt] at hj
          split at hj
          · rw [cell]; simpa using hj
          · cases hj
        · rw [getElem?_dt] at hx hu'
          split at hx
          · rename_i hj
            rw [if_pos hj] at hu'
            exact hrep (off + j) x u (by simpa using hx) hu'
          · cases hx
        · rw [hl2]; simp [hl]; omega
      simp only at hx
      cases hz : (Nat.beq off 0 && Nat.beq m i.size) with
      | true =>
        rw [hz] at hx
        simp only [Bool.and_eq_true] at hz
        have ho0 : off = 0 := Nat.eq_of_beq_eq_true hz.1
        have hm : m = i.size := Nat.eq_of_beq_eq_true hz.2
        have hx' : x = .agg ts := by
          have : asT (.t (.agg ts)) = some x := hx
          exact (Option.some.inj this).symm
        obtain ⟨v, h1, h2⟩ := big (by omega)
        refine ⟨v, h1, ?_⟩
        rw [ho0, List.drop_zero, List.take_of_length_le (by omega)] at h2
        rw [hx']; exact h2
      | false =>
        rw [hz] at hx
        obtain ⟨hc, rfl⟩ := hx
        exact big hc
    | false =>
      rw [hag] at hx
      obtain ⟨hlt, rfl⟩ := hx
      have hone : off < cs.size := by omega
      have hcell : E.w.cell? ⟨E.κ b, off, none⟩ = some cs[off] := by rw [cell]; simp [hone]
      have ht : ts[off]? = some (ts[off]?.getD .nil) := by
        have : off < ts.length := by omega
        simp [this]
      exact ⟨_, run_loadVar_one hu hag _ _ _ hcell, (hrep off _ _ (by simp [hone]) ht).1⟩
  | v vs hs hrep =>
    unfold loadB at hx
    cases hag : aggT P t with
    | true => rw [hag] at hx; exact hx.elim
    | false =>
      rw [hag] at hx
      simp only at hx
      cases hv : vs[off]? with
      | none => rw [hv] at hx; exact hx.elim
      | some u =>
        rw [hv] at hx
        have hlt : off < cs.size := Nat.lt_of_lt_of_le (List.getElem?_eq_some_iff.1 hv).1 hs
        have hcell : E.w.cell? ⟨E.κ b, off, none⟩ = some cs[off] := by rw [cell]; simp [hlt]
        exact ⟨_, run_loadVar_one hu hag _ _ _ hcell, asT_sound (hrep off _ _ (by simp [hlt]) hv).1 hx⟩

theorem cutW_spec {bx : Nat → Option BX} {n : Nat} : ∀ {c a b : List V} {k : Nat}, cutW bx n c = some (a, k, b) → c = a ++ .ptr k 0 :: b ∧ bx k = some (.v [.ptr n 0])
  | [], a, b, k, h => by cases h
  | v :: vs, a, b, k, h => by
    unfold cutW at h
    split at h
    · rename_i k' hk
      simp only [Option.some.injEq, Prod.mk.injEq] at h
      obtain ⟨rfl, rfl, rfl⟩ := h
      split at hk
      · rename_i k2
        split at hk
        · rename_i m hb
          simp only [cond_eq_ite] at hk
          split at hk
          · rename_i hc
            cases hk
            have := Nat.eq_of_beq_eq_true hc
            subst this
            exact ⟨rfl, hb⟩
          · cases hk
        · cases hk
      · cases hk
    · split at h
      · rename_i a' k' b' hr
        simp only [Option.some.injEq, Prod.mk.injEq] at h
        obtain ⟨rfl, rfl, rfl⟩ := h
        obtain ⟨h1, h2⟩ := cutW_spec hr
        exact ⟨by rw [h1]; rfl, h2⟩
      · cases h

theorem convR_sound (hbx : ∀ n b, st.bx n = some b → BoxR E (E.κ n) b) (hlv : ∀ n, E.live n = (st.bx n).isSome) {v : Value} {u : V} (h : VR E v u) {t : T} {rd : List Nat} (hc : convR st.bx u = some (t, rd)) : Rep (Sx E rd) E.w v t := by
  unfold convR at hc
  split at hc
  · rename_i n off
    split at hc
    · rename_i r hw
      cases hc
      unfold convW at hw
      split at hw
      · rename_i f1 c1 f2 c2 hb
        split at hw
        · rename_i a1 k1 b1 a2 k2 b2 h1 h2
          split at hw
          · rename_i x1 r1 y1 s1 x2 r2 y2 s2 e1 e2 e3 e4
            simp only [cond_eq_ite] at hw
            split at hw
            · rename_i hk
              simp only [Option.some.injEq, Prod.mk.injEq] at hw
              obtain ⟨rfl, rfl⟩ := hw
              have hk := Nat.eq_of_beq_eq_true hk
              subst hk
              obtain ⟨q1, q2⟩ := cutW_spec h1
              obtain ⟨q3, _⟩ := cutW_spec h2
              obtain ⟨rfl, hln⟩ := h.inv_ptr
              obtain ⟨cs, e, hg, hcr⟩ := (hbx n _ hb).at_
              obtain ⟨cw, ew, hgw, hcw⟩ := (hbx k1 _ q2).at_
              have hlk : E.live k1 = true := by rw [hlv, q2]; rfl
              cases hcr with
              | v _ hs hh =>
                have hs : 2 ≤ cs.size := hs
                have g0 : cs[0]? = some cs[0] := Array.getElem?_eq_getElem (by omega)
                have g1 : cs[1]? = some cs[1] := Array.getElem?_eq_getElem (by omega)
                have v0 := (hh 0 _ _ g0 rfl).1
                have v1 := (hh 1 _ _ g1 rfl).1
                cases hcw with
                | v _ hsw hhw =>
                  have hsw : 1 ≤ cw.size := hsw
                  have gw : cw[0]? = some cw[0] := Array.getElem?_eq_getElem (by omega)
                  have vw := (hhw 0 _ _ gw rfl).1
                  have ew' := vw.inv_ptr.1
                  rw [ew'] at gw
                  have rn : n ∈ (n :: k1 :: (r1 ++ s1 ++ r2 ++ s2)) := by simp
                  have rk : k1 ∈ (n :: k1 :: (r1 ++ s1 ++ r2 ++ s2)) := by simp
                  generalize hc0 : cs[0] = z0 at v0 g0
                  generalize hc1 : cs[1] = z1 at v1 g1
                  cases v0 with
                  | fn _ d1 _ hs1 hv1 =>
                    cases v1 with
                    | fn _ d2 _ hs2 hv2 =>
                      rw [q1] at hs1 hv1
                      rw [q3] at hs2 hv2
                      obtain ⟨p1, p2, p3, rfl, p4, p5, p6, p7, p8⟩ := caps_cut hs1 hv1
                      obtain ⟨o1, o2, o3, rfl, o4, o5, o6, o7, o8⟩ := caps_cut hs2 hv2
                      have z1' := p4.inv_ptr.1
                      have z2' := o4.inv_ptr.1
                      subst z1'; subst z2'
                      obtain ⟨L1, M1⟩ := convL_sound hbx e1
                      obtain ⟨L2, M2⟩ := convL_sound hbx e2
                      obtain ⟨L3, M3⟩ := convL_sound hbx e3
                      obtain ⟨L4, M4⟩ := convL_sound hbx e4
                      have fin : ∀ {c : Array Value} {A : List V} {X : List T} {r : List Nat}, A.length = X.length → (∀ (i : Nat) (v : Value) (u : V) (t : T), VR E v u → A[i]? = some u → X[i]? = some t → Rep (Sx E r) E.w v t) → (∀ (i : Nat) (x : Value) (u : V), c[i]? = some x → A[i]? = some u → VR E x u) → (∀ m ∈ r, m ∈ (n :: k1 :: (r1 ++ s1 ++ r2 ++ s2))) →
                          ∀ (i : Nat) (x : Value) (t : T), c[i]? = some x → X[i]? = some t → Rep (Sx E (n :: k1 :: (r1 ++ s1 ++ r2 ++ s2))) E.w x t := fun {c A X r} hL hM hV hr i x t hx ht => by
                        have hlt : i < A.length := by rw [hL]; exact (List.getElem?_eq_some_iff.1 ht).1
                        have hA := List.getElem?_eq_getElem hlt
                        exact (hM i x _ t (hV i x _ hx hA) hA ht).mono (Sx_mono hr) (fun _ _ _ => rfl)
                      have cell : ∀ i, E.w.cell? ⟨E.κ n, i, none⟩ = cs[i]? := fun i => cell_of_row _ _ _ _ _ _ hg
                      have := Rep.wrld (S := Sx E (n :: k1 :: (r1 ++ s1 ++ r2 ++ s2))) (w := E.w) (E.κ n) 0 (E.κ k1) 0 off f1 f2 p1 p2 o1 o2 x1 y1 x2 y2 (by omega) (by omega) (by omega) (by omega)
                        ⟨by rw [cell_of_row _ _ _ _ _ _ hgw]; exact gw, .inr ⟨k1, rk, hlk, rfl⟩⟩ ⟨by rw [cell]; exact g0, .inr ⟨n, rn, hln, rfl⟩⟩ ⟨by rw [cell]; exact g1, .inr ⟨n, rn, hln, rfl⟩⟩
                        (fin L1 M1 p7 (fun m hm => by simp [hm])) (fin L2 M2 p8 (fun m hm => by simp [hm])) (fin L3 M3 o7 (fun m hm => by simp [hm])) (fin L4 M4 o8 (fun m hm => by simp [hm]))
                      rwa [Nat.zero_add] at this
            · cases hw
          · cases hw
        · cases hw
      · cases hw
    · exact conv_sound hbx h hc
  · exact conv_sound hbx h hc

def readRes (tmps : Array Value) : ResultVar → Sem Value
  | .tmp t => pure (tmps.getD t undef)
  | .cell a t => do loadVar t (← asAddr (tmps.getD a undef))

/-- At the end of a call all boxes turn to stone. -/
def Sall (E : Env) : Stable := fun b o => E.S b o ∨ ∃ n, E.live n = true ∧ b = E.κ n

theorem Sx_all {E : Env} {rd : List Nat} : ∀ b o, Sx E rd b o → Sall E b o := by
  rintro b o (h | ⟨n, _, h⟩)
  · exact .inl h
  · exact .inr ⟨n, h⟩

theorem res_list (h : SR N w0 S0 E st a.tmps) : ∀ {rs : List ResultVar} {xs : List T}, resP (sizesOf P) st rs xs → ∃ vs : List Value, (rs.mapM (readRes a.tmps)).run P E.w = .ok vs E.w ∧ vs.length = xs.length ∧
    ∀ (i : Nat) (v : Value) (x : T), vs[i]? = some v → xs[i]? = some x → Rep (Sall E) E.w v x
  | [], [], _ => ⟨[], by simp, rfl, fun i v x hv => by simp at hv⟩
  | .tmp t :: rs, x :: xs, hp => by
    obtain ⟨vs, h1, h2, h3⟩ := res_list h hp.2
    refine ⟨a.tmps.getD t undef :: vs, ?_, by simp [h2], fun i v y hv hy => ?_⟩
    · rw [List.mapM_cons, Sem.run_bind]
      have : (readRes a.tmps (.tmp t)).run P E.w = .ok (a.tmps.getD t undef) E.w := rfl
      rw [this]
      simp [h1]
    · cases i with
      | zero =>
        simp only [List.getElem?_cons_zero, Option.some.injEq] at hv hy
        subst hv; subst hy
        obtain ⟨⟨x', rd⟩, hc, rfl⟩ := Option.map_eq_some_iff.1 hp.1
        exact (convR_sound h.bx h.live (h.sl t) hc).mono Sx_all (fun _ _ _ => rfl)
      | succ i => simp at hv hy; exact h3 i v y hv hy
  | .cell c ty :: rs, x :: xs, hp => by
    obtain ⟨hp1, hp2⟩ := hp
    obtain ⟨vs, h1, h2, h3⟩ := res_list h hp2
    have key : ∃ v, (readRes a.tmps (.cell c ty)).run P E.w = .ok v E.w ∧ Rep E.S E.w v x := by
      have hs := h.sl c
      split at hp1
      · rename_i b off n agg hb hz
        rw [hb] at hs
        obtain ⟨hv, hl⟩ := hs.inv_ptr
        unfold sizesOf at hz
        split at hz
        · rename_i d i hu hi
          simp only [cond_eq_ite] at hz
          split at hz
          · simp only [Option.some.injEq, Prod.mk.injEq] at hz
            obtain ⟨rfl, rfl⟩ := hz
            split at hp1
            · rename_i cs hcs
              obtain ⟨v, k1, k2⟩ := load_res h hu hi (off := off) hcs (x := x) hp1
              refine ⟨v, ?_, k2⟩
              show (asAddr (a.tmps.getD c undef) >>= fun d => loadVar ty d).run P E.w = _
              rw [hv]
              simp [asAddr, k1]
            · exact hp1.elim
          · cases hz
        · cases hz
      · exact hp1.elim
    obtain ⟨v0, k1, k2⟩ := key
    refine ⟨v0 :: vs, ?_, by simp [h2], fun i v y hv hy => ?_⟩
    · rw [List.mapM_cons, Sem.run_bind, k1]
      simp [h1]
    · cases i with
      | zero => simp only [List.getElem?_cons_zero, Option.some.injEq] at hv hy; subst hv; subst hy; exact k2.mono (fun b o hs => .inl hs) (fun _ _ _ => rfl)
      | succ i => simp at hv hy; exact h3 i v y hv hy
  | [], _ :: _, hp => hp.elim
  | .tmp _ :: _, [], hp => hp.elim
  | .cell _ _ :: _, [], hp => hp.elim

theorem results_run (h : SR N w0 S0 E st a.tmps) {fn : Func} {xs : List T} (hp : resP (sizesOf P) st fn.results.toList xs) : ∃ v, (results fn a.tmps).run P E.w = .ok v E.w ∧ Rep (Sall E) E.w v (resT xs) := by
  obtain ⟨vs, h1, h2, h3⟩ := res_list h hp
  have hr : (results fn a.tmps).run P E.w = .ok (if h : vs.toArray.size = 1 then vs.toArray[0] else .tuple vs.toArray) E.w := by
    have : results fn a.tmps = (do let vs ← fn.results.mapM (readRes a.tmps); pure (if h : vs.size = 1 then vs[0] else .tuple vs)) := rfl
    rw [this, Array.mapM_eq_mapM_toList]
    rw [Sem.run_bind]
    have h2 : (Functor.map List.toArray (fn.results.toList.mapM (readRes a.tmps))).run P E.w = .ok vs.toArray E.w := by
      rw [map_eq_pure_bind, Sem.run_bind, h1]; rfl
    rw [h2]; rfl
  refine ⟨_, hr, ?_⟩
  match vs, xs, h2, h3 with
  | [v], [x], _, h3 => exact h3 0 v x rfl rfl
  | [], [], _, h3 => exact .tup _ _ rfl fun i x t hx ht => by simp at ht
  | v :: u :: vs, x :: y :: xs, h2, h3 =>
    have hne : ¬ (v :: u :: vs).toArray.size = 1 := by simp
    rw [dif_neg hne]
    exact .tup _ _ (by simpa using h2) fun i z t hz ht => h3 i z t (by simpa using hz) ht

theorem callable_of {f : FuncId} {fn : Func} (hf : P.funcs[f]? = some fn) (hb : fn.body.isSome = true) (hn : (fn.name == "runtime.NumGoroutine") = false) : Callable P f := fun args w => by
  have hb' : fn.body.isNone = false := by cases h : fn.body <;> simp_all
  have hp : (program : Sem Program).run P w = .ok P w := rfl
  unfold callFunc
  rw [Sem.run_bind, hp]
  simp only [Result.andThen_ok, hf, hn, hb', Bool.false_eq_true, if_false]
  rfl

theorem init_sr {S : Stable} {w : World} {vs : List Value} {args : List T} (hS : ∀ b o, S b o → b < w.heap.size) (hlen : vs.length = args.length) (hrep : ∀ (i : Nat) (v : Value) (t : T), vs[i]? = some v → args[i]? = some t → Rep S w v t) (ha : args.length ≤ N) :
    SR N w { S := S } { S := S, w := w, B := w.heap.size, κ := fun _ => 0, ρ := fun _ => none, live := fun _ => false } (initSt args) (vs.toArray ++ Array.replicate (N - vs.toArray.size) undef) := by
  refine ⟨by simp; omega, rfl, fun m => ?_, fun k m => .top _, fun n b hb => (by cases hb), fun n => rfl, fun n m hn => (by cases hn), fun r g hr => (by cases hr), fun r r' g hr => (by cases hr), hS, Below.refl _ _, fun b o h => h, fun b o h => .inl h, fun g o hg => (by cases hg), trivial⟩
  show VR _ _ (match args[m]? with | some t => .t t | none => .top)
  cases ht : args[m]? with
  | none => exact .top _
  | some t =>
    have hlt : m < vs.length := by rw [hlen]; exact (List.getElem?_eq_some_iff.1 ht).1
    have hv := hrep m vs[m] t (List.getElem?_eq_getElem hlt) ht
    have : (vs.toArray ++ Array.replicate (N - vs.toArray.size) undef).getD m undef = vs[m] := by
      rw [Array.getD_eq_getD_getElem?, Array.getElem?_append_left (by simpa using hlt)]
      simp [hlt]
    rw [this]
    exact .t _ _ hv

/-- A function does what its lowered body says. -/
theorem dcalls_of (hm : P.follows .mixedOrders = true) {f : FuncId} {fn : Func} {c : Code} {d : DCode} (hf : P.funcs[f]? = some fn) (hb : fn.body = some c) (hn : (fn.name == "runtime.NumGoroutine") = false)
    (hl : lowC P fn.ntmps X c = some d) {args : List T} {r : List T} (ha : args.length ≤ fn.ntmps) (h : wpC P d (initSt args) (Post (sizesOf P) fn.results.toList r)) : DCalls P f args (resT r) := by
  refine ⟨callable_of hf (by rw [hb]; rfl) hn, fun S w vs hS hlen hrep => calls_of_wp hf hb ?_⟩
  have hsr := init_sr (N := fn.ntmps) hS hlen hrep ha
  refine wp_mono (wpC_wp hm hl (a := { tmps := vs.toArray ++ Array.replicate (fn.ntmps - vs.toArray.size) undef, defers := [] }) hsr h) ?_
  have fin : ∀ {a' : Act} {w' : World}, EndIs fn.ntmps w { S := S } [] (fun st' => resP (sizesOf P) st' fn.results.toList r) a' w' → a'.defers = [] ∧ ∃ v, (results fn a'.tmps).run P w' = .ok v w' ∧
      ∃ v', Ending.returned v = .returned v' ∧ Below w.heap.size w w' ∧ Rep (fun b o => S b o ∨ (w.heap.size ≤ b ∧ b < w'.heap.size)) w' v' (resT r) := by
    rintro a' w' ⟨E', st', rfl, hsr', hdf, hk⟩
    obtain ⟨v, h1, h2⟩ := results_run hsr' hk
    refine ⟨hdf, v, h1, v, rfl, hsr'.below, h2.mono (fun b o hs => ?_) (fun _ _ _ => rfl)⟩
    rcases hs with hs | ⟨n, hn, rfl⟩
    · exact (hsr'.s1 b o hs).imp id fun hle => ⟨hle, hsr'.lt b o hs⟩
    · right
      rw [hsr'.live] at hn
      obtain ⟨b', hb'⟩ := Option.isSome_iff_exists.1 hn
      have hB := hsr'.bx n b' hb'
      obtain ⟨cs, e, hg, _⟩ := hB.at_
      have := hB.old
      rw [hsr'.base] at this
      exact ⟨this, (Array.getElem?_eq_some_iff.1 hg).1⟩
  intro e a' w' hh
  cases e with
  | normal => exact fin hh
  | ret => exact fin hh
  | exit id =>
    obtain ⟨_, _, _, _, _, hk⟩ := hh
    exact hk.elim
  | goto l => exact hh.elim
  | panic ch => exact hh.elim
  | outgrown => exact hh.elim

/-- The same, in one: what a program's table and the lowering give by evaluation. -/
theorem dcalls_low (hm : P.follows .mixedOrders = true) {f : FuncId} {fn : Func} {d : DCode} {N : Nat} {rs : List ResultVar} (hf : P.funcs[f]? = some fn) (hl : (fn.body.bind (lowC P N X)) = some d) (hN : fn.ntmps = N) (hn : (fn.name == "runtime.NumGoroutine") = false)
    (hr : fn.results.toList = rs) {args : List T} {r : List T} (ha : args.length ≤ N) (h : wpC P d (initSt args) (Post (sizesOf P) rs r)) : DCalls P f args (resT r) := by
  cases hb : fn.body with
  | none => rw [hb] at hl; cases hl
  | some c =>
    rw [hb] at hl
    subst hN; subst hr
    exact dcalls_of hm hf hb hn hl ha h

end Go.DL
end
section
/- The data level: calls that are no plain contracts: a callee run in place; a row that a callee hands over. Generic over the program; no statement here. -/
namespace Go.DL
open Go.RowKit

variable {P : Program} {X : List FuncId} {N : Nat} {w0 : World} {S0 : Base} {a : Act} {E : Env} {st : St}

theorem set_put {a : Array Value} {d : Option Nat} {v : Value} {u : V} (h : SR N w0 S0 E st a) (hd : ∀ n, d = some n → n < N) (hv : VR E v u) : SR N w0 S0 E (st.set d u) (putA a d v) := by
  cases d with
  | none => exact h
  | some n => exact h.put (hd n rfl) hv

/-- A plain contract. -/
theorem WC_dc {f : FuncId} {us : List V} {d : Option Nat} {K : St → Prop} {ts : List T} {rd : List Nat} {r : T} (hc : convs st.bx us = some (ts, rd)) (hr : DCalls P f ts r) (hf : rd = [] ∨ r.flat = true) (hk : K (st.set d (.t r))) : WC P f us d st K := by
  refine ⟨hr.1, fun N w0 S0 E a vs h hlen hv hd => ?_⟩
  obtain ⟨c1, c2⟩ := convs_sound h.bx hc
  have hlt : ∀ b x, Sx E rd b x → b < E.w.heap.size := by
    rintro b x (h1 | ⟨n, _, hl, rfl⟩)
    · exact h.lt b x h1
    · rw [h.live] at hl
      obtain ⟨b', hb'⟩ := Option.isSome_iff_exists.1 hl
      obtain ⟨cs, e, hg, _⟩ := (h.bx n b' hb').at_
      exact (Array.getElem?_eq_some_iff.1 hg).1
  have hcall := hr.2 (Sx E rd) E.w vs.toList hlt (by simp; omega) (fun i v t hvi ht => by
    have hi : i < us.length := by rw [c1]; exact (List.getElem?_eq_some_iff.1 ht).1
    exact c2 i v _ t (hv i v _ (by simpa using hvi) (List.getElem?_eq_getElem hi)) (List.getElem?_eq_getElem hi) ht)
  refine Calls.mono (by simpa using hcall) ?_
  rintro e w' ⟨v, rfl, hb, hrep⟩
  refine ⟨v, rfl, ?_⟩
  rcases hf with rfl | hf
  · have h' := h.world hb (fun b o => E.S b o ∨ (E.w.heap.size ≤ b ∧ b < w'.heap.size)) (fun b o => ⟨fun hh => hh.elim .inl fun k => .inr ⟨.inr k, k⟩, fun hh => hh.elim .inl fun k => k.1⟩)
    refine ⟨_, _, rfl, hk, set_put h' hd (.t _ _ (hrep.mono (fun b o hh => ?_) (fun _ _ _ => rfl)))⟩
    rcases hh with (h1 | ⟨n, hn, _⟩) | h1
    · exact .inl h1
    · simp at hn
    · exact .inr h1
  · have h' := h.world hb E.S (fun b o => ⟨.inl, fun hh => hh.elim id fun k => k.1⟩)
    exact ⟨_, _, rfl, hk, set_put h' hd (.t _ _ (hrep.of_flat hf))⟩

/-! ### a callee run in place -/
/-- What a function run in place hands back: its slots. -/
def resV (st : St) : List ResultVar → Option (List V)
  | [] => some []
  | .tmp t :: rs => match resV st rs with
    | some us => some (st.sl t :: us)
    | none => none
  | .cell _ _ :: _ => none

def oneV : List V → V
  | [u] => u
  | us => .tup us

theorem resV_run (h : SR N w0 S0 E st a.tmps) : ∀ {rs : List ResultVar} {us : List V}, resV st rs = some us → ∃ vs : List Value, (rs.mapM (readRes a.tmps)).run P E.w = .ok vs E.w ∧ vs.length = us.length ∧ ∀ (i : Nat) (v : Value) (u : V), vs[i]? = some v → us[i]? = some u → VR E v u
  | [], us, hr => by cases hr; exact ⟨[], by simp, rfl, fun i v x hv => by simp at hv⟩
  | .cell _ _ :: _, us, hr => by cases hr
  | .tmp t :: rs, us, hr => by
    unfold resV at hr
    split at hr
    · rename_i us' hr'
      cases hr
      obtain ⟨vs, h1, h2, h3⟩ := resV_run h hr'
      refine ⟨a.tmps.getD t undef :: vs, ?_, by simp [h2], fun i v y hv hy => ?_⟩
      · rw [List.mapM_cons, Sem.run_bind]
        have : (readRes a.tmps (.tmp t)).run P E.w = .ok (a.tmps.getD t undef) E.w := rfl
        rw [this]
        simp [h1]
      · cases i with
        | zero => simp only [List.getElem?_cons_zero, Option.some.injEq] at hv hy; subst hv; subst hy; exact h.sl t
        | succ i => simp at hv hy; exact h3 i v y hv hy
    · cases hr

theorem resultsV_run (h : SR N w0 S0 E st a.tmps) {fn : Func} {us : List V} (hr : resV st fn.results.toList = some us) : ∃ v, (results fn a.tmps).run P E.w = .ok v E.w ∧ VR E v (oneV us) := by
  obtain ⟨vs, h1, h2, h3⟩ := resV_run (P := P) h hr
  have hr : (results fn a.tmps).run P E.w = .ok (if h : vs.toArray.size = 1 then vs.toArray[0] else .tuple vs.toArray) E.w := by
    have : results fn a.tmps = (do let vs ← fn.results.mapM (readRes a.tmps); pure (if h : vs.size = 1 then vs[0] else .tuple vs)) := rfl
    rw [this, Array.mapM_eq_mapM_toList]
    rw [Sem.run_bind]
    have h2 : (Functor.map List.toArray (fn.results.toList.mapM (readRes a.tmps))).run P E.w = .ok vs.toArray E.w := by
      rw [map_eq_pure_bind, Sem.run_bind, h1]; rfl
    rw [h2]; rfl
  refine ⟨_, hr, ?_⟩
  match vs, us, h2, h3 with
  | [v], [x], _, h3 => exact h3 0 v x rfl rfl
  | [], [], _, h3 => exact .tup _ _ rfl fun i x t hx ht => by simp at ht
  | v :: u :: vs, x :: y :: xs, h2, h3 =>
    have hne : ¬ (v :: u :: vs).toArray.size = 1 := by simp
    rw [dif_neg hne]
    exact .tup _ _ (by simpa using h2) fun i z t hz ht => h3 i z t (by simpa using hz) ht

def pushS (s : Nat → V) (g : Nat → Nat → V) : Nat → Nat → V
  | 0 => s
  | k + 1 => g k

def pushB (s : Nat → Value) (g : Nat → Nat → Value) : Nat → Nat → Value
  | 0 => s
  | k + 1 => g k

/-- The state in which a callee that is run in place begins. -/
def St.enter (st : St) (us : List V) (off : Nat) : St := { sl := fun m => us[m]?.getD .top, bx := st.bx, gh := pushS st.sl st.gh, off := off, cx := fun S w => ∃ vals, st.cx { S with vals := vals } w }

/-- Back in the caller. -/
def St.back (st2 st : St) : St := { sl := st2.gh 0, bx := st2.bx, gh := fun k => st2.gh (k + 1), off := st.off, cx := st.cx }

/-- The end of a callee that is run in place. -/
def PostV (rs : List ResultVar) (st : St) (d : Option Nat) (K : St → Prop) : DExit → St → Prop
  | .normal, st2 => ∃ us, resV st2 rs = some us ∧ K ((st2.back st).set d (oneV us))
  | .ret, st2 => ∃ us, resV st2 rs = some us ∧ K ((st2.back st).set d (oneV us))
  | .exit _, _ => False

theorem WC_inl (hm : P.follows .mixedOrders = true) {f : FuncId} {fn : Func} {dc : DCode} {N' : Nat} {rs : List ResultVar} (hf : P.funcs[f]? = some fn) (hl : (fn.body.bind (lowC P N' X)) = some dc) (hN : fn.ntmps = N') (hn : (fn.name == "runtime.NumGoroutine") = false)
    (hr : fn.results.toList = rs) {us : List V} (off : Nat) (ha : us.length ≤ N') {d : Option Nat} {K : St → Prop} (hw : wpC P dc (st.enter us off) (PostV rs st d K)) : WC P f us d st K := by
  cases hb : fn.body with
  | none => rw [hb] at hl; cases hl
  | some c =>
    rw [hb] at hl
    subst hN; subst hr
    refine ⟨callable_of hf (by rw [hb]; rfl) hn, fun N w0 S0 E a vs h hlen hv hd => calls_of_wp hf hb ?_⟩
    have hsr : SR fn.ntmps w0 { S0 with vals := pushB (fun m => a.getD m undef) S0.vals } E (st.enter us off) (vs ++ Array.replicate (fn.ntmps - vs.size) undef) := by
      refine ⟨by simp; omega, h.base, fun m => ?_, fun k m => ?_, h.bx, h.live, h.inj, h.rows, h.rinj, h.lt, h.below, h.s0, h.s1, h.obj, ⟨S0.vals, h.cx⟩⟩
      · show VR _ _ (us[m]?.getD .top)
        cases ht : us[m]? with
        | none => exact .top _
        | some t =>
          have hlt : m < vs.size := by rw [hlen]; exact (List.getElem?_eq_some_iff.1 ht).1
          have hv := hv m vs[m] t (Array.getElem?_eq_getElem hlt) ht
          have : (vs ++ Array.replicate (fn.ntmps - vs.size) undef).getD m undef = vs[m] := by
            rw [Array.getD_eq_getD_getElem?, Array.getElem?_append_left hlt]
            simp [hlt]
          rw [this]
          exact hv
      · cases k with
        | zero => exact h.sl m
        | succ k => exact h.gh k m
    refine wp_mono (wpC_wp hm hl (a := { tmps := vs ++ Array.replicate (fn.ntmps - vs.size) undef, defers := [] }) hsr hw) ?_
    have fin : ∀ {a' : Act} {w' : World}, EndIs fn.ntmps w0 { S0 with vals := pushB (fun m => a.getD m undef) S0.vals } [] (fun st2 => ∃ us, resV st2 fn.results.toList = some us ∧ K ((st2.back st).set d (oneV us))) a' w' → a'.defers = [] ∧ ∃ v, (results fn a'.tmps).run P w' = .ok v w' ∧
        ∃ v', Ending.returned v = .returned v' ∧ ∃ (E' : Env) (st' : St), E'.w = w' ∧ K st' ∧ SR N w0 S0 E' st' (putA a d v') := by
      rintro a' w' ⟨E', st2, rfl, hsr', hdf, us', hus, hk⟩
      obtain ⟨v, h1, h2⟩ := resultsV_run (P := P) hsr' hus
      have hback : SR N w0 S0 E' (st2.back st) a := by
        refine ⟨h.size, hsr'.base, fun m => hsr'.gh 0 m, fun k m => hsr'.gh (k + 1) m, hsr'.bx, hsr'.live, hsr'.inj, hsr'.rows, hsr'.rinj, hsr'.lt, hsr'.below, hsr'.s0, hsr'.s1, hsr'.obj, h.cx⟩
      exact ⟨hdf, v, h1, v, rfl, E', _, rfl, hk, set_put hback hd h2⟩
    intro e a' w' hh
    cases e with
    | normal => exact fin hh
    | ret => exact fin hh
    | exit id =>
      obtain ⟨_, _, _, _, _, hk⟩ := hh
      exact hk.elim
    | goto l => exact hh.elim
    | panic ch => exact hh.elim
    | outgrown => exact hh.elim

/-! ### a row that a callee hands over -/
/-- The value is the head of a row of its own, of flat elements. -/
structure Fresh (w w' : World) (v : Value) (e : TypeId) (size : Nat) (xs : List T) : Prop where
  ex : ∃ cells : List Value, w'.ownsRow w.heap.size e size v xs.length cells ∧ cells.length = (xs.flatMap T.cells).length ∧ ∀ (i : Nat) (x : Value) (t : T), cells[i]? = some x → (xs.flatMap T.cells)[i]? = some t → Rep (fun _ _ => False) w' x t
  uni : ∀ x ∈ xs, x.cells.length = size
  one : ∀ t ∈ xs.flatMap T.cells, t.one = true
  flat : ∀ t ∈ xs.flatMap T.cells, t.flat = true

/-- One value, or several in a tuple. -/
def valRest (v : Value) : List Value → Value
  | [] => v
  | us => .tuple (v :: us).toArray

/-- A call that hands over a row of its own, and data besides. -/
def FCalls (P : Program) (f : FuncId) (ts : List T) (e : TypeId) (size : Nat) (xs rest : List T) : Prop :=
  Callable P f ∧ ∀ (S : Stable) (w : World) (vs : List Value), (∀ b o, S b o → b < w.heap.size) → vs.length = ts.length → (∀ (i : Nat) (v : Value) (t : T), vs[i]? = some v → ts[i]? = some t → Rep S w v t) →
    Calls P f vs.toArray w fun en w' => ∃ (v : Value) (us : List Value), en = .returned (valRest v us) ∧ Below w.heap.size w w' ∧ Fresh w w' v e size xs ∧
      us.length = rest.length ∧ ∀ (i : Nat) (u : Value) (t : T), us[i]? = some u → rest[i]? = some t → t.flat = true ∧ Rep (fun _ _ => False) w' u t

/-- The end of a function that hands over a row of its own. -/
def PostF (rs : List ResultVar) (e : TypeId) (size : Nat) (xs rest : List T) : DExit → St → Prop
  | .exit _, _ => False
  | _, st => (∀ t ∈ xs.flatMap T.cells, t.flat = true) ∧ (∀ t ∈ rest, t.flat = true) ∧ ∃ u, resV st rs = some (u :: rest.map .t) ∧ ((∃ q, u = .own q e size xs) ∨ (u = .t .nil ∧ xs = []))

/-- What a caller is told of a row that is handed over. -/
def FEnd (w : World) (e : TypeId) (size : Nat) (xs rest : List T) (v : Value) (w' : World) : Prop :=
  ∃ (v' : Value) (us : List Value), Ending.returned v = .returned (valRest v' us) ∧ Below w.heap.size w w' ∧ Fresh w w' v' e size xs ∧
    us.length = rest.length ∧ ∀ (i : Nat) (u : Value) (t : T), us[i]? = some u → rest[i]? = some t → t.flat = true ∧ Rep (fun _ _ => False) w' u t

theorem postF_run {S0 : Base} {E : Env} {st : St} {w : World} {a : Act} (h : SR N w S0 E st a.tmps) {fn : Func} {e : TypeId} {size : Nat} {xs rest : List T} (hfl : ∀ t ∈ xs.flatMap T.cells, t.flat = true) (hrf : ∀ t ∈ rest, t.flat = true) {u : V}
    (hres : resV st fn.results.toList = some (u :: rest.map .t)) (hu : (∃ q, u = .own q e size xs) ∨ (u = .t .nil ∧ xs = [])) : ∃ v, (results fn a.tmps).run P E.w = .ok v E.w ∧ FEnd w e size xs rest v E.w := by
  obtain ⟨vals, h1, h2, h3⟩ := resV_run (P := P) h hres
  match vals, h2, h3 with
  | [], h2, _ => simp at h2
  | v :: us, h2, h3 =>
    have hv := h3 0 v u rfl rfl
    have hfr : Fresh w E.w v e size xs := by
      have own : ∀ q, VR E v (.own q e size xs) → Fresh w E.w v e size xs := fun q ho => by
        have ho := ho.inv_own
        obtain ⟨cells, k1, k2, k3⟩ := ho.ex
        rw [h.base] at k1
        exact ⟨⟨cells, k1, k2, fun i x t hx ht => (k3 i x t hx ht).of_flat (hfl t (List.mem_of_getElem? ht))⟩, ho.uni, ho.one, hfl⟩
      rcases hu with ⟨q, rfl⟩ | ⟨rfl, rfl⟩
      · exact own q hv
      · have hn := hv.inv_t
        cases hn
        exact own 0 (.own _ 0 e size [] (Owns.nil 0 e size))
    have hr : (results fn a.tmps).run P E.w = .ok (if h : (v :: us).toArray.size = 1 then (v :: us).toArray[0] else .tuple (v :: us).toArray) E.w := by
      have : results fn a.tmps = (do let vs ← fn.results.mapM (readRes a.tmps); pure (if h : vs.size = 1 then vs[0] else .tuple vs)) := rfl
      rw [this, Array.mapM_eq_mapM_toList]
      rw [Sem.run_bind]
      have h2 : (Functor.map List.toArray (fn.results.toList.mapM (readRes a.tmps))).run P E.w = .ok (v :: us).toArray E.w := by
        rw [map_eq_pure_bind, Sem.run_bind, h1]; rfl
      rw [h2]; rfl
    refine ⟨_, hr, v, us, ?_, h.below, hfr, by simpa using h2, fun i x t hx ht => ?_⟩
    · match us with
      | [] => rfl
      | y :: ys =>
        have hne : ¬ (v :: y :: ys).toArray.size = 1 := by simp
        rw [dif_neg hne]
        rfl
    · have hft := hrf t (List.mem_of_getElem? ht)
      exact ⟨hft, (h3 (i + 1) x (.t t) (by simpa using hx) (by simpa using ht)).inv_t.of_flat hft⟩

theorem fcalls_low (hm : P.follows .mixedOrders = true) {f : FuncId} {fn : Func} {d : DCode} {N : Nat} {rs : List ResultVar} (hf : P.funcs[f]? = some fn) (hl : (fn.body.bind (lowC P N X)) = some d) (hN : fn.ntmps = N) (hn : (fn.name == "runtime.NumGoroutine") = false)
    (hr : fn.results.toList = rs) {args : List T} {e : TypeId} {size : Nat} {xs rest : List T} (ha : args.length ≤ N) (h : wpC P d (initSt args) (PostF rs e size xs rest)) : FCalls P f args e size xs rest := by
  cases hb : fn.body with
  | none => rw [hb] at hl; cases hl
  | some c =>
    rw [hb] at hl
    subst hN; subst hr
    refine ⟨callable_of hf (by rw [hb]; rfl) hn, fun S w vs hS hlen hrep => calls_of_wp hf hb ?_⟩
    have hsr := init_sr (N := fn.ntmps) hS hlen hrep ha
    refine wp_mono (wpC_wp hm hl (a := { tmps := vs.toArray ++ Array.replicate (fn.ntmps - vs.toArray.size) undef, defers := [] }) hsr h) ?_
    have fin : ∀ {a' : Act} {w' : World}, EndIs fn.ntmps w { S := S } [] (fun st => (∀ t ∈ xs.flatMap T.cells, t.flat = true) ∧ (∀ t ∈ rest, t.flat = true) ∧ ∃ u, resV st fn.results.toList = some (u :: rest.map .t) ∧ ((∃ q, u = .own q e size xs) ∨ (u = .t .nil ∧ xs = []))) a' w' →
        a'.defers = [] ∧ ∃ v, (results fn a'.tmps).run P w' = .ok v w' ∧ FEnd w e size xs rest v w' := by
      rintro a' w' ⟨E', st', rfl, hsr', hdf, hfl, hrf, u, hres, hu⟩
      exact ⟨hdf, postF_run hsr' hfl hrf hres hu⟩
    intro en a' w' hh
    cases en with
    | normal => exact fin hh
    | ret => exact fin hh
    | exit id =>
      obtain ⟨_, _, _, _, _, hk⟩ := hh
      exact hk.elim
    | goto l => exact hh.elim
    | panic ch => exact hh.elim
    | outgrown => exact hh.elim

theorem klive (h : SR N w0 S0 E st a.tmps) {n : Nat} (hl : E.live n = true) : E.κ n < E.w.heap.size := by
  rw [h.live] at hl
  obtain ⟨b', hb'⟩ := Option.isSome_iff_exists.1 hl
  obtain ⟨cs, e, hg, _⟩ := (h.bx n b' hb').at_
  exact (Array.getElem?_eq_some_iff.1 hg).1

/-- A new block becomes a box. -/
theorem SR.adoptBox {b : Array Value} (h : SR N w0 S0 E st b) {q g : Nat} (hq : st.bx q = none) (hg : ∀ m, E.live m = true → E.κ m ≠ g) (hρ : ∀ r, E.ρ r ≠ some g) {bx : BX} (hB : BoxR E g bx) :
    SR N w0 S0 { E with κ := upd E.κ q g, live := upd E.live q true } { st with bx := upd st.bx q (some bx) } b := by
  have hdead : E.live q = false := by rw [h.live, hq]; rfl
  have ne : ∀ m, E.live m = true → m ≠ q := fun m hm e => by rw [e, hdead] at hm; cases hm
  have gr : Grow E { E with κ := upd E.κ q g, live := upd E.live q true } :=
    ⟨rfl, fun m hm => ⟨by show upd E.live q true m = true; rw [upd_other _ _ _ _ (ne m hm)]; exact hm, upd_other _ _ _ _ (ne m hm)⟩, fun r k hr => ⟨hr, rfl, fun _ => Iff.rfl⟩, fun _ _ hs => hs, fun _ _ _ => rfl⟩
  refine ⟨h.size, h.base, fun m => (h.sl m).grow gr, fun k m => (h.gh k m).grow gr, fun m b' hm => ?_, fun m => ?_, fun m m' hm hm' he => ?_, fun r k hr => ?_, h.rinj, h.lt, h.below, h.s0, h.s1, h.obj, h.cx⟩
  · by_cases hmq : m = q
    · subst hmq
      have hb' : bx = b' := by
        have : upd st.bx m (some bx) m = some b' := hm
        rw [upd_same] at this
        exact Option.some.inj this
      subst hb'
      show BoxR _ (upd E.κ m g m) bx
      rw [upd_same]
      exact hB.grow gr rfl hB.free
    · have hm' : st.bx m = some b' := by
        have : upd st.bx q (some bx) m = some b' := hm
        rwa [upd_other _ _ _ _ hmq] at this
      show BoxR _ (upd E.κ q g m) b'
      rw [upd_other _ _ _ _ hmq]
      have := h.bx m b' hm'
      exact this.grow gr rfl this.free
  · show upd E.live q true m = (upd st.bx q (some bx) m).isSome
    by_cases hmq : m = q
    · subst hmq; rw [upd_same, upd_same]; rfl
    · rw [upd_other _ _ _ _ hmq, upd_other _ _ _ _ hmq]; exact h.live m
  · have hm : upd E.live q true m = true := hm
    have hm' : upd E.live q true m' = true := hm'
    have he : upd E.κ q g m = upd E.κ q g m' := he
    by_cases h1 : m = q <;> by_cases h2 : m' = q
    · rw [h1, h2]
    · subst h1
      rw [upd_other _ _ _ _ h2] at hm'
      rw [upd_same, upd_other _ _ _ _ h2] at he
      exact absurd he.symm (hg m' hm')
    · subst h2
      rw [upd_other _ _ _ _ h1] at hm
      rw [upd_same, upd_other _ _ _ _ h1] at he
      exact absurd he (hg m hm)
    · rw [upd_other _ _ _ _ h1] at hm he
      rw [upd_other _ _ _ _ h2] at hm' he
      exact h.inj m m' hm hm' he
  · obtain ⟨h1, h2, h3⟩ := h.rows r k hr
    refine ⟨h1, h2, fun m hm => ?_⟩
    have hm : upd E.live q true m = true := hm
    show upd E.κ q g m ≠ k
    by_cases hmq : m = q
    · subst hmq; rw [upd_same]; exact fun e => hρ r (e ▸ hr)
    · rw [upd_other _ _ _ _ hmq] at hm ⊢; exact h3 m hm

/-- A new block becomes an owned row: only its cells become stable. -/
theorem SR.adoptRow {b : Array Value} (h : SR N w0 S0 E st b) {q g k : Nat} (hnone : E.ρ q = none) (hg : ∀ m, E.live m = true → E.κ m ≠ g) (hρ : ∀ r, E.ρ r ≠ some g) (hlt : g < E.w.heap.size) (hold : E.B ≤ g) :
    SR N w0 S0 { E with S := fun b o => E.S b o ∨ (b = g ∧ o < k), ρ := upd E.ρ q (some g) } st b := by
  have gr : Grow E { E with S := fun b o => E.S b o ∨ (b = g ∧ o < k), ρ := upd E.ρ q (some g) } := by
    refine ⟨rfl, fun m hm => ⟨hm, rfl⟩, fun r k' hr => ?_, fun b o hs => .inl hs, fun _ _ _ => rfl⟩
    have hrq : r ≠ q := fun e => by rw [e, hnone] at hr; cases hr
    refine ⟨(upd_other _ _ _ _ hrq).trans hr, rfl, fun o => ⟨fun hs => hs.elim id fun hh => absurd (hh.1 ▸ hr) (hρ r), .inl⟩⟩
  refine h.step gr rfl rfl (fun n hl => ⟨rfl, fun o hs => ?_⟩) (fun r k' hr => ?_) (fun r r' k' h1 h2 => ?_) (fun b o hs => ?_) h.below (fun b o hs => ?_) (fun k o _ hk => hk)
  · rcases hs with hs | ⟨hs, _⟩
    · rw [h.live] at hl
      obtain ⟨b', hb'⟩ := Option.isSome_iff_exists.1 hl
      exact (h.bx n b' hb').free o hs
    · exact hg n hl hs
  · have hr : upd E.ρ q (some g) r = some k' := hr
    by_cases hrq : r = q
    · subst hrq
      rw [upd_same] at hr
      cases hr
      exact ⟨hold, hlt, hg⟩
    · rw [upd_other _ _ _ _ hrq] at hr
      exact h.rows r k' hr
  · have h1 : upd E.ρ q (some g) r = some k' := h1
    have h2 : upd E.ρ q (some g) r' = some k' := h2
    by_cases e1 : r = q <;> by_cases e2 : r' = q
    · rw [e1, e2]
    · subst e1
      rw [upd_same] at h1; rw [upd_other _ _ _ _ e2] at h2
      cases h1
      exact absurd h2 (hρ r')
    · subst e2
      rw [upd_same] at h2; rw [upd_other _ _ _ _ e1] at h1
      cases h2
      exact absurd h1 (hρ r)
    · rw [upd_other _ _ _ _ e1] at h1; rw [upd_other _ _ _ _ e2] at h2
      exact h.rinj r r' k' h1 h2
  · rcases hs with hs | ⟨rfl, _⟩
    · exact h.lt b o hs
    · exact hlt
  · rcases hs with hs | ⟨rfl, _⟩
    · exact h.s1 b o hs
    · right; rw [← h.base]; exact hold

/-- A row and what is handed over besides it, as one value. -/
def withRest (u : V) (rest : List T) : V :=
  match rest with
  | [] => u
  | _ => .tup (u :: rest.map .t)

theorem withRest_vr {v : Value} {u : V} {us : List Value} {rest : List T} (hv : VR E v u) (hl : us.length = rest.length) (hr : ∀ (i : Nat) (x : Value) (t : T), us[i]? = some x → rest[i]? = some t → t.flat = true ∧ Rep (fun _ _ => False) E.w x t) :
    VR E (valRest v us) (withRest u rest) := by
  match us, rest, hl, hr with
  | [], [], _, _ => exact hv
  | y :: ys, t :: ts, hl, hr =>
    refine .tup _ _ (by simpa using hl) fun i x z hx hz => ?_
    cases i with
    | zero => simp at hx hz; subst hx; subst hz; exact hv
    | succ i =>
      have hx' : (y :: ys)[i]? = some x := by simpa using hx
      have hz' : ((t :: ts).map V.t)[i]? = some z := by simpa using hz
      rw [List.getElem?_map, Option.map_eq_some_iff] at hz'
      obtain ⟨t', ht', rfl⟩ := hz'
      have := hr i x t' hx' ht'
      exact .t _ _ (this.2.of_flat this.1)

theorem fcall_world {f : FuncId} {us : List V} {ts : List T} {rd : List Nat} {e : TypeId} {size : Nat} {xs rest : List T} (hc : convs st.bx us = some (ts, rd)) (hr : FCalls P f ts e size xs rest)
    (h : SR N w0 S0 E st a.tmps) {vs : Array Value} (hlen : vs.size = us.length) (hv : ∀ (i : Nat) (v : Value) (u : V), vs[i]? = some v → us[i]? = some u → VR E v u) :
    Calls P f vs E.w fun en w' => ∃ (v : Value) (us : List Value), en = .returned (valRest v us) ∧ Below E.w.heap.size E.w w' ∧ Fresh E.w w' v e size xs ∧
      us.length = rest.length ∧ (∀ (i : Nat) (u : Value) (t : T), us[i]? = some u → rest[i]? = some t → t.flat = true ∧ Rep (fun _ _ => False) w' u t) ∧ SR N w0 S0 { E with w := w' } st a.tmps := by
  obtain ⟨c1, c2⟩ := convs_sound h.bx hc
  have hlt : ∀ b x, Sx E rd b x → b < E.w.heap.size := by
    rintro b x (h1 | ⟨n, _, hl, rfl⟩)
    · exact h.lt b x h1
    · exact klive h hl
  have hcall := hr.2 (Sx E rd) E.w vs.toList hlt (by simp; omega) (fun i v t hvi ht => by
    have hi : i < us.length := by rw [c1]; exact (List.getElem?_eq_some_iff.1 ht).1
    exact c2 i v _ t (hv i v _ (by simpa using hvi) (List.getElem?_eq_getElem hi)) (List.getElem?_eq_getElem hi) ht)
  refine Calls.mono (by simpa using hcall) ?_
  rintro en w' ⟨v, us', rfl, hb, hfr, hl, hrest⟩
  exact ⟨v, us', rfl, hb, hfr, hl, hrest, h.world hb E.S (fun b o => ⟨.inl, fun hh => hh.elim id fun k => k.1⟩)⟩

/-- The row that a callee hands over, as an owned row. -/
theorem WC_own {f : FuncId} {us : List V} {d : Nat} {K : St → Prop} {ts : List T} {rd : List Nat} {e : TypeId} {size : Nat} {xs rest : List T} (hc : convs st.bx us = some (ts, rd)) (hr : FCalls P f ts e size xs rest)
    (hk : K ((st.dg (d + st.off) (d + st.off)).set (some d) (withRest (.own (d + st.off) e size xs) rest))) : WC P f us (some d) st K := by
  refine ⟨hr.1, fun N w0 S0 E a vs h hlen hv hd => Calls.mono (fcall_world (a := ⟨a, []⟩) hc hr h hlen hv) ?_⟩
  rintro en w' ⟨v, us', rfl, hb, hfr, hl, hrest, h'⟩
  refine ⟨_, rfl, ?_⟩
  have h1 := h'.dg (d + st.off) (d + st.off)
  have hne : E.w.heap.size ≤ w'.heap.size := hb.size
  have klt : ∀ m, E.live m = true → E.κ m < E.w.heap.size := fun m hm => klive (a := ⟨a, []⟩) h hm
  obtain ⟨cells, k1, k2, k3⟩ := hfr.ex
  rcases k1.2 with ⟨rfl, hn⟩ | ⟨g, cap, cur, rfl, hbg, hg, hcap, hm, hs, htk⟩
  · have hx : xs = [] := List.eq_nil_of_length_eq_zero hn
    subst hx
    exact ⟨_, _, rfl, hk, set_put h1 hd (withRest_vr (.own _ _ _ _ _ (Owns.nil _ _ _)) hl hrest)⟩
  · have hlt : g < w'.heap.size := (Array.getElem?_eq_some_iff.1 hg).1
    have h2 := h1.adoptRow (q := d + st.off) (g := g) (k := (xs.flatMap T.cells).length) (by simp) (fun m hm => by have := klt m hm; show E.κ m ≠ g; omega) (fun r hr => by
      dsimp only at hr
      split at hr
      · cases hr
      · have := (h.rows r g hr).2.1; omega) hlt (by show E.B ≤ g; rw [h.base]; have := h.below.size; omega)
    refine ⟨_, _, rfl, hk, set_put h2 hd (withRest_vr (.own _ _ _ _ _ ⟨⟨cells, ⟨k1.1, .inr ⟨g, cap, cur, rfl, ?_, hg, hcap, hm, hs, htk⟩⟩, k2, fun i x t hx ht => (k3 i x t hx ht).of_flat (hfr.flat t (List.mem_of_getElem? ht))⟩, hfr.uni, hfr.one, fun g' hg' => ?_⟩) hl hrest)⟩
    · show E.B ≤ g; rw [h.base]; have := h.below.size; omega
    · simp only [Value.ownBlock, Option.some.injEq] at hg'
      subst hg'
      refine ⟨upd_same _ _ _, fun o => ?_⟩
      show (E.S g o ∨ (g = g ∧ o < _)) ↔ _
      exact ⟨fun hh => hh.elim (fun hs => absurd (h.lt g o hs) (by omega)) (·.2), fun hh => .inr ⟨rfl, hh⟩⟩

/-- The row that a callee hands over, as a box that may be written. -/
theorem WC_view {f : FuncId} {us : List V} {d : Nat} {K : St → Prop} {ts : List T} {rd : List Nat} {e : TypeId} {size : Nat} {xs rest : List T} (hc : convs st.bx us = some (ts, rd)) (hr : FCalls P f ts e size xs rest) (hq : st.bx (d + st.off) = none)
    (hnil : xs = [] → K (st.set (some d) (withRest (.t .nil) rest))) (hk : K ({ st with bx := upd st.bx (d + st.off) (some (.d (xs.length * size) (xs.flatMap T.cells))) }.set (some d) (withRest (.view (d + st.off) 0 xs.length size) rest))) : WC P f us (some d) st K := by
  refine ⟨hr.1, fun N w0 S0 E a vs h hlen hv hd => Calls.mono (fcall_world (a := ⟨a, []⟩) hc hr h hlen hv) ?_⟩
  rintro en w' ⟨v, us', rfl, hb, hfr, hl, hrest, h'⟩
  refine ⟨_, rfl, ?_⟩
  have hne : E.w.heap.size ≤ w'.heap.size := hb.size
  have klt : ∀ m, E.live m = true → E.κ m < E.w.heap.size := fun m hm => klive (a := ⟨a, []⟩) h hm
  obtain ⟨cells, k1, k2, k3⟩ := hfr.ex
  rcases k1.2 with ⟨rfl, hn⟩ | ⟨g, cap, cur, rfl, hbg, hg, hcap, hm, hs, htk⟩
  · have hx : xs = [] := List.eq_nil_of_length_eq_zero hn
    exact ⟨_, _, rfl, hnil hx, set_put h' hd (withRest_vr (.t _ _ .nil) hl hrest)⟩
  · have hfl := flat_len hfr.uni
    have hle : xs.length * size ≤ cur.size := by rw [hs]; exact Nat.mul_le_mul_right _ hcap
    have h2 := h'.adoptBox (q := d + st.off) (g := g) hq (fun m hm => by have := klt m hm; show E.κ m ≠ g; omega) (fun r hr => by have := (h.rows r g hr).2.1; omega)
      (bx := .d (xs.length * size) (xs.flatMap T.cells)) ⟨by show E.B ≤ g; rw [h.base]; have := h.below.size; omega, fun o hs => absurd (h.lt g o hs) (by omega), cur, e, hg, .d _ _ hfl hle fun i x t hx ht => by
        have hi : i < xs.length * size := by rw [← hfl]; exact (List.getElem?_eq_some_iff.1 ht).1
        refine ⟨(k3 i x t ?_ ht).of_flat (hfr.flat t (List.mem_of_getElem? ht)), hfr.one t (List.mem_of_getElem? ht)⟩
        rw [← htk, List.getElem?_take, if_pos hi]
        simpa using hx⟩
    refine ⟨_, _, rfl, hk, set_put h2 hd (withRest_vr ?_ hl hrest)⟩
    have := VR.view (E := { E with w := w', κ := upd E.κ (d + st.off) g, live := upd E.live (d + st.off) true }) (d + st.off) 0 xs.length size cap (by show upd E.live _ true _ = true; exact upd_same _ _ _) hcap
    have hκ : upd E.κ (d + st.off) g (d + st.off) = g := upd_same _ _ _
    simp only [hκ] at this
    exact this

end Go.DL
end
section
/- The data level: regions without calls, within a fence (a round of a range over a function). Generic over the program; no statement here. -/
namespace Go.DL
open Go.RowKit

variable {P : Program} {N : Nat} {w0 : World} {S0 : Base} {o : Oper} {a : Act} {E : Env} {st : St} {F : Fence} {n : Nat}

theorem opIn_did (hF : ∀ f, F.fn f) (h : SR N w0 S0 E st a.tmps) (hd : okDst N o.dst) {x : DOp} (hl : lowOp P o.op = some x) (hc : x.isCall = false) {K : St → Prop} (hw : wpO P x o.dst st K) {Q : Exit → Act → World → Prop} :
    o.wpIn F n P a E.w (fun a' w' => ∃ st', K st' ∧ Next' N w0 S0 a st' a' w') Q := by
  obtain ⟨st', hk, nx, v, E', hr, hnx, hsr⟩ := wpO_did h hd hl hc hw
  refine ⟨fun f _ => hF f, ?_⟩
  rw [Oper.semAt_eq _ _ _ (fun c hop => by rw [hop] at hl; cases hl), hr]
  rcases hnx with rfl | ⟨rfl, rfl⟩
  · exact ⟨st', hk, E', rfl, hsr, by cases o.dst <;> rfl⟩
  · exact ⟨st', hk, E', rfl, hsr, by cases o.dst <;> rfl⟩

theorem markX_nil (x : DOp) : markX [] x = x := by cases x <;> rfl

theorem wpIn_I (hF : ∀ f, F.fn f) (h : SR N w0 S0 E st a.tmps) {ops : Array Oper} {k : Nat} (ho : ops[k]? = some o) {i : DI} (hl : lowI P N [] ops o = some i) (hc : i.op.isCall = false) {K : St → Prop} (hw : wpI P i st K) {Q : Exit → Act → World → Prop} :
    wpOpIn F n P ops Q k (fun a' w' => ∃ st', K st' ∧ Next' N w0 S0 a st' a' w') a E.w := by
  obtain ⟨⟨x, h1, hx⟩, h2, h3, _, h4⟩ := lowI_inv hl
  rw [markX_nil] at hx
  have run : wpO P i.op i.dst st K → Region.wanted o (yielded ops a.tmps) = true → wpOpIn F n P ops Q k (fun a' w' => ∃ st', K st' ∧ Next' N w0 S0 a st' a' w') a E.w := fun hw hwant => by
    rw [h2, hx] at hw
    unfold wpOpIn
    simp only [ho, hwant, if_true]
    exact opIn_did hF h h3 h1 (hx ▸ hc) hw
  have skip : K (st.set i.dst skipV) → Region.wanted o (yielded ops a.tmps) = false → wpOpIn F n P ops Q k (fun a' w' => ∃ st', K st' ∧ Next' N w0 S0 a st' a' w') a E.w := fun hk hwant => by
    unfold wpOpIn
    simp only [ho, hwant, Bool.false_eq_true, if_false]
    refine ⟨fun f _ => hF f, _, hk, ?_⟩
    rw [h2]
    exact ⟨E, rfl, h.putO h3 (skip_vr E), by cases o.dst <;> rfl⟩
  unfold wpI at hw
  rcases h4 with ⟨hg, hi⟩ | ⟨j, want, g, hg, hj, hi, hlt⟩
  · rw [hi] at hw
    exact run hw (by unfold Region.wanted; rw [hg])
  · rw [hi] at hw
    simp only at hw
    have yl : ∀ b, st.sl g = .t (.bool b) → yielded ops a.tmps j = some b := fun b hb => by
      have hv := h.sl g
      rw [hb] at hv
      have hv := hv.inv_bool
      have hsz : g < a.tmps.size := by rw [h.size]; exact hlt
      have : a.tmps[g]? = some (.bool b) := by
        rw [Array.getElem?_eq_getElem hsz]
        simpa [hsz] using hv
      unfold yielded
      rw [hj]
      simp [this]
    have wn : ∀ b, st.sl g = .t (.bool b) → Region.wanted o (yielded ops a.tmps) = (b == want) := fun b hb => by
      unfold Region.wanted
      rw [hg]
      simp only [yl b hb]
      cases b <;> cases want <;> rfl
    split at hw
    · rename_i b hb
      have hwn := wn b hb
      cases b <;> cases want <;> simp only at hw
      · exact run hw hwn
      · exact skip hw hwn
      · exact skip hw hwn
      · exact run hw hwn
    · rename_i hb
      refine skip hw ?_
      have hv := skip_inv (hb ▸ h.sl g)
      unfold Region.wanted
      rw [hg]
      have : yielded ops a.tmps j = none := by
        have hsz : g < a.tmps.size := by rw [h.size]; exact hlt
        have : a.tmps[g]? = some (.tuple #[]) := by
          rw [Array.getElem?_eq_getElem hsz]
          simpa [hsz] using hv
        unfold yielded
        rw [hj]
        simp [this]
      simp only [this]
      rfl
    · exact hw.elim

/-- Some of a region's operations, in order: then what comes behind. -/
theorem wpIn_Is (hF : ∀ f, F.fn f) {ops : Array Oper} {is : List DI} (hl : lowIs P N [] ops ops.toList = some is) (hc : is.all (fun i => !i.op.isCall) = true) {Q : Exit → Act → World → Prop} {K : St → Prop} {ds : List Deferred} {rest : List Nat}
    (hQ : ∀ a w, EndIs N w0 S0 ds K a w → wpOpsIn F n P ops Q rest a w) :
    ∀ (ks : List Nat) (_ : ∀ k ∈ ks, k < ops.size) {a : Act} {E : Env} {st : St} (_ : SR N w0 S0 E st a.tmps) (_ : a.defers = ds) (_ : wpIs P (pick' is ks) st K), wpOpsIn F n P ops Q (ks ++ rest) a E.w
  | [], _, a, E, st, h, hd, hw => hQ a E.w ⟨E, st, rfl, h, hd, hw⟩
  | k :: ks, hk, a, E, st, h, hd, hw => by
    have hlt := hk k (by simp)
    have ho : ops[k]? = some ops[k] := Array.getElem?_eq_getElem hlt
    obtain ⟨i, hi, hli⟩ := (lowIs_get hl).2 k _ (Array.getElem?_toList.trans ho)
    have hw' : wpI P i st fun st' => wpIs P (pick' is ks) st' K := by
      have := hw
      unfold pick' at this
      rw [List.map_cons, hi] at this
      exact this
    have hci : i.op.isCall = false := by
      have := List.all_eq_true.1 hc i (List.mem_of_getElem? hi)
      simpa using this
    rw [List.cons_append, wpOpsIn_cons]
    refine wpOpIn_mono ?_ (wpIn_I hF h ho hli hci hw' (Q := Q))
    rintro a' w' ⟨st', hk', E', rfl, hsr, hdf⟩
    exact wpIn_Is hF hl hc hQ ks (fun k hk' => hk k (List.mem_cons_of_mem _ hk')) hsr (hdf.trans hd) hk'

theorem regionIn_wp (hF : ∀ f, F.fn f) (h : SR N w0 S0 E st a.tmps) {ops : Array Oper} {is : List DI} (hl : lowIs P N [] ops ops.toList = some is) (hc : is.all (fun i => !i.op.isCall) = true) {Q : Exit → Act → World → Prop} {K : St → Prop}
    (hQ : ∀ a' w, EndIs N w0 S0 a.defers K a' w → Q .normal a' w) (hw : wpIs P is st K) {id : Nat} : (Code.region id ops false).wpIn F n P Q a E.w := by
  refine wpIn_region ?_
  have := wpIn_Is (n := n) hF hl hc (rest := []) (K := K) (ds := a.defers) (Q := Q) (fun a w hh => hQ a w hh) (List.range ops.size) (fun k hk => by simpa using hk) h rfl (by
    have : ops.size = is.length := by simpa using (lowIs_get hl).1
    rw [this, pick_range]
    exact hw)
  rwa [List.append_nil] at this

theorem cell_noCells {w : World} {l : Nat} {x : Obj} (h : w.heap[l]? = some x) (hx : noCells x = true) (o : Nat) : w.cell? ⟨l, o, none⟩ = none := by
  unfold World.cell?
  simp only [h]
  cases x <;> first | rfl | cases hx

/-- The environment behind an object that was put in another's place. -/
def Env.put (E : Env) (l : Nat) (y : Obj) : Env := { E with w := E.w.putObj l y, ρ := fun r => if E.ρ r = some l then none else E.ρ r }

section put
variable {l : Nat} {x y : Obj}
theorem put_cell (hlx : E.w.heap[l]? = some x) (hnx : noCells x = true) (hy : noCells y = true) (b o : Nat) : (E.w.putObj l y).cell? ⟨b, o, none⟩ = E.w.cell? ⟨b, o, none⟩ := by
  by_cases hb : b = l
  · subst hb
    rw [cell_noCells hlx hnx, cell_noCells (World.putObj_heap_same (Array.getElem?_eq_some_iff.1 hlx).1) hy]
  · exact World.cell?_of_block (w := E.w) (a := ⟨b, o, none⟩) (World.putObj_heap_other hb)

theorem VR.putObj (hlx : E.w.heap[l]? = some x) (hnx : noCells x = true) (hy : noCells y = true) {v : Value} {u : V} (h : VR E v u) : VR (E.put l y) v u := by
  have up : ∀ {v : Value} {t : T}, Rep E.S E.w v t → Rep (E.put l y).S (E.put l y).w v t := fun h => h.mono (fun b o h => h) (fun b o _ => put_cell hlx hnx hy b o)
  induction h with
  | top v => exact .top v
  | t v x h => exact .t v x (up h)
  | ptr n off hl => exact VR.ptr (E := E.put l y) n off hl
  | view n off len size cap hl hc => exact VR.view (E := E.put l y) n off len size cap hl hc
  | own v r e size xs h =>
    obtain ⟨cells, h1, h2, h3⟩ := h.ex
    refine .own v r e size xs ⟨⟨cells, ownsRow_of_heap h1 fun g hg => ?_, h2, fun i x t hx ht => up (h3 i x t hx ht)⟩, h.uni, h.one, fun g hg => ⟨?_, (h.row g hg).2⟩⟩
    · refine World.putObj_heap_other fun e => ?_
      rcases h1.2 with ⟨rfl, _⟩ | ⟨g', cap, cur, rfl, _, hg', _⟩
      · cases hg
      · simp only [Value.ownBlock, Option.some.injEq] at hg
        rw [hg, e, hlx] at hg'
        cases hg'; cases hnx
    · show (if E.ρ r = some l then none else E.ρ r) = some g
      have hr := (h.row g hg).1
      rw [if_neg]
      · exact hr
      · intro e
        rw [hr] at e
        have e := Option.some.inj e
        rcases h1.2 with ⟨rfl, _⟩ | ⟨g', cap, cur, rfl, _, hg', _⟩
        · cases hg
        · simp only [Value.ownBlock, Option.some.injEq] at hg
          rw [hg, e, hlx] at hg'
          cases hg'; cases hnx
  | fn f cs vs hs _ ih => exact .fn f cs vs hs ih
  | tup cs vs hs _ ih => exact .tup cs vs hs ih
  | raw v h1 => exact .raw v h1

/-- An object that holds no cells is put in another's place. -/
theorem SR.putObj {b : Array Value} (h : SR N w0 S0 E st b) (hx : S0.objs l = some x) (hy : noCells y = true) (hl : w0.heap.size ≤ l) (hcx : st.cx { S0 with objs := upd S0.objs l (some y) } w0) :
    SR N w0 { S0 with objs := upd S0.objs l (some y) } (E.put l y) st b := by
  obtain ⟨hnx, hlx⟩ := h.obj l x hx
  have hlt : l < E.w.heap.size := (Array.getElem?_eq_some_iff.1 hlx).1
  have hsz : (E.w.putObj l y).heap.size = E.w.heap.size := by simp [World.putObj]
  have hne : ∀ r g, (if E.ρ r = some l then none else E.ρ r) = some g → E.ρ r = some g ∧ g ≠ l := fun r g hr => by
    split at hr
    · cases hr
    · rename_i hn
      exact ⟨hr, fun e => hn (e ▸ hr)⟩
  refine ⟨h.size, h.base, fun m => (h.sl m).putObj hlx hnx hy, fun k m => (h.gh k m).putObj hlx hnx hy, fun n b' hb => ?_, h.live, h.inj, fun r g hr => ?_, fun r r' g h1 h2 => h.rinj r r' g (hne r g h1).1 (hne r' g h2).1, fun b o hs => ?_, ?_, h.s0, h.s1, fun g o hg => ?_, hcx⟩
  · have hB := h.bx n b' hb
    obtain ⟨cs, e, hg, hc⟩ := hB.at_
    have hnl : E.κ n ≠ l := fun e => by rw [e, hlx] at hg; cases hg; cases hnx
    refine ⟨hB.old, hB.free, cs, e, (World.putObj_heap_other hnl).trans hg, ?_⟩
    cases hc with
    | d m ts h1 h2 h3 => exact .d m ts h1 h2 fun i z t hz ht => ⟨(h3 i z t hz ht).1.mono (fun b o h => h) (fun b o _ => put_cell hlx hnx hy b o), (h3 i z t hz ht).2⟩
    | v vs h1 h2 => exact .v vs h1 fun i z u hz hu => ⟨(h2 i z u hz hu).1.putObj hlx hnx hy, (h2 i z u hz hu).2⟩
  · obtain ⟨k1, k2⟩ := hne r g hr
    obtain ⟨g1, g2, g3⟩ := h.rows r g k1
    exact ⟨g1, by show g < (E.w.putObj l y).heap.size; rw [hsz]; exact g2, g3⟩
  · show b < (E.w.putObj l y).heap.size
    rw [hsz]; exact h.lt b o hs
  · exact h.below.trans ⟨rfl, rfl, rfl, by show _ ≤ (E.w.putObj l y).heap.size; rw [hsz]; exact Nat.le_refl _, fun k hk => World.putObj_heap_other (by omega)⟩
  · by_cases hgl : g = l
    · subst hgl
      have : some y = some o := by
        have hg' : upd S0.objs g (some y) g = some o := hg
        rwa [upd_same] at hg'
      cases this
      exact ⟨hy, World.putObj_heap_same hlt⟩
    · have hg' : upd S0.objs l (some y) g = some o := hg
      rw [upd_other _ _ _ _ hgl] at hg'
      exact ⟨(h.obj g o hg').1, (World.putObj_heap_other hgl).trans (h.obj g o hg').2⟩
end put

end Go.DL
end
section
/- The data level: a round of a range over a function, where the iterator calls yield. Generic over the program; no statement here. -/
namespace Go.DL
open Go.RowKit

variable {P : Program} {N : Nat} {w0 : World} {S0 : Base} {o : Oper} {a : Act} {E : Env} {st : St} {n : Nat}

/-- The state in which a round begins: the slots of the waiting activation, the loop's variable in its place. -/
def St.round (st : St) (p : Nat) (u : V) (off : Nat) : St := { sl := upd (st.gh 0) p u, bx := st.bx, gh := pushS st.sl st.gh, off := off }

def readyRec (fn : FuncId) (tmps : Array Value) (p : Nat) (assign body : Code) (d : Nat) : Loop := { state := .ready, pending := none, fn := fn, tmps := tmps, params := #[p], assign := assign, body := body, defers := d }

theorem yield_run {l : Nat} {X Y : Operand} {ats : Array TypeId} (ho : o.op = .call { callee := .value X, args := #[Y], argTypes := ats }) (hX : a.eval X = .func (.yield l) #[] #[]) (w : World) :
    (execOp a.eval o).run P w = (Instr.yield l #[a.eval Y]).run P w := by
  unfold execOp
  simp [ho, resolve, hX, Deferred.ofValue, invoke]

theorem yield_wp (h : SR N w0 S0 E st a.tmps) (hd : ∀ n, o.dst = some n → n < N) {l : Nat} {X Y : Operand} {y : O} {ats : Array TypeId} (ho : o.op = .call { callee := .value X, args := #[Y], argTypes := ats }) (hX : a.eval X = .func (.yield l) #[] #[]) (hY : lowO Y = some y)
    {fn : FuncId} {tmps : Array Value} {p N' dd id1 id2 bl : Nat} {ops1 ops2 : Array Oper} {is1 is2 : List DI} (hobj : S0.objs l = some (.loop (readyRec fn tmps p (.region id1 ops1 false) (.block bl (.region id2 ops2 false)) dd))) (hl : w0.heap.size ≤ l)
    (hframe : ∀ m, S0.vals 0 m = tmps.getD m undef) (hN : tmps.size = N') (hp : p < N') (hl1 : lowIs P N' [] ops1 ops1.toList = some is1) (hc1 : is1.all (fun i => !i.op.isCall) = true) (hl2 : lowIs P N' [] ops2 ops2.toList = some is2) (hc2 : is2.all (fun i => !i.op.isCall) = true)
    (off : Nat) {K : St → Prop} (hw : wpIs P is1 (st.round p (ev st.sl y) off) fun s1 => (∀ S w, s1.cx S w) ∧ wpIs P is2 s1 fun s2 => (∀ S w, s2.cx S w) ∧ K ((s2.back st).set o.dst (.t (.bool true)))) {Q : Exit → Act → World → Prop} :
    o.wpIn Fence.wide n P a E.w (fun a' w' => ∃ st', K st' ∧ Next' N w0 S0 a st' a' w') Q := by
  have hF : ∀ f, (Fence.wide.inRound l).fn f := fun _ => trivial
  obtain ⟨_, hlw⟩ := h.obj l _ hobj
  refine ⟨fun f _ => trivial, ?_⟩
  rw [Oper.semAt_eq _ _ _ (fun c hop => by rw [ho] at hop; cases hop), yield_run ho hX, run_yield hlw rfl]
  refine ⟨fun hh => (by cases hh), roundIn_of_wpIn trivial ?_⟩
  -- the state of the round
  let tm' : Array Value := tmps.setIfInBounds p (a.eval Y)
  let S0r : Base := { S0 with vals := pushB (fun m => a.tmps.getD m undef) S0.vals }
  have hv := ev_sound h.sl hY
  have hsr : SR N' w0 S0r E (st.round p (ev st.sl y) off) tm' := by
    refine ⟨by simp [tm', hN], h.base, fun m => ?_, fun k m => ?_, h.bx, h.live, h.inj, h.rows, h.rinj, h.lt, h.below, h.s0, h.s1, h.obj, trivial⟩
    · rw [getD_put (by rw [hN]; exact hp)]
      show VR E _ (upd (st.gh 0) p (ev st.sl y) m)
      by_cases hm : m = p
      · subst hm; rw [if_pos rfl, upd_same]; exact hv
      · rw [if_neg hm, upd_other _ _ _ _ hm, ← hframe]; exact h.gh 0 m
    · cases k with
      | zero => exact h.sl m
      | succ k => exact h.gh k m
  have hasg := regionIn_wp (F := Fence.wide.inRound l) (n := n - 1) (a := { tmps := tm', defers := [] }) hF hsr hl1 hc1 (K := fun s1 => (∀ S w, s1.cx S w) ∧ wpIs P is2 s1 fun s2 => (∀ S w, s2.cx S w) ∧ K ((s2.back st).set o.dst (.t (.bool true))))
    (Q := fun e a' w' => match e with
      | .normal => EndIs N' w0 S0r [] (fun s1 => (∀ S w, s1.cx S w) ∧ wpIs P is2 s1 fun s2 => (∀ S w, s2.cx S w) ∧ K ((s2.back st).set o.dst (.t (.bool true)))) a' w'
      | _ => False) (fun a' w hh => hh) hw (id := id1)
  have hz : (((readyRec fn tmps p (.region id1 ops1 false) (.block bl (.region id2 ops2 false)) dd).params.zip #[a.eval Y]).foldl (fun tmps (t, a) => tmps.setIfInBounds t a) (readyRec fn tmps p (.region id1 ops1 false) (.block bl (.region id2 ops2 false)) dd).tmps) = tm' := by
    simp [readyRec, tm']
  rw [hz]
  refine wpIn_mono hasg ?_
  intro e a1 w1 hq
  cases e with
  | normal =>
    obtain ⟨E1, s1, rfl, hsr1, hdf1, hcx1, hw2⟩ := hq
    obtain ⟨_, hlw1⟩ := hsr1.obj l _ hobj
    refine ⟨_, run_beginRound hlw1 rfl, ?_⟩
    let rc : Loop := readyRec fn tmps p (.region id1 ops1 false) (.block bl (.region id2 ops2 false)) dd
    have hsr2 := hsr1.putObj (x := .loop rc) (y := .loop { rc with state := .busy }) hobj rfl hl (hcx1 _ _)
    refine wpIn_block ?_
    refine wpIn_mono (regionIn_wp (F := Fence.wide.inRound l) (n := n - 1) hF hsr2 hl2 hc2 (K := fun s2 => (∀ S w, s2.cx S w) ∧ K ((s2.back st).set o.dst (.t (.bool true))))
      (Q := fun e a' w' => match e with
        | .normal => EndIs N' w0 { S0r with objs := upd S0r.objs l (some (.loop { rc with state := .busy })) } a1.defers (fun s2 => (∀ S w, s2.cx S w) ∧ K ((s2.back st).set o.dst (.t (.bool true)))) a' w'
        | _ => False) (fun a' w hh => hh) hw2 (id := id2)) ?_
    intro e a2 w2 hq
    cases e with
    | normal =>
      obtain ⟨E2, s2, rfl, hsr3, hdf2, hcx2, hk⟩ := hq
      have hb : (upd S0r.objs l (some (.loop { rc with state := .busy }))) l = some (.loop { rc with state := .busy }) := upd_same _ _ _
      obtain ⟨_, hlw3⟩ := hsr3.obj l _ hb
      refine ⟨_, _, run_endRound none hlw3, ?_⟩
      have hsr4 := hsr3.putObj (x := .loop { rc with state := .busy }) (y := .loop rc) hb rfl hl (hcx2 _ _)
      have hobjs : upd (upd S0r.objs l (some (.loop { rc with state := .busy }))) l (some (.loop rc)) = S0.objs := by
        funext k
        by_cases hk : k = l
        · subst hk; rw [upd_same]; exact hobj.symm
        · rw [upd_other _ _ _ _ hk, upd_other _ _ _ _ hk]
      have hback : SR N w0 S0 (E2.put l (.loop rc)) (s2.back st) a.tmps := by
        refine ⟨h.size, hsr4.base, fun m => hsr4.gh 0 m, fun k m => hsr4.gh (k + 1) m, hsr4.bx, hsr4.live, hsr4.inj, hsr4.rows, hsr4.rinj, hsr4.lt, hsr4.below, hsr4.s0, hsr4.s1, fun g x hg => hsr4.obj g x (by show upd _ l _ g = _; rw [hobjs]; exact hg), h.cx⟩
      refine ⟨_, hk, E2.put l (.loop rc), rfl, ?_, by cases o.dst <;> rfl⟩
      exact hback.putO (d := o.dst) (by cases hdst : o.dst with | none => trivial | some d => exact hd d hdst) (.t _ _ (.bool true))
    | _ => exact hq.elim
  | _ => exact hq.elim

end Go.DL
end
section
/- The data level: the statement 'for x := range seq' over an iterator that is run in place. Generic over the program; no statement here. -/
namespace Go.DL
open Go.RowKit

variable {P : Program} {X : List FuncId} {N : Nat} {w0 : World} {S0 : Base} {a : Act} {E : Env} {st : St}

/-- What an iterator that is run in place knows of its loop. -/
def iterCx (l : Nat) (r : Loop) : Base → World → Prop := fun S w => S.objs l = some (.loop r) ∧ w.heap.size ≤ l ∧ ∀ m, S.vals 0 m = r.tmps.getD m undef

/-- The state in which an iterator begins. -/
def St.iter (st : St) (l : Nat) (r : Loop) (caps : List V) (off : Nat) : St :=
  { sl := fun m => match m with | 0 => .raw (.func (.yield l) #[] #[]) | k + 1 => caps[k]?.getD .top, bx := st.bx, gh := pushS st.sl st.gh, off := off, cx := iterCx l r }

def PostI (st : St) (K : St → Prop) : DExit → St → Prop
  | .exit _, _ => False
  | _, st2 => K (st2.back st)

/-- Behind the loop: the mark of the rounds' deferred calls lies among the activation's. -/
def AfterLoop (N : Nat) (w0 : World) (S : Stable) (vals : Nat → Nat → Value) (a : Act) (K : St → Prop) (a' : Act) (w' : World) : Prop :=
  ∃ (S0' : Base) (E' : Env) (st' : St) (D : Nat), E'.w = w' ∧ SR N w0 S0' E' st' a'.tmps ∧ S0'.S = S ∧ S0'.vals = vals ∧ w0.heap.size ≤ D ∧ S0'.objs D = some (.deferred (some [])) ∧ a'.defers = { target := .collected D, args := #[] } :: a.defers ∧ K st'

theorem range_wp (hm : P.follows .mixedOrders = true) (h : SR N w0 S0 E st a.tmps) (hcx : ∀ S w, st.cx S w) {g : Operand} {y : O} {p id1 id2 bl : Nat} {ops1 ops2 : Array Oper} (hg : lowO g = some y) {gf : FuncId} {caps : List V} (hv : ev st.sl y = .fn gf caps)
    {fn : Func} {dc : DCode} {N' : Nat} (hf : P.funcs[gf]? = some fn) (hl : (fn.body.bind (lowC P N' X)) = some dc) (hN : fn.ntmps = N') (hn : (fn.name == "runtime.NumGoroutine") = false) (hr : fn.results = #[]) (ha : caps.length + 1 ≤ N') (off : Nat) {K : St → Prop}
    (hw : ∀ (l d : Nat) (f : FuncId) (tmps : Array Value), tmps.size = N → wpC P dc (st.iter l (readyRec f tmps p (.region id1 ops1 false) (.block bl (.region id2 ops2 false)) d) caps off) (PostI st K))
    {Q : Exit → Act → World → Prop} (hQ : ∀ a' w', AfterLoop N w0 S0.S S0.vals a K a' w' → Q .normal a' w') : (Code.rangeFunc g #[p] (.region id1 ops1 false) (.block bl (.region id2 ops2 false))).wp P Q a E.w := by
  have hgv := ev_sound h.sl hg
  rw [hv] at hgv
  generalize hga : a.eval g = gv at hgv
  cases hgv with
  | fn _ lb _ hs hcaps =>
  refine (wpIn_wide (n := 0)).1 (wpIn_rangeFunc ?_)
  intro f _
  let L := E.w.heap.size + 1
  let D := E.w.heap.size
  let rc : Loop := readyRec f a.tmps p (.region id1 ops1 false) (.block bl (.region id2 ops2 false)) D
  let W1 := (E.w.alloc (.deferred (some []))).alloc (.loop rc)
  have hL1 : W1.heap[L]? = some (.loop rc) := by
    have := World.alloc_heap_new (E.w.alloc (.deferred (some []))) (.loop rc); rwa [World.size_alloc] at this
  have hK1 : W1.heap[D]? = some (.deferred (some [])) := (Below.heap_alloc _ _ _ (by simp [D])).trans (World.alloc_heap_new E.w _)
  have hb1 : Below E.w.heap.size E.w W1 := ((Below.refl _ E.w).alloc (Nat.le_refl _) _).alloc (by simp) _
  have hcallable := callable_of hf (P := P) (f := gf) (by cases hb : fn.body with | none => rw [hb] at hl; cases hl | some c => rfl) hn
  refine ⟨L, [{ target := .collected D, args := #[] }], W1, { target := .fn (.func gf) lb, args := #[.func (.yield L) #[] #[]] }, W1, gf, #[.func (.yield L) #[] #[]] ++ lb, W1, run_enterLoop_outer _ _ _ _ _, ?_, fun f' _ => trivial, ?_, fun hh => (by cases hh), ?_⟩
  · simp only [resolve, hga]
    simp [go_sem]
  · simp [invoke, go_sem, hcallable _ _]
  · refine callsIn_wide.2 ?_
    cases hb : fn.body with
    | none => rw [hb] at hl; cases hl
    | some c =>
    rw [hb] at hl
    subst hN
    refine calls_of_wp hf hb ?_
    -- the iterator's state
    let S0i : Base := { S := S0.S, vals := pushB (fun m => a.tmps.getD m undef) S0.vals, objs := upd (upd S0.objs D (some (.deferred (some [])))) L (some (.loop rc)) }
    have h1 := h.world hb1 E.S (fun b o => ⟨.inl, fun hh => hh.elim id fun k => k.1⟩)
    have hDL : D ≠ L := by show E.w.heap.size ≠ E.w.heap.size + 1; omega
    have hobj : ∀ (k : Nat) (o : Obj), S0i.objs k = some o → noCells o = true ∧ W1.heap[k]? = some o := fun k o hk => by
      have hk : upd (upd S0.objs D (some (.deferred (some [])))) L (some (.loop rc)) k = some o := hk
      by_cases e1 : k = L
      · subst e1; rw [upd_same] at hk; cases hk; exact ⟨rfl, hL1⟩
      · rw [upd_other _ _ _ _ e1] at hk
        by_cases e2 : k = D
        · subst e2; rw [upd_same] at hk; cases hk; exact ⟨rfl, hK1⟩
        · rw [upd_other _ _ _ _ e2] at hk; exact h1.obj k o hk
    have hsr : SR fn.ntmps w0 S0i { E with w := W1 } (st.iter L rc caps off) ((#[.func (.yield L) #[] #[]] ++ lb) ++ Array.replicate (fn.ntmps - (#[Value.func (.yield L) #[] #[]] ++ lb).size) undef) := by
      refine ⟨by simp [hs]; omega, h1.base, fun m => ?_, fun k m => ?_, h1.bx, h1.live, h1.inj, h1.rows, h1.rinj, h1.lt, h1.below, h1.s0, h1.s1, hobj, ?_⟩
      · cases m with
        | zero =>
          have : ((#[Value.func (.yield L) #[] #[]] ++ lb) ++ Array.replicate (fn.ntmps - (#[Value.func (.yield L) #[] #[]] ++ lb).size) undef).getD 0 undef = .func (.yield L) #[] #[] := by
            rw [Array.getD_eq_getD_getElem?, Array.getElem?_append_left (by simp; omega), Array.getElem?_append_left (by simp)]
            rfl
          rw [this]
          exact .raw _ rfl
        | succ m =>
          show VR _ _ (caps[m]?.getD .top)
          cases ht : caps[m]? with
          | none => exact .top _
          | some u =>
            have hlt : m < lb.size := by rw [hs]; exact (List.getElem?_eq_some_iff.1 ht).1
            have hvm := hcaps m lb[m] u (Array.getElem?_eq_getElem hlt) ht
            have : ((#[Value.func (.yield L) #[] #[]] ++ lb) ++ Array.replicate (fn.ntmps - (#[Value.func (.yield L) #[] #[]] ++ lb).size) undef).getD (m + 1) undef = lb[m] := by
              rw [Array.getD_eq_getD_getElem?, Array.getElem?_append_left (by simp; omega), Array.getElem?_append_right (by simp)]
              simp [hlt]
            rw [this]
            have gr : Grow E { E with w := W1 } := ⟨rfl, fun _ hl => ⟨hl, rfl⟩, fun r k hr => ⟨hr, hb1.block k (h.rows r k hr).2.1, fun _ => Iff.rfl⟩, fun _ _ hs => hs, fun b o hs => hb1.cell (p := ⟨b, o, none⟩) (h.lt b o hs)⟩
            exact hvm.grow gr
      · cases k with
        | zero => exact h1.sl m
        | succ k => exact h1.gh k m
      · exact ⟨upd_same _ _ _, by have := h.below.size; show _ ≤ E.w.heap.size + 1; omega, fun m => rfl⟩
    refine wp_mono (wpC_wp hm hl (a := { tmps := (#[.func (.yield L) #[] #[]] ++ lb) ++ Array.replicate (fn.ntmps - (#[Value.func (.yield L) #[] #[]] ++ lb).size) undef, defers := [] }) hsr (hw L D f a.tmps h.size)) ?_
    have fin : ∀ {a' : Act} {w' : World}, EndIs fn.ntmps w0 S0i [] (fun st2 => K (st2.back st)) a' w' → a'.defers = [] ∧ ∃ v, (results fn a'.tmps).run P w' = .ok v w' ∧
        rangePost Fence.wide 0 P L Q { a with defers := [{ target := .collected D, args := #[] }] ++ a.defers } (.returned v) w' := by
      rintro a' w' ⟨E', st2, rfl, hsr', hdf, hk⟩
      refine ⟨hdf, .tuple #[], results_none hr _ _ _, ?_⟩
      have hLo : S0i.objs L = some (.loop rc) := upd_same _ _ _
      obtain ⟨_, hlw⟩ := hsr'.obj L _ hLo
      refine ⟨none, _, run_endLoop hlw (by show LoopState.ready ≠ .busy; simp), ?_⟩
      have hback : SR N w0 { S0 with objs := S0i.objs } E' (st2.back st) a.tmps :=
        ⟨h.size, hsr'.base, fun m => hsr'.gh 0 m, fun k m => hsr'.gh (k + 1) m, hsr'.bx, hsr'.live, hsr'.inj, hsr'.rows, hsr'.rinj, hsr'.lt, hsr'.below, hsr'.s0, hsr'.s1, hsr'.obj, hcx _ _⟩
      have h2 := hback.putObj (x := .loop rc) (y := .loop { rc with state := .exhausted }) hLo rfl (by have := h.below.size; show _ ≤ E.w.heap.size + 1; omega) (hcx _ _)
      refine hQ _ _ ⟨_, _, _, D, rfl, h2, rfl, rfl, h.below.size, ?_, rfl, hk⟩
      show upd (upd (upd S0.objs D (some (.deferred (some [])))) L (some (.loop rc))) L _ D = _
      rw [upd_other _ _ _ _ hDL, upd_other _ _ _ _ hDL, upd_same]
    intro e a' w' hh
    cases e with
    | normal => exact fin hh
    | ret => exact fin hh
    | exit id =>
      obtain ⟨_, _, _, _, _, hk⟩ := hh
      exact hk.elim
    | goto l => exact hh.elim
    | panic ch => exact hh.elim
    | outgrown => exact hh.elim

end Go.DL
end
section
/- The data level: the end of a function that holds a range over a function. Generic over the program; no statement here. -/
namespace Go.DL
open Go.RowKit

variable {P : Program}

/-- The region of this number in some code. -/
def rg (id : Nat) : Code → Option Code
  | .region i ops d => cond (Nat.beq i id) (some (.region i ops d)) none
  | .seq a b => match rg id a with | some c => some c | none => rg id b
  | .cond _ a b => match rg id a with | some c => some c | none => rg id b
  | .block _ b => rg id b
  | .loop b => rg id b
  | .rangeFunc _ _ a b => match rg id a with | some c => some c | none => rg id b
  | _ => none

def rg0 (id : Nat) (c : Option Code) : Code := ((c.bind (rg id)).getD .skip)

/-- A function that holds one range over a function, and hands over a row. -/
theorem fcalls_mark {f : FuncId} {fn : Func} {c : Code} (hf : P.funcs[f]? = some fn) (hb : fn.body = some c) (hn : (fn.name == "runtime.NumGoroutine") = false) {args : List T} {e : TypeId} {size : Nat} {xs rest : List T} (ha : args.length ≤ fn.ntmps)
    (hfl : ∀ t ∈ xs.flatMap T.cells, t.flat = true) (hrf : ∀ t ∈ rest, t.flat = true)
    (h : ∀ (S : Stable) (w : World) (a : Act), SR fn.ntmps w { S := S } { S := S, w := w, B := w.heap.size, κ := fun _ => 0, ρ := fun _ => none, live := fun _ => false } (initSt args) a.tmps → a.defers = [] →
      c.wp P (fun x a' w' => (x = .normal ∨ x = .ret) ∧ AfterLoop fn.ntmps w S (fun _ _ => undef) { tmps := #[], defers := [] } (fun st => (∀ S w, st.cx S w) ∧ ∃ u, resV st fn.results.toList = some (u :: rest.map .t) ∧ ((∃ q, u = .own q e size xs) ∨ (u = .t .nil ∧ xs = []))) a' w') a w) : FCalls P f args e size xs rest := by
  refine ⟨callable_of hf (by rw [hb]; rfl) hn, fun S w vs hS hlen hrep => ?_⟩
  have hsr := init_sr (N := fn.ntmps) hS hlen hrep ha
  refine (callsIn_wide (n := 0)).1 (callsIn_of_wp_marks hf hb trivial ((wpIn_wide (n := 0)).2 (wp_mono (h S w { tmps := vs.toArray ++ Array.replicate (fn.ntmps - vs.toArray.size) undef, defers := [] } hsr rfl) ?_)))
  have fin : ∀ {a' : Act} {w' : World}, AfterLoop fn.ntmps w S (fun _ _ => undef) { tmps := #[], defers := [] } (fun st => (∀ S w, st.cx S w) ∧ ∃ u, resV st fn.results.toList = some (u :: rest.map .t) ∧ ((∃ q, u = .own q e size xs) ∨ (u = .t .nil ∧ xs = []))) a' w' →
      LeavesInM Fence.wide 0 P fn a'.tmps (fun en w' => ∃ (v : Value) (us : List Value), en = .returned (valRest v us) ∧ Below w.heap.size w w' ∧ Fresh w w' v e size xs ∧
        us.length = rest.length ∧ ∀ (i : Nat) (u : Value) (t : T), us[i]? = some u → rest[i]? = some t → t.flat = true ∧ Rep (fun _ _ => False) w' u t) a'.defers .returning w' := by
    rintro a' w' ⟨S0', E', st', D, rfl, hsr', _, _, hD, hobj, hdf, hcx, u, hres, hu⟩
    rw [hdf]
    obtain ⟨_, hw⟩ := hsr'.obj D _ hobj
    refine ⟨by simp, .inl ⟨D, _, rfl, run_takeDeferred hw, ?_⟩⟩
    have h2 := hsr'.putObj (x := .deferred (some [])) (y := .deferred none) hobj rfl hD (hcx _ _)
    obtain ⟨v, h3, h4⟩ := postF_run (P := P) h2 hfl hrf hres hu
    exact ⟨v, h3, h4⟩
  intro x a' w' hq
  obtain ⟨hx, hq⟩ := hq
  rcases hx with rfl | rfl
  · exact fin hq
  · exact fin hq

end Go.DL
end
section
/- The data level: steps of a proof over lowered code. Generic over the program; no statement here. -/
namespace Go.DL
open Go.RowKit

theorem k_eq {c : Prop} {t : T} {K : T → Prop} (t0 : T) (hc : c) (h : t = t0) (hk : K t0) : c ∧ ∀ t', t = t' → K t' := ⟨hc, fun t' e => by rw [← e, h]; exact hk⟩
theorem k_alt {c : Prop} {b : Bool} {K : Bool → Prop} (hc : c) (h1 : b = true → K true) (h0 : b = false → K false) : c ∧ ∀ b', b = b' → K b' := ⟨hc, fun b' e => match b', e with | true, e => h1 e | false, e => h0 e⟩
theorem k_val {c : Prop} {b : Bool} {K : Bool → Prop} (b0 : Bool) (hc : c) (h : b = b0) (hk : K b0) : c ∧ ∀ b', b = b' → K b' := ⟨hc, fun b' e => by rw [← e, h]; exact hk⟩
theorem k_call {P : Program} {f : FuncId} {ts : List T} {K : T → Prop} (r : T) (h : DCalls P f ts r) (hk : K r) : ∃ r, DCalls P f ts r ∧ K r := ⟨r, h, hk⟩

theorem leI {ks : List Nat} {bx : Nat → Option BX} {n m : Int} (h : n = m) : LeV ks bx (.t (.int .i64 n)) (.t (.int .i64 m)) := by rw [h]; exact .same _
theorem leT {ks : List Nat} {bx : Nat → Option BX} {n m : T} (h : n = m) : LeV ks bx (.t n) (.t m) := by rw [h]; exact .same _

theorem leOwn {ks : List Nat} {bx : Nat → Option BX} {r : Nat} {e : TypeId} {n : Nat} {xs ys : List T} (h : xs = ys) : LeV ks bx (.own r e n xs) (.own r e n ys) := by rw [h]; exact .same _

theorem leBd {ks : List Nat} {bx : Nat → Option BX} {n : Nat} {ts us : List T} (h : ts = us) : LeB ks bx (.d n ts) (some (.d n us)) := by rw [h]; exact .same _

theorem convs_cons {bx : Nat → Option BX} {v : V} {vs : List V} {x : T} {r : List Nat} {xs : List T} {rs : List Nat} (h1 : conv bx v = some (x, r)) (h2 : convs bx vs = some (xs, rs)) : convs bx (v :: vs) = some (x :: xs, r ++ rs) := by
  unfold convs
  rw [h1, h2]

theorem k_callC {P : Program} {f : FuncId} {args : List V} {d : Option Nat} {st : St} {K : St → Prop} {ts : List T} {rd : List Nat} (r : T) (hc : convs st.bx args = some (ts, rd)) (h : DCalls P f ts r) (hf : r.flat = true) (hk : K (st.set d (.t r))) : wpCall P f args d st K := by
  unfold wpCall
  rw [hc]
  cases rd with
  | nil => exact ⟨r, h, hk⟩
  | cons n rd => exact ⟨r, h, hf, hk⟩

/-- The second of two ways. -/
theorem k_cond {b : Bool} {A B : EffR} {d : Option Nat} {st : St} {K : St → Prop} (h : b = false) (hk : wpR B d st K) : wpR (cond b A B) d st K := by rw [h]; exact hk

/-- A reading that says less does for a call. -/
theorem DCalls.less {P : Program} {f : FuncId} {ts us : List T} {r : T} (h : DCalls P f us r) (hlen : ts.length = us.length)
    (hle : ∀ (S : Stable) (w : World) (i : Nat) (v : Value) (t u : T), ts[i]? = some t → us[i]? = some u → Rep S w v t → Rep S w v u) : DCalls P f ts r :=
  ⟨h.1, fun S w vs hS hl hr => h.2 S w vs hS (hl.trans hlen) fun i v u hv hu => by
    have hlt : i < ts.length := by rw [hlen]; exact (List.getElem?_eq_some_iff.1 hu).1
    exact hle S w i v ts[i] u (List.getElem?_eq_getElem hlt) hu (hr i v ts[i] hv (List.getElem?_eq_getElem hlt))⟩

theorem Rep.nil_slice {S : Stable} {w : World} {v : Value} (n : Nat) (h : Rep S w v .nil) : Rep S w v (.slice n []) := by
  cases h
  exact .slice none 0 0 0 0 n [] (fun _ => undef) rfl (Nat.le_refl _) (fun _ h => by cases h) (fun _ h => by cases h) (fun h => absurd h (by simp)) (fun i h => absurd h (by simp)) (fun i t h => by simp at h)

/-- The result, read as saying less. -/
theorem DCalls.res {P : Program} {f : FuncId} {ts : List T} {r r' : T} (h : DCalls P f ts r) (hle : ∀ (S : Stable) (w : World) (v : Value), Rep S w v r → Rep S w v r') : DCalls P f ts r' :=
  ⟨h.1, fun S w vs hS hl hr => (h.2 S w vs hS hl hr).mono fun _ _ ⟨v, h1, h2, h3⟩ => ⟨v, h1, h2, hle _ _ _ h3⟩⟩

theorem wrap_id {n : Int} (h0 : -9223372036854775808 ≤ n) (h1 : n < 9223372036854775808) : IntKind.wrap .i64 n = n := by
  unfold IntKind.wrap
  simp [IntKind.bits, IntKind.signed]
  omega

theorem wpIsD_mono {P : Program} {ck : List (List Nat)} {K K' : St → Prop} (hk : ∀ s, K s → K' s) : ∀ {l : List (Nat × DI)} {acc : Nat → List Nat} {st : St}, wpIsD P ck acc l st K → wpIsD P ck acc l st K'
  | [], _, _, h => hk _ h
  | _ :: _, _, _, h => ⟨h.1, wpI_mono (fun _ => wpIsD_mono hk) h.2⟩

theorem wpIs_mono {P : Program} {K K' : St → Prop} (hk : ∀ s, K s → K' s) : ∀ {l : List DI} {st : St}, wpIs P l st K → wpIs P l st K'
  | [], _, h => hk _ h
  | _ :: _, _, h => wpI_mono (fun _ => wpIs_mono hk) h

theorem OrLess.mono {Q Q' : DExit → St → Prop} (hq : ∀ e s, Q e s → Q' e s) {e : DExit} {s : St} (h : OrLess Q e s) : OrLess Q' e s := h.imp (hq _ _) fun ⟨s', h1, h2⟩ => ⟨s', h1, hq _ _ h2⟩


end Go.DL
end
section
/- The data level: the region in which an iterator calls yield. Generic over the program; no statement here. -/
namespace Go.DL
open Go.RowKit

variable {P : Program} {N : Nat} {st : St}

def lowK (P : Program) (N : Nat) (ops : Array Oper) : List Nat → Option (List DI)
  | [] => some []
  | k :: ks => match ops[k]? with
    | some o => match lowI P N [] ops o, lowK P N ops ks with
      | some i, some is => some (i :: is)
      | _, _ => none
    | none => none

theorem wpOpIn_mono' {F : Fence} {n : Nat} {ops : Array Oper} {Q : Exit → Act → World → Prop} {k : Nat} {a : Act} {w : World} {K K' : Act → World → Prop} (h : ∀ a w, K a w → K' a w) (hh : wpOpIn F n P ops Q k K a w) : wpOpIn F n P ops Q k K' a w := by
  unfold wpOpIn at *
  split
  · exact h _ _ (by simpa [*] using hh)
  · rename_i o ho
    simp only [ho] at hh
    split
    · rename_i hw; simp only [hw, if_true] at hh; exact Oper.wpIn_mono h hh
    · rename_i hw; simp only [hw] at hh; exact ⟨hh.1, h _ _ hh.2⟩

theorem wpK {n : Nat} {w0 : World} {S0 : Base} {ops : Array Oper} {Q : Exit → Act → World → Prop} {rest : List Nat} {ds : List Deferred} {K : St → Prop}
    (hk : ∀ (a : Act) (E : Env) (st : St), SR N w0 S0 E st a.tmps → a.defers = ds → K st → wpOpsIn Fence.wide n P ops Q rest a E.w) :
    ∀ (ks : List Nat) (is : List DI) (_ : lowK P N ops ks = some is) (_ : is.all (fun i => !i.op.isCall) = true) {a : Act} {E : Env} {st : St} (_ : SR N w0 S0 E st a.tmps) (_ : a.defers = ds) (_ : wpIs P is st K), wpOpsIn Fence.wide n P ops Q (ks ++ rest) a E.w
  | [], is, hl, _, a, E, st, h, hd, hw => by
    cases hl
    exact hk a E st h hd hw
  | k :: ks, is, hl, hc, a, E, st, h, hd, hw => by
    unfold lowK at hl
    split at hl
    · rename_i o ho
      split at hl
      · rename_i i is' hi his
        cases hl
        simp only [List.all_cons, Bool.and_eq_true] at hc
        rw [List.cons_append, wpOpsIn_cons]
        refine wpOpIn_mono' ?_ (wpIn_I (fun _ => trivial) h ho hi (by simpa using hc.1) hw)
        rintro a' w' ⟨st', hk', E', rfl, hsr, hdf⟩
        exact wpK hk ks is' his hc.2 hsr (hdf.trans hd) hk'
      · cases hl
    · cases hl

/-- Here an iterator calls yield: a round of the loop is run in place. -/
theorem yield_sem {ops : Array Oper} {k1 k2 : List Nat} {k : Nat} (hks : List.range ops.size = k1 ++ (k :: k2)) {is1 is2 : List DI} (h1 : lowK P N ops k1 = some is1) (c1 : is1.all (fun i => !i.op.isCall) = true) (h2 : lowK P N ops k2 = some is2) (c2 : is2.all (fun i => !i.op.isCall) = true)
    {o : Oper} (hok : ops[k]? = some o) (hg : o.guard = none) {x y d : Nat} {ats : Array TypeId} (ho : o.op = .call { callee := .value (.tmp x), args := #[.tmp y], argTypes := ats }) (hd : o.dst = some d) (hdN : d < N)
    {fn : FuncId} {tmps : Array Value} {p N' dd id1 id2 bl l : Nat} {opsA opsB : Array Oper} {isA isB : List DI} (hN : tmps.size = N') (hp : p < N')
    (hlA : lowIs P N' [] opsA opsA.toList = some isA) (hcA : isA.all (fun i => !i.op.isCall) = true) (hlB : lowIs P N' [] opsB opsB.toList = some isB) (hcB : isB.all (fun i => !i.op.isCall) = true) (off : Nat) {id : Nat} {Q : DExit → St → Prop}
    (hw : wpIs P is1 st fun s0 => (∀ S w, s0.cx S w → iterCx l (readyRec fn tmps p (.region id1 opsA false) (.block bl (.region id2 opsB false)) dd) S w) ∧ s0.sl x = .raw (.func (.yield l) #[] #[]) ∧
      wpIs P isA (s0.round p (s0.sl y) off) fun s1 => (∀ S w, s1.cx S w) ∧ wpIs P isB s1 fun s2 => (∀ S w, s2.cx S w) ∧ wpIs P is2 ((s2.back s0).set (some d) (.t (.bool true))) (Q .normal)) : SemC P N (.region id ops false) st Q := by
  intro w0 S0 E a h
  refine (wpIn_wide (n := 0)).1 (wpIn_region ?_)
  rw [hks]
  refine wpK (ds := a.defers) (K := _) ?_ k1 is1 h1 c1 h rfl hw
  rintro a1 E1 s0 hs hd1 ⟨hcx, hx, hA⟩
  rw [wpOpsIn_cons]
  have hwant : Region.wanted o (yielded ops a1.tmps) = true := by unfold Region.wanted; rw [hg]
  unfold wpOpIn
  simp only [hok, hwant, if_true]
  obtain ⟨q1, q2, q3⟩ := hcx _ _ hs.cx
  have hX : a1.eval (.tmp x) = .func (.yield l) #[] #[] := by
    have := hs.sl x
    rw [hx] at this
    show a1.tmps.getD x undef = _
    generalize a1.tmps.getD x undef = v at this
    cases this
    rfl
  have := yield_wp (n := 0) (o := o) hs (fun n hn => by rw [hd] at hn; cases hn; exact hdN) ho hX (Y := .tmp y) (y := .tmp y) rfl q1 q2 q3 hN hp hlA hcA hlB hcB off (K := fun s => wpIs P is2 s (Q .normal)) (by rw [hd]; exact hA) (Q := Exits N w0 S0 a.defers Q)
  refine Oper.wpIn_mono ?_ this
  rintro a' w' ⟨st', hk', E', rfl, hsr, hdf⟩
  have := wpK (rest := []) (n := 0) (Q := Exits N w0 S0 a.defers Q) (ds := a.defers) (K := Q .normal) (fun a2 E2 s2 hs2 hd2 hq => (by
    show Exits N w0 S0 a.defers Q .normal a2 E2.w
    exact ⟨E2, s2, rfl, hs2, hd2, hq⟩)) k2 is2 h2 c2 hsr (hdf.trans hd1) hk'
  rwa [List.append_nil] at this

end Go.DL
end
section
/- From the reading of an argument to data: typed cells. -/
namespace Go.DL
open Go

/-- An element as one datum. -/
def mkT (P : Program) (e : TypeId) (us : List T) : T :=
  match P.underlying e with
  | some (.struct _) | some (.array _ _) => .agg us
  | _ => us.headD .nil

/-- Cells that are data of this type. -/
inductive HasC (P : Program) : TypeId → List T → Prop
  | bool {t : TypeId} (h : P.underlying t = some .bool) (b : Bool) : HasC P t [.bool b]
  | int {t : TypeId} {k : IntKind} (h : P.underlying t = some (.int k)) (n : Int) (hw : (Lit.int k n).wf = true) : HasC P t [.int k n]
  | str {t : TypeId} (h : P.underlying t = some .string) (s : ByteArray) (hs : s.size ≤ maxLen) : HasC P t [.str s]
  | nil {t e : TypeId} (h : P.underlying t = some (.slice e)) : HasC P t [.nil]
  | slice {t e : TypeId} (h : P.underlying t = some (.slice e)) (xs : List (List T)) (hx : ∀ x ∈ xs, HasC P e x) (hl : xs.length ≤ maxLen) : HasC P t [.slice (P.cellsOf e) (xs.map (mkT P e))]
  | struct {t : TypeId} {fs : Array Field} (h : P.underlying t = some (.struct fs)) (us : List T) (hl : us.length = P.cellsOf t) (hf : ∀ f ∈ fs.toList, HasC P f.type ((us.drop f.offset).take (P.cellsOf f.type))) : HasC P t us
  | array {t e : TypeId} {n : Nat} (h : P.underlying t = some (.array n e)) (us : List T) (hl : us.length = P.cellsOf t) (hf : ∀ i, i < n → HasC P e ((us.drop (i * P.cellsOf e)).take (P.cellsOf e))) : HasC P t us

/-- The fields lie one behind the other. -/
def dense (P : Program) : Nat → List Field → Nat
  | off, [] => off
  | off, f :: fs => if f.offset = off then dense P (off + P.cellsOf f.type) fs else 0

/-- These types are made of one another and of numbers, bools, strings. -/
def closedB (P : Program) (L : List TypeId) : Bool := L.all fun t => match P.underlying t with
  | some .bool | some (.int _) | some .string => Nat.beq (P.cellsOf t) 1
  | some (.slice e) => Nat.beq (P.cellsOf t) 1 && L.contains e
  | some (.struct fs) => (fs.toList.all fun f => L.contains f.type) && Nat.beq (dense P 0 fs.toList) (P.cellsOf t) && Nat.ble 1 (P.cellsOf t)
  | some (.array n e) => L.contains e && Nat.beq (P.cellsOf t) (n * P.cellsOf e) && Nat.ble 1 (P.cellsOf t)
  | _ => false

theorem HasC.len {P : Program} {L : List TypeId} (hL : closedB P L = true) {t : TypeId} {us : List T} (ht : t ∈ L) (h : HasC P t us) : us.length = P.cellsOf t := by
  have := List.all_eq_true.1 hL t ht
  cases h with
  | bool h | int h | str h => rw [h] at this; simp at this; simp [this]
  | nil h | slice h => rw [h] at this; simp at this; simp [this]
  | struct h us hl hf => exact hl
  | array h us hl hf => exact hl

/-- How much a reading weighs. -/
structure Weigh (H : Type) where
  B : DataW H → Nat
  BA : List (DataW H) → Nat
  lit : ∀ l, 1 ≤ B (.lit l)
  str : ∀ s, s.length + 1 ≤ B (.lit (.string s))
  nil : 1 ≤ B .nil
  slice : ∀ e s, BA e + 1 ≤ B (.slice e s)
  agg : ∀ p, BA p ≤ B (.agg p)
  allc : ∀ d r, B d + BA r ≤ BA (d :: r)

mutual
/-- How much data weigh. -/
def T.bulk : T → Nat
  | .str s => s.size + 1
  | .slice _ xs => bulkL xs + 1
  | .agg cs => bulkL cs
  | _ => 1
def bulkL : List T → Nat
  | [] => 0
  | t :: ts => t.bulk + bulkL ts
end

theorem bulkL_append : ∀ {a b : List T}, bulkL (a ++ b) = bulkL a + bulkL b
  | [], b => by simp [bulkL]
  | x :: a, b => by simp only [List.cons_append, bulkL, bulkL_append (a := a)]; omega

theorem Weigh.sum {H : Type} (K : Weigh H) : ∀ (l : List (DataW H)), (l.map K.B).sum ≤ K.BA l
  | [] => by simp
  | d :: l => by
    have := K.sum l
    have := K.allc d l
    simp only [List.map_cons, List.sum_cons]
    omega

/-- What the reading of a run of cells gives. -/
def Got (P : Program) (W : World) (t : TypeId) (cs : List Value) (us : List T) : Prop :=
  us.length = cs.length ∧ cs.length = P.cellsOf t ∧ (∀ u ∈ us, u.one = true) ∧ (∀ (i : Nat) (v : Value) (u : T), cs[i]? = some v → us[i]? = some u → Rep (fun b _ => b < W.heap.size) W v u) ∧ HasC P t us

theorem got_one {P : Program} {W : World} {t : TypeId} {v : Value} {u : T} (hc : P.cellsOf t = 1) (h1 : u.one = true) (hr : Rep (fun b _ => b < W.heap.size) W v u) (hh : HasC P t [u]) : Got P W t [v] [u] := by
  refine ⟨rfl, hc.symm, by simpa using h1, fun i x y hx hy => ?_, hh⟩
  cases i with
  | zero => simp at hx hy; subst hx; subst hy; exact hr
  | succ i => simp at hx

theorem mkT_cells {P : Program} {L : List TypeId} (hL : closedB P L = true) {e : TypeId} {us : List T} (he : e ∈ L) (h : HasC P e us) (h1 : ∀ u ∈ us, u.one = true) : (mkT P e us).cells = us := by
  unfold mkT
  cases h with
  | struct h us hl hf => rw [h]; rfl
  | array h us hl hf => rw [h]; rfl
  | bool h | int h | str h | nil h | slice h => rw [h]; exact T.cells_one (h1 _ (by simp))

theorem mkT_bulk {P : Program} {e : TypeId} {us : List T} (h : HasC P e us) : (mkT P e us).bulk = bulkL us := by
  unfold mkT
  cases h with
  | struct h us hl hf => rw [h]; rfl
  | array h us hl hf => rw [h]; rfl
  | bool h | int h | str h | nil h | slice h => rw [h]; simp [bulkL]

theorem bulk_rows {P : Program} {e : TypeId} {f : Nat → List T} : ∀ {n k : Nat} {bs : List Nat}, bs.length = n → (∀ i, i < n → HasC P e (f (k + i)) ∧ bulkL (f (k + i)) ≤ bs.getD i 0) → bulkL (((List.range' k n).map f).map (mkT P e)) ≤ bs.sum
  | 0, k, bs, hl, h => by simp [bulkL]
  | n + 1, k, b :: bs, hl, h => by
    rw [List.range'_succ, List.map_cons, List.map_cons]
    have h0 := h 0 (by omega)
    have ih := bulk_rows (P := P) (e := e) (f := f) (n := n) (k := k + 1) (bs := bs) (by simpa using hl) fun i hi => by
      have := h (i + 1) (by omega)
      have e : k + 1 + i = k + (i + 1) := by omega
      rw [e]
      simpa using this
    simp only [bulkL, List.sum_cons]
    rw [mkT_bulk (by simpa using h0.1)]
    have := h0.2
    simp at this
    omega

theorem cells?_get {w : World} {base : Nat} {a : Addr} {n : Nat} {cs : List Value} (h : w.cells? base a n = some cs) : cs.length = n ∧ ∀ j, j < n → w.cell? (a.add j) = cs[j]? := by
  unfold World.cells? at h
  split at h
  · exact ⟨by simpa using mapM_some_length h, fun j hj => mapM_some_get h j j (by simp [hj])⟩
  · cases h

theorem rows_rep {P : Program} {W : World} {L : List TypeId} (hL : closedB P L = true) {e : TypeId} (he : e ∈ L) {base : Nat} {a : Addr} {len cap : Nat} (hlc : len ≤ cap)
    {bs : List Nat} (hbs : bs.length = len) (hc : ∀ i, i < len → ∃ cs us, W.cells? base (a.add (i * P.cellsOf e)) (P.cellsOf e) = some cs ∧ Got P W e cs us ∧ bulkL us ≤ bs.getD i 0) :
    ∃ xs : List (List T), xs.length = len ∧ (∀ x ∈ xs, HasC P e x) ∧ bulkL (xs.map (mkT P e)) ≤ bs.sum ∧ Rep (fun b _ => b < W.heap.size) W (.slice (some a) len cap) (.slice (P.cellsOf e) (xs.map (mkT P e))) := by
  have h0 : ∀ i, ∃ us, i < len → ∃ cs, W.cells? base (a.add (i * P.cellsOf e)) (P.cellsOf e) = some cs ∧ Got P W e cs us ∧ bulkL us ≤ bs.getD i 0 := fun i => by
    by_cases h : i < len
    · obtain ⟨cs, us, h1, h2⟩ := hc i h
      exact ⟨us, fun _ => ⟨cs, h1, h2⟩⟩
    · exact ⟨[], fun h' => absurd h' h⟩
  obtain ⟨f, hf⟩ := Classical.axiomOfChoice h0
  have hcl : ∀ i, i < len → (mkT P e (f i)).cells = f i ∧ (f i).length = P.cellsOf e := fun i hi => by
    obtain ⟨cs, h1, ⟨h2, h3, h4, h5, h6⟩, hb⟩ := hf i hi
    exact ⟨mkT_cells hL he h6 h4, h2.trans h3⟩
  have hu : ∀ x ∈ ((List.range len).map f).map (mkT P e), x.cells.length = P.cellsOf e := fun x hx => by
    simp only [List.mem_map, List.mem_range] at hx
    obtain ⟨us, ⟨i, hi, rfl⟩, rfl⟩ := hx
    rw [(hcl i hi).1, (hcl i hi).2]
  have hlen : ((((List.range len).map f).map (mkT P e)).flatMap T.cells).length = len * P.cellsOf e := by rw [flat_len hu]; simp
  have hget : ∀ i j, i < len → j < P.cellsOf e → ((((List.range len).map f).map (mkT P e)).flatMap T.cells)[i * P.cellsOf e + j]? = (f i)[j]? := fun i j hi hj => by
    rw [flat_get hu i (mkT P e (f i)) (by simp [hi]) j hj, (hcl i hi).1]
  have hcell : ∀ k, k < len * P.cellsOf e → ∃ i j, i < len ∧ j < P.cellsOf e ∧ k = i * P.cellsOf e + j := fun k hk => by
    have hp : 0 < P.cellsOf e := Nat.pos_of_ne_zero fun h => by rw [h] at hk; simp at hk
    exact ⟨k / P.cellsOf e, k % P.cellsOf e, Nat.div_lt_of_lt_mul (by rwa [Nat.mul_comm]), Nat.mod_lt _ hp, by rw [Nat.mul_comm]; exact (Nat.div_add_mod k _).symm⟩
  refine ⟨(List.range len).map f, by simp, fun x hx => ?_, ?_, ?_⟩
  · simp only [List.mem_map, List.mem_range] at hx
    obtain ⟨i, hi, rfl⟩ := hx
    obtain ⟨cs, h1, ⟨h2, h3, h4, h5, h6⟩, hb⟩ := hf i hi
    exact h6
  · rw [List.range_eq_range']
    refine bulk_rows hbs fun i hi => ?_
    obtain ⟨cs, h1, ⟨h2, h3, h4, h5, h6⟩, hb⟩ := hf i hi
    rw [Nat.zero_add]
    exact ⟨h6, hb⟩
  have hval : ∀ i j, i < len → j < P.cellsOf e → ∃ v, W.cell? ⟨a.block, a.off + (i * P.cellsOf e + j), none⟩ = some v ∧ (a.spot = none) ∧ ∃ u, (f i)[j]? = some u ∧ u.one = true ∧ Rep (fun b _ => b < W.heap.size) W v u := fun i j hi hj => by
    obtain ⟨cs, h1, ⟨h2, h3, h4, h5, h6⟩, hb⟩ := hf i hi
    obtain ⟨e1, e2⟩ := cells?_get h1
    have hj' : j < cs.length := by omega
    have hju : j < (f i).length := by omega
    have e3 := e2 j hj
    rw [List.getElem?_eq_getElem hj'] at e3
    have sp := World.cell?_spot e3
    have spa : a.spot = none := by
      have h00 := e2 0 (by omega)
      have := hf 0 (by omega)
      obtain ⟨cs0, g1, ⟨g2, g3, _, _, _⟩, _⟩ := this
      obtain ⟨_, q2⟩ := cells?_get g1
      have q3 := q2 0 (by omega)
      rw [List.getElem?_eq_getElem (by omega)] at q3
      simpa [Addr.add] using World.cell?_spot q3
    have ea : ((a.add (i * P.cellsOf e)).add j) = ⟨a.block, a.off + (i * P.cellsOf e + j), none⟩ := by
      obtain ⟨b, o, sp⟩ := a
      dsimp only at spa
      subst spa
      unfold Addr.add
      split <;> split <;> simp_all <;> omega
    rw [ea] at e3
    exact ⟨_, e3, spa, (f i)[j], by simp [hju], h4 _ (List.getElem_mem hju), h5 j _ _ (List.getElem?_eq_getElem hj') (List.getElem?_eq_getElem hju)⟩
  refine .slice (some a) a.block a.off len cap (P.cellsOf e) _ (fun k => (W.cell? ⟨a.block, a.off + k, none⟩).getD (.bool false)) (by simp) hlc hu (fun t ht => ?_) (fun h => ?_) (fun k hk => ?_) fun k t ht => ?_
  · obtain ⟨k, hk⟩ := List.mem_iff_getElem?.1 ht
    obtain ⟨i, j, hi, hj, rfl⟩ := hcell k (by rw [← hlen]; exact (List.getElem?_eq_some_iff.1 hk).1)
    rw [hget i j hi hj] at hk
    obtain ⟨v, _, _, u, hu, h1, _⟩ := hval i j hi hj
    rw [hu] at hk
    cases hk
    exact h1
  · rw [hlen] at h
    obtain ⟨i, j, hi, hj, _⟩ := hcell 0 h
    obtain ⟨v, _, sp, _⟩ := hval i j hi hj
    obtain ⟨b, o, s⟩ := a
    dsimp only at sp
    rw [sp]
  · rw [hlen] at hk
    obtain ⟨i, j, hi, hj, rfl⟩ := hcell k hk
    obtain ⟨v, hv, _⟩ := hval i j hi hj
    refine ⟨by rw [hv]; rfl, ?_⟩
    exact World.block_lt_of_cell? W ⟨a.block, a.off + (i * P.cellsOf e + j), none⟩ hv
  · obtain ⟨i, j, hi, hj, rfl⟩ := hcell k (by rw [← hlen]; exact (List.getElem?_eq_some_iff.1 ht).1)
    rw [hget i j hi hj] at ht
    obtain ⟨v, hv, _, u, hu, _, hr⟩ := hval i j hi hj
    rw [hu] at ht
    cases ht
    rw [hv]
    exact hr

/-- Cells from a place on. -/
def GotF (P : Program) (W : World) (cs : List Value) (fs : List Field) (off : Nat) (us : List T) : Prop :=
  off + us.length = cs.length ∧ (∀ u ∈ us, u.one = true) ∧ (∀ (i : Nat) (v : Value) (u : T), cs[off + i]? = some v → us[i]? = some u → Rep (fun b _ => b < W.heap.size) W v u) ∧
    ∀ f ∈ fs, off ≤ f.offset ∧ HasC P f.type ((us.drop (f.offset - off)).take (P.cellsOf f.type))

theorem dense_le {P : Program} : ∀ {fs : List Field} {off n : Nat}, dense P off fs = n → 1 ≤ n → off ≤ n
  | [], off, n, h, _ => by simp [dense] at h; omega
  | f :: fs, off, n, h, h1 => by
    unfold dense at h
    split at h
    · have := dense_le h h1; omega
    · omega

theorem fields_got {P : Program} {W : World} {cs : List Value} : ∀ {fs : List Field} {off : Nat} {bs : List Nat}, bs.length = fs.length → dense P off fs = cs.length → 1 ≤ cs.length →
    (∀ (i : Nat) (f : Field), fs[i]? = some f → ∃ us, Got P W f.type ((cs.drop f.offset).take (P.cellsOf f.type)) us ∧ bulkL us ≤ bs.getD i 0) → ∃ us, GotF P W cs fs off us ∧ bulkL us ≤ bs.sum
  | [], off, bs, hbs, h, h1, hg => by
    simp only [dense] at h
    exact ⟨[], ⟨by simpa using h, by simp, by simp, by simp⟩, by simp [bulkL]⟩
  | f :: fs, off, b :: bs, hbs, h, h1, hg => by
    unfold dense at h
    split at h
    · rename_i ho
      obtain ⟨us, ⟨g1, g2, g3, g4, g5⟩, gb⟩ := hg 0 f rfl
      obtain ⟨vs, ⟨k1, k2, k3, k4⟩, kb⟩ := fields_got (bs := bs) (by simpa using hbs) h h1 fun i g hgm => by simpa using hg (i + 1) g (by simpa using hgm)
      have hle := dense_le h h1
      have hl : us.length = P.cellsOf f.type := by rw [g1]; exact g2
      refine ⟨us ++ vs, ⟨by simp; omega, fun u hu => (List.mem_append.1 hu).elim (g3 u) (k2 u), fun i v u hv hu => ?_, fun g hgm => ?_⟩, by
        rw [bulkL_append, List.sum_cons]
        simp at gb
        omega⟩
      · rcases Nat.lt_or_ge i us.length with hi | hi
        · rw [List.getElem?_append_left hi] at hu
          refine g4 i v u ?_ hu
          rw [List.getElem?_take_of_lt (by omega), List.getElem?_drop, ho]
          exact hv
        · rw [List.getElem?_append_right hi] at hu
          refine k3 (i - us.length) v u ?_ hu
          rw [← hl]
          have : off + us.length + (i - us.length) = off + i := by omega
          rw [this]
          exact hv
      · rcases List.mem_cons.1 hgm with rfl | hm
        · refine ⟨by omega, ?_⟩
          rw [ho, Nat.sub_self, List.drop_zero, ← hl, List.take_left']
          · exact g5
          · rfl
        · obtain ⟨q1, q2⟩ := k4 g hm
          refine ⟨by omega, ?_⟩
          have e : (us ++ vs).drop (g.offset - off) = vs.drop (g.offset - (off + P.cellsOf f.type)) := by
            rw [List.drop_append, List.drop_eq_nil_of_le (by omega), List.nil_append]
            congr 1
            omega
          rw [e]
          exact q2
    · omega

theorem dense_rows {P : Program} {e : TypeId} : ∀ (m k : Nat), dense P (k * P.cellsOf e) ((List.range' k m).map fun i => { name := "", type := e, offset := i * P.cellsOf e, embedded := false, tag := "", pkgPath := "", byteOffset := 0 }) = (k + m) * P.cellsOf e
  | 0, k => rfl
  | m + 1, k => by
    rw [List.range'_succ, List.map_cons]
    unfold dense
    rw [if_pos rfl]
    have := dense_rows (P := P) (e := e) m (k + 1)
    dsimp only at this ⊢
    rw [Nat.succ_mul] at this
    rw [this]
    congr 1
    omega

theorem read_cells {P : Program} {W : World} {H : Type} (K : Weigh H) {enc : TypeId × Value → H} {base : Nat} {spare : Nat → Bool} {held : Bool} {L : List TypeId} (hL : closedB P L = true) :
    ∀ (fuel : Nat) (t : TypeId) (cs : List Value) (x : DataW H × List MemPlace), t ∈ L → DataW.trod enc P W base spare held fuel t cs = some x → ∃ us, Got P W t cs us ∧ bulkL us ≤ K.B x.1
  | 0, t, cs, x, ht, h => by simp [DataW.trod] at h
  | fuel + 1, t, cs, x, ht, h => by
    have ih := read_cells (P := P) (W := W) K (enc := enc) (base := base) (spare := spare) (held := held) hL fuel
    have hc := List.all_eq_true.1 hL t ht
    unfold DataW.trod at h
    cases hu : P.underlying t with
    | none => rw [hu] at hc; cases hc
    | some d =>
      rw [hu] at hc h
      cases d <;> try (simp at hc; done)
      case bool =>
        have hc : P.cellsOf t = 1 := by simpa using hc
        split at h <;> try (simp_all; done)
        rename_i b _
        cases h
        exact ⟨[.bool b], got_one hc rfl (.bool b) (.bool hu b), by have := K.lit (.bool b); simpa [bulkL, T.bulk] using this⟩
      case int k =>
        have hc1 : P.cellsOf t = 1 := by simpa using hc
        clear hc
        split at h <;> try (simp_all; done)
        rename_i k1 k2 n he
        cases he
        split at h
        · rename_i hk
          obtain ⟨rfl, hw⟩ := hk
          cases h
          exact ⟨[.int _ n], got_one hc1 rfl (.int _ n) (.int hu n hw), by have := K.lit (.int k2 n); simpa [bulkL, T.bulk] using this⟩
        · cases h
      case string =>
        have hc : P.cellsOf t = 1 := by simpa using hc
        split at h <;> try (simp_all; done)
        rename_i s _
        split at h
        · rename_i hk
          cases h
          exact ⟨[.str s], got_one hc rfl (.str s) (.str hu s hk), by have := K.str s.data.toList; simpa [bulkL, T.bulk] using this⟩
        · cases h
      case slice e =>
        simp only [Bool.and_eq_true, List.contains_iff_mem] at hc
        have hc1 : P.cellsOf t = 1 := by simpa using hc.1
        have he := hc.2
        clear hc
        split at h <;> try (simp_all; done)
        · cases h
          exact ⟨[.nil], got_one hc1 rfl .nil (.nil hu), by have := K.nil; simpa [bulkL, T.bulk] using this⟩
        · rename_i e1 a len cap h1
          cases h1
          dsimp only at h
          split at h
          · rename_i hb
            obtain ⟨elems, h2, hrest⟩ := Option.bind_eq_some_iff.1 h
            obtain ⟨rest, _, hx⟩ := Option.map_eq_some_iff.1 hrest
            have h3 : elems.length = len := by simpa using mapM_some_length h2
            obtain ⟨xs, x1, x2, xb, x3⟩ := rows_rep (W := W) hL he (base := base) (a := a) hb.2.1 (bs := (elems.map (·.1)).map K.B) (by simpa using h3) fun i hi => by
              have h4 := mapM_some_get h2 i i (by simp [hi])
              rw [List.getElem?_eq_getElem (by omega)] at h4
              obtain ⟨cs, h5, h6⟩ := Option.bind_eq_some_iff.1 h4
              obtain ⟨us, h7, h8⟩ := ih e cs _ he h6
              exact ⟨cs, us, h5, h7, by simp [List.getElem?_eq_getElem (show i < elems.length by omega)]; exact h8⟩
            refine ⟨_, got_one hc1 rfl x3 (.slice hu xs x2 (by omega)), ?_⟩
            have q1 := K.sum (elems.map (·.1))
            have q2 := K.slice (elems.map (·.1)) (rest.map (·.1))
            cases hx
            simp only [bulkL, T.bulk]
            omega
          · cases h
      case struct fs =>
        simp only [Bool.and_eq_true, List.contains_iff_mem, List.all_eq_true] at hc
        have hd : dense P 0 fs.toList = P.cellsOf t := by simpa using hc.1.2
        have hp : 1 ≤ P.cellsOf t := by simpa using hc.2
        have hm := hc.1.1
        clear hc
        split at h <;> try (simp_all; done)
        rename_i fs' h1
        cases h1
        split at h
        · rename_i hl
          obtain ⟨ys, h2, hx⟩ := Option.map_eq_some_iff.1 h
          obtain ⟨us, ⟨q1, q2, q3, q4⟩, qb⟩ := fields_got (P := P) (W := W) (fs := fs.toList) (off := 0) (bs := (ys.map (·.1)).map K.B) (by simpa using mapM_some_length h2) (by rw [hd]; exact hl.symm) (by omega) fun i f hi => by
            have h3 := mapM_some_get h2 i f hi
            have h4 : i < ys.length := by rw [mapM_some_length h2]; exact (List.getElem?_eq_some_iff.1 hi).1
            rw [List.getElem?_eq_getElem h4] at h3
            obtain ⟨us, u1, u2⟩ := ih f.type _ _ (hm f (List.mem_of_getElem? hi)) h3
            exact ⟨us, u1, by simp [List.getElem?_eq_getElem h4]; exact u2⟩
          refine ⟨us, ⟨by omega, hl, q2, fun i => by simpa using q3 i, .struct hu us (by omega) fun f hf => by simpa using (q4 f hf).2⟩, ?_⟩
          have z1 := K.sum (ys.map (·.1))
          have z2 := K.agg (ys.map (·.1))
          cases hx
          dsimp only
          omega
        · cases h
      case array n e =>
        simp only [Bool.and_eq_true, List.contains_iff_mem] at hc
        have hd : P.cellsOf t = n * P.cellsOf e := by simpa using hc.1.2
        have hnz : 1 ≤ P.cellsOf t := by simpa using hc.2
        have he := hc.1.1
        clear hc
        split at h <;> try (simp_all; done)
        rename_i c0 n' e' h1
        cases h1
        rename_i c1 _
        split at h
        · rename_i hl
          obtain ⟨ys, h2, hx⟩ := Option.map_eq_some_iff.1 h
          have hg : ∀ i, i < n → ∃ us, Got P W e ((c1.drop (i * P.cellsOf e)).take (P.cellsOf e)) us ∧ bulkL us ≤ ((ys.map (·.1)).map K.B).getD i 0 := fun i hi => by
            have h3 := mapM_some_get h2 i i (by simp [hi])
            have h4 : i < ys.length := by rw [mapM_some_length h2]; simpa using hi
            rw [List.getElem?_eq_getElem h4] at h3
            obtain ⟨us, u1, u2⟩ := ih e _ _ he h3
            exact ⟨us, u1, by simp [List.getElem?_eq_getElem h4]; exact u2⟩
          have hdr := dense_rows (P := P) (e := e) n 0
          rw [Nat.zero_mul, Nat.zero_add, ← List.range_eq_range'] at hdr
          rcases Nat.eq_zero_or_pos (n * P.cellsOf e) with h0 | h0
          · have hz : P.cellsOf t = 0 := by omega
            simp [hz] at hnz
          · obtain ⟨us, ⟨q1, q2, q3, q4⟩, qb⟩ := fields_got (P := P) (W := W) (cs := c1) (fs := (List.range n).map fun i => { name := "", type := e, offset := i * P.cellsOf e, embedded := false, tag := "", pkgPath := "", byteOffset := 0 }) (off := 0) (bs := (ys.map (·.1)).map K.B) (by simpa using mapM_some_length h2) (by rw [hdr]; omega) (by omega) fun i f hf => by
              rw [List.getElem?_map] at hf
              obtain ⟨j, hj, rfl⟩ := Option.map_eq_some_iff.1 hf
              obtain ⟨hi, rfl⟩ := List.getElem?_eq_some_iff.1 hj
              have := hg i (by simpa using hi)
              simpa using this
            refine ⟨us, ⟨by omega, hl, q2, fun i => by simpa using q3 i, .array hu us (by omega) fun i hi => by simpa using (q4 _ (List.mem_map.2 ⟨i, List.mem_range.2 hi, rfl⟩)).2⟩, ?_⟩
            have z1 := K.sum (ys.map (·.1))
            have z2 := K.agg (ys.map (·.1))
            cases hx
            dsimp only
            omega
        · cases h

end Go.DL
end
section
/- From the readings of a law's arguments to data, and from a contract over data to the claimed form. -/
namespace Go.DL
open Go Go.ChangeShapes Go.WideShapes Go.ChangeAt Go.RowKit

/-- An argument that is read is data of its type. -/
theorem arg_rep {P : Program} {W : World} {H : Type} (K : Weigh H) {enc : TypeId × Value → H} {base : Nat} {spare : Nat → Bool} {held : Bool} {L : List TypeId} (hL : closedB P L = true) {r : Reach} {base' : Nat}
    {t : TypeId} {v : Value} {d : DataW H} {p : List MemPlace} (ht : t ∈ L) (hok : Value.okWide P W r base' t v) (h : DataW.Trod enc P W base spare held t v d p) :
    ∃ us, HasC P t us ∧ bulkL us ≤ K.B d ∧ Rep (fun b _ => b < W.heap.size) W v (mkT P t us) := by
  obtain ⟨fuel, hf⟩ := h
  obtain ⟨us, ⟨g1, g2, g3, g4, g5⟩, gb⟩ := read_cells K hL fuel t _ _ ht hf
  refine ⟨us, g5, gb, ?_⟩
  have hc := List.all_eq_true.1 hL t ht
  unfold mkT
  unfold Value.okWide at hok
  cases hu : P.underlying t with
  | none => rw [hu] at hc; cases hc
  | some d =>
    rw [hu] at hc hok
    have one : v.cells = #[v] → Rep (fun b _ => b < W.heap.size) W v (us.headD .nil) := fun hv => by
      rw [hv] at g1 g4
      have h1 : us.length = 1 := g1
      match us, h1 with
      | [u], _ => exact g4 0 v u rfl rfl
    have agg : (∃ cs, v = .agg cs ∧ cs.size = P.cellsOf t ∧ Row.okWide P W r base' t cs) → Rep (fun b _ => b < W.heap.size) W v (.agg us) := fun ⟨cs, hv, _, _⟩ => by
      subst hv
      have e : (Value.agg cs).cells.toList = cs.toList := rfl
      rw [e] at g1 g4
      exact .agg cs us (by simpa using g1.symm) g3 fun i x u hx hu => g4 i x u (by simpa using hx) hu
    cases d <;> try (simp at hc; done)
    case bool => exact one (by unfold Cell.okWide Cell.ok at hok; rw [hu] at hok; cases v <;> first | rfl | cases hok)
    case int k => exact one (by unfold Cell.okWide Cell.ok at hok; rw [hu] at hok; cases v <;> first | rfl | cases hok)
    case string => exact one (by unfold Cell.okWide Cell.ok at hok; rw [hu] at hok; cases v <;> first | rfl | cases hok)
    case slice e => exact one (by unfold Cell.okWide Cell.ok at hok; rw [hu] at hok; cases v <;> first | rfl | cases hok)
    case struct fs => exact agg hok
    case array n e => exact agg hok

/-- Cells of each argument. -/
def HasAll (P : Program) : List TypeId → List (List T) → Prop
  | [], [] => True
  | t :: ts, us :: uss => HasC P t us ∧ HasAll P ts uss
  | _, _ => False

def mkAll (P : Program) : List TypeId → List (List T) → List T
  | t :: ts, us :: uss => mkT P t us :: mkAll P ts uss
  | _, _ => []

/-- The weight of all arguments. -/
def bulkA : List (List T) → Nat
  | [] => 0
  | us :: uss => bulkL us + bulkA uss

theorem args_rep {P : Program} {W : World} {H : Type} (K : Weigh H) {enc : TypeId × Value → H} {spare : Nat → Bool} {held : Bool} {L : List TypeId} (hL : closedB P L = true) {base base' : Nat} {r : Reach} :
    ∀ {ts : List TypeId} {vs : List Value} {ds : List (DataW H)} {p : List MemPlace}, (∀ t ∈ ts, t ∈ L) → (∀ (j : Nat) t v, ts[j]? = some t → vs[j]? = some v → Value.okWide P W r base' t v) →
      DataW.TrodAll enc P W base spare held ts vs ds p → ∃ uss, HasAll P ts uss ∧ bulkA uss ≤ K.BA ds ∧ vs.length = (mkAll P ts uss).length ∧
        ∀ (i : Nat) (v : Value) (t : T), vs[i]? = some v → (mkAll P ts uss)[i]? = some t → Rep (fun b _ => b < W.heap.size) W v t
  | [], vs, ds, p, _, _, h => by
    obtain ⟨rfl, rfl, rfl⟩ := trodAll_nil h
    exact ⟨[], trivial, by simp [bulkA], rfl, by simp⟩
  | t :: ts, vs, ds, p, hm, hok, h => by
    obtain ⟨v, vs', d, ds', q, q', rfl, rfl, rfl, h1, h2⟩ := trodAll_cons h
    obtain ⟨us, a1, ab, a2⟩ := arg_rep K hL (hm t (by simp)) (hok 0 t v rfl rfl) h1
    obtain ⟨uss, b1, bb, b2, b3⟩ := args_rep K hL (fun x hx => hm x (by simp [hx])) (fun j t v ht hv => hok (j + 1) t v (by simpa using ht) (by simpa using hv)) h2
    refine ⟨us :: uss, ⟨a1, b1⟩, by have := K.allc d ds'; simp only [bulkA]; omega, by simp [mkAll, b2], fun i x u hx hu => ?_⟩
    cases i with
    | zero => simp [mkAll] at hx hu; subst hx; subst hu; exact a2
    | succ i => exact b3 i x u (by simpa using hx) (by simpa [mkAll] using hu)

theorem trodAll_lt {P : Program} {W : World} {H : Type} {enc : TypeId × Value → H} {base : Nat} {spare : Nat → Bool} {held : Bool} :
    ∀ {ts : List TypeId} {vs : List Value} {ds : List (DataW H)} {p : List MemPlace}, DataW.TrodAll enc P W base spare held ts vs ds p → ∀ x ∈ p, x.block < W.heap.size
  | [], vs, ds, p, h, x, hx => by
    obtain ⟨rfl, rfl, rfl⟩ := trodAll_nil h
    simp at hx
  | t :: ts, vs, ds, p, h, x, hx => by
    obtain ⟨v, vs', d, ds', q, q', rfl, rfl, rfl, ⟨m, h1⟩, h2⟩ := trodAll_cons h
    rcases List.mem_append.1 hx with hx | hx
    · exact DataW.trod_lt m _ _ _ h1 x hx
    · exact trodAll_lt h2 x hx

theorem trodAll_below {P : Program} {W W' : World} {H : Type} {enc : TypeId × Value → H} (hl : laidOutB P = true) (hb : Below W.heap.size W W') :
    ∀ {ts : List TypeId} {vs : List Value} {ds : List (DataW H)} {p : List MemPlace}, ts.all (fun t => P.readableRec t && Nat.blt t P.types.size) = true → DataW.TrodAll enc P W 0 (fun _ => true) true ts vs ds p →
      DataW.TrodAll enc P W' 0 (fun b => decide (b < W.heap.size)) true ts vs ds p
  | [], vs, ds, p, _, h => by
    obtain ⟨rfl, rfl, rfl⟩ := trodAll_nil h
    exact trodAll_mk0
  | t :: ts, vs, ds, p, hr, h => by
    simp only [List.all_cons, Bool.and_eq_true] at hr
    obtain ⟨v, vs', d, ds', q, q', rfl, rfl, rfl, h1, h2⟩ := trodAll_cons h
    have lt : ∀ x ∈ q, x.block < W.heap.size := by obtain ⟨m, hm⟩ := h1; exact DataW.trod_lt m _ _ _ hm
    exact trodAll_cons_mk (Below.trod hl hr.1.1 (Nat.le_of_ble_eq_true hr.1.2) h1 hb lt) (trodAll_below hl hb hr.2 h2)

theorem trodAll_len {P : Program} {W : World} {H : Type} {enc : TypeId × Value → H} {base : Nat} {spare : Nat → Bool} {held : Bool} :
    ∀ {ts : List TypeId} {vs : List Value} {ds : List (DataW H)} {p : List MemPlace}, DataW.TrodAll enc P W base spare held ts vs ds p → ds.length = ts.length
  | [], vs, ds, p, h => by
    obtain ⟨rfl, rfl, rfl⟩ := trodAll_nil h
    rfl
  | t :: ts, vs, ds, p, h => by
    obtain ⟨v, vs', d, ds', q, q', rfl, rfl, rfl, h1, h2⟩ := trodAll_cons h
    simp [trodAll_len h2]

/-- What a law's text, its row and its program must be like. -/
structure LawFits (C : Checked) (f : Func) (s : ChangeSpec) (L : List TypeId) (tb : TypeId) : Prop where
  laid : laidOutB C.prog = true
  closed : closedB C.prog L = true
  params : f.params.toList.all (fun t => L.contains t) = true
  readable : f.params.toList.all (fun t => C.prog.readableRec t && Nat.blt t C.prog.types.size) = true
  res : f.resultTypes.toList = [tb]
  bool : C.prog.underlying tb = some .bool
  vars : s.vars = []
  fn : ∀ (H : Type) (ds : List (DataW H)), ds.length = f.params.toList.length → s.fn H (ds ++ []) = { results := [.lit (.bool true)], args := ds }

/-- From a contract over data to what the call leaves. -/
theorem contract_of {C : Checked} {F : FuncId} {f : Func} {H : Type} {enc : TypeId × Value → H} {s : ChangeSpec} {L : List TypeId} {tb : TypeId} (fit : LawFits C f s L tb) (K : Weigh H) {N : Nat}
    (law : ∀ uss, HasAll C.prog f.params.toList uss → bulkA uss ≤ N → DCalls C.prog F (mkAll C.prog f.params.toList uss) (.bool true))
    {W : World} {base : Nat} {args : Array Value} {ds gs : List (DataW H)} {before : List MemPlace}
    (hval : ∀ (j : Nat) t v, f.params[j]? = some t → args[j]? = some v → Value.okWide C.prog W .any base t v)
    (hW : DataW.Whole enc C.prog f.params.toList s.vars false W args.toList ds gs before) (hN : K.BA ds ≤ N) :
    Calls C.prog F args W fun e W' => ∃ v, e = .returned v ∧ s.post enc C.prog f false true false false W args v W' := by
  have hW' := hW
  obtain ⟨p, q, hA, hV, rfl, hfz, hnd⟩ := hW
  rw [fit.vars] at hV
  obtain ⟨rfl, rfl⟩ := trodVars_none hV
  obtain ⟨uss, u1, ub, u2, u3⟩ := args_rep K fit.closed (fun t ht => by simpa using List.all_eq_true.1 fit.params t ht) (fun j t v ht hx => hval j t v (by simpa using ht) (by simpa using hx)) hA
  have hc := (law uss u1 (Nat.le_trans ub hN)).2 (fun b _ => b < W.heap.size) W args.toList (fun b o h => h) u2 u3
  have hs' := fit.fn H ds (trodAll_len hA)
  have e : args.toList.toArray = args := by simp
  rw [e] at hc
  refine hc.mono fun ex W' ⟨v, he, bel, hrep⟩ => ?_
  subst he
  have hv1 : v = .bool true := by cases hrep; rfl
  subst hv1
  refine ⟨_, rfl, _, _, _, [], p, [], hW', ?_, ?_, ?_, bel.frame _, fun h => by cases h⟩
  · have h1 : f.resultTypes.size = 1 := by rw [← Array.length_toList, fit.res]; rfl
    rw [fit.res, hs', h1]
    exact trodAll_mk1 (shut_bool fit.bool _)
  · rw [hs']; exact trodAll_below fit.laid bel fit.readable hA
  · rw [fit.vars, hs']; exact rfl

/-- From a contract over data to the claimed form. -/
theorem law_of {C : Checked} {os : Os} {F : FuncId} {f : Func} {H : Type} {enc : TypeId × Value → H} {s : ChangeSpec} {conds : List PathCond} {L : List TypeId} {tb : TypeId} (fit : LawFits C f s L tb) (K : Weigh H)
    (own : ownKnob C.prog.godebug = none) (started : os.Started) (noInit : C.prog.inits.idxOf? F = none) (hfn : C.prog.funcs[F]? = some f)
    (witness : ∃ (w : World) (tape : Tape) (i : Input), w.os = os ∧ (w.forCall tape i).Shaped C.prog ∧ i.vars = [] ∧ Input.okWide C.prog (w.forCall tape i) .any w.heap.size F i ∧
      s.pre6 enc C.prog f conds false (w.forCall tape i).memory i.args ∧ (({} : Assume)).holds C.prog (lone (Frame.enter C.prog F i.args .normal) [] (w.forCall tape i)))
    (law : ∀ uss, HasAll C.prog f.params.toList uss → DCalls C.prog F (mkAll C.prog f.params.toList uss) (.bool true)) :
    ReturnsInHanded {} C os F .any (s.pre6 enc C.prog f conds false) (s.post enc C.prog f false true false false) := by
  refine returnsInHanded_of_change own started noInit hfn witness ?_
  intro W base args ds gs before hval hW _ _
  exact contract_of fit K (N := K.BA ds) (fun uss h _ => law uss h) hval hW (Nat.le_refl _)

/-- The same where what is read is small. -/
theorem law_upto {C : Checked} {os : Os} {F : FuncId} {f : Func} {H : Type} {enc : TypeId × Value → H} {s : ChangeSpec} {S : OpenSpec} {k : (H : Type) → List (DataW H) → Bool} {conds : List PathCond} {L : List TypeId} {tb : TypeId} (fit : LawFits C f s L tb) (K : Weigh H) {N : Nat}
    (hS : S = { OpenSpec.ofChange s with cond := some k }) (hk : ∀ ds, k H ds = true → K.BA ds ≤ N) {I : Stop.Interp}
    (own : ownKnob C.prog.godebug = none) (started : os.Started) (noInit : C.prog.inits.idxOf? F = none) (hfn : C.prog.funcs[F]? = some f)
    (witness : ∃ (w : World) (tape : Tape) (i : Input), w.os = os ∧ (w.forCall tape i).Shaped C.prog ∧ i.vars = [] ∧ Input.okWide C.prog (w.forCall tape i) .any w.heap.size F i ∧
      S.pre6 enc C.prog f conds false (w.forCall tape i).memory i.args ∧ (({} : Assume)).holds C.prog (lone (Frame.enter C.prog F i.args .normal) [] (w.forCall tape i)))
    (law : ∀ uss, HasAll C.prog f.params.toList uss → bulkA uss ≤ N → DCalls C.prog F (mkAll C.prog f.params.toList uss) (.bool true)) :
    ReturnsInHanded {} C os F .any (S.pre6 enc C.prog f conds false) ((S.at I).post enc C.prog f false true false false) := by
  subst hS
  refine returnsInHanded_of_cond (s := { OpenSpec.ofChange s with cond := some k }) (k := k) rfl own started noInit hfn witness ?_
  intro W base args ds gs before hval hW _ hkk _
  have hg : gs = [] := by
    obtain ⟨p, q, hA, hV, _, _, _⟩ := hW
    have hv : ({ OpenSpec.ofChange s with cond := some k } : OpenSpec).vars = [] := fit.vars
    rw [hv] at hV
    exact (trodVars_none hV).1
  subst hg
  rw [List.append_nil] at hkk
  exact contract_of fit K law hval hW (hk ds hkk)

end Go.DL
end
section
/- Steps of a proof over lowered code, goal by goal in weak head normal form. -/
namespace Go.DL
open Go

theorem now_T {t : T} {K : T → Prop} (hk : K t) : ∀ t', t = t' → K t' := fun _ e => e ▸ hk
theorem now_v {t : T} {K : T → Prop} (t0 : T) (h : t = t0) (hk : K t0) : ∀ t', t = t' → K t' := fun _ e => by rw [← e, h]; exact hk
theorem now_B {b : Bool} {K : Bool → Prop} (h1 : b = true → K true) (h0 : b = false → K false) : ∀ b', b = b' → K b' := fun b' e => match b', e with | true, e => h1 e | false, e => h0 e
theorem now_b {b : Bool} {K : Bool → Prop} (b0 : Bool) (h : b = b0) (hk : K b0) : ∀ b', b = b' → K b' := fun _ e => by rw [← e, h]; exact hk
theorem now_1 {b : Bool} {K : Bool → Prop} (h : b = true) (hk : K true) : ∀ b', b = b' → K b' := fun _ e => by rw [← e, h]; exact hk
theorem now_0 {b : Bool} {K : Bool → Prop} (h : b = false) (hk : K false) : ∀ b', b = b' → K b' := fun _ e => by rw [← e, h]; exact hk
theorem now_D {p : Prop} [Decidable p] {K : Bool → Prop} (h1 : p → K true) (h0 : ¬ p → K false) : ∀ b', decide p = b' → K b' := fun b' e => match b', e with | true, e => h1 (of_decide_eq_true e) | false, e => h0 (of_decide_eq_false e)
theorem now_D1 {p : Prop} [Decidable p] {K : Bool → Prop} (h : p) (hk : K true) : ∀ b', decide p = b' → K b' := fun b' e => by rw [← e, decide_eq_true h]; exact hk
theorem now_D0 {p : Prop} [Decidable p] {K : Bool → Prop} (h : ¬ p) (hk : K false) : ∀ b', decide p = b' → K b' := fun b' e => by rw [← e, decide_eq_false h]; exact hk
theorem now_E {x y : Int} {K : Bool → Prop} (h1 : x = y → K true) (h0 : x ≠ y → K false) : ∀ b', (x == y) = b' → K b' := fun b' e => match b', e with | true, e => h1 (eq_of_beq e) | false, e => h0 (by simpa using e)
theorem now_E1 {x y : Int} {K : Bool → Prop} (h : x = y) (hk : K true) : ∀ b', (x == y) = b' → K b' := fun b' e => by rw [← e, h, beq_self_eq_true]; exact hk
theorem now_E0 {x y : Int} {K : Bool → Prop} (h : x ≠ y) (hk : K false) : ∀ b', (x == y) = b' → K b' := fun b' e => by rw [← e, beq_false_of_ne h]; exact hk
theorem now_N {x y : Int} {K : Bool → Prop} (h1 : x ≠ y → K true) (h0 : x = y → K false) : ∀ b', (x != y) = b' → K b' := fun b' e => match b', e with | true, e => h1 (by simpa using e) | false, e => h0 (by simpa using e)
theorem now_N1 {x y : Int} {K : Bool → Prop} (h : x ≠ y) (hk : K true) : ∀ b', (x != y) = b' → K b' := fun b' e => by rw [← e, show (x != y) = true by simpa using h]; exact hk
theorem now_N0 {x y : Int} {K : Bool → Prop} (h : x = y) (hk : K false) : ∀ b', (x != y) = b' → K b' := fun b' e => by rw [← e, h, bne_self_eq_false]; exact hk

theorem leB {ks : List Nat} {bx : Nat → Option BX} {x y : Bool} (h : x = y) : LeV ks bx (.t (.bool x)) (.t (.bool y)) := by rw [h]; exact .same _
theorem rb {x b : Bool} {c : Prop} (h : x = b) (hc : c) : some (T.bool x) = some (T.bool b) ∧ c := ⟨congrArg _ (congrArg _ h), hc⟩
theorem ri {k : IntKind} {n m : Int} {c : Prop} (h : n = m) (hc : c) : some (T.int k n) = some (T.int k m) ∧ c := ⟨congrArg _ (congrArg _ h), hc⟩
theorem rt {t u : T} {c : Prop} (h : t = u) (hc : c) : some t = some u ∧ c := ⟨congrArg _ h, hc⟩

/-! The same, the side goals by a search. -/
theorem aE1 {x y : Int} {K : Bool → Prop} (hk : K true) (h : x = y := by first | omega | (simp; done) | (simp; omega) | fail) : ∀ b', (x == y) = b' → K b' := now_E1 h hk
theorem aE0 {x y : Int} {K : Bool → Prop} (hk : K false) (h : x ≠ y := by first | omega | (simp; done) | (simp; omega) | fail) : ∀ b', (x == y) = b' → K b' := now_E0 h hk
theorem aN1 {x y : Int} {K : Bool → Prop} (hk : K true) (h : x ≠ y := by first | omega | (simp; done) | (simp; omega) | fail) : ∀ b', (x != y) = b' → K b' := now_N1 h hk
theorem aN0 {x y : Int} {K : Bool → Prop} (hk : K false) (h : x = y := by first | omega | (simp; done) | (simp; omega) | fail) : ∀ b', (x != y) = b' → K b' := now_N0 h hk
theorem aD1 {p : Prop} [Decidable p] {K : Bool → Prop} (hk : K true) (h : p := by first | omega | (simp; done) | (simp; omega) | fail) : ∀ b', decide p = b' → K b' := now_D1 h hk
theorem aD0 {p : Prop} [Decidable p] {K : Bool → Prop} (hk : K false) (h : ¬ p := by first | omega | (simp; done) | (simp; omega) | fail) : ∀ b', decide p = b' → K b' := now_D0 h hk
theorem aS {c K : Prop} (hk : K) (hc : c := by first | exact trivial | rfl | decide | exact Nat.le_of_ble_eq_true rfl | assumption | exact ⟨rfl, Nat.le_of_ble_eq_true rfl⟩ | exact ⟨trivial, rfl⟩ | exact ⟨⟨trivial, rfl⟩, rfl⟩ | omega | (simp; done) | (simp; omega) | (simp [*]; done) | fail) : c ∧ K := ⟨hc, hk⟩
theorem rb1 {b : Bool} {c : Prop} (hc : c) (h : true = b := by first | rfl | (simp; done) | (simp; omega) | (simp [*]; done) | (simp [*]; omega) | fail) : some (T.bool true) = some (T.bool b) ∧ c := rb h hc
theorem rb0 {b : Bool} {c : Prop} (hc : c) (h : false = b := by first | rfl | (simp; done) | (simp; omega) | (simp [*]; done) | (simp [*]; omega) | fail) : some (T.bool false) = some (T.bool b) ∧ c := rb h hc
theorem rbx {x b : Bool} {c : Prop} (hc : c) (h : x = b := by first | rfl | (simp; done) | (simp; omega) | (simp [*]; done) | (simp [*]; omega) | fail) : some (T.bool x) = some (T.bool b) ∧ c := rb h hc
theorem rix {k : IntKind} {n m : Int} {c : Prop} (hc : c) (h : n = m := by first | rfl | omega | (rw [wrap_id] <;> omega) | (simp; omega) | (simp [*]; done) | fail) : some (T.int k n) = some (T.int k m) ∧ c := ri h hc
theorem vx {t : T} {K : T → Prop} (t0 : T) (hk : K t0) (h : t = t0 := by first | (simp; done) | (simp [*]; done) | fail) : ∀ t', t = t' → K t' := now_v t0 h hk
theorem lI {ks : List Nat} {bx : Nat → Option BX} {n m : Int} (h : n = m := by first | omega | (rw [wrap_id] <;> omega) | (simp; omega) | (simp [*]; done) | fail) : LeV ks bx (.t (.int .i64 n)) (.t (.int .i64 m)) := leI h
theorem lB {ks : List Nat} {bx : Nat → Option BX} {x y : Bool} (h : x = y := by first | rfl | (simp; done) | (simp [*]; done) | (simp [*]; omega) | fail) : LeV ks bx (.t (.bool x)) (.t (.bool y)) := leB h

end Go.DL
end
section
/- Data that say less: whatever reads as the one reads as the other. -/
namespace Go.DL
open Go

/-- Whatever reads as t reads as u. -/
def Les (t u : T) : Prop := ∀ (S : Stable) (w : World) (v : Value), Rep S w v t → Rep S w v u
theorem Les.refl (t : T) : Les t t := fun _ _ _ h => h
theorem Les.trans {a b c : T} (h : Les a b) (k : Les b c) : Les a c := fun S w v r => k S w v (h S w v r)
/-- The same, cell by cell. -/
structure LesL (ts us : List T) : Prop where
  len : ts.length = us.length
  one : ∀ u ∈ us, u.one = true
  le : ∀ (i : Nat) (t u : T), ts[i]? = some t → us[i]? = some u → Les t u
theorem LesL.nil : LesL [] [] := ⟨rfl, by simp, by simp⟩
theorem LesL.cons {t u : T} {ts us : List T} (h : Les t u) (h1 : u.one = true) (k : LesL ts us) : LesL (t :: ts) (u :: us) := by
  refine ⟨by simp [k.len], fun x hx => ?_, fun i a b ha hb => ?_⟩
  · rcases List.mem_cons.1 hx with rfl | hx
    · exact h1
    · exact k.one x hx
  · cases i with
    | zero => simp at ha hb; subst ha; subst hb; exact h
    | succ i => exact k.le i a b (by simpa using ha) (by simpa using hb)
theorem LesL.append {ts us ts' us' : List T} (h : LesL ts us) (k : LesL ts' us') : LesL (ts ++ ts') (us ++ us') := by
  refine ⟨by simp [h.len, k.len], fun x hx => ?_, fun i a b ha hb => ?_⟩
  · rcases List.mem_append.1 hx with hx | hx
    · exact h.one x hx
    · exact k.one x hx
  · rcases Nat.lt_or_ge i ts.length with hi | hi
    · rw [List.getElem?_append_left hi] at ha
      rw [List.getElem?_append_left (by rw [← h.len]; exact hi)] at hb
      exact h.le i a b ha hb
    · rw [List.getElem?_append_right hi] at ha
      rw [List.getElem?_append_right (by rw [← h.len]; exact hi), ← h.len] at hb
      exact k.le _ a b ha hb
theorem Les.nil (n : Nat) : Les .nil (.slice n []) := fun _ _ _ h => Rep.nil_slice n h
theorem Les.agg {ts us : List T} (h : LesL ts us) : Les (.agg ts) (.agg us) := fun S w v r => by
  cases r with
  | agg cs _ hs h1 hc =>
    refine .agg cs us (hs.trans h.len) h.one fun i x u hx hu => ?_
    have hlt : i < ts.length := by rw [h.len]; exact (List.getElem?_eq_some_iff.1 hu).1
    exact h.le i ts[i] u (by simp [hlt]) hu S w x (hc i x ts[i] hx (by simp [hlt]))
theorem LesL.flat {n : Nat} : ∀ {xs ys : List T}, xs.length = ys.length → (∀ (i : Nat) (x y : T), xs[i]? = some x → ys[i]? = some y → LesL x.cells y.cells ∧ y.cells.length = n) → LesL (xs.flatMap T.cells) (ys.flatMap T.cells)
  | [], [], _, _ => .nil
  | x :: xs, y :: ys, hl, h => by
    simp only [List.flatMap_cons]
    exact (h 0 x y rfl rfl).1.append (LesL.flat (n := n) (by simpa using hl) fun i a b ha hb => h (i + 1) a b (by simpa using ha) (by simpa using hb))
  | [], _ :: _, hl, _ => by simp at hl
  | _ :: _, [], hl, _ => by simp at hl
theorem Les.slice {n : Nat} {xs ys : List T} (hl : xs.length = ys.length) (h : ∀ (i : Nat) (x y : T), xs[i]? = some x → ys[i]? = some y → LesL x.cells y.cells ∧ y.cells.length = n) : Les (.slice n xs) (.slice n ys) := fun S w v r => by
  have hf := LesL.flat hl h
  cases r with
  | slice a b o len cap _ _ g hl2 hc hu h1 ha hg hr =>
    refine .slice a b o len cap n ys g (by omega) hc (fun y hy => ?_) hf.one (fun h0 => ha (by rw [hf.len]; exact h0)) (fun i hi => hg i (by rw [hf.len]; exact hi)) fun i u hu => ?_
    · obtain ⟨i, hi, rfl⟩ := List.getElem_of_mem hy
      exact (h i xs[i] ys[i] (by simp [show i < xs.length by omega]) (by simp [hi])).2
    · have hlt : i < (xs.flatMap T.cells).length := by rw [hf.len]; exact (List.getElem?_eq_some_iff.1 hu).1
      exact hf.le i _ u (List.getElem?_eq_getElem hlt) hu S w (g i) (hr i _ (List.getElem?_eq_getElem hlt))

theorem DCalls.les {P : Program} {f : FuncId} {ts us : List T} {r : T} (hl : ts.length = us.length) (hle : ∀ (i : Nat) (t u : T), ts[i]? = some t → us[i]? = some u → Les t u) (h : DCalls P f us r) : DCalls P f ts r :=
  h.less hl fun S w i v t u ht hu hr => hle i t u ht hu S w v hr
/-- Arguments that say less. -/
def lesAll : List T → List T → Prop
  | [], [] => True
  | t :: ts, u :: us => Les t u ∧ lesAll ts us
  | _, _ => False
theorem lesAll_len : ∀ {ts us : List T}, lesAll ts us → ts.length = us.length
  | [], [], _ => rfl
  | t :: ts, u :: us, h => by simp [lesAll_len h.2]
theorem lesAll_get : ∀ {ts us : List T}, lesAll ts us → ∀ (i : Nat) (t u : T), ts[i]? = some t → us[i]? = some u → Les t u
  | [], [], _, i, t, u, h, _ => by simp at h
  | a :: ts, b :: us, h, i, t, u, ht, hu => by
    cases i with
    | zero => simp at ht hu; subst ht; subst hu; exact h.1
    | succ i => exact lesAll_get h.2 i t u (by simpa using ht) (by simpa using hu)
theorem DCalls.lesAll {P : Program} {f : FuncId} {ts us : List T} {r : T} (h : DCalls P f us r) (hle : lesAll ts us) : DCalls P f ts r :=
  DCalls.les (lesAll_len hle) (lesAll_get hle) h

end Go.DL
end
