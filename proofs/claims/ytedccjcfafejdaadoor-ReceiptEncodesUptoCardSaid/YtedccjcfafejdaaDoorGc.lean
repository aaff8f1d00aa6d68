/- Joined by program: parts of a data level over the model, of the program's functions over it, and of the statement's proof. -/
import Derived.Test.YtedccjcfafejdaaDoorGb
import Derived.Laws.NewFold
import Derived.Scope
import Derived.Laws.Sem
import Derived.RangeFuncLeaves
import Derived.RangeFuncRecord
import Derived.OrdersIn
section
namespace Go.DL
open Go.RowKit
section
variable [Glb] {P : Program} {N : Nat} {w0 : World} {S0 : Base} {o : Oper} {a : Act} {E : Env} {st : St}
end
section
variable {P : Program} {N : Nat} {w0 : World} {S0 : Base} {o : Oper} {a : Act} {E : Env} {st : St}
theorem app_t {d : Option Nat} {v : V} {rd : List Nat} : st.app d { val := v, rd := rd } = st.set d v := by cases d <;> rfl
theorem wpR_in {r : EffR} {d : Option Nat} {K : St → Prop} (h : wpR r d st K) : ∃ e, inR r e ∧ K (st.app d e) := by
  cases r with
  | no => exact h.elim
  | yes e => exact ⟨e, rfl, h⟩
  | need c e => exact ⟨e, ⟨h.1, rfl⟩, h.2⟩
  | alt c b f => exact ⟨f b, ⟨h.1, rfl⟩, h.2 b rfl⟩
  | eq c t f => exact ⟨f t, ⟨h.1, rfl⟩, h.2 t rfl⟩
end
section
variable [Glb] {P : Program} {N : Nat} {w0 : World} {S0 : Base} {o : Oper} {a : Act} {E : Env} {st : St}
theorem wpCall_in {f : FuncId} {args : List V} {d : Option Nat} {K : St → Prop} (h : wpCall P f args d st K) : ∃ ts rd r, convs st.bx args = some (ts, rd) ∧ DCalls P f ts r ∧ (rd = [] ∨ r.flat = true) ∧ K (st.set d (.t r)) := by
  unfold wpCall at h
  split at h
  · rename_i ts hc
    obtain ⟨r, h1, h2⟩ := h
    exact ⟨ts, [], r, hc, h1, .inl rfl, h2⟩
  · rename_i ts x xs hc
    obtain ⟨r, h1, h2, h3⟩ := h
    exact ⟨ts, _, r, hc, h1, .inr h2, h3⟩
  · exact h.elim
end
section
variable {P : Program} {N : Nat} {w0 : World} {S0 : Base} {o : Oper} {a : Act} {E : Env} {st : St}
theorem app_m {st : St} {d : Option Nat} {v : V} {m : Nat} {b : BX} : st.app d { val := v, wr := some (m, b) } = ({ st with bx := upd st.bx m (some b) } : St).set d v := by cases d <;> rfl
end
section
variable [Glb] {P : Program} {N : Nat} {w0 : World} {S0 : Base} {o : Oper} {a : Act} {E : Env} {st : St}
theorem wpO_eff {x : DOp} (hx : x.plain = true) {d : Option Nat} {K : St → Prop} (h : wpO P x d st K) : ∃ e, effO P x (st.nm d) st e ∧ K (st.app d e) := by
  have gen : ∀ x : DOp, (wpO P x d st K → wpR (eff x (st.nm d) st.sl st.bx) d st K) → (∀ e, inR (eff x (st.nm d) st.sl st.bx) e → effO P x (st.nm d) st e) → wpO P x d st K → ∃ e, effO P x (st.nm d) st e ∧ K (st.app d e) := fun x h1 h2 h => by
    obtain ⟨e, he, hk⟩ := wpR_in (h1 h)
    exact ⟨e, h2 e he, hk⟩
  cases x with
  | append => cases hx
  | appV => cases hx
  | buildS => cases hx
  | inl => cases hx
  | fcall => cases hx
  | mrng => cases hx
  | mnext => cases hx
  | call f args =>
    obtain ⟨ts, rd, r, h1, h2, h3, h4⟩ := wpCall_in h
    exact ⟨_, ⟨ts, rd, r, h1, h2, h3, rfl⟩, by rw [app_t]; exact h4⟩
  | callv x args =>
    unfold wpO at h
    simp only at h
    split at h
    · rename_i f caps hv
      obtain ⟨ts, rd, r, h1, h2, h3, h4⟩ := wpCall_in h
      exact ⟨_, ⟨f, caps.map .t, by rw [hv]; rfl, ts, rd, r, h1, h2, h3, rfl⟩, by rw [app_t]; exact h4⟩
    · rename_i f caps hv
      obtain ⟨ts, rd, r, h1, h2, h3, h4⟩ := wpCall_in h
      exact ⟨_, ⟨f, caps, by rw [hv]; rfl, ts, rd, r, h1, h2, h3, rfl⟩, by rw [app_t]; exact h4⟩
    · exact h.elim
  | mcall ms f args =>
    obtain ⟨need, fr, m, b, r, h1, h2, h3, h4, h5, h6⟩ := h
    exact ⟨_, ⟨need, fr, m, b, r, h1, h2, h3, h4, h5, rfl⟩, by rw [app_m]; exact h6⟩
  | _ => exact gen _ id (fun _ h => h) h
end
section
variable {P : Program} {N : Nat} {w0 : World} {S0 : Base} {o : Oper} {a : Act} {E : Env} {st : St}
theorem zero_info {e : TypeId} {j : TypeInfo} (hj : P.info? e = some j) {zs : List T} (hz : zeroT P e = some zs) : ∃ z, j.zero = some z ∧ z.cells.size = j.size := by
  obtain ⟨i, z, hi, hiz, h1, h2, _⟩ := zeroT_spec hz
  rw [hj] at hi
  cases hi
  exact ⟨z, hiz, by omega⟩
theorem Owns.nil (r : Nat) (e : TypeId) (size : Nat) : Owns E (.slice none 0 0) r e size [] :=
  ⟨⟨[], World.ownsRow_nil _ _ _ _, rfl, fun i x t hx => by simp at hx⟩, fun x hx => by simp at hx, fun t ht => by simp at ht, fun g hg => by simp [Value.ownBlock] at hg⟩
theorem lowOp_noinl {op : Op} {f : FuncId} {args : List O} (hl : lowOp P op = some (.inl f args)) : False := by
  have no : ∀ {y : DOp}, some y = some (DOp.inl f args) → (match y with | .inl _ _ => true | _ => false) = false → False := fun h1 h2 => by cases h1; cases h2
  cases op with
  | call c =>
    obtain ⟨callee, as, argTypes⟩ := c
    simp only [lowOp, lowCall] at hl
    repeat' (first | exact no hl rfl | (split at hl) | (simp only [cond_eq_ite] at hl) | (cases hl; done))
  | unOp op t X =>
    cases op <;> simp only [lowOp, Option.map_eq_some_iff] at hl <;> first | (obtain ⟨_, _, hl⟩ := hl; cases hl) | cases hl
  | slice t X lo hi mx =>
    cases lo <;> cases hi <;> cases mx <;> simp only [lowOp] at hl <;> repeat' (first | exact no hl rfl | (split at hl) | (simp only [cond_eq_ite] at hl) | (cases hl; done))
  | binOp op t X Y ty =>
    cases op <;> simp only [lowOp] at hl <;> repeat' (first | exact no hl rfl | (split at hl) | (simp only [cond_eq_ite] at hl) | (cases hl; done))
  | _ =>
    simp only [lowOp] at hl
    repeat' (first | exact no hl rfl | (split at hl) | (simp only [cond_eq_ite] at hl) | (simp only [Option.map_eq_some_iff] at hl; obtain ⟨_, _, hl⟩ := hl; cases hl; done) | (cases hl; done))
theorem lowOp_noF {op : Op} {f : FuncId} {args : List O} (hl : lowOp P op = some (.fcall f args)) : False := by
  have no : ∀ {y : DOp}, some y = some (DOp.fcall f args) → (match y with | .fcall _ _ => true | _ => false) = false → False := fun h1 h2 => by cases h1; cases h2
  cases op with
  | call c =>
    obtain ⟨callee, as, argTypes⟩ := c
    simp only [lowOp, lowCall] at hl
    repeat' (first | exact no hl rfl | (split at hl) | (simp only [cond_eq_ite] at hl) | (cases hl; done))
  | unOp op t X =>
    cases op <;> simp only [lowOp, Option.map_eq_some_iff] at hl <;> first | (obtain ⟨_, _, hl⟩ := hl; cases hl) | cases hl
  | slice t X lo hi mx =>
    cases lo <;> cases hi <;> cases mx <;> simp only [lowOp] at hl <;> repeat' (first | exact no hl rfl | (split at hl) | (simp only [cond_eq_ite] at hl) | (cases hl; done))
  | binOp op t X Y ty =>
    cases op <;> simp only [lowOp] at hl <;> repeat' (first | exact no hl rfl | (split at hl) | (simp only [cond_eq_ite] at hl) | (cases hl; done))
  | _ =>
    simp only [lowOp] at hl
    repeat' (first | exact no hl rfl | (split at hl) | (simp only [cond_eq_ite] at hl) | (simp only [Option.map_eq_some_iff] at hl; obtain ⟨_, _, hl⟩ := hl; cases hl; done) | (cases hl; done))
theorem lowOp_noV {op : Op} {size bytes : Nat} {s x : O} (hl : lowOp P op = some (.appV size bytes s x)) : False := by
  have no : ∀ {y : DOp}, some y = some (DOp.appV size bytes s x) → (match y with | .appV _ _ _ _ => true | _ => false) = false → False := fun h1 h2 => by cases h1; cases h2
  cases op with
  | call c =>
    obtain ⟨callee, as, argTypes⟩ := c
    simp only [lowOp, lowCall] at hl
    repeat' (first | exact no hl rfl | (split at hl) | (simp only [cond_eq_ite] at hl) | (cases hl; done))
  | unOp op t X =>
    cases op <;> simp only [lowOp, Option.map_eq_some_iff] at hl <;> first | (obtain ⟨_, _, hl⟩ := hl; cases hl) | cases hl
  | slice t X lo hi mx =>
    cases lo <;> cases hi <;> cases mx <;> simp only [lowOp] at hl <;> repeat' (first | exact no hl rfl | (split at hl) | (simp only [cond_eq_ite] at hl) | (cases hl; done))
  | binOp op t X Y ty =>
    cases op <;> simp only [lowOp] at hl <;> repeat' (first | exact no hl rfl | (split at hl) | (simp only [cond_eq_ite] at hl) | (cases hl; done))
  | _ =>
    simp only [lowOp] at hl
    repeat' (first | exact no hl rfl | (split at hl) | (simp only [cond_eq_ite] at hl) | (simp only [Option.map_eq_some_iff] at hl; obtain ⟨_, _, hl⟩ := hl; cases hl; done) | (cases hl; done))
theorem lowOp_buildS {e : TypeId} {size n : Nat} {zs : List T} {parts : List (Nat × O)} (hl : lowOp P o.op = some (.buildS e size n zs parts)) : ∃ t ps j, o.op = .buildSlice t n ps ∧ P.underlying t = some (.slice e) ∧ P.info? e = some j ∧ zeroT P e = some zs ∧ size = j.size ∧ 0 < j.size ∧ n * j.size ≤ 16777216 ∧ ∃ qs, lowParts (fun i => some (i, 0)) ps.toList = some qs ∧ (∀ p ∈ qs, p.1 < n) ∧ parts = qs.map fun p => (p.1, p.2.2) := by
  have no : ∀ {y : DOp}, some y = some (DOp.buildS e size n zs parts) → y.plain = true → False := fun h1 h2 => by cases h1; cases h2
  have noA : ∀ {t e' s b X Y}, some (DOp.append t e' s b X Y) = some (DOp.buildS e size n zs parts) → False := fun h1 => by cases h1
  cases ho : o.op with
  | buildSlice t n' ps =>
    rw [ho] at hl
    simp only [lowOp] at hl
    split at hl
    · rename_i e' hu
      split at hl
      · rename_i j zs' de hj hz hud
        split at hl
        · rename_i qs hq
          simp only [cond_eq_ite] at hl
          split at hl
          · rename_i hc
            simp only [Bool.and_eq_true, List.all_eq_true] at hc
            cases hl
            have lt : ∀ {n}, Nat.blt 0 n = true → 0 < n := fun h => Nat.lt_of_lt_of_le (Nat.lt_succ_self 0) (Nat.le_of_ble_eq_true h)
            exact ⟨t, ps, j, rfl, hu, hj, hz, rfl, lt hc.1.1.2, Nat.le_of_ble_eq_true hc.1.1.1, qs, hq, fun p hp => Nat.le_of_ble_eq_true (hc.2 p hp), rfl⟩
          · cases hl
        · cases hl
      · cases hl
    · cases hl
  | call c =>
    exfalso
    rw [ho] at hl
    simp only [lowOp, lowCall] at hl
    repeat' (first | exact no hl rfl | exact noA hl | (split at hl) | (simp only [cond_eq_ite] at hl) | (cases hl; done))
  | unOp op t' X =>
    exfalso
    rw [ho] at hl
    cases op <;> simp only [lowOp, Option.map_eq_some_iff] at hl <;> first | (obtain ⟨_, _, hl⟩ := hl; cases hl) | cases hl
  | slice t' X lo hi mx =>
    exfalso
    rw [ho] at hl
    cases lo <;> cases hi <;> cases mx <;> simp only [lowOp] at hl <;> repeat' (first | exact no hl rfl | (split at hl) | (simp only [cond_eq_ite] at hl) | (cases hl; done))
  | binOp op t' X Y ty =>
    exfalso
    rw [ho] at hl
    cases op <;> simp only [lowOp] at hl <;> repeat' (first | exact no hl rfl | (split at hl) | (simp only [cond_eq_ite] at hl) | (cases hl; done))
  | _ =>
    exfalso
    rw [ho] at hl
    simp only [lowOp] at hl
    repeat' (first | exact no hl rfl | (split at hl) | (simp only [cond_eq_ite] at hl) | (simp only [Option.map_eq_some_iff] at hl; obtain ⟨_, _, hl⟩ := hl; cases hl; done) | (cases hl; done))
end
section
variable [Glb] {P : Program} {N : Nat} {w0 : World} {S0 : Base} {o : Oper} {a : Act} {E : Env} {st : St}
theorem effO_did (h : SR N w0 S0 E st a.tmps) (hd : okDst N o.dst) {x : DOp} (hl : lowOp P o.op = some x) (hx : x.isCall = false) {e : Eff} (he : effO P x (st.nm o.dst) st e) : Did P N w0 S0 o a E (st.app o.dst e) := by
  have plain : inR (eff x (st.nm o.dst) st.sl st.bx) e → Did P N w0 S0 o a E (st.app o.dst e) := fun hi => by
    have hs := eff_sound h hd hl
    cases hr : eff x (st.nm o.dst) st.sl st.bx with
    | no => rw [hr] at hi; exact hi.elim
    | yes e0 => rw [hr] at hi hs; cases hi; exact hs
    | need c e0 => rw [hr] at hi hs; obtain ⟨hc, rfl⟩ := hi; exact hs hc
    | alt c b f => rw [hr] at hi hs; obtain ⟨hc, rfl⟩ := hi; exact hs hc
    | eq c t f => rw [hr] at hi hs; obtain ⟨hc, rfl⟩ := hi; exact hs hc
  cases x with
  | call f args => cases hx
  | callv y args => cases hx
  | mcall ms f args => exact (lowOp_noM hl).elim
  | _ => exact plain he
end
section
variable {P : Program} {N : Nat} {w0 : World} {S0 : Base} {o : Oper} {a : Act} {E : Env} {st : St}
theorem lowOp_mrng {op : Op} {m : O} (hl : lowOp P op = some (.mrng m)) : ∃ t kt e X, op = .range t X ∧ P.underlying t = some (.map kt e) ∧ lowO X = some m := by
  cases op with
  | range t X =>
    simp only [lowOp] at hl
    split at hl
    · rename_i kt e y hu hy; cases hl; exact ⟨t, kt, e, X, rfl, hu, hy⟩
    · cases hl
  | next X b => cases b <;> simp only [lowOp, cond_false, cond_true, Option.map_eq_some_iff] at hl <;> first | (cases hl; done) | (obtain ⟨_, _, hl⟩ := hl; cases hl)
  | call c =>
    exfalso
    obtain ⟨callee, as, argTypes⟩ := c
    simp only [lowOp, lowCall] at hl
    repeat' (first | (split at hl) | (simp only [cond_eq_ite] at hl) | (cases hl; done))
  | unOp op t' X =>
    exfalso
    cases op <;> simp only [lowOp, Option.map_eq_some_iff] at hl <;> first | (obtain ⟨_, _, hl⟩ := hl; cases hl) | cases hl
  | slice t' X lo hi mx =>
    exfalso
    cases lo <;> cases hi <;> cases mx <;> simp only [lowOp] at hl <;> repeat' (first | (split at hl) | (simp only [cond_eq_ite] at hl) | (cases hl; done))
  | binOp op t' X Y ty =>
    exfalso
    cases op <;> simp only [lowOp] at hl <;> repeat' (first | (split at hl) | (simp only [cond_eq_ite] at hl) | (cases hl; done))
  | _ =>
    exfalso
    simp only [lowOp] at hl
    repeat' (first | (split at hl) | (simp only [cond_eq_ite] at hl) | (simp only [Option.map_eq_some_iff] at hl; obtain ⟨_, _, hl⟩ := hl; cases hl; done) | (cases hl; done))
theorem lowOp_mnext {op : Op} {m : O} (hl : lowOp P op = some (.mnext m)) : ∃ X, op = .next X false ∧ lowO X = some m := by
  cases op with
  | next X b =>
    cases b with
    | true => cases hl
    | false =>
      simp only [lowOp, cond_false, Option.map_eq_some_iff] at hl
      obtain ⟨y, hy, hl⟩ := hl
      cases hl
      exact ⟨X, rfl, hy⟩
  | call c =>
    exfalso
    obtain ⟨callee, as, argTypes⟩ := c
    simp only [lowOp, lowCall] at hl
    repeat' (first | (split at hl) | (simp only [cond_eq_ite] at hl) | (cases hl; done))
  | unOp op t' X =>
    exfalso
    cases op <;> simp only [lowOp, Option.map_eq_some_iff] at hl <;> first | (obtain ⟨_, _, hl⟩ := hl; cases hl) | cases hl
  | slice t' X lo hi mx =>
    exfalso
    cases lo <;> cases hi <;> cases mx <;> simp only [lowOp] at hl <;> repeat' (first | (split at hl) | (simp only [cond_eq_ite] at hl) | (cases hl; done))
  | binOp op t' X Y ty =>
    exfalso
    cases op <;> simp only [lowOp] at hl <;> repeat' (first | (split at hl) | (simp only [cond_eq_ite] at hl) | (cases hl; done))
  | _ =>
    exfalso
    simp only [lowOp] at hl
    repeat' (first | (split at hl) | (simp only [cond_eq_ite] at hl) | (simp only [Option.map_eq_some_iff] at hl; obtain ⟨_, _, hl⟩ := hl; cases hl; done) | (cases hl; done))
end
section
variable [Glb] {P : Program} {N : Nat} {w0 : World} {S0 : Base} {o : Oper} {a : Act} {E : Env} {st : St}
theorem mrng_did (h : SR N w0 S0 E st a.tmps) (hd : okDst N o.dst) {m : O} (hl : lowOp P o.op = some (.mrng m)) {K : St → Prop} (hw : wpO P (.mrng m) o.dst st K) : ∃ st', K st' ∧ Did P N w0 S0 o a E st' := by
  obtain ⟨t, kt, e, X, ho, hu, hX⟩ := lowOp_mrng hl
  have hv := ev_sound h.sl hX
  unfold wpO at hw
  cases hdst : o.dst with
  | none => rw [hdst] at hw; exact hw.elim
  | some d =>
    rw [hdst] at hw hd
    simp only at hw
    cases hm : ev st.sl m with
    | mp b =>
      rw [hm] at hw hv
      simp only at hw
      obtain ⟨hM, hlv⟩ := hv.inv_mp
      split at hw
      · rename_i ag sh es mb hb hn
        obtain ⟨arr, clock, hg, hR⟩ := (h.bx b _ hb).map
        have hk := hw (arr.toList.map (·.born)) clock (by simp [hR.size]) hR.apart (fun x hx => by
          obtain ⟨y, hy, rfl⟩ := List.mem_map.1 hx
          exact hR.lt y hy)
        refine ⟨_, hk, ?_⟩
        -- the map's box: its entries' times are known now
        have h1 : SR N w0 S0 E { st with bx := upd st.bx b (some (.m ag sh es (some (arr.toList.map (·.born), clock)))) } a.tmps := by
          refine { h with bx := fun n c hn => ?_, live := fun n => ?_ }
          · by_cases hnb : n = b
            · subst hnb
              have : upd st.bx n (some (BX.m ag sh es (some (arr.toList.map (·.born), clock)))) n = some c := hn
              rw [upd_same] at this
              cases this
              have hB := h.bx n _ hb
              exact ⟨hB.old, hB.free, _, hg, .map arr clock ag sh es _ ⟨hR.size, hR.at_, hR.lt, hR.apart, fun p hp => by cases hp; rfl⟩⟩
            · have : upd st.bx b (some (BX.m ag sh es (some (arr.toList.map (·.born), clock)))) n = some c := hn
              rw [upd_other _ _ _ _ hnb] at this
              exact h.bx n c this
          · show E.live n = (upd st.bx b _ n).isSome
            by_cases hnb : n = b
            · subst hnb; rw [upd_same, h.live, hb]; rfl
            · rw [upd_other _ _ _ _ hnb]; exact h.live n
        have hnb : d + st.off ≠ b := fun e => by rw [e, hb] at hn; cases hn
        have hn' : (upd st.bx b (some (BX.m ag sh es (some (arr.toList.map (·.born), clock))))) (d + st.off) = none := by rw [upd_other _ _ _ _ hnb]; exact hn
        have h2 := h1.allocO (n := d + st.off) hn' (.mapIter (some (E.κ b)) clock #[] clock) (.it b (arr.toList.map (·.born)) clock []) (fun E' g => by
            obtain ⟨l1, l2⟩ := g.κ b hlv
            rw [← l2]
            exact ObjR.it b _ clock [] l1) (.pointer (some ⟨E.w.heap.size, 0, none⟩)) (.ptr (d + st.off) 0) (fun E' hk hl => by rw [← hk]; exact .ptr _ _ hl) hd
        refine ⟨.value (.pointer (some ⟨E.w.heap.size, 0, none⟩)), .pointer (some ⟨E.w.heap.size, 0, none⟩), { E with w := E.w.alloc (.mapIter (some (E.κ b)) clock #[] clock), κ := upd E.κ (d + st.off) E.w.heap.size, live := upd E.live (d + st.off) true }, ?_, .inl rfl, ?_⟩
        · unfold execOp
          simp [ho, Instr.range, hM, run_underlying hu, Go.MapKept.run_getObj_map hg]
        · rw [hdst]; exact h2
      · exact hw.elim
    | t x =>
      rw [hm] at hw hv
      cases x with
      | mapd ag sh ks vs =>
        simp only at hw
        split at hw
        · rename_i hn
          have hrep := hv.inv_t
          generalize hM : a.eval X = v at hrep
          cases hrep with
          | mapd g arr clock _ _ _ _ hk hvl hg r1 r2 ok lt apart =>
          have hR : MapR E arr clock ag sh (ks.zip vs) none := ⟨by rw [List.length_zip, hk, hvl]; simp, fun i x e hx he => by
            rw [List.getElem?_zip_eq_some] at he
            exact ⟨r1 i x e.1 hx he.1, r2 i x e.2 hx he.2, ok _ (List.mem_of_getElem? he.1)⟩, lt, apart, fun p hp => by cases hp⟩
          refine ⟨_, hw, .value (.pointer (some ⟨E.w.heap.size, 0, none⟩)), .pointer (some ⟨E.w.heap.size, 0, none⟩), { E with w := E.w.alloc (.mapIter (some g) clock #[] clock), κ := upd E.κ (d + st.off) E.w.heap.size, live := upd E.live (d + st.off) true }, ?_, .inl rfl, ?_⟩
          · unfold execOp
            simp [ho, Instr.range, hM, run_underlying hu, Go.MapKept.run_getObj_map hg.1]
          · rw [hdst]
            exact h.allocO (n := d + st.off) hn (.mapIter (some g) clock #[] clock) (.itd (ks.zip vs) []) (fun E' g' => ObjR.itd g arr clock ag sh _ [] ((g'.cell g 0 hg.2).map _ _ hg.1) (g'.S _ _ hg.2) (hR.grow g')) (.pointer (some ⟨E.w.heap.size, 0, none⟩)) (.ptr (d + st.off) 0) (fun E' hk hl => by rw [← hk]; exact .ptr _ _ hl) hd
        · exact hw.elim
      | _ => exact hw.elim
    | _ => rw [hm] at hw; exact hw.elim
end
section
variable {P : Program} {N : Nat} {w0 : World} {S0 : Base} {o : Oper} {a : Act} {E : Env} {st : St}
theorem run_pick {n : Nat} (hn : 0 < n) (w : World) : ∃ i w', i < n ∧ (choose (.mapNext n)).run P w = .ok i w' ∧ (w' = w ∨ w' = w.drew) := by
  rw [run_choose_drew]
  cases hf : (Question.mapNext n).forced with
  | true => exact ⟨0, w, hn, rfl, .inl rfl⟩
  | false => exact ⟨_, w.drew, Nat.mod_lt _ hn, rfl, .inr rfl⟩
theorem next_core {X : Operand} (ho : o.op = .next X false) {g k : Nat} (hP : a.eval X = .pointer (some ⟨k, 0, none⟩)) {arr : Array MapEntry} {c : Nat} {bs : List Nat} (hbs : bs = arr.toList.map (·.born)) (hnd : bs.Nodup) {ix : List Nat} (hix : ∀ j ∈ ix, j < arr.size)
    (hlt : ∀ x ∈ arr, x.born < c) (hg : E.w.heap[g]? = some (.map arr c)) (hgk : E.w.heap[k]? = some (.mapIter (some g) c (ix.map fun j => bs.getD j 0).toArray c)) :
    ∃ w', (w' = E.w ∨ w' = E.w.drew) ∧ (((∀ j, j < arr.size → j ∈ ix) ∧ (execOp a.eval o).run P E.w = .ok (.value (.tuple #[.bool false])) w') ∨
      ∃ (j : Nat) (x : MapEntry), arr[j]? = some x ∧ ¬ j ∈ ix ∧ (execOp a.eval o).run P E.w = .ok (.value (.tuple #[.bool true, x.key, x.val])) { w' with heap := w'.heap.setIfInBounds k (.mapIter (some g) c ((ix ++ [j]).map fun j => bs.getD j 0).toArray c) }) := by
  have hlen : bs.length = arr.size := by rw [hbs]; simp
  have hseen : ∀ (j : Nat) (x : MapEntry), arr[j]? = some x → ((ix.map fun j => bs.getD j 0).toArray.contains x.born = true ↔ j ∈ ix) := fun j x hx => by
    have hj : bs[j]? = some x.born := by rw [hbs]; simp [hx]
    have hjl : j < bs.length := (List.getElem?_eq_some_iff.1 hj).1
    simp only [List.contains_toArray, List.contains_iff_mem, List.mem_map]
    constructor
    · rintro ⟨i, hi, he⟩
      have hil : i < bs.length := by rw [hlen]; exact hix i hi
      rw [List.getD_eq_getElem?_getD, List.getElem?_eq_getElem hil, Option.getD_some] at he
      have hj' : bs[j] = x.born := by rw [List.getElem?_eq_getElem hjl] at hj; exact Option.some.inj hj
      have := (List.getElem_inj hnd).1 (he.trans hj'.symm)
      exact this ▸ hi
    · intro hi
      exact ⟨j, hi, by rw [List.getD_eq_getElem?_getD, hj]; rfl⟩
  generalize hS : (ix.map fun j => bs.getD j 0).toArray = seen at hseen hgk
  generalize hL : (arr.filter fun e => !seen.contains e.born) = left
  have hsub : ∀ x ∈ left, x ∈ arr ∧ seen.contains x.born = false := fun x hx => by
    rw [← hL, Array.mem_filter] at hx
    exact ⟨hx.1, by simpa using hx.2⟩
  have hold : (left.filter fun x => decide (x.born < c)) = left := Array.filter_eq_self.2 fun x hx => by simpa using hlt x (hsub x hx).1
  have hnew : (left.filter fun x => decide (x.born ≥ c)) = #[] := Array.filter_eq_empty_iff.2 fun x hx => by
    have := hlt x (hsub x hx).1
    simp; omega
  have hgone : (!seen.isEmpty && !arr.isEmpty && arr.all fun x => decide (x.born ≥ c)) = false := by
    cases he : arr.isEmpty with
    | true => simp
    | false =>
      have hpos : 0 < arr.size := by
        rw [Array.isEmpty_eq_false_iff] at he
        exact Array.size_pos_iff.2 he
      have : (arr.all fun x => decide (x.born ≥ c)) = false := by
        rw [Bool.eq_false_iff]
        intro hall
        rw [Array.all_eq_true] at hall
        have h1 := hall 0 hpos
        have h2 := hlt arr[0] (Array.getElem_mem hpos)
        simp at h1; omega
      simp [this]
  have hrun : (execOp a.eval o).run P E.w = ((choose (.mapNext ((if left.isEmpty then #[none] else #[]) ++ left.map some).size)).run P E.w).andThen fun i w' =>
      ((match ((if left.isEmpty then #[none] else #[]) ++ left.map some)[i]? with
      | some (some e) => (do setObj k (.mapIter (some g) c (seen.push e.born) c); pure (.tuple #[.bool true, e.key, e.val]))
      | some none => pure (.tuple #[.bool false])
      | none => stuck "Next: no such candidate" : Sem Value).run P w').andThen fun v w'' => .ok (.value v) w'' := by
    unfold execOp
    simp only [ho, hP, Instr.next, Sem.run_bind, run_getObj_iter hgk, Result.andThen_ok, Go.MapKept.run_getObj_map hg, hgone, hL, hold, hnew]
    simp only [Bool.false_eq_true, if_false, Array.append_empty, Sem.run_bind, Sem.run_pure, Result.andThen_ok]
    cases (choose (.mapNext ((if left.isEmpty = true then #[none] else #[]) ++ left.map some).size)).run P E.w <;> rfl
  have hheap : ∀ w', (w' = E.w ∨ w' = E.w.drew) → w'.heap = E.w.heap := fun w' hw' => by
    rcases hw' with rfl | rfl <;> rfl
  cases hE : left.isEmpty with
  | true =>
    have hleft : left = #[] := Array.isEmpty_iff.1 hE
    rw [hE] at hrun
    simp only [if_true] at hrun
    obtain ⟨i, w', hi, hch, hw'⟩ := run_pick (P := P) (n := (#[none] ++ left.map some).size) (by rw [hleft]; simp) E.w
    have hi0 : i = 0 := by rw [hleft] at hi; simpa using hi
    subst hi0
    rw [hch, hleft] at hrun
    refine ⟨w', hw', .inl ⟨fun j hja => ?_, by rw [hrun]; simp⟩⟩
    by_cases hin : j ∈ ix
    · exact hin
    · exfalso
      have hx := Array.getElem?_eq_getElem hja
      have hns : seen.contains (arr[j]).born = false := by
        rw [Bool.eq_false_iff]
        intro hc
        exact hin ((hseen j _ hx).1 hc)
      have : arr[j] ∈ left := by
        rw [← hL, Array.mem_filter]
        exact ⟨Array.getElem_mem hja, by rw [hns]; rfl⟩
      rw [hleft] at this
      simp at this
  | false =>
    rw [hE] at hrun
    simp only [Bool.false_eq_true, if_false, Array.empty_append] at hrun
    have hpos : 0 < left.size := Array.size_pos_iff.2 (Array.isEmpty_eq_false_iff.1 hE)
    obtain ⟨i, w', hi, hch, hw'⟩ := run_pick (P := P) (n := (left.map some).size) (by simpa using hpos) E.w
    have hi : i < left.size := by simpa using hi
    have hli : (left.map some)[i]? = some (some left[i]) := by simp [hi]
    rw [hch] at hrun
    simp only [Result.andThen_ok, hli] at hrun
    obtain ⟨h1, h2⟩ := hsub left[i] (Array.getElem_mem hi)
    obtain ⟨j, hj⟩ := Array.mem_iff_getElem?.1 h1
    have hjix : ¬ j ∈ ix := fun hh => by
      have := (hseen j _ hj).2 hh
      rw [h2] at this; cases this
    have hbj : bs.getD j 0 = left[i].born := by
      rw [List.getD_eq_getElem?_getD, hbs]; simp [hj]
    have hpush : seen.push left[i].born = ((ix ++ [j]).map fun j => bs.getD j 0).toArray := by
      rw [← hS, ← hbj]; simp
    refine ⟨w', hw', .inr ⟨j, left[i], hj, hjix, ?_⟩⟩
    have hset : (setObj k (.mapIter (some g) c (seen.push left[i].born) c)).run P w' = .ok () { w' with heap := w'.heap.setIfInBounds k (.mapIter (some g) c (seen.push left[i].born) c) } := by
      have : w'.heap[k]? = some (.mapIter (some g) c seen c) := by rw [hheap w' hw']; exact hgk
      simp [setObj, Sem.run, this]
    rw [hrun, ← hpush]
    simp [hset]
end
section
variable [Glb] {P : Program} {N : Nat} {w0 : World} {S0 : Base} {o : Oper} {a : Act} {E : Env} {st : St}
theorem next_end (h : SR N w0 S0 E st a.tmps) {d k : Nat} (hd : d < N) (hdst : o.dst = some d) {B : BX} (hbk : st.bx k = some B) {ob : Obj} (hgk : E.w.heap[E.κ k]? = some ob) {w' : World} (hw' : w' = E.w ∨ w' = E.w.drew) (ob' : Obj) (B' : BX)
    (hB : ∀ E' : Env, Grow { E with w := w' } E' → ObjR E' ob' B') {x : MapEntry} {e : T × T} (hr : Rep E.S E.w x.key e.1 ∧ Rep E.S E.w x.val e.2)
    (hrun : (execOp a.eval o).run P E.w = .ok (.value (.tuple #[.bool true, x.key, x.val])) { w' with heap := w'.heap.setIfInBounds (E.κ k) ob' }) (hnm : ∀ arr c, ob ≠ .map arr c) :
    Did P N w0 S0 o a E { st with sl := upd st.sl d (.t (.tup [.bool true, e.1, e.2])), bx := upd st.bx k (some B') } := by
  have world : SR N w0 S0 { E with w := w' } st a.tmps ∧ w'.heap = E.w.heap := by
    rcases hw' with rfl | rfl
    · exact ⟨h, rfl⟩
    · exact ⟨h.drew, rfl⟩
  refine ⟨.value (.tuple #[.bool true, x.key, x.val]), .tuple #[.bool true, x.key, x.val], { E with w := { w' with heap := w'.heap.setIfInBounds (E.κ k) ob' } }, hrun, .inl rfl, ?_⟩
  rw [hdst]
  have hwr := world.1.writeO hbk ob' B' hB
  refine hwr.put hd (.t _ _ (.tup _ _ rfl fun i' z u hz hu => ?_))
  have up : ∀ {v : Value} {t : T}, Rep E.S E.w v t → Rep E.S { w' with heap := w'.heap.setIfInBounds (E.κ k) ob' } v t := fun hr => hr.mono (fun _ _ h => h) (fun b' o' hs => by
    refine Same.of_block ?_
    have hne : b' ≠ E.κ k := fun e => (h.bx k _ hbk).free o' (e ▸ hs)
    show (w'.heap.setIfInBounds (E.κ k) ob')[b']? = _
    rw [world.2]
    exact (Go.MapKept.heap_set hgk).2 b' hne)
  match i', hz, hu with
  | 0, hz, hu => simp at hz hu; subst hz; subst hu; exact .bool _
  | 1, hz, hu => simp at hz hu; subst hz; subst hu; exact up hr.1
  | 2, hz, hu => simp at hz hu; subst hz; subst hu; exact up hr.2
  | i' + 3, hz, hu => simp at hz
theorem mnext_did (h : SR N w0 S0 E st a.tmps) (hd : okDst N o.dst) {y : O} (hl : lowOp P o.op = some (.mnext y)) {K : St → Prop} (hw : wpO P (.mnext y) o.dst st K) : ∃ st', K st' ∧ Did P N w0 S0 o a E st' := by
  obtain ⟨X, ho, hX⟩ := lowOp_mnext hl
  have hv := ev_sound h.sl hX
  unfold wpO at hw
  cases hdst : o.dst with
  | none => rw [hdst] at hw; exact hw.elim
  | some d =>
    rw [hdst] at hw hd
    simp only at hw
    have over : ∀ {w' : World}, (w' = E.w ∨ w' = E.w.drew) → (execOp a.eval o).run P E.w = .ok (.value (.tuple #[.bool false])) w' → Did P N w0 S0 o a E (st.put d (.t (.tup [.bool false]))) := fun {w'} hw' hrun => by
      have world : SR N w0 S0 { E with w := w' } st a.tmps := by
        rcases hw' with rfl | rfl
        · exact h
        · exact h.drew
      refine ⟨.value (.tuple #[.bool false]), .tuple #[.bool false], { E with w := w' }, hrun, .inl rfl, ?_⟩
      rw [hdst]
      exact world.put hd (.t _ _ (.tup _ _ rfl fun i x u hx hu => by
        cases i with
        | zero => simp at hx hu; subst hx; subst hu; exact .bool _
        | succ i => simp at hx))
    split at hw
    · rename_i k hk
      rw [hk] at hv
      obtain ⟨hP, hlk⟩ := hv.inv_ptr
      split at hw
      · rename_i b bs c ix hbk
        split at hw
        · rename_i ag sh es q hbb
          obtain ⟨hq, hnd, hlt, hlen, hix, hsome, hnone⟩ := hw
          obtain ⟨arr, clock, hg, hR⟩ := (h.bx b _ hbb).map
          have hmb := hR.mb q rfl
          rw [hq] at hmb
          simp only [Prod.mk.injEq] at hmb
          obtain ⟨hbs, rfl⟩ := hmb
          obtain ⟨ob, hgk, hob⟩ := (h.bx k _ hbk).at_
          cases hob with
          | cells _ _ _ hc => cases hc
          | it _ _ _ _ hlb =>
          obtain ⟨w', hw', ⟨hall, hrun⟩ | ⟨j, x, hj, hjix, hrun⟩⟩ := next_core (P := P) (a := a) (E := E) ho hP hbs hnd (fun j hj => by rw [hR.size]; exact hix j hj) (fun x hx => hR.lt x (by simpa using hx)) hg hgk
          · exact ⟨_, hnone fun j hj => hall j (by rw [hR.size]; exact hj), over hw' hrun⟩
          · have hjl : j < es.length := by rw [← hR.size]; exact (Array.getElem?_eq_some_iff.1 hj).1
            have he := List.getElem?_eq_getElem hjl
            have hval := hR.at_ j _ _ hj he
            exact ⟨_, hsome j _ he hjix, next_end h hd hdst hbk hgk hw' _ _ (fun E' g => by
              obtain ⟨l1, l2⟩ := g.κ b hlb
              have l2 : E'.κ b = E.κ b := l2
              rw [← l2]
              exact ObjR.it b bs c (ix ++ [j]) l1) ⟨hval.1, hval.2.1⟩ hrun (fun _ _ e => by cases e)⟩
        · exact hw.elim
      · rename_i es ix hbk
        obtain ⟨hix, hsome, hnone⟩ := hw
        obtain ⟨ob, hgk, hob⟩ := (h.bx k _ hbk).at_
        cases hob with
        | cells _ _ _ hc => cases hc
        | itd g arr c ag sh _ _ hg hS hR =>
        obtain ⟨w', hw', ⟨hall, hrun⟩ | ⟨j, x, hj, hjix, hrun⟩⟩ := next_core (P := P) (a := a) (E := E) ho hP rfl hR.apart (fun j hj => by rw [hR.size]; exact hix j hj) (fun x hx => hR.lt x (by simpa using hx)) hg hgk
        · exact ⟨_, hnone fun j hj => hall j (by rw [hR.size]; exact hj), over hw' hrun⟩
        · have hjl : j < es.length := by rw [← hR.size]; exact (Array.getElem?_eq_some_iff.1 hj).1
          have he := List.getElem?_eq_getElem hjl
          have hval := hR.at_ j _ _ hj he
          have hheap : w'.heap = E.w.heap := by rcases hw' with rfl | rfl <;> rfl
          exact ⟨_, hsome j _ he hjix, next_end h hd hdst hbk hgk hw' _ _ (fun E' g' => by
            have g0 : Grow E { E with w := w' } := ⟨rfl, fun _ hl => ⟨hl, rfl⟩, fun r k hr => ⟨hr, by show w'.heap[_]? = _; rw [hheap], fun _ => Iff.rfl⟩, fun _ _ hs => hs, fun b o hs => Same.of_block (by show w'.heap[_]? = _; rw [hheap])⟩
            have hg1 : ({ E with w := w' } : Env).w.heap[g]? = some (.map arr c) := by show w'.heap[g]? = _; rw [hheap]; exact hg
            exact ObjR.itd g arr c ag sh es (ix ++ [j]) ((g'.cell g 0 hS).map _ _ hg1) (g'.S _ _ hS) ((hR.grow g0).grow g')) ⟨hval.1, hval.2.1⟩ hrun (fun _ _ e => by cases e)⟩
      · exact hw.elim
    · exact hw.elim
end
section
variable {P : Program} {N : Nat} {w0 : World} {S0 : Base} {o : Oper} {a : Act} {E : Env} {st : St}
theorem lowOp_append {t e : TypeId} {size bytes : Nat} {s x : O} (hl : lowOp P o.op = some (.append t e size bytes s x)) :
    ∃ X Y u j z, o.op = .call { callee := .builtin .append, args := #[X, Y], argTypes := #[t, u] } ∧ ((∃ e', P.underlying u = some (.slice e')) ∨ P.underlying u = some .string) ∧ P.underlying t = some (.slice e) ∧ P.info? e = some j ∧ zeroT P e = some z ∧ size = j.size ∧ bytes = j.bytes ∧ 0 < j.size ∧ 0 < j.bytes ∧ lowO X = some s ∧ lowO Y = some x := by
  have no : ∀ {y : DOp}, some y = some (DOp.append t e size bytes s x) → y.plain = true → False := fun h1 h2 => by cases h1; cases h2
  cases ho : o.op with
  | call c =>
    rw [ho] at hl
    obtain ⟨callee, as, argTypes⟩ := c
    simp only [lowOp, lowCall] at hl
    split at hl
    · repeat' (first | exact (no hl rfl).elim | (split at hl) | (simp only [cond_eq_ite] at hl) | (cases hl; done))
    · repeat' (first | exact (no hl rfl).elim | (split at hl) | (simp only [cond_eq_ite] at hl) | (cases hl; done))
    · repeat' (first | exact (no hl rfl).elim | (split at hl) | (simp only [cond_eq_ite] at hl) | (cases hl; done))
    · repeat' (first | exact (no hl rfl).elim | (split at hl) | (simp only [cond_eq_ite] at hl) | (cases hl; done))
    · repeat' (first | exact (no hl rfl).elim | (split at hl) | (simp only [cond_eq_ite] at hl) | (cases hl; done))
    · split at hl
      · rename_i X Y t' u h1 h2
        split at hl
        · rename_i e' s' x' hu hs hx'
          split at hl
          · rename_i j z hj hz
            simp only [cond_eq_ite] at hl
            split at hl
            · rename_i hc
              simp only [Bool.and_eq_true] at hc
              cases hl
              have e1 : as = #[X, Y] := Array.toList_inj.1 (by simpa using h1)
              have hk : (∃ e', P.underlying u = some (.slice e')) ∨ P.underlying u = some .string := by
                rcases Bool.or_eq_true _ _ ▸ hc.1.1 with h | h
                · have e2 : t = u := Nat.eq_of_beq_eq_true h
                  exact .inl ⟨_, e2 ▸ hu⟩
                · unfold isStrT at h
                  split at h
                  · exact .inr (by assumption)
                  · cases h
              have e3 : argTypes = #[t, u] := Array.toList_inj.1 (by simpa using h2)
              subst e1; subst e3
              exact ⟨X, Y, u, j, z, rfl, hk, hu, hj, hz, rfl, rfl, Nat.lt_of_lt_of_le (Nat.lt_succ_self 0) (Nat.le_of_ble_eq_true hc.1.2), Nat.lt_of_lt_of_le (Nat.lt_succ_self 0) (Nat.le_of_ble_eq_true hc.2), hs, hx'⟩
            · cases hl
          · cases hl
        · cases hl
      · cases hl
    · repeat' (first | exact (no hl rfl).elim | (split at hl) | (simp only [cond_eq_ite] at hl) | (cases hl; done))
    · repeat' (first | exact (no hl rfl).elim | (split at hl) | (simp only [cond_eq_ite] at hl) | (cases hl; done))
    · repeat' (first | exact (no hl rfl).elim | (split at hl) | (simp only [cond_eq_ite] at hl) | (cases hl; done))
    · cases hl
  | unOp op t' X =>
    exfalso
    rw [ho] at hl
    cases op <;> simp only [lowOp, Option.map_eq_some_iff] at hl <;> first | (obtain ⟨_, _, hl⟩ := hl; cases hl) | cases hl
  | slice t' X lo hi mx =>
    exfalso
    rw [ho] at hl
    cases lo <;> cases hi <;> cases mx <;> simp only [lowOp] at hl <;> repeat' (first | exact no hl rfl | (split at hl) | (simp only [cond_eq_ite] at hl) | (cases hl; done))
  | binOp op t' X Y ty =>
    exfalso
    rw [ho] at hl
    cases op <;> simp only [lowOp] at hl <;> repeat' (first | exact no hl rfl | (split at hl) | (simp only [cond_eq_ite] at hl) | (cases hl; done))
  | _ =>
    exfalso
    rw [ho] at hl
    simp only [lowOp] at hl
    repeat' (first | exact no hl rfl | (split at hl) | (simp only [cond_eq_ite] at hl) | (simp only [Option.map_eq_some_iff] at hl; obtain ⟨_, _, hl⟩ := hl; cases hl; done) | (cases hl; done))
end
section
variable [Glb] {P : Program} {N : Nat} {w0 : World} {S0 : Base} {o : Oper} {a : Act} {E : Env} {st : St}
theorem wpO_did (h : SR N w0 S0 E st a.tmps) (hd : okDst N o.dst) {x : DOp} (hl : lowOp P o.op = some x) (hcall : x.isCall = false) {K : St → Prop} (hw : wpO P x o.dst st K) : ∃ st', K st' ∧ Did P N w0 S0 o a E st' := by
  by_cases hx : x.plain = true
  · obtain ⟨e, he, hk⟩ := wpO_eff hx hw
    exact ⟨_, hk, effO_did h hd hl hcall he⟩
  · have fin : ∀ (d : Nat) (st' : St), o.dst = some d → (∃ (v' : Value) (E' : Env), (execOp a.eval o).run P E.w = .ok (.value v') E'.w ∧ SR N w0 S0 E' st' (a.tmps.setIfInBounds d v')) → Did P N w0 S0 o a E st' := by
      rintro d st' hdst ⟨v', E', hr, hsr⟩
      exact ⟨_, v', E', hr, .inl rfl, by rw [hdst]; exact hsr⟩
    cases x with
    | append t e size bytes s x =>
      -- the operation is a call of the builtin
      have inv := lowOp_append hl
      obtain ⟨X, Y, u, j, zs, ho, hku, hu, hj, hz, rfl, rfl, hsz, hby, hX, hY⟩ := inv
      obtain ⟨z, hjz, hzs⟩ := zero_info hj hz
      have hvX := ev_sound h.sl hX
      have hvY := ev_sound h.sl hY
      have exec : ∀ (v y v' : Value) (w' : World), a.eval X = v → a.eval Y = y → (Builtin.append_ #[t, u] o.type #[v, y]).run P E.w = .ok v' w' → (execOp a.eval o).run P E.w = .ok (.value v') w' := fun v y v' w' h1 h2 hr =>
        exec_builtin ho (by simp [builtin, h1, h2, hr])
      unfold wpO at hw
      cases hdst : o.dst with
      | none => rw [hdst] at hw; exact hw.elim
      | some d =>
        rw [hdst] at hw hd
        simp only at hw
        have go : ∀ (r : Nat) (xs ys : List T), Owns E (a.eval X) r e j.size xs → (∃ news, SrcR P E (a.eval Y) j.size ys news) → (xs.length + ys.length) * j.bytes ≤ 140737488355328 → K ((st.dg r (d + st.off)).put d (.own (d + st.off) e j.size (xs ++ ys))) →
            ∃ st', K st' ∧ Did P N w0 S0 o a E st' := fun r xs ys hv ⟨news, hy⟩ hroom hk => by
          obtain ⟨v', E', hr, hsr⟩ := append_did (ty := o.type) h hd hu hj hjz hzs hsz hby hv hy hku hroom
          exact ⟨_, hk, fin d _ hdst ⟨v', E', exec _ _ _ _ rfl rfl hr, hsr⟩⟩
        unfold wpAppend at hw
        split at hw
        · rename_i n ys hy
          obtain ⟨hn, hw⟩ := hw
          have hry : ∃ news, SrcR P E (a.eval Y) j.size ys news := by
            rcases hn with rfl | rfl
            · exact srcT_sound h hvY hy hsz
            · exact srcT_empty h hvY hy
          split at hw
          · rename_i hs
            rw [hs] at hvX
            have hX' : a.eval X = .slice none 0 0 := by
              have := hvX.inv_t
              generalize a.eval X = v at this
              cases this; rfl
            exact go (d + st.off) [] ys (by rw [hX']; exact Owns.nil (d + st.off) e j.size) hry (by simpa using hw.1) (by simpa using hw.2)
          · rename_i r e' size' xs hs
            rw [hs] at hvX
            simp only [cond_eq_ite] at hw
            split at hw
            · rename_i hc
              rw [Bool.and_eq_true] at hc
              have h1 : e' = e := Nat.eq_of_beq_eq_true hc.1
              have h2 : size' = j.size := Nat.eq_of_beq_eq_true hc.2
              subst h1; subst h2
              exact go r xs ys hvX.inv_own hry hw.1 hw.2
            · exact hw.elim
          · exact hw.elim
        · rename_i hy
          have hry : ∃ news, SrcR P E (a.eval Y) j.size [] news := srcT_nil h hvY hy
          split at hw
          · rename_i hs
            rw [hs] at hvX
            have hX' : a.eval X = .slice none 0 0 := by
              have := hvX.inv_t
              generalize a.eval X = v at this
              cases this; rfl
            exact go (d + st.off) [] [] (by rw [hX']; exact Owns.nil (d + st.off) e j.size) hry (by simp) (by simpa using hw)
          · rename_i r e' size' xs hs
            rw [hs] at hvX
            simp only [cond_eq_ite] at hw
            split at hw
            · rename_i hc
              rw [Bool.and_eq_true] at hc
              have h1 : e' = e := Nat.eq_of_beq_eq_true hc.1
              have h2 : size' = j.size := Nat.eq_of_beq_eq_true hc.2
              subst h1; subst h2
              exact go r xs [] hvX.inv_own hry (by simpa using hw.1) (by simpa using hw.2)
            · exact hw.elim
          · exact hw.elim
        · exact hw.elim
    | buildS e size n zs parts =>
      have inv := lowOp_buildS hl
      obtain ⟨t, ps, j, ho, hu, hj, hz, rfl, hsz, hbig, qs, hqs, hin, rfl⟩ := inv
      unfold wpO at hw
      cases hdst : o.dst with
      | none => rw [hdst] at hw; exact hw.elim
      | some d =>
        rw [hdst] at hw hd
        simp only at hw
        split at hw
        · rename_i es c hf
          exact ⟨_, hw.2, fin d _ hdst (by obtain ⟨v2, E2, _, q1, q2⟩ := buildS_did h hd ho hu hj hz hsz hbig hqs hin hf hw.1; exact ⟨v2, E2, q1, q2⟩)⟩
        · exact hw.elim
    | inl f args => exact (lowOp_noinl hl).elim
    | appV => exact (lowOp_noV hl).elim
    | fcall f args => exact (lowOp_noF hl).elim
    | mrng m => exact mrng_did h hd hl hw
    | mnext y => exact mnext_did h hd hl hw
    | _ => exact absurd rfl hx
theorem wpO_wp (h : SR N w0 S0 E st a.tmps) (hd : okDst N o.dst) {x : DOp} (hl : lowOp P o.op = some x) {K : St → Prop} (hw : wpO P x o.dst st K) {Q : Exit → Act → World → Prop} : ∃ st', K st' ∧ o.wp P a E.w (Next' N w0 S0 a st') Q := by
  cases hcall : x.isCall with
  | true =>
    have hx : x.plain = true := by cases x <;> first | rfl | cases hcall
    obtain ⟨e, he, hk⟩ := wpO_eff hx hw
    exact ⟨_, hk, effO_wp h hd hl he⟩
  | false =>
    obtain ⟨st', hk, nx, v, E', hr, hnx, hsr⟩ := wpO_did h hd hl hcall hw
    refine ⟨st', hk, ?_⟩
    unfold Oper.wp
    rw [hr]
    rcases hnx with rfl | ⟨rfl, rfl⟩
    · exact ⟨E', rfl, hsr, by cases o.dst <;> rfl⟩
    · exact ⟨E', rfl, hsr, by cases o.dst <;> rfl⟩
end
end Go.DL
end
section
namespace Go.DL
open Go.RowKit
section
variable [Glb] {P : Program} {X : List FuncId} {N : Nat} {w0 : World} {S0 : Base} {o : Oper} {a : Act} {E : Env} {st : St}
end
section
variable {P : Program} {X : List FuncId} {N : Nat} {w0 : World} {S0 : Base} {o : Oper} {a : Act} {E : Env} {st : St}
theorem lowI_inv {ops : Array Oper} {i : DI} (hl : lowI P N X ops o = some i) : (∃ x, lowOp P o.op = some x ∧ i.op = markD X o.dst x) ∧ i.dst = o.dst ∧ okDst N o.dst ∧ i.after = (o.after.toList.filter fun e => Region.binds .any e).map (·.on) ∧
    ((o.guard = none ∧ i.guard = none) ∨ ∃ j want g, o.guard = some (j, want) ∧ (ops[j]?).bind (·.dst) = some g ∧ i.guard = some (g, want) ∧ g < N) := by
  have okd : ∀ {d : Option Nat}, okB N d = true → okDst N d := fun {d} h => by
    cases d with
    | none => trivial
    | some n => exact Nat.le_of_ble_eq_true h
  unfold lowI at hl
  split at hl
  · rename_i d hd
    simp only at hl
    split at hl
    · rename_i hg
      simp only [cond_eq_ite] at hl
      split at hl
      · rename_i hc
        cases hl
        exact ⟨⟨d, hd, rfl⟩, rfl, okd hc, rfl, .inl ⟨hg, rfl⟩⟩
      · cases hl
    · rename_i j want hg
      split at hl
      · rename_i g hj
        simp only [cond_eq_ite] at hl
        split at hl
        · rename_i hc
          cases hl
          rw [Bool.and_eq_true] at hc
          exact ⟨⟨d, hd, rfl⟩, rfl, okd hc.1, rfl, .inr ⟨j, want, g, hg, hj, rfl, Nat.le_of_ble_eq_true hc.2⟩⟩
        · cases hl
      · cases hl
  · cases hl
end
section
variable [Glb] {P : Program} {X : List FuncId} {N : Nat} {w0 : World} {S0 : Base} {o : Oper} {a : Act} {E : Env} {st : St}
theorem klive (h : SR N w0 S0 E st a.tmps) {n : Nat} (hl : E.live n = true) : E.κ n < E.w.heap.size := by
  rw [h.live] at hl
  obtain ⟨b', hb'⟩ := Option.isSome_iff_exists.1 hl
  obtain ⟨_, hg, _⟩ := (h.bx n b' hb').at_
  exact (Array.getElem?_eq_some_iff.1 hg).1
end
section
variable {P : Program} {X : List FuncId} {N : Nat} {w0 : World} {S0 : Base} {o : Oper} {a : Act} {E : Env} {st : St}
theorem pigeon : ∀ (n : Nat) (g : Nat → Nat), (∀ i, i ≤ n → g i < n) → ∃ i j, i < j ∧ j ≤ n ∧ g i = g j
  | 0, g, h => absurd (h 0 (Nat.le_refl 0)) (Nat.not_lt_zero _)
  | n + 1, g, h => by
    by_cases hv : ∃ i, i ≤ n ∧ g i = g (n + 1)
    · obtain ⟨i, hi, he⟩ := hv
      exact ⟨i, n + 1, by omega, Nat.le_refl _, he⟩
    · obtain ⟨i, j, h1, h2, h3⟩ := pigeon n (fun i => if g (n + 1) < g i then g i - 1 else g i) (fun i hi => by
        have a := h i (by omega)
        have b := h (n + 1) (Nat.le_refl _)
        have c : g i ≠ g (n + 1) := fun e => hv ⟨i, hi, e⟩
        split <;> omega)
      refine ⟨i, j, h1, by omega, ?_⟩
      have c1 : g i ≠ g (n + 1) := fun e => hv ⟨i, by omega, e⟩
      have c2 : g j ≠ g (n + 1) := fun e => hv ⟨j, h2, e⟩
      split at h3 <;> split at h3 <;> omega
end
section
variable [Glb] {P : Program} {X : List FuncId} {N : Nat} {w0 : World} {S0 : Base} {o : Oper} {a : Act} {E : Env} {st : St}
theorem SR.spare {b : Array Value} (h : SR N w0 S0 E st b) : ∃ q, E.ρ q = none := by
  apply Classical.byContradiction
  intro hn
  have hs : ∀ q, E.ρ q = some ((E.ρ q).getD 0) := fun q => by
    cases hq : E.ρ q with
    | none => exact absurd ⟨q, hq⟩ hn
    | some g => rfl
  obtain ⟨i, j, h1, _, h3⟩ := pigeon E.w.heap.size (fun q => (E.ρ q).getD 0) (fun i _ => (h.rows i _ (hs i)).2.1)
  have := h.rinj i j _ (hs i) (by rw [h3]; exact hs j)
  omega
theorem SR.adoptRow {b : Array Value} (h : SR N w0 S0 E st b) {q g k : Nat} (hnone : E.ρ q = none) (hg : ∀ m, E.live m = true → E.κ m ≠ g) (hρ : ∀ r, E.ρ r ≠ some g) (hlt : g < E.w.heap.size) (hold : E.B ≤ g) :
    SR N w0 S0 { E with S := fun b o => E.S b o ∨ (b = g ∧ o < k), ρ := upd E.ρ q (some g) } st b := by
  have gr : Grow E { E with S := fun b o => E.S b o ∨ (b = g ∧ o < k), ρ := upd E.ρ q (some g) } := by
    refine ⟨rfl, fun m hm => ⟨hm, rfl⟩, fun r k' hr => ?_, fun b o hs => .inl hs, fun _ _ _ => Same.rfl⟩
    have hrq : r ≠ q := fun e => by rw [e, hnone] at hr; cases hr
    refine ⟨(upd_other _ _ _ _ hrq).trans hr, rfl, fun o => ⟨fun hs => hs.elim id fun hh => absurd (hh.1 ▸ hr) (hρ r), .inl⟩⟩
  refine h.step gr rfl rfl (fun n hl => ⟨rfl, fun o hs => ?_⟩) (fun r k' hr => ?_) (fun r r' k' h1 h2 => ?_) (fun b o hs => ?_) h.below (fun b o hs => ?_) (fun k o _ hk => hk)
  · rcases hs with hs | ⟨hs, _⟩
    · rw [h.live] at hl
      obtain ⟨b', hb'⟩ := Option.isSome_iff_exists.1 hl
      exact (h.bx n b' hb').free o hs
    · exact hg n hl hs
  · have hr : upd E.ρ q (some g) r = some k' := hr
    by_cases hrq : r = q
    · subst hrq
      rw [upd_same] at hr
      cases hr
      exact ⟨hold, hlt, hg⟩
    · rw [upd_other _ _ _ _ hrq] at hr
      exact h.rows r k' hr
  · have h1 : upd E.ρ q (some g) r = some k' := h1
    have h2 : upd E.ρ q (some g) r' = some k' := h2
    by_cases e1 : r = q <;> by_cases e2 : r' = q
    · rw [e1, e2]
    · subst e1
      rw [upd_same] at h1; rw [upd_other _ _ _ _ e2] at h2
      cases h1
      exact absurd h2 (hρ r')
    · subst e2
      rw [upd_same] at h2; rw [upd_other _ _ _ _ e1] at h1
      cases h2
      exact absurd h1 (hρ r)
    · rw [upd_other _ _ _ _ e1] at h1; rw [upd_other _ _ _ _ e2] at h2
      exact h.rinj r r' k' h1 h2
  · rcases hs with hs | ⟨rfl, _⟩
    · exact h.lt b o hs
    · exact hlt
  · rcases hs with hs | ⟨rfl, _⟩
    · exact h.s1 b o hs
    · right; rw [← h.base]; exact hold
theorem fcall_world {f : FuncId} {us : List V} {ts : List T} {rd : List Nat} {e : TypeId} {size : Nat} {xs rest : List T} (hc : convs st.bx us = some (ts, rd)) (hr : FCalls P f ts e size xs rest)
    (h : SR N w0 S0 E st a.tmps) {vs : Array Value} (hlen : vs.size = us.length) (hv : ∀ (i : Nat) (v : Value) (u : V), vs[i]? = some v → us[i]? = some u → VR E v u) :
    Calls P f vs E.w fun en w' => ∃ (v : Value) (us : List Value), en = .returned (valRest v us) ∧ Below E.w.heap.size E.w w' ∧ Fresh E.w w' v e size xs ∧
      us.length = rest.length ∧ (∀ (i : Nat) (u : Value) (t : T), us[i]? = some u → rest[i]? = some t → t.flat = true ∧ Rep (fun _ _ => False) w' u t) ∧ SR N w0 S0 { E with w := w' } st a.tmps := by
  obtain ⟨c1, c2⟩ := convs_sound h.bx hc
  have hlt : ∀ b x, Sx E rd b x → b < E.w.heap.size := by
    rintro b x (h1 | ⟨n, _, hl, rfl⟩)
    · exact h.lt b x h1
    · exact klive h hl
  have hcall := hr.2 (Sx E rd) E.w vs.toList hlt (h.globX rd) (by simp; omega) (fun i v t hvi ht => by
    have hi : i < us.length := by rw [c1]; exact (List.getElem?_eq_some_iff.1 ht).1
    exact c2 i v _ t (hv i v _ (by simpa using hvi) (List.getElem?_eq_getElem hi)) (List.getElem?_eq_getElem hi) ht)
  refine Calls.mono (by simpa using hcall) ?_
  rintro en w' ⟨v, us', rfl, hb, hfr, hl, hrest⟩
  exact ⟨v, us', rfl, hb, hfr, hl, hrest, h.world hb E.S (fun b o => ⟨.inl, fun hh => hh.elim id fun k => k.1⟩)⟩
theorem wpX_wp (h : SR N w0 S0 E st a.tmps) (hd : okDst N o.dst) {x : DOp} (hl : lowOp P o.op = some x) {K : St → Prop} (hw : wpO P (markD X o.dst x) o.dst st K) {Q : Exit → Act → World → Prop} :
    o.wp P a E.w (fun a' w' => ∃ st', K st' ∧ Next' N w0 S0 a st' a' w') Q := by
  have plain : wpO P x o.dst st K → o.wp P a E.w (fun a' w' => ∃ st', K st' ∧ Next' N w0 S0 a st' a' w') Q := fun hw => by
    obtain ⟨st', hk, hh⟩ := wpO_wp h hd hl hw (Q := Q)
    exact Oper.wp_mono (fun a' w' hn => ⟨st', hk, hn⟩) hh
  have did : ∀ {st' : St}, K st' → Did P N w0 S0 o a E st' → o.wp P a E.w (fun a' w' => ∃ st', K st' ∧ Next' N w0 S0 a st' a' w') Q := by
    rintro st' hk ⟨nx, v, E', hr, hnx, hsr⟩
    unfold Oper.wp
    rw [hr]
    rcases hnx with rfl | ⟨rfl, rfl⟩
    · exact ⟨_, hk, E', rfl, hsr, by cases o.dst <;> rfl⟩
    · exact ⟨_, hk, E', rfl, hsr, by cases o.dst <;> rfl⟩
  cases x with
  | call f args =>
    have inl : WC P f (args.map (ev st.sl)) o.dst st K → o.wp P a E.w (fun a' w' => ∃ st', K st' ∧ Next' N w0 S0 a st' a' w') Q := fun hw => by
      obtain ⟨hc, hw⟩ := hw
      obtain ⟨⟨callee, as, argTypes⟩, ho, hl'⟩ := lowOp_call hl rfl
      obtain ⟨rfl, has⟩ := (lowCall_inv hl').1 f args rfl
      obtain ⟨h1, h2⟩ := args_vr h.sl has
      have hex := run_args (E := E) (a := a) (caps := #[]) ho rfl hc
      rw [Array.append_empty] at hex
      have := hw N w0 S0 E a.tmps (as.map a.eval) h (by simp [h1]) h2 (fun n hn => by rw [hn] at hd; exact hd)
      unfold Oper.wp
      rw [hex]
      refine Calls.mono this ?_
      rintro e w' ⟨v, rfl, E', st', rfl, hk, hsr⟩
      refine ⟨st', hk, E', rfl, ?_, by cases o.dst <;> rfl⟩
      cases hdst : o.dst with
      | none => rw [hdst] at hsr; exact hsr
      | some n => rw [hdst] at hsr; exact hsr
    have low : wpO P (markX X (.call f args)) o.dst st K → o.wp P a E.w (fun a' w' => ∃ st', K st' ∧ Next' N w0 S0 a st' a' w') Q := fun hw => by
      have hw : wpO P (cond (X.contains f) (.inl f args) (.call f args)) o.dst st K := hw
      cases hX : X.contains f with
      | false => rw [hX] at hw; exact plain hw
      | true => rw [hX] at hw; exact inl hw
    cases hdst : o.dst with
    | none =>
      rw [hdst] at hw
      exact low (by rw [hdst]; exact hw)
    | some d =>
      have hw' : wpO P (cond (X.contains (3000000 + d)) (.fcall f args) (match mset X d with
          | [] => markX X (.call f args)
          | n :: ns => .mcall (n :: ns) f args)) o.dst st K := by
        rw [hdst] at hw ⊢
        exact hw
      cases hX : X.contains (3000000 + d) with
      | false =>
        rw [hX] at hw'
        cases hM : mset X d with
        | nil => rw [hM] at hw'; exact low hw'
        | cons n ns =>
          rw [hM] at hw'
          obtain ⟨need, fr, m, b, r, h1, h2, h3, _, _, h6⟩ := hw'
          exact inl (h1 o.dst st K h2 h3 h6)
      | true =>
        rw [hX] at hw'
        have hw : wpFcall P f (args.map (ev st.sl)) o.dst st K := hw'
        rw [hdst] at hw
        unfold wpFcall at hw
        simp only at hw
        split at hw
        · rename_i ts rd hc
          obtain ⟨e, size, xs, hF, hk⟩ := hw
          obtain ⟨q, hq⟩ := h.spare
          obtain ⟨⟨callee, as, argTypes⟩, ho, hl'⟩ := lowOp_call hl rfl
          obtain ⟨rfl, has⟩ := (lowCall_inv hl').1 f args rfl
          obtain ⟨h1, h2⟩ := args_vr h.sl has
          have hex := run_args (E := E) (a := a) (caps := #[]) ho rfl hF.1
          rw [Array.append_empty] at hex
          have hd' : okDst N (some d) := by rw [hdst] at hd; exact hd
          have klt : ∀ m, E.live m = true → E.κ m < E.w.heap.size := fun m hm => klive h hm
          have hk := hk q
          unfold Oper.wp
          rw [hex]
          refine Calls.mono (fcall_world (a := a) hc hF h (by simp [h1]) h2) ?_
          rintro en w' ⟨v, us, rfl, hb, hfr, hul, _, h'⟩
          have hus : us = [] := List.eq_nil_of_length_eq_zero hul
          subst hus
          obtain ⟨cells, k1, k2, k3⟩ := hfr.ex
          rcases k1.2 with ⟨rfl, hn⟩ | ⟨g, cap, cur, rfl, hbg, hg, hcap, hm, hs, htk⟩
          · have hx : xs = [] := List.eq_nil_of_length_eq_zero hn
            subst hx
            refine ⟨_, hk, { E with w := w' }, rfl, ?_, by cases o.dst <;> rfl⟩
            rw [hdst]
            exact h'.putO (d := some d) hd' (.own _ _ _ _ _ (Owns.nil _ _ _))
          · have hlt : g < w'.heap.size := (Array.getElem?_eq_some_iff.1 hg).1
            have h2 := h'.adoptRow (q := q) (g := g) (k := (xs.flatMap T.cells).length) hq (fun m hm => by have := klt m hm; show E.κ m ≠ g; omega) (fun r hr => by
              have := (h.rows r g hr).2.1; omega) hlt (by show E.B ≤ g; rw [h.base]; have := h.below.size; omega)
            refine ⟨_, hk, { ({ E with w := w' } : Env) with S := fun b o => E.S b o ∨ (b = g ∧ o < (xs.flatMap T.cells).length), ρ := upd E.ρ q (some g) }, rfl, ?_, by cases o.dst <;> rfl⟩
            rw [hdst]
            refine h2.putO (d := some d) hd' (.own _ _ _ _ _ ⟨⟨cells, ⟨k1.1, .inr ⟨g, cap, cur, rfl, ?_, hg, hcap, hm, hs, htk⟩⟩, k2, fun i x t hx ht => (k3 i x t hx ht).of_flat (hfr.flat t (List.mem_of_getElem? ht))⟩, hfr.uni, hfr.one, fun g' hg' => ?_⟩)
            · show E.B ≤ g; rw [h.base]; have := h.below.size; omega
            · have hg2 : g = g' := Option.some.inj (show some g = some g' from hg')
              subst hg2
              refine ⟨upd_same _ _ _, fun o => ?_⟩
              show (E.S g o ∨ (g = g ∧ o < _)) ↔ _
              exact ⟨fun hh => hh.elim (fun hs => absurd (h.lt g o hs) (by omega)) (·.2), fun hh => .inr ⟨rfl, hh⟩⟩
        · exact hw.elim
  | append t e size bytes s x =>
    cases s with
    | const c => exact plain (by unfold markD at hw; exact hw)
    | tmp k =>
      have hw : wpO P (cond (X.contains (8000000 + k)) (cond (X.contains (9000000 + k)) (.appV size bytes (.tmp k) x) (.appT size bytes (.tmp k) x)) (.append t e size bytes (.tmp k) x)) o.dst st K := by
        unfold markD at hw
        exact hw
      cases hX : X.contains (8000000 + k) with
      | false => rw [hX] at hw; exact plain hw
      | true =>
      cases hX9 : X.contains (9000000 + k) with
      | true =>
        rw [hX, hX9] at hw
        obtain ⟨Xo, Y, u, j, zs, ho, hku, hu, hj, hz, rfl, rfl, hsz, hby, hXo, hY⟩ := lowOp_append hl
        obtain ⟨z, hjz, hzs⟩ := zero_info hj hz
        have hvX := ev_sound h.sl hXo
        have hvY := ev_sound h.sl hY
        have hw : wpO P (.appV j.size j.bytes (.tmp k) x) o.dst st K := hw
        cases hdst : o.dst with
        | none => rw [hdst] at hw; exact hw.elim
        | some d =>
          rw [hdst] at hw
          have hw : wpAppV j.size j.bytes d (d + st.off) (ev st.sl (.tmp k)) (ev st.sl x) st K := hw
          unfold wpAppV at hw
          split at hw
          · rename_i n ys hs hq
            simp only [cond_eq_ite] at hw
            split at hw
            · rename_i hnr
              obtain ⟨⟨rfl, hpos, hroom⟩, hk⟩ := hw
              obtain ⟨news, hsy⟩ := srcT_sound h hvY hs hsz
              have hA : ∃ A, a.eval Xo = .slice A 0 0 := by
                cases hv : ev st.sl (.tmp k) with
                | t y =>
                  rw [hv] at hnr hvX
                  cases y <;> first | exact absurd hnr Bool.false_ne_true | skip
                  have := hvX.inv_t
                  generalize a.eval Xo = v at this
                  cases this; exact ⟨none, rfl⟩
                | full sz xs =>
                  rw [hv] at hnr hvX
                  cases xs with
                  | cons x xs => exact absurd hnr Bool.false_ne_true
                  | nil =>
                    generalize a.eval Xo = v at hvX
                    cases hvX with
                    | full A len _ _ hr =>
                      cases hr with
                      | slice _ _ _ _ _ _ _ _ hlen => cases hlen; exact ⟨A, rfl⟩
                | _ => rw [hv] at hnr; exact absurd hnr Bool.false_ne_true
              obtain ⟨A, hA⟩ := hA
              obtain ⟨v', E', hrun, hsr, hvr⟩ := appV_did (ty := o.type) (t := t) (e := e) (u := u) (A := A) h hu hj hjz hby hsy hku hpos hroom hq
              refine did hk ⟨.value v', v', E', exec_builtin ho ?_, .inl rfl, ?_⟩
              · simp [builtin, hA, hrun]
              · rw [hdst] at hd ⊢
                exact hsr.putO (d := some d) hd hvr
            · exact hw.elim
          · exact hw.elim
      | false =>
        rw [hX, hX9] at hw
        obtain ⟨Xo, Y, u, j, zs, ho, hku, hu, hj, hz, rfl, rfl, hsz, hby, hXo, hY⟩ := lowOp_append hl
        obtain ⟨z, hjz, hzs⟩ := zero_info hj hz
        have hvX := ev_sound h.sl hXo
        have hvY := ev_sound h.sl hY
        have hw : wpR (eff (.appT j.size j.bytes (.tmp k) x) (st.nm o.dst) st.sl st.bx) o.dst st K := hw
        have go : ∀ {A : Option Addr} {len : Nat} {xs ys : List T}, a.eval Xo = .slice A len len → Rep E.S E.w (.slice A len len) (.slice j.size xs) → (∃ news, SrcR P E (a.eval Y) j.size ys news) → (xs.length + ys.length) * j.bytes ≤ 140737488355328 →
            K (st.app o.dst { val := .t (.slice j.size (xs ++ ys)) }) → o.wp P a E.w (fun a' w' => ∃ st', K st' ∧ Next' N w0 S0 a st' a' w') Q := fun hX hr ⟨news, hsy⟩ hroom hk => by
          obtain ⟨v', E', hrun, hsr, hrep⟩ := appT_did (ty := o.type) (t := t) (e := e) (u := u) h hu hj hjz hzs hsz hby hr hsy hku hroom
          refine did hk ⟨.value v', v', E', exec_builtin ho ?_, .inl rfl, ?_⟩
          · simp [builtin, hX, hrun]
          · rw [app_t]; exact hsr.putO hd (.t _ _ hrep)
        have src : ∀ {n : Nat} {ys : List T}, srcT st.bx (ev st.sl x) = some (.slice n ys) → (n = j.size ∨ ys = []) → ∃ news, SrcR P E (a.eval Y) j.size ys news := fun hs hn => by
          rcases hn with rfl | rfl
          · exact srcT_sound h hvY hs hsz
          · exact srcT_empty h hvY hs
        have nilX : ev st.sl (.tmp k) = .t .nil → a.eval Xo = .slice none 0 0 := fun hv => by
          rw [hv] at hvX
          have := hvX.inv_t
          generalize a.eval Xo = v at this
          cases this; rfl
        have nilR : Rep E.S E.w (.slice none 0 0) (.slice j.size []) :=
          .slice none 0 0 0 0 j.size [] (fun _ => undef) rfl (Nat.le_refl _) (fun x hx => by simp at hx) (fun t ht => by simp at ht) (fun hh => by simp at hh) (fun i hi => by simp at hi) (fun i t ht => by simp at ht)
        unfold eff at hw
        simp only at hw
        split at hw
        · rename_i n ys hs
          split at hw
          · rename_i sz xs hv
            simp only [cond_eq_ite] at hw
            split at hw
            · rename_i hb
              have hb := Nat.eq_of_beq_eq_true hb
              subst hb
              obtain ⟨⟨hn, hroom⟩, hk⟩ := hw
              rw [hv] at hvX
              generalize hXv : a.eval Xo = vX at hvX
              cases hvX with
              | full A len _ _ hr => exact go hXv hr (src hs hn) hroom hk
            · exact hw.elim
          · rename_i hv
            obtain ⟨⟨hn, hroom⟩, hk⟩ := hw
            exact go (nilX hv) nilR (src hs hn) (by simpa using hroom) (by simpa using hk)
          · exact hw.elim
        · rename_i hs
          split at hw
          · rename_i sz xs hv
            simp only [cond_eq_ite] at hw
            split at hw
            · rename_i hb
              have hb := Nat.eq_of_beq_eq_true hb
              subst hb
              obtain ⟨hroom, hk⟩ := hw
              rw [hv] at hvX
              generalize hXv : a.eval Xo = vX at hvX
              cases hvX with
              | full A len _ _ hr => exact go (ys := []) hXv hr (srcT_nil h hvY hs) (by simpa using hroom) (by simpa using hk)
            · exact hw.elim
          · rename_i hv
            obtain ⟨_, hk⟩ := hw
            exact go (ys := []) (nilX hv) nilR (srcT_nil h hvY hs) (by simp) (by simpa using hk)
          · exact hw.elim
        · exact hw.elim
  | buildS e size n zs parts =>
    obtain ⟨t, ps, j, ho, hu, hj, hz, rfl, hsz, hbig, qs, hqs, hin, rfl⟩ := lowOp_buildS hl
    have mk : ∀ {es : List T} {c : Prop} {d : Nat}, o.dst = some d → fillS st.sl j.size (List.replicate n (cond (Nat.beq j.size 1) (zs.headD .nil) (.agg zs))) True (qs.map fun p => (p.1, p.2.2)) = some (es, c) → c →
        Did P N w0 S0 o a E (st.app (some d) { val := .t (.slice j.size es) }) ∧ Did P N w0 S0 o a E (st.app (some d) { val := .full j.size es }) := fun hdst hf hc =>
      buildT_did h (by rw [hdst] at hd; exact hd) ho hu hj hz hsz hbig hqs hin hf hc hdst
    have low : wpO P (markX X (.buildS e j.size n zs (qs.map fun p => (p.1, p.2.2)))) o.dst st K → o.wp P a E.w (fun a' w' => ∃ st', K st' ∧ Next' N w0 S0 a st' a' w') Q := fun hw => by
      have hw : wpO P (cond (X.contains 2000000) (.buildT j.size n zs (qs.map fun p => (p.1, p.2.2))) (.buildS e j.size n zs (qs.map fun p => (p.1, p.2.2)))) o.dst st K := hw
      cases hX : X.contains 2000000 with
      | false => rw [hX] at hw; exact plain hw
      | true =>
        rw [hX] at hw
        have hw : wpR (eff (.buildT j.size n zs (qs.map fun p => (p.1, p.2.2))) (st.nm o.dst) st.sl st.bx) o.dst st K := hw
        cases hdst : o.dst with
        | none => rw [hdst] at hw; exact hw.elim
        | some d =>
          rw [hdst] at hw
          simp only [eff, St.nm] at hw
          cases hf : fillS st.sl j.size (List.replicate n (cond (Nat.beq j.size 1) (zs.headD .nil) (.agg zs))) True (qs.map fun p => (p.1, p.2.2)) with
          | none => rw [hf] at hw; exact hw.elim
          | some ec =>
            obtain ⟨es, c⟩ := ec
            rw [hf] at hw
            obtain ⟨hc, hk⟩ := hw
            exact did hk (mk hdst hf hc).1
    cases hdst : o.dst with
    | none =>
      rw [hdst] at hw low
      unfold markD at hw
      exact low hw
    | some d =>
      have hw' : wpO P (cond (X.contains (8000000 + d)) (.buildF j.size n zs (qs.map fun p => (p.1, p.2.2))) (markX X (.buildS e j.size n zs (qs.map fun p => (p.1, p.2.2))))) o.dst st K := by
        rw [hdst] at hw ⊢
        unfold markD at hw
        exact hw
      cases hX : X.contains (8000000 + d) with
      | false => rw [hX] at hw'; exact low hw'
      | true =>
        rw [hX] at hw'
        have hw : wpR (eff (.buildF j.size n zs (qs.map fun p => (p.1, p.2.2))) (st.nm o.dst) st.sl st.bx) o.dst st K := hw'
        rw [hdst] at hw
        simp only [eff, St.nm] at hw
        cases hf : fillS st.sl j.size (List.replicate n (cond (Nat.beq j.size 1) (zs.headD .nil) (.agg zs))) True (qs.map fun p => (p.1, p.2.2)) with
        | none => rw [hf] at hw; exact hw.elim
        | some ec =>
          obtain ⟨es, c⟩ := ec
          rw [hf] at hw
          obtain ⟨hc, hk⟩ := hw
          exact did hk (mk hdst hf hc).2
  | _ => exact plain (by unfold markD at hw; exact hw)
end
section
variable {P : Program} {X : List FuncId} {N : Nat} {w0 : World} {S0 : Base} {o : Oper} {a : Act} {E : Env} {st : St}
theorem skip_vr (E : Env) : VR E undef skipV := .t _ _ (.tup #[] [] rfl (fun i x t hx _ => by simp at hx))
theorem skip_inv {v : Value} (h : VR E v skipV) : v = .tuple #[] := by
  cases h with
  | t _ _ h =>
    cases h with
    | tup cs ts hs _ =>
      have : cs = #[] := by
        cases cs with
        | mk l => cases l with
          | nil => rfl
          | cons a r => simp at hs
      rw [this]
end
section
variable [Glb] {P : Program} {X : List FuncId} {N : Nat} {w0 : World} {S0 : Base} {o : Oper} {a : Act} {E : Env} {st : St}
theorem wpI_wp (h : SR N w0 S0 E st a.tmps) {ops : Array Oper} {k : Nat} (ho : ops[k]? = some o) {i : DI} (hl : lowI P N X ops o = some i) {K : St → Prop} (hw : wpI P i st K) {Q : Exit → Act → World → Prop} :
    wpOp P ops Q k (fun a' w' => ∃ st', K st' ∧ Next' N w0 S0 a st' a' w') a E.w := by
  obtain ⟨⟨x, h1, hx⟩, h2, h3, _, h4⟩ := lowI_inv hl
  have run : wpO P i.op i.dst st K → Region.wanted o (yielded ops a.tmps) = true → wpOp P ops Q k (fun a' w' => ∃ st', K st' ∧ Next' N w0 S0 a st' a' w') a E.w := fun hw hwant => by
    rw [h2, hx] at hw
    unfold wpOp
    simp only [ho, hwant, if_true]
    exact .inl (wpX_wp h h3 h1 hw)
  have skip : K (st.set i.dst skipV) → Region.wanted o (yielded ops a.tmps) = false → wpOp P ops Q k (fun a' w' => ∃ st', K st' ∧ Next' N w0 S0 a st' a' w') a E.w := fun hk hwant => by
    unfold wpOp
    simp only [ho, hwant, Bool.false_eq_true, if_false]
    refine ⟨_, hk, ?_⟩
    rw [h2]
    exact ⟨E, rfl, h.putO h3 (skip_vr E), by cases o.dst <;> rfl⟩
  unfold wpI at hw
  rcases h4 with ⟨hg, hi⟩ | ⟨j, want, g, hg, hj, hi, hlt⟩
  · rw [hi] at hw
    exact run hw (by unfold Region.wanted; rw [hg])
  · rw [hi] at hw
    simp only at hw
    have yl : ∀ b, st.sl g = .t (.bool b) → yielded ops a.tmps j = some b := fun b hb => by
      have hv := h.sl g
      rw [hb] at hv
      have hv := hv.inv_bool
      have hsz : g < a.tmps.size := by rw [h.size]; exact hlt
      have : a.tmps[g]? = some (.bool b) := by
        rw [Array.getElem?_eq_getElem hsz]
        simpa [hsz] using hv
      unfold yielded
      rw [hj]
      simp [this]
    have wn : ∀ b, st.sl g = .t (.bool b) → Region.wanted o (yielded ops a.tmps) = (b == want) := fun b hb => by
      unfold Region.wanted
      rw [hg]
      simp only [yl b hb]
      cases b <;> cases want <;> rfl
    split at hw
    · rename_i b hb
      have hwn := wn b hb
      cases b <;> cases want <;> simp only at hw
      · exact run hw hwn
      · exact skip hw hwn
      · exact skip hw hwn
      · exact run hw hwn
    · rename_i hb
      refine skip hw ?_
      have hv := skip_inv (hb ▸ h.sl g)
      unfold Region.wanted
      rw [hg]
      have : yielded ops a.tmps j = none := by
        have hsz : g < a.tmps.size := by rw [h.size]; exact hlt
        have : a.tmps[g]? = some (.tuple #[]) := by
          rw [Array.getElem?_eq_getElem hsz]
          simpa [hsz] using hv
        unfold yielded
        rw [hj]
        simp [this]
      simp only [this]
      rfl
    · exact hw.elim
end
section
variable {P : Program} {X : List FuncId} {N : Nat} {w0 : World} {S0 : Base} {o : Oper} {a : Act} {E : Env} {st : St}
theorem lowIs_get {ops : Array Oper} : ∀ {l : List Oper} {is : List DI}, lowIs P N X ops l = some is → l.length = is.length ∧ ∀ (k : Nat) (o : Oper), l[k]? = some o → ∃ i, is[k]? = some i ∧ lowI P N X ops o = some i
  | [], is, h => by simp [lowIs] at h; subst h; exact ⟨rfl, fun k o hk => by simp at hk⟩
  | o :: l, is, h => by
    unfold lowIs at h
    split at h
    · rename_i d ds hd hds
      cases h
      obtain ⟨h1, h2⟩ := lowIs_get hds
      refine ⟨by simp [h1], fun k o' hk => ?_⟩
      cases k with
      | zero => simp at hk; subst hk; exact ⟨d, rfl, hd⟩
      | succ k => simp at hk; simpa using h2 k o' hk
    · cases h
end
section
variable [Glb] {P : Program} {X : List FuncId} {N : Nat} {w0 : World} {S0 : Base} {o : Oper} {a : Act} {E : Env} {st : St}
def pick' (is : List DI) (ks : List Nat) : List DI := ks.map fun k => is[k]?.getD default
theorem wpIs_wp {ops : Array Oper} {is : List DI} (hl : lowIs P N X ops ops.toList = some is) {Q : Exit → Act → World → Prop} {K : St → Prop} {ds : List Deferred} (hQ : ∀ a w, EndIs N w0 S0 ds K a w → Q .normal a w) :
    ∀ (ks : List Nat) (_ : ∀ k ∈ ks, k < ops.size) {a : Act} {E : Env} {st : St} (_ : SR N w0 S0 E st a.tmps) (_ : a.defers = ds) (_ : wpIs P (pick' is ks) st K), wpOps P ops Q ks a E.w
  | [], _, a, E, st, h, hd, hw => hQ a E.w ⟨E, st, rfl, h, hd, hw⟩
  | k :: ks, hk, a, E, st, h, hd, hw => by
    have hlt := hk k (by simp)
    have ho : ops[k]? = some ops[k] := Array.getElem?_eq_getElem hlt
    obtain ⟨i, hi, hli⟩ := (lowIs_get hl).2 k _ (Array.getElem?_toList.trans ho)
    have hw' : wpI P i st fun st' => wpIs P (pick' is ks) st' K := by
      have := hw
      unfold pick' at this
      rw [List.map_cons, hi] at this
      exact this
    rw [wpOps_cons]
    refine wpOp_mono ?_ (wpI_wp h ho hli hw' (Q := Q))
    rintro a' w' ⟨st', hk', E', rfl, hsr, hdf⟩
    exact wpIs_wp hl hQ ks (fun k hk' => hk k (List.mem_cons_of_mem _ hk')) hsr (hdf.trans hd) hk'
end
section
variable {P : Program} {X : List FuncId} {N : Nat} {w0 : World} {S0 : Base} {o : Oper} {a : Act} {E : Env} {st : St}
theorem pick_range (is : List DI) : pick' is (List.range is.length) = is := by
  apply List.ext_getElem?
  intro k
  unfold pick'
  by_cases hk : k < is.length
  · simp [hk]
  · simp [hk]
end
section
variable [Glb] {P : Program} {X : List FuncId} {N : Nat} {w0 : World} {S0 : Base} {o : Oper} {a : Act} {E : Env} {st : St}
theorem region_wp (h : SR N w0 S0 E st a.tmps) {ops : Array Oper} {is : List DI} (hl : lowIs P N X ops ops.toList = some is) {Q : Exit → Act → World → Prop} {K : St → Prop} (hQ : ∀ a' w, EndIs N w0 S0 a.defers K a' w → Q .normal a' w)
    (hw : wpIs P is st K) {id : Nat} : (Code.region id ops false).wp P Q a E.w := by
  refine wp_region (wpIs_wp hl hQ _ (fun k hk => by simpa using hk) h rfl ?_)
  have : ops.size = is.length := by simpa using (lowIs_get hl).1
  rw [this, pick_range]
  exact hw
end
end Go.DL
end
section
namespace Go.DL
open Go.RowKit
section
variable [Glb] {P : Program}
end
section
variable {P : Program}
theorem bx12 {v : V} {n : Nat} (h : n ∈ bx1 v) : n ∈ bx2 v := by
  cases v with
  | fn f caps => simp [bx1] at h
  | _ => exact h
theorem bx23 {v : V} {n : Nat} (h : n ∈ bx2 v) : n ∈ bxs v := by
  cases v with
  | fn f caps =>
    obtain ⟨c, h1, h2⟩ := List.mem_flatMap.1 h
    exact List.mem_flatMap.2 ⟨c, h1, bx12 h2⟩
  | _ => exact h
theorem conv1_local {b1 b2 : Nat → Option BX} {v : V} (h : ∀ n ∈ bx1 v, ∀ b, b1 n = some b → b2 n = some b) {r : T × List Nat} (hc : conv1 b1 v = some r) : conv1 b2 v = some r := by
  cases v with
  | ptr n off =>
    simp only [conv1] at hc ⊢
    cases hb : b1 n with
    | none => rw [hb] at hc; cases hc
    | some b => rw [hb] at hc; rw [h n (by simp [bx1]) b hb]; exact hc
  | view n off len size =>
    simp only [conv1] at hc ⊢
    cases hb : b1 n with
    | none => rw [hb] at hc; cases hc
    | some b => rw [hb] at hc; rw [h n (by simp [bx1]) b hb]; exact hc
  | mp n =>
    simp only [conv1] at hc ⊢
    cases hb : b1 n with
    | none => rw [hb] at hc; cases hc
    | some b => rw [hb] at hc; rw [h n (by simp [bx1]) b hb]; exact hc
  | _ => exact hc
theorem convL_local {b1 b2 : Nat → Option BX} : ∀ {vs : List V}, (∀ n ∈ vs.flatMap bx1, ∀ b, b1 n = some b → b2 n = some b) → ∀ {r : List T × List Nat}, convL b1 vs = some r → convL b2 vs = some r
  | [], _, r, hc => hc
  | v :: vs, h, r, hc => by
    unfold convL at hc ⊢
    split at hc
    · rename_i x r1 xs rs hx hxs
      rw [conv1_local (fun n hn => h n (by simp [hn])) hx, convL_local (fun n hn => h n (by simp only [List.flatMap_cons, List.mem_append]; exact .inr hn)) hxs]
      exact hc
    · cases hc
theorem conv_local {b1 b2 : Nat → Option BX} {v : V} (h : ∀ n ∈ bx2 v, ∀ b, b1 n = some b → b2 n = some b) {r : T × List Nat} (hc : conv b1 v = some r) : conv b2 v = some r := by
  cases v with
  | fn f caps =>
    unfold conv at hc ⊢
    simp only at hc ⊢
    split at hc
    · rename_i ts rd hts
      rw [convL_local h hts]
      exact hc
    · cases hc
  | top => exact conv1_local (v := .top) h hc
  | t x => exact conv1_local (v := .t x) h hc
  | ptr n off => exact conv1_local (v := .ptr n off) h hc
  | view n off len size => exact conv1_local (v := .view n off len size) h hc
  | own r e n xs => exact conv1_local (v := .own r e n xs) h hc
  | full n xs => exact conv1_local (v := .full n xs) h hc
  | tup vs => exact conv1_local (v := .tup vs) h hc
  | agv vs => exact conv1_local (v := .agv vs) h hc
  | raw x => exact conv1_local (v := .raw x) h hc
  | mp n => exact conv1_local (v := .mp n) h hc
theorem convs_local {b1 b2 : Nat → Option BX} : ∀ {vs : List V}, (∀ n ∈ vs.flatMap bx2, ∀ b, b1 n = some b → b2 n = some b) → ∀ {r : List T × List Nat}, convs b1 vs = some r → convs b2 vs = some r
  | [], _, r, hc => hc
  | v :: vs, h, r, hc => by
    unfold convs at hc ⊢
    split at hc
    · rename_i x r1 xs rs hx hxs
      rw [conv_local (fun n hn => h n (by simp [hn])) hx, convs_local (fun n hn => h n (by simp only [List.flatMap_cons, List.mem_append]; exact .inr hn)) hxs]
      exact hc
    · cases hc
theorem ev_eq {s1 s2 : Nat → V} {x : O} (h : ∀ m ∈ x.reads, s2 m = s1 m) : ev s2 x = ev s1 x := by
  cases x with
  | tmp n => exact h n (by simp [O.reads])
  | const t => rfl
theorem evs_eq {s1 s2 : Nat → V} : ∀ {xs : List O}, (∀ m ∈ osReads xs, s2 m = s1 m) → xs.map (ev s2) = xs.map (ev s1)
  | [], _ => rfl
  | x :: xs, h => by
    rw [List.map_cons, List.map_cons, ev_eq (fun m hm => h m (by simp [osReads, hm])), evs_eq (fun m hm => h m (by simp [osReads, hm]))]
theorem evo_eq {s1 s2 : Nat → V} {x : Option O} (h : ∀ m ∈ optO x, s2 m = s1 m) : x.map (ev s2) = x.map (ev s1) := by
  cases x with
  | none => rfl
  | some x => rw [Option.map_some, Option.map_some, ev_eq h]
theorem fillT_eq {s1 s2 : Nat → V} : ∀ {ps : List (Nat × Nat × O)} {zs : List T} {c : Prop}, (∀ m ∈ osReads (ps.map (·.2.2)), s2 m = s1 m) → fillT s2 zs c ps = fillT s1 zs c ps
  | [], _, _, _ => rfl
  | (off, size, x) :: ps, zs, c, h => by
    unfold fillT
    rw [ev_eq (s1 := s1) (fun m hm => h m (by simp [osReads, hm]))]
    split
    · rfl
    · rw [fillT_eq fun m hm => h m (by simp [osReads, hm])]
    · rw [fillT_eq fun m hm => h m (by simp [osReads, hm])]
    · rfl
theorem fillV_eq {s1 s2 : Nat → V} : ∀ {ps : List (Nat × Nat × O)} {zs : List V} {c : Prop}, (∀ m ∈ osReads (ps.map (·.2.2)), s2 m = s1 m) → fillV s2 zs c ps = fillV s1 zs c ps
  | [], zs, c, _ => rfl
  | (off, size, x) :: rest, zs, c, h => by
    unfold fillV
    rw [ev_eq (s1 := s1) (fun m hm => h m (by simp [osReads, hm]))]
    have hr : ∀ m ∈ osReads (rest.map (·.2.2)), s2 m = s1 m := fun m hm => h m (by simp [osReads, hm])
    split
    · rfl
    · rw [fillV_eq hr]
    · rfl
    · rfl
    · rfl
    · rw [fillV_eq hr]
theorem fillS_eq {s1 s2 : Nat → V} {size : Nat} : ∀ {ps : List (Nat × O)} {es : List T} {c : Prop}, (∀ m ∈ osReads (ps.map (·.2)), s2 m = s1 m) → fillS s2 size es c ps = fillS s1 size es c ps
  | [], _, _, _ => rfl
  | (i, x) :: ps, es, c, h => by
    unfold fillS
    rw [ev_eq (s1 := s1) (fun m hm => h m (by simp [osReads, hm]))]
    split
    · rfl
    · rw [fillS_eq fun m hm => h m (by simp [osReads, hm])]
    · rw [fillS_eq fun m hm => h m (by simp [osReads, hm])]
    · rfl
theorem mem_bxs_ev {sl : Nat → V} {x : O} {n : Nat} (h : n ∈ bxs (ev sl x)) : ∃ m ∈ x.reads, n ∈ bxs (sl m) := by
  cases x with
  | tmp m => exact ⟨m, by simp [O.reads], h⟩
  | const t => simp [ev, bxs, bx1] at h
theorem mem_bxs_evs {sl : Nat → V} : ∀ {xs : List O} {n : Nat}, n ∈ (xs.map (ev sl)).flatMap bx2 → ∃ m ∈ osReads xs, n ∈ bxs (sl m)
  | [], n, h => by simp at h
  | x :: xs, n, h => by
    simp only [List.map_cons, List.flatMap_cons, List.mem_append] at h
    rcases h with h | h
    · obtain ⟨m, h1, h2⟩ := mem_bxs_ev (bx23 h)
      exact ⟨m, by simp [osReads, h1], h2⟩
    · obtain ⟨m, h1, h2⟩ := mem_bxs_evs h
      exact ⟨m, by simp [osReads, h1], h2⟩
theorem srcT_local {b1 b2 : Nat → Option BX} {v : V} (h : ∀ n ∈ bx1 v, ∀ b, b1 n = some b → b2 n = some b) {r : T} (hc : srcT b1 v = some r) : srcT b2 v = some r := by
  unfold srcT at hc ⊢
  split at hc
  · exact hc
  · split at hc
    · rename_i t rd hq
      rw [conv1_local h hq]
      exact hc
    · cases hc
  · exact hc
end
section
variable [Glb] {P : Program}
theorem effO_local {x : DOp} (hx : x.cls.std = true) {d : Option Nat} {s1 s2 : St} (hs : ∀ m ∈ x.reads, s2.sl m = s1.sl m) (hb : ∀ n ∈ x.tch s1.sl, ∀ b, s1.bx n = some b → s2.bx n = some b)
    (hd : x.cls = .make → ∀ n, d = some n → s1.bx n = none → s2.bx n = none) (hM : x.cls = .mut → s2.bx = s1.bx) {e : Eff} (h : effO P x d s1 e) : effO P x d s2 e := by
  have pure : eff x d s2.sl s2.bx = eff x d s1.sl s1.bx → inR (eff x d s1.sl s1.bx) e → inR (eff x d s2.sl s2.bx) e := fun h1 h2 => by rw [h1]; exact h2
  cases x with
  | append | appV | buildS | inl | fcall | clr | mdel | mclr | mrng | mnext | ment | copy => exact absurd hx Bool.false_ne_true
  | mov x => exact pure (by simp only [eff, ev_eq hs]) h
  | pick c a b =>
    refine pure ?_ h
    simp only [DOp.reads, List.mem_append] at hs
    simp only [eff]
    rw [ev_eq fun m hm => hs m (.inl (.inl hm)), ev_eq fun m hm => hs m (.inl (.inr hm)), ev_eq fun m hm => hs m (.inr hm)]
  | alloc zs =>
    cases d with
    | none => exact h
    | some n =>
      have h : inR (eff (.alloc zs) (some n) s1.sl s1.bx) e := h
      show inR (eff (.alloc zs) (some n) s2.sl s2.bx) e
      simp only [eff] at h ⊢
      cases hb1 : s1.bx n with
      | some c => rw [hb1] at h; exact h.elim
      | none => rw [hd rfl n rfl hb1]; rw [hb1] at h; exact h
  | mkmap ag sh =>
    cases d with
    | none => exact h
    | some n =>
      have h : inR (eff (.mkmap ag sh) (some n) s1.sl s1.bx) e := h
      show inR (eff (.mkmap ag sh) (some n) s2.sl s2.bx) e
      simp only [eff] at h ⊢
      cases hb1 : s1.bx n with
      | some c => rw [hb1] at h; exact h.elim
      | none => rw [hd rfl n rfl hb1]; rw [hb1] at h; exact h
  | mkslice size bytes zs l c =>
    simp only [DOp.reads, List.mem_append] at hs
    have hel := ev_eq (s1 := s1.sl) (s2 := s2.sl) (x := l) fun q hq => hs q (.inl hq)
    have hec := ev_eq (s1 := s1.sl) (s2 := s2.sl) (x := c) fun q hq => hs q (.inr hq)
    cases d with
    | none => exact h
    | some n =>
      have h : inR (eff (.mkslice size bytes zs l c) (some n) s1.sl s1.bx) e := h
      show inR (eff (.mkslice size bytes zs l c) (some n) s2.sl s2.bx) e
      simp only [eff] at h ⊢
      rw [hel, hec]
      cases hb1 : s1.bx n with
      | some c => rw [hb1] at h; exact h.elim
      | none => rw [hd rfl n rfl hb1]; rw [hb1] at h; exact h
  | mlook ag sh z ok m k =>
    simp only [DOp.reads, List.mem_append] at hs
    have hev := ev_eq (s1 := s1.sl) (s2 := s2.sl) (x := m) fun q hq => hs q (.inl hq)
    have hek := ev_eq (s1 := s1.sl) (s2 := s2.sl) (x := k) fun q hq => hs q (.inr hq)
    have h : inR (eff (.mlook ag sh z ok m k) d s1.sl s1.bx) e := h
    show inR (eff (.mlook ag sh z ok m k) d s2.sl s2.bx) e
    simp only [eff] at h ⊢
    rw [hev, hek]
    cases hv : ev s1.sl m with
    | mp b =>
      rw [hv] at h
      simp only at h ⊢
      cases hbx : s1.bx b with
      | none => rw [hbx] at h; exact h.elim
      | some c =>
        rw [hb b (by show b ∈ bx1 (ev s1.sl m); rw [hv]; simp [bx1]) c hbx]
        rw [hbx] at h
        exact h
    | t x => rw [hv] at h; cases x <;> exact h
    | _ => rw [hv] at h; exact h
  | mput ag sh m k v =>
    simp only [DOp.reads, List.mem_append] at hs
    have hev := ev_eq (s1 := s1.sl) (s2 := s2.sl) (x := m) fun q hq => hs q (.inl (.inl hq))
    have hek := ev_eq (s1 := s1.sl) (s2 := s2.sl) (x := k) fun q hq => hs q (.inl (.inr hq))
    have hew := ev_eq (s1 := s1.sl) (s2 := s2.sl) (x := v) fun q hq => hs q (.inr hq)
    have h : inR (eff (.mput ag sh m k v) d s1.sl s1.bx) e := h
    show inR (eff (.mput ag sh m k v) d s2.sl s2.bx) e
    simp only [eff] at h ⊢
    rw [hev, hek, hew]
    cases hv : ev s1.sl m with
    | mp b =>
      rw [hv] at h
      simp only at h ⊢
      cases hbx : s1.bx b with
      | none => rw [hbx] at h; exact h.elim
      | some c =>
        rw [hb b (by show b ∈ bx1 (ev s1.sl m); rw [hv]; simp [bx1]) c hbx]
        rw [hbx] at h
        exact h
    | _ => rw [hv] at h; exact h
  | mlen m =>
    have hev := ev_eq hs
    have h : inR (eff (.mlen m) d s1.sl s1.bx) e := h
    show inR (eff (.mlen m) d s2.sl s2.bx) e
    simp only [eff] at h ⊢
    rw [hev]
    cases hv : ev s1.sl m with
    | mp b =>
      rw [hv] at h
      simp only at h ⊢
      cases hbx : s1.bx b with
      | none => rw [hbx] at h; exact h.elim
      | some c =>
        rw [hb b (by show b ∈ bx1 (ev s1.sl m); rw [hv]; simp [bx1]) c hbx]
        rw [hbx] at h
        exact h
    | t x => rw [hv] at h; cases x <;> exact h
    | _ => rw [hv] at h; exact h
  | box m x =>
    cases d with
    | none => exact h
    | some n =>
      have h : inR (eff (.box m x) (some n) s1.sl s1.bx) e := h
      show inR (eff (.box m x) (some n) s2.sl s2.bx) e
      simp only [eff] at h ⊢
      rw [ev_eq hs]
      cases hb1 : s1.bx n with
      | some c =>
        rw [hb1] at h
        cases hbo : boxOf m (ev s1.sl x) with
        | none => rw [hbo] at h; exact h.elim
        | some q => rw [hbo] at h; exact h.elim
      | none => rw [hd rfl n rfl hb1]; rw [hb1] at h; exact h
  | load n agg a =>
    have hev := ev_eq hs
    have h : inR (eff (.load n agg a) d s1.sl s1.bx) e := h
    show inR (eff (.load n agg a) d s2.sl s2.bx) e
    simp only [eff] at h ⊢
    rw [hev]
    cases hv : ev s1.sl a with
    | ptr b off =>
      rw [hv] at h
      simp only at h ⊢
      cases hbx : s1.bx b with
      | none => rw [hbx] at h; exact h.elim
      | some c =>
        rw [hb b (by show b ∈ bx1 (ev s1.sl a); rw [hv]; simp [bx1]) c hbx]
        rw [hbx] at h
        exact h
    | t x => rw [hv] at h; cases x <;> exact h
    | _ => rw [hv] at h; exact h
  | store n a x =>
    simp only [DOp.reads, List.mem_append] at hs
    have hev := ev_eq (s1 := s1.sl) (s2 := s2.sl) (x := a) fun m hm => hs m (.inl hm)
    have hex := ev_eq (s1 := s1.sl) (s2 := s2.sl) (x := x) fun m hm => hs m (.inr hm)
    have h : inR (eff (.store n a x) d s1.sl s1.bx) e := h
    show inR (eff (.store n a x) d s2.sl s2.bx) e
    simp only [eff] at h ⊢
    rw [hev, hex]
    cases hv : ev s1.sl a with
    | ptr b off =>
      rw [hv] at h
      simp only at h ⊢
      cases hbx : s1.bx b with
      | none => rw [hbx] at h; exact h.elim
      | some c =>
        rw [hb b (by show b ∈ bx1 (ev s1.sl a); rw [hv]; simp [bx1]) c hbx]
        rw [hbx] at h
        exact h
    | _ => rw [hv] at h; exact h
  | offA k x => exact pure (by simp only [eff, ev_eq hs]) h
  | fld off size agg x => exact pure (by simp only [eff, ev_eq hs]) h
  | not x => exact pure (by simp only [eff, ev_eq hs]) h
  | neg x => exact pure (by simp only [eff, ev_eq hs]) h
  | conv k x => exact pure (by simp only [eff, ev_eq hs]) h
  | len x => exact pure (by simp only [eff, ev_eq hs]) h
  | lenS x => exact pure (by simp only [eff, ev_eq hs]) h
  | ext x i => exact pure (by simp only [eff, ev_eq hs]) h
  | nilck x => exact pure (by simp only [eff, ev_eq hs]) h
  | arrP n x => exact pure (by simp only [eff, ev_eq hs]) h
  | isnil k n x => exact pure (by simp only [eff, ev_eq hs]) h
  | cpl x => exact pure (by simp only [eff, ev_eq hs]) h
  | slice3 size x hi mx =>
    simp only [DOp.reads, List.mem_append] at hs
    exact pure (by simp only [eff]; rw [ev_eq fun m hm => hs m (.inl (.inl hm)), ev_eq fun m hm => hs m (.inl (.inr hm)), ev_eq fun m hm => hs m (.inr hm)]) h
  | buildF size n zs ps =>
    have : fillS s2.sl size (List.replicate n (cond (Nat.beq size 1) (zs.headD .nil) (.agg zs))) True ps = fillS s1.sl size (List.replicate n (cond (Nat.beq size 1) (zs.headD .nil) (.agg zs))) True ps := fillS_eq hs
    exact pure (by simp only [eff]; rw [this]) h
  | appT size bytes s x =>
    simp only [DOp.reads, List.mem_append] at hs
    have hes := ev_eq (s1 := s1.sl) (s2 := s2.sl) (x := s) fun q hq => hs q (.inl hq)
    have hex := ev_eq (s1 := s1.sl) (s2 := s2.sl) (x := x) fun q hq => hs q (.inr hq)
    have h : inR (eff (.appT size bytes s x) d s1.sl s1.bx) e := h
    show inR (eff (.appT size bytes s x) d s2.sl s2.bx) e
    simp only [eff] at h ⊢
    rw [hes, hex]
    cases hv : srcT s1.bx (ev s1.sl x) with
    | none => rw [hv] at h; exact h.elim
    | some r =>
      rw [srcT_local (fun n hn => hb n hn) hv]
      rw [hv] at h
      exact h
  | prim p x =>
    have hev := ev_eq hs
    have h : inR (eff (.prim p x) d s1.sl s1.bx) e := h
    show inR (eff (.prim p x) d s2.sl s2.bx) e
    simp only [eff] at h ⊢
    rw [hev]
    cases hv : conv1 s1.bx (ev s1.sl x) with
    | none => rw [hv] at h; exact h.elim
    | some r =>
      rw [conv1_local (fun n hn => hb n hn) hv]
      rw [hv] at h
      exact h
  | idxA _ _ a x =>
    simp only [DOp.reads, List.mem_append] at hs
    exact pure (by simp only [eff]; rw [ev_eq fun m hm => hs m (.inl hm), ev_eq fun m hm => hs m (.inr hm)]) h
  | idxL _ a x =>
    simp only [DOp.reads, List.mem_append] at hs
    exact pure (by simp only [eff]; rw [ev_eq fun m hm => hs m (.inl hm), ev_eq fun m hm => hs m (.inr hm)]) h
  | idxV _ _ _ a x =>
    simp only [DOp.reads, List.mem_append] at hs
    exact pure (by simp only [eff]; rw [ev_eq fun m hm => hs m (.inl hm), ev_eq fun m hm => hs m (.inr hm)]) h
  | idxS a x =>
    simp only [DOp.reads, List.mem_append] at hs
    exact pure (by simp only [eff]; rw [ev_eq fun m hm => hs m (.inl hm), ev_eq fun m hm => hs m (.inr hm)]) h
  | bin _ a x =>
    simp only [DOp.reads, List.mem_append] at hs
    exact pure (by simp only [eff]; rw [ev_eq fun m hm => hs m (.inl hm), ev_eq fun m hm => hs m (.inr hm)]) h
  | eqv _ _ a x =>
    simp only [DOp.reads, List.mem_append] at hs
    exact pure (by simp only [eff]; rw [ev_eq fun m hm => hs m (.inl hm), ev_eq fun m hm => hs m (.inr hm)]) h
  | eqB _ a x =>
    simp only [DOp.reads, List.mem_append] at hs
    exact pure (by simp only [eff]; rw [ev_eq fun m hm => hs m (.inl hm), ev_eq fun m hm => hs m (.inr hm)]) h
  | maxI a x =>
    simp only [DOp.reads, List.mem_append] at hs
    exact pure (by simp only [eff]; rw [ev_eq fun m hm => hs m (.inl hm), ev_eq fun m hm => hs m (.inr hm)]) h
  | minI a x =>
    simp only [DOp.reads, List.mem_append] at hs
    exact pure (by simp only [eff]; rw [ev_eq fun m hm => hs m (.inl hm), ev_eq fun m hm => hs m (.inr hm)]) h
  | slice _ x lo hi =>
    simp only [DOp.reads, List.mem_append] at hs
    exact pure (by simp only [eff]; rw [ev_eq fun m hm => hs m (.inl (.inl hm)), evo_eq fun m hm => hs m (.inl (.inr hm)), evo_eq fun m hm => hs m (.inr hm)]) h
  | sliceS x lo hi =>
    simp only [DOp.reads, List.mem_append] at hs
    exact pure (by simp only [eff]; rw [ev_eq fun m hm => hs m (.inl (.inl hm)), evo_eq fun m hm => hs m (.inl (.inr hm)), evo_eq fun m hm => hs m (.inr hm)]) h
  | sliceA _ _ x lo hi =>
    simp only [DOp.reads, List.mem_append] at hs
    exact pure (by simp only [eff]; rw [ev_eq fun m hm => hs m (.inl (.inl hm)), evo_eq fun m hm => hs m (.inl (.inr hm)), evo_eq fun m hm => hs m (.inr hm)]) h
  | build zs ps => exact pure (by simp only [eff]; rw [fillT_eq hs, fillV_eq hs]) h
  | buildT size n zs ps =>
    have : fillS s2.sl size (List.replicate n (cond (Nat.beq size 1) (zs.headD .nil) (.agg zs))) True ps = fillS s1.sl size (List.replicate n (cond (Nat.beq size 1) (zs.headD .nil) (.agg zs))) True ps := fillS_eq hs
    exact pure (by simp only [eff]; rw [this]) h
  | mkfn f xs => exact pure (by simp only [eff]; rw [evs_eq hs]) h
  | call f args =>
    obtain ⟨ts, rd, r, h1, h2⟩ := h
    refine ⟨ts, rd, r, ?_, h2⟩
    rw [evs_eq (s1 := s1.sl) hs]
    exact convs_local (fun n hn => hb n hn) h1
  | mcall ms f args =>
    have hbx := hM rfl
    obtain ⟨need, fr, m, b, r, h1, h2, h3, h4, h5, h6⟩ := h
    refine ⟨need, fr, m, b, r, ?_, fun p hp => by rw [hbx]; exact h2 p hp, fun n hn => by rw [hbx]; exact h3 n hn, h4, by rw [hbx]; exact h5, h6⟩
    rw [evs_eq (s1 := s1.sl) hs]
    exact h1
  | callv x args =>
    simp only [DOp.reads, List.mem_append] at hs
    simp only [DOp.tch, List.mem_append] at hb
    obtain ⟨f, caps, hf, ts, rd, r, h1, h2⟩ := h
    refine ⟨f, caps, ?_, ts, rd, r, ?_, h2⟩
    · rw [ev_eq (s1 := s1.sl) fun m hm => hs m (.inl hm)]; exact hf
    · rw [evs_eq (s1 := s1.sl) fun m hm => hs m (.inr hm)]
      refine convs_local (fun n hn => ?_) h1
      rw [List.flatMap_append, List.mem_append] at hn
      rcases hn with hn | hn
      · exact hb n (.inr hn)
      · have : n ∈ bxs (ev s1.sl x) := by
          unfold fnOf at hf
          split at hf
          · simp only [Option.some.injEq, Prod.mk.injEq] at hf
            obtain ⟨-, rfl⟩ := hf
            obtain ⟨c, hc, hn⟩ := List.mem_flatMap.1 hn
            obtain ⟨t, _, rfl⟩ := List.mem_map.1 hc
            cases hn
          · rename_i g cs hv
            simp only [Option.some.injEq, Prod.mk.injEq] at hf
            obtain ⟨-, rfl⟩ := hf
            rw [hv]; exact hn
          · cases hf
        exact hb n (.inl this)
theorem effO_wr {x : DOp} (hx : x.cls.std = true) {d : Option Nat} {st : St} {e : Eff} (h : effO P x d st e) : e.wr = none ∨ (∃ n b, x.cls = .make ∧ d = some n ∧ st.bx n = none ∧ e.wr = some (n, b)) ∨ (∃ n b, x.cls.wr = true ∧ n ∈ x.tch st.sl ∧ (st.bx n).isSome = true ∧ e.wr = some (n, b)) := by
  cases x with
  | append | appV | buildS | inl | fcall | clr | mdel | mclr | mrng | mnext | ment | copy => exact absurd hx Bool.false_ne_true
  | call f args => obtain ⟨ts, rd, r, _, _, _, rfl⟩ := h; exact .inl rfl
  | callv x args => obtain ⟨_, _, _, ts, rd, r, _, _, _, rfl⟩ := h; exact .inl rfl
  | mcall ms f args => obtain ⟨need, fr, m, b, r, _, _, _, h4, h5, rfl⟩ := h; exact .inr (.inr ⟨m, b, rfl, h4, h5, rfl⟩)
  | alloc zs =>
    have h : inR (eff (.alloc zs) d st.sl st.bx) e := h
    cases d with
    | none => exact h.elim
    | some n =>
      simp only [eff] at h
      cases hb : st.bx n with
      | none => rw [hb] at h; cases h; exact .inr (.inl ⟨n, _, rfl, rfl, hb, rfl⟩)
      | some b => rw [hb] at h; exact h.elim
  | mkmap ag sh =>
    have h : inR (eff (.mkmap ag sh) d st.sl st.bx) e := h
    cases d with
    | none => exact h.elim
    | some n =>
      simp only [eff] at h
      cases hb : st.bx n with
      | none => rw [hb] at h; cases h; exact .inr (.inl ⟨n, _, rfl, rfl, hb, rfl⟩)
      | some b => rw [hb] at h; exact h.elim
  | mkslice size bytes zs l c =>
    have h : inR (eff (.mkslice size bytes zs l c) d st.sl st.bx) e := h
    cases d with
    | none => exact h.elim
    | some n =>
      simp only [eff] at h
      split at h
      · rename_i hb _ _
        obtain ⟨_, rfl⟩ := h
        exact .inr (.inl ⟨n, _, rfl, rfl, hb, rfl⟩)
      · exact h.elim
  | mput ag sh m k v =>
    have h : inR (eff (.mput ag sh m k v) d st.sl st.bx) e := h
    simp only [eff] at h
    split at h
    · rename_i b hv
      split at h
      · rename_i ag' sh' es _ hbx
        split at h
        · rename_i key x hk hx
          cases hs : mapSame ag sh ag' sh' with
          | false => rw [hs] at h; exact h.elim
          | true =>
            rw [hs] at h
            obtain ⟨_, rfl⟩ := h
            exact .inr (.inr ⟨b, _, rfl, by show b ∈ bx1 (ev st.sl m); rw [hv]; simp [bx1], by rw [hbx]; rfl, rfl⟩)
        · exact h.elim
      · exact h.elim
    · exact h.elim
  | box m x =>
    have h : inR (eff (.box m x) d st.sl st.bx) e := h
    cases d with
    | none => exact h.elim
    | some n =>
      simp only [eff] at h
      cases hb : st.bx n with
      | none =>
        rw [hb] at h
        cases hc : boxOf m (ev st.sl x) with
        | none => rw [hc] at h; exact h.elim
        | some p => rw [hc] at h; obtain ⟨_, rfl⟩ := h; exact .inr (.inl ⟨n, _, rfl, rfl, hb, rfl⟩)
      | some b => rw [hb] at h; exact h.elim
  | store k a x =>
    have h : inR (eff (.store k a x) d st.sl st.bx) e := h
    simp only [eff] at h
    cases hv : ev st.sl a with
    | ptr b off =>
      rw [hv] at h
      simp only at h
      cases hbx : st.bx b with
      | none => rw [hbx] at h; exact h.elim
      | some c =>
        rw [hbx] at h
        have hw : ∃ bx', e.wr = some (b, bx') := by
          simp only [storeB, cond_eq_ite] at h
          repeat' (first | exact h.elim | (obtain ⟨_, rfl⟩ := h; exact ⟨_, rfl⟩) | (split at h) | (unfold inR at h; simp only at h; first | exact h.elim | (obtain ⟨_, rfl⟩ := h; exact ⟨_, rfl⟩)))
        obtain ⟨bx', hw⟩ := hw
        exact .inr (.inr ⟨b, bx', rfl, by show b ∈ bx1 (ev st.sl a); rw [hv]; simp [bx1], by rw [hbx]; rfl, hw⟩)
    | _ => rw [hv] at h; exact h.elim
  | _ =>
    refine .inl ?_
    simp only [effO, eff, loadB, partT, binI, binS, val, valT, tval, cond_eq_ite] at h
    repeat' (first | exact h.elim | (subst h; rfl) | (obtain ⟨_, rfl⟩ := h; rfl) | (split at h) | (unfold inR at h; simp only at h; first | exact h.elim | (subst h; rfl) | (obtain ⟨_, rfl⟩ := h; rfl)))
end
end Go.DL
end
section
namespace Go.DL
open Go.RowKit
section
variable [Glb] {P : Program} {X : List FuncId} {N : Nat} {w0 : World} {S0 : Base} {o : Oper} {a : Act} {E : Env} {st : St}
end
section
variable {P : Program} {X : List FuncId} {N : Nat} {w0 : World} {S0 : Base} {o : Oper} {a : Act} {E : Env} {st : St}
theorem in_wpR {r : EffR} {d : Option Nat} {K : St → Prop} {e : Eff} (h : inR r e) (hk : K (st.app d e)) : wpR r d st K := by
  cases r with
  | no => exact h
  | yes e0 => cases h; exact hk
  | need c e0 => obtain ⟨hc, rfl⟩ := h; exact ⟨hc, hk⟩
  | alt c b f => obtain ⟨hc, rfl⟩ := h; exact ⟨hc, fun b' hb => hb ▸ hk⟩
  | eq c t f => obtain ⟨hc, rfl⟩ := h; exact ⟨hc, fun b' hb => hb ▸ hk⟩
end
section
variable [Glb] {P : Program} {X : List FuncId} {N : Nat} {w0 : World} {S0 : Base} {o : Oper} {a : Act} {E : Env} {st : St}
theorem in_wpCall {f : FuncId} {args : List V} {d : Option Nat} {K : St → Prop} {ts : List T} {rd : List Nat} {r : T} (h1 : convs st.bx args = some (ts, rd)) (h2 : DCalls P f ts r) (h3 : rd = [] ∨ r.flat = true) (hk : K (st.set d (.t r))) : wpCall P f args d st K := by
  unfold wpCall
  rw [h1]
  cases rd with
  | nil => exact ⟨r, h2, hk⟩
  | cons x xs =>
    rcases h3 with h3 | h3
    · cases h3
    · exact ⟨r, h2, h3, hk⟩
theorem eff_wpO {x : DOp} (hx : x.cls.std = true) {d : Option Nat} {K : St → Prop} {e : Eff} (h : effO P x (st.nm d) st e) (hk : K (st.app d e)) : wpO P x d st K := by
  have gen : ∀ x : DOp, (wpR (eff x (st.nm d) st.sl st.bx) d st K → wpO P x d st K) → (effO P x (st.nm d) st e → inR (eff x (st.nm d) st.sl st.bx) e) → effO P x (st.nm d) st e → wpO P x d st K := fun x h1 h2 h => h1 (in_wpR (h2 h) hk)
  cases x with
  | append | appV | buildS | inl | fcall | clr | mdel | mclr | mrng | mnext | ment | copy => exact absurd hx Bool.false_ne_true
  | call f args =>
    obtain ⟨ts, rd, r, h1, h2, h3, rfl⟩ := h
    rw [app_t] at hk
    exact in_wpCall h1 h2 h3 hk
  | mcall ms f args =>
    obtain ⟨need, fr, m, b, r, h1, h2, h3, h4, h5, rfl⟩ := h
    rw [app_m] at hk
    exact ⟨need, fr, m, b, r, h1, h2, h3, h4, h5, hk⟩
  | callv x args =>
    obtain ⟨f, caps, hf, ts, rd, r, h1, h2, h3, rfl⟩ := h
    rw [app_t] at hk
    unfold fnOf at hf
    unfold wpO
    simp only
    split at hf
    · rename_i g cs hv
      simp only [Option.some.injEq, Prod.mk.injEq] at hf
      obtain ⟨rfl, rfl⟩ := hf
      try rw [hv]
      exact in_wpCall h1 h2 h3 hk
    · rename_i g cs hv
      simp only [Option.some.injEq, Prod.mk.injEq] at hf
      obtain ⟨rfl, rfl⟩ := hf
      try rw [hv]
      exact in_wpCall h1 h2 h3 hk
    · cases hf
  | _ => exact gen _ id id h
end
section
variable {P : Program} {X : List FuncId} {N : Nat} {w0 : World} {S0 : Base} {o : Oper} {a : Act} {E : Env} {st : St}
theorem DOp.plain_of {x : DOp} (h : x.cls.std = true) : x.plain = true := by cases x <;> first | rfl | exact absurd h Bool.false_ne_true
end
section
variable [Glb] {P : Program} {X : List FuncId} {N : Nat} {w0 : World} {S0 : Base} {o : Oper} {a : Act} {E : Env} {st : St}
theorem wpI_eff {i : DI} (hx : i.op.cls.std = true) {K : St → Prop} (h : wpI P i st K) : ∃ e, effI P i st e ∧ K (st.app i.dst e) := by
  unfold wpI at h
  cases hg : i.guard with
  | none =>
    rw [hg] at h
    obtain ⟨e, he, hk⟩ := wpO_eff (DOp.plain_of hx) h
    exact ⟨e, by unfold effI; rw [hg]; exact he, hk⟩
  | some gw =>
    obtain ⟨g, want⟩ := gw
    rw [hg] at h
    simp only at h
    split at h
    · rename_i b hb
      have run : b = want → wpO P i.op i.dst st K → ∃ e, effI P i st e ∧ K (st.app i.dst e) := fun hw h => by
        obtain ⟨e, he, hk⟩ := wpO_eff (DOp.plain_of hx) h
        exact ⟨e, by unfold effI; rw [hg]; exact .inl ⟨b, hb, .inl ⟨hw, he⟩⟩, hk⟩
      have skip : b ≠ want → K (st.set i.dst skipV) → ∃ e, effI P i st e ∧ K (st.app i.dst e) := fun hw h => ⟨{ val := skipV }, by unfold effI; rw [hg]; exact .inl ⟨b, hb, .inr ⟨hw, rfl⟩⟩, h⟩
      cases b <;> cases want <;> simp only at h
      · exact run rfl h
      · exact skip (by decide) h
      · exact skip (by decide) h
      · exact run rfl h
    · rename_i hb
      exact ⟨{ val := skipV }, by unfold effI; rw [hg]; exact .inr ⟨hb, rfl⟩, h⟩
    · exact h.elim
theorem eff_wpI {i : DI} (hx : i.op.cls.std = true) {K : St → Prop} {e : Eff} (h : effI P i st e) (hk : K (st.app i.dst e)) : wpI P i st K := by
  unfold effI at h
  unfold wpI
  cases hg : i.guard with
  | none => rw [hg] at h; exact eff_wpO hx h hk
  | some gw =>
    obtain ⟨g, want⟩ := gw
    rw [hg] at h
    rcases h with ⟨b, hb, h⟩ | ⟨hb, rfl⟩
    · simp only [hb]
      rcases h with ⟨rfl, he⟩ | ⟨hne, rfl⟩
      · cases b <;> exact eff_wpO hx he hk
      · cases b <;> cases want <;> simp only <;> first | exact absurd rfl hne | exact hk
    · simp only [hb]; exact hk
def LiveAt (j : DI) (st : St) : Prop := j.op.cls ≠ .mut → ∀ n ∈ j.op.tch st.sl, (st.bx n).isSome = true
theorem effI_local {i : DI} (hx : i.op.cls.std = true) {s1 s2 : St} (hs : ∀ m ∈ i.reads, s2.sl m = s1.sl m) (hb : ∀ n ∈ i.op.tch s1.sl, ∀ b, s1.bx n = some b → s2.bx n = some b)
    (ho : s2.off = s1.off) (hd : ∀ n, s1.nm i.dst = some n → s1.bx n = none → s2.bx n = none) (hM : i.op.cls = .mut → s2.bx = s1.bx) {e : Eff} (h : effI P i s1 e) : effI P i s2 e := by
  have hnm : s2.nm i.dst = s1.nm i.dst := by unfold St.nm; rw [ho]
  have op : effO P i.op (s1.nm i.dst) s1 e → effO P i.op (s2.nm i.dst) s2 e := by
   rw [hnm]
   exact effO_local hx (fun m hm => hs m (by unfold DI.reads; simp [hm])) hb (fun _ => hd) hM
  unfold effI at h ⊢
  cases hg : i.guard with
  | none => rw [hg] at h; exact op h
  | some gw =>
    obtain ⟨g, want⟩ := gw
    rw [hg] at h
    rcases h with ⟨b, hbv, h⟩ | ⟨hbv, h⟩
    · exact .inl ⟨b, (hs g (by unfold DI.reads; rw [hg]; simp)).trans hbv, h.imp (fun h => ⟨h.1, op h.2⟩) id⟩
    · exact .inr ⟨(hs g (by unfold DI.reads; rw [hg]; simp)).trans hbv, h⟩
def Wrote (i : DI) (st : St) (e : Eff) : Prop := e.wr = none ∨ (∃ n b, i.op.cls = .make ∧ st.nm i.dst = some n ∧ st.bx n = none ∧ e.wr = some (n, b)) ∨ ∃ n b, i.op.cls.wr = true ∧ n ∈ i.op.tch st.sl ∧ (st.bx n).isSome = true ∧ e.wr = some (n, b)
theorem effI_wr {i : DI} (hx : i.op.cls.std = true) {e : Eff} (h : effI P i st e) : Wrote i st e := by
  unfold effI at h
  split at h
  · exact effO_wr hx h
  · obtain ⟨b, _, ⟨_, h⟩ | ⟨_, rfl⟩⟩ | ⟨_, rfl⟩ := h
    · exact effO_wr hx h
    · exact .inl rfl
    · exact .inl rfl
end
section
variable {P : Program} {X : List FuncId} {N : Nat} {w0 : World} {S0 : Base} {o : Oper} {a : Act} {E : Env} {st : St}
theorem app_sl (d : Option Nat) (e : Eff) (m : Nat) (h : d ≠ some m) : (st.app d e).sl m = st.sl m := by
  unfold St.app
  cases d with
  | none => split <;> rfl
  | some n =>
    have hne : m ≠ n := fun hh => h (by rw [hh])
    split <;> exact upd_other _ _ _ _ hne
theorem app_bx (d : Option Nat) (e : Eff) (n : Nat) (h : ∀ b, e.wr ≠ some (n, b)) : (st.app d e).bx n = st.bx n := by
  unfold St.app
  simp only
  split
  · rename_i k c hw
    have hne : n ≠ k := fun hh => h c (by rw [hh]; exact hw)
    show upd (st.set d e.val).bx k (some c) n = _
    rw [upd_other _ _ _ _ hne]
    cases d <;> rfl
  · cases d <;> rfl
theorem upd_comm {α : Type} (f : Nat → α) {n m : Nat} (h : n ≠ m) (x y : α) : upd (upd f n x) m y = upd (upd f m y) n x := by
  funext k
  by_cases h1 : k = m
  · subst h1
    rw [upd_same, upd_other _ _ _ _ (fun hh => h hh.symm), upd_same]
  · rw [upd_other _ _ _ _ h1]
    by_cases h2 : k = n
    · subst h2; rw [upd_same, upd_same]
    · rw [upd_other _ _ _ _ h2, upd_other _ _ _ _ h2, upd_other _ _ _ _ h1]
theorem St.ext' {s1 s2 : St} (h1 : s1.sl = s2.sl) (h2 : s1.bx = s2.bx) (h3 : s1.gh = s2.gh) (h4 : s1.off = s2.off) (h5 : s1.cx = s2.cx) : s1 = s2 := by cases s1; cases s2; cases h1; cases h2; cases h3; cases h4; cases h5; rfl
theorem set_gh (s : St) (d : Option Nat) (v : V) : (s.set d v).gh = s.gh := by cases d <;> rfl
theorem set_off (s : St) (d : Option Nat) (v : V) : (s.set d v).off = s.off := by cases d <;> rfl
theorem app_gh (s : St) (d : Option Nat) (e : Eff) : (s.app d e).gh = s.gh := by unfold St.app; simp only; split <;> exact set_gh _ _ _
theorem app_off (s : St) (d : Option Nat) (e : Eff) : (s.app d e).off = s.off := by unfold St.app; simp only; split <;> exact set_off _ _ _
theorem app_cx (s : St) (d : Option Nat) (e : Eff) : (s.app d e).cx = s.cx := by
  have : ∀ (s : St) (d : Option Nat) (v : V), (s.set d v).cx = s.cx := fun s d v => by cases d <;> rfl
  unfold St.app; simp only; split <;> exact this _ _ _
theorem nm_ne {s s' : St} (hs : s'.off = s.off) {d1 d2 : Option Nat} (hd : ∀ n, d1 = some n → d2 ≠ some n) {n : Nat} (h1 : s.nm d1 = some n) (h2 : s'.nm d2 = some n) : False := by
  cases d1 with
  | none => cases h1
  | some m =>
    cases d2 with
    | none => cases h2
    | some k =>
      simp only [St.nm, Option.some.injEq] at h1 h2
      exact hd m rfl (by rw [hs] at h2; have : k = m := by omega
                         rw [this])
theorem app_comm {d1 d2 : Option Nat} (hd : ∀ n, d1 = some n → d2 ≠ some n) {e1 e2 : Eff} (hw : ∀ n b m c, e1.wr = some (n, b) → e2.wr = some (m, c) → n ≠ m) :
    (st.app d1 e1).app d2 e2 = (st.app d2 e2).app d1 e1 := by
  have hsl : ∀ (s : St) d e, (s.app d e).sl = (s.set d e.val).sl := fun s d e => by unfold St.app; simp only; split <;> rfl
  have hbx : ∀ (s : St) d e, (s.app d e).bx = match e.wr with | some (n, c) => upd s.bx n (some c) | none => s.bx := fun s d e => by
    unfold St.app
    simp only
    cases e.wr with
    | none => cases d <;> rfl
    | some p => cases d <;> rfl
  refine St.ext' ?_ ?_ (by simp only [app_gh]) (by simp only [app_off]) (by simp only [app_cx])
  · rw [hsl, hsl]
    cases d1 with
    | none => cases d2 <;> simp only [St.set, hsl]
    | some n1 =>
      cases d2 with
      | none => simp only [St.set, hsl]
      | some n2 =>
        simp only [St.set, hsl]
        exact upd_comm _ (fun e => hd n1 rfl (by rw [e])) _ _
  · rw [hbx, hbx, hbx, hbx]
    cases h1 : e1.wr with
    | none => rfl
    | some p1 =>
      cases h2 : e2.wr with
      | none => rfl
      | some p2 => exact upd_comm _ (hw p1.1 p1.2 p2.1 p2.2 h1 h2) _ _
theorem memN_iff {n : Nat} : ∀ {l : List Nat}, memN n l = true ↔ n ∈ l
  | [] => by simp [memN]
  | m :: l => by
    unfold memN
    cases h : Nat.beq n m with
    | true => simp [Nat.eq_of_beq_eq_true h]
    | false =>
      have : n ≠ m := fun e => by rw [e, beq_self] at h; cases h
      simp [memN_iff, this]
end
section
variable [Glb] {P : Program} {X : List FuncId} {N : Nat} {w0 : World} {S0 : Base} {o : Oper} {a : Act} {E : Env} {st : St}
def Cls.det : Cls → Bool
  | .pure => true
  | .load => true
  | .make => true
  | _ => false
end
section
variable {P : Program} {X : List FuncId} {N : Nat} {w0 : World} {S0 : Base} {o : Oper} {a : Act} {E : Env} {st : St}
theorem indep_spec {i j : DI} (h : i.indep j = true) : ((i.op.cls.std = true ∧ j.op.cls.std = true) ∨ (i.op.cls = .fresh ∧ j.op.cls.det = true) ∨ (i.op.cls.det = true ∧ j.op.cls = .fresh)) ∧ (∀ d, i.dst = some d → d ∉ j.reads) ∧ (∀ d, i.dst = some d → j.dst ≠ some d) ∧ (∀ d, j.dst = some d → d ∉ i.reads) ∧
    (clsPair i.op.cls j.op.cls = some false ∨ clsPair i.op.cls j.op.cls = some true) ∧ (i.op.cls = .mut → j.op.cls.rdo = true) ∧ (j.op.cls = .mut → i.op.cls.rdo = true) := by
  unfold DI.indep at h
  rw [Bool.and_eq_true] at h
  obtain ⟨h1, h2⟩ := h
  unfold DI.apart at h1
  rw [Bool.and_eq_true] at h1
  refine ⟨?_, fun d hd hm => ?_, fun d hd he => ?_, fun d hd hm => ?_, ?_, ?_, ?_⟩
  · revert h2
    cases i.op.cls <;> cases j.op.cls <;> simp [clsPair, Cls.std, Cls.det]
  · have := h1.1; rw [hd] at this; simp [memN_iff.2 hm] at this
  · have := h1.1; rw [hd] at this; simp [he, isD, beq_self] at this
  · have := h1.2; rw [hd] at this; simp [memN_iff.2 hm] at this
  · cases hc : clsPair i.op.cls j.op.cls with
    | none => rw [hc] at h2; cases h2
    | some b => cases b <;> simp
  · revert h2
    cases i.op.cls <;> cases j.op.cls <;> simp [clsPair, Cls.rdo]
  · revert h2
    cases i.op.cls <;> cases j.op.cls <;> simp [clsPair, Cls.rdo]
theorem Cls.det_std {c : Cls} (h : c.det = true) : c.std = true := by cases c <;> first | rfl | cases h
end
section
variable [Glb] {P : Program} {X : List FuncId} {N : Nat} {w0 : World} {S0 : Base} {o : Oper} {a : Act} {E : Env} {st : St}
def freshO (P : Program) (op : DOp) (d : Option Nat) (st : St) (vs : Nat → V) : Prop :=
  match op with
  | .fcall f args => d.isSome = true ∧ ∃ ts rd e size xs, convs st.bx (args.map (ev st.sl)) = some (ts, rd) ∧ FCalls P f ts e size xs [] ∧ vs = fun q => .own q e size xs
  | _ => False
def freshI (P : Program) (i : DI) (st : St) (vs : Nat → V) : Prop :=
  match i.guard with
  | none => freshO P i.op i.dst st vs
  | some (g, want) => (∃ b, st.sl g = .t (.bool b) ∧ ((b = want ∧ freshO P i.op i.dst st vs) ∨ (b ≠ want ∧ vs = fun _ => skipV))) ∨ (st.sl g = skipV ∧ vs = fun _ => skipV)
end
section
variable {P : Program} {X : List FuncId} {N : Nat} {w0 : World} {S0 : Base} {o : Oper} {a : Act} {E : Env} {st : St}
theorem cls_fresh {x : DOp} (h : x.cls = .fresh) : ∃ f args, x = .fcall f args := by
  cases x <;> first | exact ⟨_, _, rfl⟩ | cases h
end
section
variable [Glb] {P : Program} {X : List FuncId} {N : Nat} {w0 : World} {S0 : Base} {o : Oper} {a : Act} {E : Env} {st : St}
theorem wpO_fresh {x : DOp} (hx : x.cls = .fresh) {d : Option Nat} {K : St → Prop} : wpO P x d st K ↔ ∃ vs, freshO P x d st vs ∧ ∀ q, K (st.set d (vs q)) := by
  obtain ⟨f, args, rfl⟩ := cls_fresh hx
  show wpFcall P f (args.map (ev st.sl)) d st K ↔ _
  unfold wpFcall freshO
  cases d with
  | none => simp
  | some n =>
    simp only [Option.isSome_some, true_and]
    cases hc : convs st.bx (args.map (ev st.sl)) with
    | none => exact ⟨False.elim, fun ⟨vs, ⟨ts, rd, e, size, xs, h, _⟩, _⟩ => by cases h⟩
    | some p =>
      obtain ⟨ts, rd⟩ := p
      refine ⟨fun ⟨e, size, xs, h1, h2⟩ => ⟨_, ⟨ts, rd, e, size, xs, rfl, h1, rfl⟩, h2⟩, ?_⟩
      rintro ⟨vs, ⟨ts', rd', e, size, xs, h, h1, rfl⟩, h2⟩
      cases h
      exact ⟨e, size, xs, h1, h2⟩
theorem wpI_fresh {i : DI} (hx : i.op.cls = .fresh) {K : St → Prop} (h : wpI P i st K) : ∃ vs, freshI P i st vs ∧ ∀ q, K (st.app i.dst { val := vs q }) := by
  unfold wpI at h
  cases hg : i.guard with
  | none =>
    rw [hg] at h
    obtain ⟨vs, h1, h2⟩ := (wpO_fresh hx).1 h
    exact ⟨vs, by unfold freshI; rw [hg]; exact h1, h2⟩
  | some gw =>
    obtain ⟨g, want⟩ := gw
    rw [hg] at h
    simp only at h
    split at h
    · rename_i b hb
      have run : b = want → wpO P i.op i.dst st K → ∃ vs, freshI P i st vs ∧ ∀ q, K (st.app i.dst { val := vs q }) := fun hw h => by
        obtain ⟨vs, h1, h2⟩ := (wpO_fresh hx).1 h
        exact ⟨vs, by unfold freshI; rw [hg]; exact .inl ⟨b, hb, .inl ⟨hw, h1⟩⟩, h2⟩
      have skip : b ≠ want → K (st.set i.dst skipV) → ∃ vs, freshI P i st vs ∧ ∀ q, K (st.app i.dst { val := vs q }) := fun hw h => ⟨fun _ => skipV, by unfold freshI; rw [hg]; exact .inl ⟨b, hb, .inr ⟨hw, rfl⟩⟩, fun _ => h⟩
      cases b <;> cases want <;> simp only at h
      · exact run rfl h
      · exact skip (by decide) h
      · exact skip (by decide) h
      · exact run rfl h
    · rename_i hb
      exact ⟨fun _ => skipV, by unfold freshI; rw [hg]; exact .inr ⟨hb, rfl⟩, fun _ => h⟩
    · exact h.elim
theorem fresh_wpI {i : DI} (hx : i.op.cls = .fresh) {K : St → Prop} {vs : Nat → V} (h : freshI P i st vs) (hk : ∀ q, K (st.app i.dst { val := vs q })) : wpI P i st K := by
  unfold freshI at h
  unfold wpI
  cases hg : i.guard with
  | none => rw [hg] at h; exact (wpO_fresh hx).2 ⟨vs, h, hk⟩
  | some gw =>
    obtain ⟨g, want⟩ := gw
    rw [hg] at h
    rcases h with ⟨b, hb, h⟩ | ⟨hb, rfl⟩
    · simp only [hb]
      rcases h with ⟨rfl, he⟩ | ⟨hne, rfl⟩
      · cases b <;> exact (wpO_fresh hx).2 ⟨vs, he, hk⟩
      · cases b <;> cases want <;> simp only <;> first | exact absurd rfl hne | exact hk 0
    · simp only [hb]; exact hk 0
theorem freshI_local {i : DI} (hx : i.op.cls = .fresh) {s1 s2 : St} (hs : ∀ m ∈ i.reads, s2.sl m = s1.sl m) (hb : ∀ n ∈ i.op.tch s1.sl, ∀ b, s1.bx n = some b → s2.bx n = some b) {vs : Nat → V} (h : freshI P i s1 vs) : freshI P i s2 vs := by
  obtain ⟨f, args, hop⟩ := cls_fresh hx
  have op : freshO P i.op i.dst s1 vs → freshO P i.op i.dst s2 vs := by
    rw [hop] at hb ⊢
    rintro ⟨hd, ts, rd, e, size, xs, h1, h2⟩
    refine ⟨hd, ts, rd, e, size, xs, ?_, h2⟩
    rw [evs_eq (s1 := s1.sl) (fun m hm => hs m (by unfold DI.reads; rw [hop]; exact List.mem_append_left _ hm))]
    exact convs_local (fun n hn => hb n hn) h1
  unfold freshI at h ⊢
  cases hg : i.guard with
  | none => rw [hg] at h; exact op h
  | some gw =>
    obtain ⟨g, want⟩ := gw
    rw [hg] at h
    rcases h with ⟨b, hbv, h⟩ | ⟨hbv, h⟩
    · exact .inl ⟨b, (hs g (by unfold DI.reads; rw [hg]; simp)).trans hbv, h.imp (fun h => ⟨h.1, op h.2⟩) id⟩
    · exact .inr ⟨(hs g (by unfold DI.reads; rw [hg]; simp)).trans hbv, h⟩
end
section
variable {P : Program} {X : List FuncId} {N : Nat} {w0 : World} {S0 : Base} {o : Oper} {a : Act} {E : Env} {st : St}
theorem inR_one {r : EffR} {e e' : Eff} (h : inR r e) (h' : inR r e') : e = e' := by
  cases r with
  | no => exact h.elim
  | yes e0 => cases h; cases h'; rfl
  | need c e0 => obtain ⟨_, rfl⟩ := h; obtain ⟨_, rfl⟩ := h'; rfl
  | alt c b f => obtain ⟨_, rfl⟩ := h; obtain ⟨_, rfl⟩ := h'; rfl
  | eq c t f => obtain ⟨_, rfl⟩ := h; obtain ⟨_, rfl⟩ := h'; rfl
end
section
variable [Glb] {P : Program} {X : List FuncId} {N : Nat} {w0 : World} {S0 : Base} {o : Oper} {a : Act} {E : Env} {st : St}
theorem effI_one {i : DI} (hx : i.op.cls.det = true) {e e' : Eff} (h : effI P i st e) (h' : effI P i st e') : e = e' := by
  have op : effO P i.op (st.nm i.dst) st e → effO P i.op (st.nm i.dst) st e' → e = e' := by
    generalize i.op = x at hx
    intro a b
    cases x with
    | mov y => exact inR_one (r := eff (.mov y) (st.nm i.dst) st.sl st.bx) a b
    | mkfn f c => exact inR_one (r := eff (.mkfn f c) (st.nm i.dst) st.sl st.bx) a b
    | _ => first | exact absurd hx Bool.false_ne_true | exact inR_one (r := eff _ (st.nm i.dst) st.sl st.bx) a b
  unfold effI at h h'
  cases hg : i.guard with
  | none => rw [hg] at h h'; exact op h h'
  | some gw =>
    obtain ⟨g, want⟩ := gw
    rw [hg] at h h'
    rcases h with ⟨b, hb, h⟩ | ⟨hb, rfl⟩ <;> rcases h' with ⟨b', hb', h'⟩ | ⟨hb', rfl⟩
    · rw [hb] at hb'
      cases hb'
      rcases h with ⟨hw, h⟩ | ⟨hw, rfl⟩ <;> rcases h' with ⟨hw', h'⟩ | ⟨hw', rfl⟩
      · exact op h h'
      · exact absurd hw hw'
      · exact absurd hw' hw
      · rfl
    · rw [hb] at hb'; cases hb'
    · rw [hb] at hb'; cases hb'
    · rfl
theorem wpI_some {i : DI} (hx : i.op.cls.std = true ∨ i.op.cls = .fresh) {K : St → Prop} (h : wpI P i st K) : ∃ e, K (st.app i.dst e) := by
  rcases hx with hx | hx
  · obtain ⟨e, _, h⟩ := wpI_eff hx h; exact ⟨e, h⟩
  · obtain ⟨vs, _, h⟩ := wpI_fresh hx h; exact ⟨_, h 0⟩
end
section
variable {P : Program} {X : List FuncId} {N : Nat} {w0 : World} {S0 : Base} {o : Oper} {a : Act} {E : Env} {st : St}
theorem disj_no {a b : List Nat} (h : disj a b = true) {n : Nat} (h1 : n ∈ a) (h2 : n ∈ b) : False := by
  unfold disj at h
  rw [List.all_eq_true] at h
  have := h n h1
  rw [List.contains_iff_mem.2 h2] at this
  cases this
theorem pair_apart {i j : DI} (hc : clsPair i.op.cls j.op.cls = some false ∨ disj (i.op.tch st.sl) (j.op.tch st.sl) = true) {n : Nat} :
    (i.op.cls.wr = true → n ∈ i.op.tch st.sl → n ∈ j.op.tch st.sl → False) ∧ (j.op.cls.wr = true → n ∈ i.op.tch st.sl → n ∈ j.op.tch st.sl → False) := by
  rcases hc with hc | hd
  · have key : ∀ x y : DOp, x.cls.wr = true → (clsPair x.cls y.cls = some false ∨ clsPair y.cls x.cls = some false) → ∀ sl, y.tch sl = [] := fun x y hx hp sl => by
      generalize x.cls = c at hx hp
      cases c <;> first | (cases hx; done) | (cases y <;> first | rfl | (simp [DOp.cls, clsPair] at hp; done))
    refine ⟨fun hi _ h2 => ?_, fun hj h1 _ => ?_⟩
    · rw [key i.op j.op hi (.inl hc)] at h2; cases h2
    · rw [key j.op i.op hj (.inr hc)] at h1; cases h1
  · exact ⟨fun _ h1 h2 => disj_no hd h1 h2, fun _ h1 h2 => disj_no hd h1 h2⟩
theorem tch_eq {x : DOp} {s1 s2 : Nat → V} (h : ∀ m ∈ x.reads, s2 m = s1 m) : x.tch s2 = x.tch s1 := by
  cases x with
  | load n agg a => show bx1 _ = bx1 _; rw [ev_eq h]
  | store n a y => show bx1 _ = bx1 _; rw [ev_eq fun m hm => h m (by simp [DOp.reads, hm])]
  | mlook ag sh z ok a k => show bx1 _ = bx1 _; rw [ev_eq fun m hm => h m (by simp [DOp.reads, hm])]
  | mput ag sh a k v => show bx1 _ = bx1 _; rw [ev_eq fun m hm => h m (by simp [DOp.reads, hm])]
  | mlen a => show bx1 _ = bx1 _; rw [ev_eq h]
  | prim p a => show bx1 _ = bx1 _; rw [ev_eq h]
  | appT size bytes s a => show bx1 _ = bx1 _; rw [ev_eq fun m hm => h m (by simp [DOp.reads, hm])]
  | call f args => show List.flatMap _ _ = List.flatMap _ _; rw [evs_eq h]
  | fcall f args => show List.flatMap _ _ = List.flatMap _ _; rw [evs_eq h]
  | callv y args => show bxs _ ++ List.flatMap _ _ = bxs _ ++ List.flatMap _ _; rw [ev_eq fun m hm => h m (by simp [DOp.reads, hm]), evs_eq fun m hm => h m (by simp [DOp.reads, hm])]
  | _ => rfl
theorem chk_acc {l : List Nat} {acc acc' : Nat → List Nat} {t : List Nat} (h : ∀ k, acc' k = acc k ∨ acc' k = []) (hc : chk l acc t = true) : chk l acc' t = true := by
  unfold chk at hc ⊢
  rw [List.all_eq_true] at hc ⊢
  intro i hi
  rcases h i with e | e
  · rw [e]; exact hc i hi
  · rw [e]; rfl
theorem wpR_mono {r : EffR} {d : Option Nat} {K K' : St → Prop} (hk : ∀ s, K s → K' s) (h : wpR r d st K) : wpR r d st K' := by
  cases r with
  | no => exact h
  | yes e => exact hk _ h
  | need c e => exact ⟨h.1, hk _ h.2⟩
  | alt c b f => exact ⟨h.1, fun b' e => hk _ (h.2 b' e)⟩
  | eq c t f => exact ⟨h.1, fun t' e => hk _ (h.2 t' e)⟩
end
section
variable [Glb] {P : Program} {X : List FuncId} {N : Nat} {w0 : World} {S0 : Base} {o : Oper} {a : Act} {E : Env} {st : St}
theorem wpCall_mono {f : FuncId} {args : List V} {d : Option Nat} {K K' : St → Prop} (hk : ∀ s, K s → K' s) (h : wpCall P f args d st K) : wpCall P f args d st K' := by
  unfold wpCall at h ⊢
  split at h
  · obtain ⟨r, h1, h2⟩ := h; exact ⟨r, h1, hk _ h2⟩
  · obtain ⟨r, h1, h2, h3⟩ := h; exact ⟨r, h1, h2, hk _ h3⟩
  · exact h
theorem WC_mono {f : FuncId} {us : List V} {d : Option Nat} {K K' : St → Prop} (hk : ∀ s, K s → K' s) (h : WC P f us d st K) : WC P f us d st K' :=
  ⟨h.1, fun N w0 S0 E a vs h1 h2 h3 h4 => (h.2 N w0 S0 E a vs h1 h2 h3 h4).mono fun e w' ⟨v, hv, E', st', hw, hK, hs⟩ => ⟨v, hv, E', st', hw, hk _ hK, hs⟩⟩
end
section
variable {P : Program} {X : List FuncId} {N : Nat} {w0 : World} {S0 : Base} {o : Oper} {a : Act} {E : Env} {st : St}
theorem cond_mono {b : Bool} {A B C : Prop} (h : A → B) : (cond b A C) → cond b B C := by cases b <;> simp; exact h
theorem wpAppend_mono {e : TypeId} {size bytes d q : Nat} {s x : V} {K K' : St → Prop} (hk : ∀ s, K s → K' s) (h : wpAppend e size bytes d q s x st K) : wpAppend e size bytes d q s x st K' := by
  unfold wpAppend at h ⊢
  split at h
  · refine ⟨h.1, ?_⟩
    have h := h.2
    split at h
    · exact ⟨h.1, hk _ h.2⟩
    · exact cond_mono (fun h => ⟨h.1, hk _ h.2⟩) h
    · exact h
  · split at h
    · exact hk _ h
    · exact cond_mono (fun h => ⟨h.1, hk _ h.2⟩) h
    · exact h
  · exact h
end
section
variable [Glb] {P : Program} {X : List FuncId} {N : Nat} {w0 : World} {S0 : Base} {o : Oper} {a : Act} {E : Env} {st : St}
theorem wpFcall_mono {f : FuncId} {us : List V} {d : Option Nat} {K K' : St → Prop} (hk : ∀ s, K s → K' s) (h : wpFcall P f us d st K) : wpFcall P f us d st K' := by
  unfold wpFcall at h ⊢
  cases d with
  | none => exact h
  | some n =>
    revert h
    simp only
    split
    · exact fun ⟨e, size, xs, h1, h2⟩ => ⟨e, size, xs, h1, fun q => hk _ (h2 q)⟩
    · exact id
theorem wpO_mono {o : DOp} {d : Option Nat} {K K' : St → Prop} (hk : ∀ s, K s → K' s) (h : wpO P o d st K) : wpO P o d st K' := by
  unfold wpO at h ⊢
  split at h
  · cases d with
    | none => exact h
    | some n => exact wpAppend_mono hk h
  · cases d with
    | none => exact h
    | some n =>
      revert h
      simp only [wpAppV]
      split
      · simp only [cond_eq_ite]
        split
        · exact fun h => ⟨h.1, hk _ h.2⟩
        · exact fun h => h
      · exact fun h => h
  · cases d with
    | none => exact h
    | some n =>
      revert h
      simp only
      split
      · exact fun h => ⟨h.1, hk _ h.2⟩
      · exact fun h => h
  · cases d with
    | none => exact h
    | some n =>
      revert h
      simp only
      split
      · split
        · exact fun h bs c h1 h2 h3 => hk _ (h bs c h1 h2 h3)
        · exact fun h => h
      · split
        · exact hk _
        · exact fun h => h
      · exact fun h => h
  · cases d with
    | none => exact h
    | some n =>
      revert h
      simp only
      split
      · split
        · split
          · exact fun ⟨h1, h2, h3, h4, h5, h6, h7⟩ => ⟨h1, h2, h3, h4, h5, fun j e he hj => hk _ (h6 j e he hj), fun hh => hk _ (h7 hh)⟩
          · exact fun h => h
        · exact fun ⟨h5, h6, h7⟩ => ⟨h5, fun j e he hj => hk _ (h6 j e he hj), fun hh => hk _ (h7 hh)⟩
        · exact fun h => h
      · exact fun h => h
  · exact wpCall_mono hk h
  · exact WC_mono hk h
  · exact wpFcall_mono hk h
  · obtain ⟨need, fr, m, b, r, h1, h2, h3, h4, h5, h6⟩ := h
    exact ⟨need, fr, m, b, r, h1, h2, h3, h4, h5, hk _ h6⟩
  · revert h
    split
    · exact wpCall_mono hk
    · exact wpCall_mono hk
    · exact fun h => h
  · exact wpR_mono hk h
theorem wpI_mono {i : DI} {K K' : St → Prop} (hk : ∀ s, K s → K' s) (h : wpI P i st K) : wpI P i st K' := by
  unfold wpI at h ⊢
  split at h
  · exact wpO_mono hk h
  · revert h
    split
    · split
      · exact wpO_mono hk
      · exact wpO_mono hk
      · exact hk _
      · exact hk _
    · exact hk _
    · exact fun h => h
theorem wpIsD_acc {ck : List (List Nat)} {K : St → Prop} : ∀ {l : List (Nat × DI)} {acc acc' : Nat → List Nat} {st : St}, (∀ k, acc' k = acc k ∨ acc' k = []) → wpIsD P ck acc l st K → wpIsD P ck acc' l st K
  | [], _, _, _, _, h => h
  | (j, i) :: l, acc, acc', st, ha, h => by
    refine ⟨chk_acc ha h.1, wpI_mono (fun s hs => ?_) h.2⟩
    refine wpIsD_acc (fun k => ?_) hs
    by_cases hk : k = j
    · subst hk; rw [upd_same, upd_same]; exact .inl rfl
    · rw [upd_other _ _ _ _ hk, upd_other _ _ _ _ hk]; exact ha k
theorem wpIsD_chk {ck : List (List Nat)} {jk : Nat} {j : DI} {post : List (Nat × DI)} {K : St → Prop} : ∀ {pre : List (Nat × DI)} {acc : Nat → List Nat} {st : St}, (∀ p ∈ pre, p.2.indep j = true) →
    wpIsD P ck acc (pre ++ (jk, j) :: post) st K → ∃ acc', (∀ k, k ∉ pre.map (·.1) → acc' k = acc k) ∧ chk (ck[jk]?.getD []) acc' (j.op.tch st.sl) = true
  | [], acc, st, _, h => ⟨acc, fun _ _ => rfl, h.1⟩
  | (ik, i) :: pre, acc, st, hp, h => by
    obtain ⟨cc, a1, a2, a3, hcp, _⟩ := indep_spec (hp (ik, i) (by simp))
    obtain ⟨ei, hk⟩ := wpI_some (cc.elim (fun h => .inl h.1) fun h => h.elim (fun h => .inr h.1) fun h => .inl (Cls.det_std h.1)) h.2
    obtain ⟨acc', h1, h2⟩ := wpIsD_chk (fun p hpp => hp p (List.mem_cons_of_mem _ hpp)) hk
    refine ⟨acc', fun k hk => ?_, ?_⟩
    · simp only [List.map_cons, List.mem_cons, not_or] at hk
      rw [h1 k hk.2, upd_other _ _ _ _ hk.1]
    · rwa [tch_eq fun m hm => app_sl _ _ _ fun he => a1 m he (by unfold DI.reads; simp [hm])] at h2
theorem wpIsD_front {ck : List (List Nat)} {jk : Nat} {j : DI} {post : List (Nat × DI)} {K : St → Prop} : ∀ {pre : List (Nat × DI)} {acc : Nat → List Nat} {st : St},
    (∀ p ∈ pre, p.2.indep j = true ∧ (clsPair p.2.op.cls j.op.cls = some true → p.1 ∈ ck[jk]?.getD [])) → ((pre.map (·.1)).Nodup) → (∀ p ∈ pre, p.1 ≠ jk) → (∀ p ∈ pre, acc p.1 = []) → acc jk = [] → LiveAt j st →
    wpIsD P ck acc (pre ++ (jk, j) :: post) st K → wpI P j st fun st' => wpIsD P ck acc (pre ++ post) st' K
  | [], acc, st, _, _, _, _, h0, _, h => wpI_mono (fun s hs => wpIsD_acc (fun k => (by
      by_cases hk : k = jk
      · exact .inr (hk ▸ h0)
      · exact .inl (upd_other _ _ _ _ hk).symm)) hs) h.2
  | (ik, i) :: pre, acc, st, hp, hnd, hne, hacc, h0, hl, h => by
    obtain ⟨hij, hik⟩ := hp (ik, i) (by simp)
    obtain ⟨cc, a1, a2, a3, hcp, am1, am2⟩ := indep_spec hij
    have rdo_wr : ∀ {k : DI} {s : St} {e : Eff}, k.op.cls.rdo = true → Wrote k s e → e.wr = none := fun hk hw => by
      rcases hw with hw | ⟨n, b, h0, _⟩ | ⟨n, b, h0, _⟩
      · exact hw
      · rw [h0] at hk; cases hk
      · revert hk h0; generalize (DI.op _).cls = c; cases c <;> simp [Cls.rdo, Cls.wr]
    have wr_bx : ∀ {s : St} {d : Option Nat} {e : Eff}, e.wr = none → (s.app d e).bx = s.bx := fun {s d e} he => by unfold St.app; rw [he]; cases d <;> rfl
    obtain ⟨hchk, h⟩ := h
    have nd : (ik ∉ pre.map (·.1)) ∧ (pre.map (·.1)).Nodup := List.nodup_cons.1 hnd
    have hp' : ∀ p ∈ pre, p.2.indep j = true ∧ (clsPair p.2.op.cls j.op.cls = some true → p.1 ∈ ck[jk]?.getD []) := fun p hpp => hp p (List.mem_cons_of_mem _ hpp)
    have rest : ∀ st', LiveAt j st' → wpIsD P ck (upd acc ik (i.op.tch st.sl)) (pre ++ (jk, j) :: post) st' K → wpI P j st' fun st'' => wpIsD P ck (upd acc ik (i.op.tch st.sl)) (pre ++ post) st'' K := fun st' hl' hk' =>
      wpIsD_front hp' nd.2 (fun p hpp => hne p (List.mem_cons_of_mem _ hpp)) (fun p hpp => by
        by_cases hk : p.1 = ik
        · exact absurd (hk ▸ List.mem_map_of_mem hpp) nd.1
        · rw [upd_other _ _ _ _ hk]; exact hacc p (List.mem_cons_of_mem _ hpp)) (by
        by_cases hk : jk = ik
        · exact absurd hk.symm (hne (ik, i) (by simp))
        · rw [upd_other _ _ _ _ hk]; exact h0) hl' hk'
    have plainbx : ∀ (d : Option Nat) (v : V) (s : St), (s.app d { val := v }).bx = s.bx := fun d v s => by cases d <;> rfl
    have tchj : ∀ v, j.op.tch (st.app i.dst { val := v }).sl = j.op.tch st.sl := fun v => tch_eq fun m hm => app_sl _ _ _ fun he => a1 m he (by unfold DI.reads; simp [hm])
    have tchi : ∀ e : Eff, i.op.tch (st.app j.dst e).sl = i.op.tch st.sl := fun e => tch_eq fun m hm => app_sl _ _ _ fun he => a3 m he (by unfold DI.reads; simp [hm])
    rcases cc with ⟨c1, c2⟩ | ⟨c1, c2⟩ | ⟨c1, c2⟩
    case inr.inl =>
      obtain ⟨vs, hvs, hk⟩ := wpI_fresh c1 h
      have one : ∀ q, ∃ ej, effI P j st ej ∧ wpIsD P ck (upd acc ik (i.op.tch st.sl)) (pre ++ post) ((st.app i.dst { val := vs q }).app j.dst ej) K := fun q => by
        obtain ⟨ej, h1, h2⟩ := wpI_eff (Cls.det_std c2) (rest _ (fun hmu n hn => by rw [tchj] at hn; rw [plainbx]; exact hl hmu n hn) (hk q))
        refine ⟨ej, effI_local (Cls.det_std c2) (fun m hm => (app_sl _ _ _ fun he => a1 m he hm).symm) (fun n _ b hb => by rw [plainbx] at hb; exact hb) (app_off _ _ _).symm (fun n _ hn => by rw [plainbx] at hn; exact hn) (fun _ => (plainbx _ _ _).symm) h1, h2⟩
      obtain ⟨ej, hej, _⟩ := one 0
      have wj := effI_wr (Cls.det_std c2) hej
      refine eff_wpI (Cls.det_std c2) hej ⟨by rw [tchi]; exact hchk, ?_⟩
      refine fresh_wpI c1 (freshI_local c1 (fun m hm => app_sl _ _ _ fun he => a3 m he hm) (fun n hn b hb => ?_) hvs) fun q => ?_
      · rw [app_bx]; exact hb
        intro b' hw
        rcases wj with wj | ⟨n', b'', h0, h1, h2, h3⟩ | ⟨n', b'', h1, _⟩
        · rw [wj] at hw; cases hw
        · rw [h3] at hw; cases hw; rw [h2] at hb; cases hb
        · revert c2 h1; generalize j.op.cls = c; cases c <;> simp [Cls.det, Cls.wr]
      · obtain ⟨ej', hej', hk2⟩ := one q
        have := effI_one c2 hej hej'
        subst this
        rw [tchi, app_comm (fun n h1 h2 => a2 n h2 h1) (fun n b m c _ hwi => by cases hwi)]
        exact hk2
    case inr.inr =>
      obtain ⟨ei, hei, hk⟩ := wpI_eff (Cls.det_std c1) h
      have wi := effI_wr (Cls.det_std c1) hei
      have hslj : ∀ m ∈ j.reads, (st.app i.dst ei).sl m = st.sl m := fun m hm => app_sl _ _ _ fun he => a1 m he hm
      have htj : j.op.tch (st.app i.dst ei).sl = j.op.tch st.sl := tch_eq fun m hm => hslj m (by unfold DI.reads; simp [hm])
      have extj : ∀ n ∈ j.op.tch st.sl, (st.app i.dst ei).bx n = st.bx n := fun n hn => by
        refine app_bx _ _ _ fun b' hw => ?_
        rcases wi with wi | ⟨n', b'', h0, h1, h2, h3⟩ | ⟨n', b'', h1, _⟩
        · rw [wi] at hw; cases hw
        · rw [h3] at hw; cases hw
          have := hl (by rw [c2]; simp) n hn
          rw [h2] at this; cases this
        · revert c1 h1; generalize i.op.cls = c; cases c <;> simp [Cls.det, Cls.wr]
      obtain ⟨vs, hvs, hk2⟩ := wpI_fresh c2 (rest _ (fun hmu n hn => by rw [htj] at hn; rw [extj n hn]; exact hl hmu n hn) hk)
      refine fresh_wpI c2 (freshI_local c2 (fun m hm => (hslj m hm).symm) (fun n hn b hb => by rw [htj] at hn; rw [← extj n hn]; exact hb) hvs) fun q => ⟨by rw [tchi]; exact hchk, ?_⟩
      refine eff_wpI (e := ei) (Cls.det_std c1) (effI_local (Cls.det_std c1) (fun m hm => app_sl _ _ _ fun he => a3 m he hm) (fun n _ b hb => by rw [plainbx]; exact hb) (app_off _ _ _) (fun n _ hn => by rw [plainbx]; exact hn) (fun _ => plainbx _ _ _) hei) ?_
      rw [tchi, app_comm (fun n h1 h2 => a2 n h2 h1) (fun n b m c hwj _ => by cases hwj)]
      exact hk2 q
    obtain ⟨ei, hei, hk⟩ := wpI_eff c1 h
    have wi := effI_wr c1 hei
    have hslj : ∀ m ∈ j.reads, (st.app i.dst ei).sl m = st.sl m := fun m hm => app_sl _ _ _ fun he => a1 m he hm
    have htj : j.op.tch (st.app i.dst ei).sl = j.op.tch st.sl := tch_eq fun m hm => hslj m (by unfold DI.reads; simp [hm])
    -- the boxes are apart
    have hdis : clsPair i.op.cls j.op.cls = some false ∨ disj (i.op.tch st.sl) (j.op.tch st.sl) = true := by
      rcases hcp with hcp | hcp
      · exact .inl hcp
      · refine .inr ?_
        obtain ⟨acc', q1, q2⟩ := wpIsD_chk (fun p hpp => (hp' p hpp).1) hk
        rw [htj] at q2
        unfold chk at q2
        rw [List.all_eq_true] at q2
        have h2 := q2 ik (hik hcp)
        rwa [q1 ik nd.1, upd_same] at h2
    have extj : ∀ n ∈ j.op.tch st.sl, (st.app i.dst ei).bx n = st.bx n := fun n hn => by
      refine app_bx _ _ _ fun b' hw => ?_
      rcases wi with wi | ⟨n', b'', h0, h1, h2, h3⟩ | ⟨n', b'', h1, h2, h3, h4⟩
      · rw [wi] at hw; cases hw
      · rw [h3] at hw; cases hw
        have := hl (fun hmu => by have := am2 hmu; rw [h0] at this; cases this) n hn
        rw [h2] at this; cases this
      · rw [h4] at hw; cases hw
        exact (pair_apart hdis).1 h1 h2 hn
    have none_i : ∀ n, (st.app i.dst ei).bx n = none → st.bx n = none := fun n hn => by
      rw [← hn]
      refine (app_bx _ _ _ fun b' hw => ?_).symm
      have : (st.app i.dst ei).bx n = some b' := by
        unfold St.app
        simp only [hw]
        exact upd_same _ _ _
      rw [this] at hn; cases hn
    have hl' : LiveAt j (st.app i.dst ei) := fun hmu n hn => by
      rw [htj] at hn
      rw [extj n hn]; exact hl hmu n hn
    have hrec := wpIsD_front hp' nd.2 (fun p hpp => hne p (List.mem_cons_of_mem _ hpp)) (fun p hpp => by
        by_cases hk : p.1 = ik
        · exact absurd (hk ▸ List.mem_map_of_mem hpp) nd.1
        · rw [upd_other _ _ _ _ hk]; exact hacc p (List.mem_cons_of_mem _ hpp)) (by
        by_cases hk : jk = ik
        · exact absurd hk.symm (hne (ik, i) (by simp))
        · rw [upd_other _ _ _ _ hk]; exact h0) hl' hk
    obtain ⟨ej, hej, hk2⟩ := wpI_eff c2 hrec
    have hej0 : effI P j st ej := by
      refine effI_local c2 (fun m hm => (hslj m hm).symm) (fun n hn b hb => ?_) (app_off _ _ _).symm (fun n _ hn => none_i n hn) (fun hmu => (wr_bx (rdo_wr (am2 hmu) wi)).symm) hej
      rw [htj] at hn
      rw [← extj n hn]; exact hb
    have wj := effI_wr c2 hej0
    refine eff_wpI c2 hej0 ?_
    have hti : i.op.tch (st.app j.dst ej).sl = i.op.tch st.sl := tch_eq fun m hm => app_sl _ _ _ fun he => a3 m he (by unfold DI.reads; simp [hm])
    refine ⟨by rw [hti]; exact hchk, ?_⟩
    refine eff_wpI (e := ei) c1 (effI_local c1 (fun m hm => app_sl _ _ _ fun he => a3 m he hm) (fun n hn b hb => ?_) (app_off _ _ _) (fun n hn hbn => ?_) (fun hmu => wr_bx (rdo_wr (am1 hmu) wj)) hei) ?_
    · rw [app_bx]; exact hb
      intro b' hw
      rcases wj with wj | ⟨n', b'', h0, h1, h2, h3⟩ | ⟨n', b'', h1, h2, h3, h4⟩
      · rw [wj] at hw; cases hw
      · rw [h3] at hw; cases hw; rw [h2] at hb; cases hb
      · rw [h4] at hw; cases hw
        exact (pair_apart hdis).2 h1 hn h2
    · rw [app_bx]; exact hbn
      intro b hw
      rcases wj with wj | ⟨n', b', h0, h1, h2, h3⟩ | ⟨n', b', h1, h2, h3, h4⟩
      · rw [wj] at hw; cases hw
      · rw [h3] at hw; cases hw; exact nm_ne (s := st) (s' := st) rfl a2 hn h1
      · rw [h4] at hw; cases hw
        rw [hbn] at h3; cases h3
    · rw [hti, app_comm (fun n h1 h2 => a2 n h2 h1) (fun n b m c hwj hwi hnm => ?_)]
      · exact hk2
      · subst hnm
        rcases wi with wi | ⟨n1, b1, k0, k1, k2, k3⟩ | ⟨n1, b1, k1, k2, k3, k4⟩
        · rw [wi] at hwi; cases hwi
        · rw [k3] at hwi; cases hwi
          rcases wj with wj | ⟨n2, b2, l0, l1, l2, l3⟩ | ⟨n2, b2, l1, l2, l3, l4⟩
          · rw [wj] at hwj; cases hwj
          · rw [l3] at hwj; cases hwj; exact nm_ne (s := st) (s' := st) rfl a2 k1 l1
          · rw [l4] at hwj; cases hwj; rw [k2] at l3; cases l3
        · rw [k4] at hwi; cases hwi
          rcases wj with wj | ⟨n2, b2, l0, l1, l2, l3⟩ | ⟨n2, b2, l1, l2, l3, l4⟩
          · rw [wj] at hwj; cases hwj
          · rw [l3] at hwj; cases hwj; rw [l2] at k3; cases k3
          · rw [l4] at hwj; cases hwj
            exact (pair_apart hdis).1 k1 k2 l2
theorem wpIsD_of {K : St → Prop} : ∀ {l : List (Nat × DI)} {acc : Nat → List Nat} {st : St}, wpIs P (l.map (·.2)) st K → wpIsD P [] acc l st K
  | [], _, _, h => h
  | (j, i) :: l, acc, st, h => ⟨rfl, wpI_mono (fun _ hs => wpIsD_of hs) h⟩
end
section
variable {P : Program} {X : List FuncId} {N : Nat} {w0 : World} {S0 : Base} {o : Oper} {a : Act} {E : Env} {st : St}
theorem bx1_live {v : Value} {u : V} (h : VR E v u) (n : Nat) (hn : n ∈ bx1 u) : E.live n = true := by
  cases h <;> simp [bx1] at hn <;> subst hn <;> assumption
theorem bx2_live {v : Value} {u : V} (h : VR E v u) (n : Nat) (hn : n ∈ bx2 u) : E.live n = true := by
  cases u with
  | fn f vs =>
    cases h with
    | fn _ cs _ hs hv =>
      obtain ⟨c, hc, hn⟩ := List.mem_flatMap.1 hn
      obtain ⟨i, hi⟩ := List.mem_iff_getElem?.1 hc
      have hlt : i < cs.size := by rw [hs]; exact (List.getElem?_eq_some_iff.1 hi).1
      exact bx1_live (hv i _ c (Array.getElem?_eq_getElem hlt) hi) n hn
  | ptr k off => exact bx1_live h n hn
  | view k off len size => exact bx1_live h n hn
  | mp k => exact bx1_live h n hn
  | _ => cases hn
theorem bxs_live {v : Value} {u : V} (h : VR E v u) (n : Nat) (hn : n ∈ bxs u) : E.live n = true := by
  cases u with
  | fn f vs =>
    cases h with
    | fn _ cs _ hs hv =>
      obtain ⟨c, hc, hn⟩ := List.mem_flatMap.1 hn
      obtain ⟨i, hi⟩ := List.mem_iff_getElem?.1 hc
      have hlt : i < cs.size := by rw [hs]; exact (List.getElem?_eq_some_iff.1 hi).1
      exact bx2_live (hv i _ c (Array.getElem?_eq_getElem hlt) hi) n hn
  | ptr k off => exact bx1_live h n hn
  | view k off len size => exact bx1_live h n hn
  | mp k => exact bx1_live h n hn
  | _ => cases hn
end
section
variable [Glb] {P : Program} {X : List FuncId} {N : Nat} {w0 : World} {S0 : Base} {o : Oper} {a : Act} {E : Env} {st : St}
theorem SR.liveAt {t : Array Value} (h : SR N w0 S0 E st t) (j : DI) : LiveAt j st := fun hmu n hn => by
  have ev_live : ∀ (x : O), n ∈ bxs (ev st.sl x) → (st.bx n).isSome = true := fun x hx => by
    obtain ⟨m, _, hm⟩ := mem_bxs_ev hx
    rw [← h.live]; exact bxs_live (h.sl m) n hm
  have evs_live : ∀ (xs : List O), n ∈ (xs.map (ev st.sl)).flatMap bx2 → (st.bx n).isSome = true := fun xs hx => by
    obtain ⟨m, _, hm⟩ := mem_bxs_evs hx
    rw [← h.live]; exact bxs_live (h.sl m) n hm
  unfold DOp.tch at hn
  split at hn
  · exact ev_live _ (bx23 (bx12 hn))
  · exact ev_live _ (bx23 (bx12 hn))
  · exact ev_live _ (bx23 (bx12 hn))
  · exact ev_live _ (bx23 (bx12 hn))
  · exact ev_live _ (bx23 (bx12 hn))
  · exact ev_live _ (bx23 (bx12 hn))
  · exact ev_live _ (bx23 (bx12 hn))
  · exact evs_live _ hn
  · exact evs_live _ hn
  · rename_i hop; rw [hop] at hmu; exact absurd rfl hmu
  · rcases List.mem_append.1 hn with hn | hn
    · exact ev_live _ hn
    · exact evs_live _ hn
  · cases hn
end
end Go.DL
end
section
namespace Go.DL
open Go.RowKit
section
variable [Glb] {P : Program} {X : List FuncId} {N : Nat} {w0 : World} {S0 : Base} {a : Act} {E : Env} {st : St}
def aft (is : List DI) (k : Nat) : List Nat := (is[k]?.getD default).after
end
section
variable {P : Program} {X : List FuncId} {N : Nat} {w0 : World} {S0 : Base} {a : Act} {E : Env} {st : St}
theorem has_iff {m k : Nat} : has m k = true ↔ m.testBit k = true := by
  unfold has Nat.testBit
  have h : Nat.land (Nat.shiftRight m k) 1 = 1 &&& (m >>> k) := Nat.and_comm _ _
  rw [h]
  have h1 : (1 &&& (m >>> k)) = (m >>> k) % 2 := by rw [Nat.and_comm]; exact Nat.and_one_is_mod _
  rw [h1]
  rcases Nat.mod_two_eq_zero_or_one (m >>> k) with e | e <;> rw [e] <;> simp
theorem has_mask {acc : List Nat} : ∀ {l : List Nat} {i : Nat}, has (maskOf acc l) i = true → i ∈ l ∨ ∃ k ∈ l, has (acc[k]?.getD 0) i = true
  | [], i, h => by
    rw [has_iff] at h
    simp [maskOf] at h
  | k :: ks, i, h => by
    rw [has_iff] at h
    have e : maskOf acc (k :: ks) = ((1 <<< k) ||| (acc[k]?.getD 0)) ||| maskOf acc ks := rfl
    rw [e, Nat.testBit_or, Nat.testBit_or, Bool.or_eq_true, Bool.or_eq_true] at h
    rcases h with (h | h) | h
    · left
      rw [Nat.testBit_shiftLeft] at h
      simp only [Bool.and_eq_true, decide_eq_true_eq] at h
      have : i - k = 0 := by
        rcases Nat.eq_zero_or_pos (i - k) with h0 | h0
        · exact h0
        · exfalso
          have := h.2
          rw [Nat.testBit_lt_two_pow (x := 1) (by exact Nat.one_lt_two_pow (by omega))] at this
          cases this
      have : i = k := by omega
      simp [this]
    · exact .inr ⟨k, by simp, has_iff.2 h⟩
    · rcases has_mask (has_iff.2 h) with h | ⟨k', h1, h2⟩
      · exact .inl (List.mem_cons_of_mem _ h)
      · exact .inr ⟨k', List.mem_cons_of_mem _ h1, h2⟩
theorem depsOf_spec {L : Nat → Prop} {is0 : List DI} (hcl : ∀ k, L k → ∀ e ∈ aft is0 k, L e) : ∀ (is : List DI) (acc : List Nat), (∀ k, is0[acc.length + k]? = is[k]?) →
    (∀ k, (∀ e ∈ aft is0 k, L e) → ∀ i, has (acc[k]?.getD 0) i = true → L i) → ∀ k, (∀ e ∈ aft is0 k, L e) → ∀ i, has ((depsOf acc is)[k]?.getD 0) i = true → L i
  | [], acc, _, hacc => hacc
  | d :: is, acc, his, hacc => by
    unfold depsOf
    refine depsOf_spec hcl is _ (fun k => ?_) (fun k hk i hi => ?_)
    · have := his (k + 1)
      simp only [List.length_append, List.length_cons, List.length_nil]
      rw [show acc.length + (0 + 1) + k = acc.length + (k + 1) by omega, this]
      simp
    · rcases Nat.lt_trichotomy k acc.length with h | h | h
      · rw [List.getElem?_append_left h] at hi
        exact hacc k hk i hi
      · subst h
        have hd : is0[acc.length]? = some d := by simpa using his 0
        have ha : aft is0 acc.length = d.after := by unfold aft; rw [hd]; rfl
        rw [List.getElem?_append_right (Nat.le_refl _)] at hi
        simp only [Nat.sub_self, List.getElem?_cons_zero, Option.getD_some] at hi
        rw [ha] at hk
        rcases has_mask hi with hi | ⟨k', hk', hi⟩
        · exact hk i hi
        · exact hacc k' (hcl k' (hk k' hk')) i hi
      · rw [List.getElem?_eq_none (by simp; omega)] at hi
        rw [has_iff] at hi
        simp at hi
theorem okPre_spec {m : Nat} {j : DI} : ∀ {c k : Nat} {is : List DI}, okPre m j k c is = true → ∀ x i, x < c → is[x]? = some i → has m (k + x) = true ∨ i.indep j = true
  | 0, _, _, _, x, _, hx, _ => absurd hx (by omega)
  | c + 1, k, [], _, x, i, _, hi => by simp at hi
  | c + 1, k, i0 :: is, h, x, i, hx, hi => by
    unfold okPre at h
    simp only [cond_eq_ite, ite_eq_left_iff, Bool.not_eq_true, Bool.if_true_left, Bool.decide_eq_true, Bool.or_eq_true, if_false_right, Bool.and_eq_true] at h
    cases x with
    | zero =>
      simp at hi; subst hi
      revert h
      cases has m k <;> cases i0.indep j <;> simp_all
    | succ x =>
      have h2 : okPre m j (k + 1) c is = true := by
        revert h
        cases has m k <;> cases i0.indep j <;> simp_all
      have := okPre_spec h2 x i (by omega) (by simpa using hi)
      rwa [show k + 1 + x = k + (x + 1) by omega] at this
theorem okAll_spec {is : List DI} : ∀ {rest : List DI} {n : Nat} {ms : List Nat}, okAll is n rest ms = true → ∀ x j, rest[x]? = some j → (∀ e ∈ j.after, e < n + x) ∧ okPre (ms[x]?.getD 0) j 0 (n + x) is = true
  | [], n, ms, _, x, j, hj => by simp at hj
  | j0 :: rest, n, [], h, x, j, hj => by simp [okAll] at h
  | j0 :: rest, n, m :: ms, h, x, j, hj => by
    unfold okAll at h
    have h3 : (j0.after.all fun i => Nat.blt i n) = true ∧ okPre m j0 0 n is = true ∧ okAll is (n + 1) rest ms = true := by
      revert h
      cases (j0.after.all fun i => Nat.blt i n) <;> cases okPre m j0 0 n is <;> simp
    cases x with
    | zero =>
      simp at hj; subst hj
      refine ⟨fun e he => ?_, h3.2.1⟩
      exact Nat.le_of_ble_eq_true (List.all_eq_true.1 h3.1 e he)
    | succ x =>
      have := okAll_spec h3.2.2 x j (by simpa using hj)
      rw [show n + 1 + x = n + (x + 1) by omega] at this
      simpa using this
theorem drawOk_spec {is : List DI} (h : drawOk is = true) {j : Nat} (hj : j < is.length) : (∀ e ∈ aft is j, e < j) ∧ ∀ i, i < j → has ((depsOf [] is)[j]?.getD 0) i = true ∨ (is[i]?.getD default).indep (is[j]?.getD default) = true := by
  have h1 := okAll_spec h j _ (List.getElem?_eq_getElem hj)
  rw [Nat.zero_add] at h1
  refine ⟨fun e he => ?_, fun i hi => ?_⟩
  · unfold aft at he
    rw [List.getElem?_eq_getElem hj] at he
    exact h1.1 e he
  · have hi' : i < is.length := by omega
    have := okPre_spec h1.2 i _ hi (List.getElem?_eq_getElem hi')
    rw [Nat.zero_add] at this
    rw [List.getElem?_eq_getElem hj, List.getElem?_eq_getElem hi']
    exact this
theorem ckPre_spec {m : Nat} {j : DI} : ∀ {c k : Nat} {is : List DI} (x : Nat) (i : DI), x < c → is[x]? = some i → has m (k + x) = false → clsPair i.op.cls j.op.cls = some true → k + x ∈ ckPre m j k c is
  | 0, _, _, x, _, hx, _, _, _ => absurd hx (by omega)
  | c + 1, k, [], x, i, _, hi, _, _ => by simp at hi
  | c + 1, k, i0 :: is, x, i, hx, hi, hn, hc => by
    unfold ckPre
    cases x with
    | zero =>
      simp at hi; subst hi
      rw [Nat.add_zero] at hn
      rw [hn, hc]
      simp [isTrue]
    | succ x =>
      have h := ckPre_spec (m := m) (j := j) (c := c) (k := k + 1) (is := is) x i (by omega) (by simpa using hi) (by rwa [show k + 1 + x = k + (x + 1) by omega]) hc
      rw [show k + 1 + x = k + (x + 1) by omega] at h
      cases (bif has m k then false else isTrue (clsPair i0.op.cls j.op.cls)) with
      | true => exact List.mem_cons_of_mem _ h
      | false => exact h
theorem ckAll_spec {is : List DI} : ∀ {rest : List DI} {n : Nat} {ms : List Nat}, rest.length ≤ ms.length → ∀ x j, rest[x]? = some j → (ckAll is n rest ms)[x]?.getD [] = ckPre (ms[x]?.getD 0) j 0 (n + x) is
  | [], n, ms, _, x, j, hj => by simp at hj
  | j0 :: rest, n, [], h, x, j, hj => by simp at h
  | j0 :: rest, n, m :: ms, h, x, j, hj => by
    unfold ckAll
    cases x with
    | zero => simp at hj; subst hj; simp
    | succ x =>
      have := ckAll_spec (is := is) (rest := rest) (n := n + 1) (ms := ms) (by simpa using h) x j (by simpa using hj)
      rw [show n + 1 + x = n + (x + 1) by omega] at this
      simpa using this
theorem depsOf_len : ∀ (is : List DI) (acc : List Nat), (depsOf acc is).length = acc.length + is.length
  | [], acc => by simp [depsOf]
  | i :: is, acc => by unfold depsOf; rw [depsOf_len is]; simp; omega
end
section
variable [Glb] {P : Program} {X : List FuncId} {N : Nat} {w0 : World} {S0 : Base} {a : Act} {E : Env} {st : St}
def pickI (is : List DI) (ks : List Nat) : List (Nat × DI) := ks.map fun k => (k, is[k]?.getD default)
def CkOk (is : List DI) (ck : List (List Nat)) : Prop := ∀ j, j < is.length → ∀ i, i < j → has ((depsOf [] is)[j]?.getD 0) i = false → clsPair (is[i]?.getD default).op.cls (is[j]?.getD default).op.cls = some true → i ∈ ck[j]?.getD []
end
section
variable {P : Program} {X : List FuncId} {N : Nat} {w0 : World} {S0 : Base} {a : Act} {E : Env} {st : St}
theorem ckPairs_ok (is : List DI) : CkOk is (ckPairs is) := fun j hj i hi hn hc => by
  unfold ckPairs
  have hi' : i < is.length := by omega
  rw [ckAll_spec (by rw [depsOf_len]; simp) j _ (List.getElem?_eq_getElem hj), Nat.zero_add]
  rw [List.getElem?_eq_getElem hj, List.getElem?_eq_getElem hi'] at hc
  have := ckPre_spec (k := 0) (is := is) i _ hi (List.getElem?_eq_getElem hi') (by rwa [Nat.zero_add]) hc
  rwa [Nat.zero_add] at this
theorem ckOf_ok (is : List DI) : CkOk is (ckOf is) := by
  unfold ckOf
  cases h : (ckPairs is).all (·.isEmpty) with
  | false => exact ckPairs_ok is
  | true =>
    intro j hj i hi hn hc
    exfalso
    have := ckPairs_ok is j hj i hi hn hc
    rw [List.all_eq_true] at h
    cases hx : (ckPairs is)[j]? with
    | none => rw [hx] at this; simp at this
    | some l =>
      rw [hx, Option.getD_some] at this
      have := h l (List.mem_of_getElem? hx)
      cases l with
      | nil => rename_i h1; cases h1
      | cons a r => cases this
theorem numb_pick {is : List DI} : ∀ (l : List DI) (k : Nat), (∀ m, is[k + m]? = l[m]?) → numb k l = (List.range' k l.length).map fun k => (k, is[k]?.getD default)
  | [], k, _ => rfl
  | i :: l, k, h => by
    have h0 : is[k]? = some i := by simpa using h 0
    show (k, i) :: numb (k + 1) l = _
    rw [numb_pick l (k + 1) fun m => by have := h (m + 1); simp at this; rw [← this]; congr 1; omega]
    rw [List.length_cons, List.range'_succ, List.map_cons, h0]
    rfl
end
section
variable [Glb] {P : Program} {X : List FuncId} {N : Nat} {w0 : World} {S0 : Base} {a : Act} {E : Env} {st : St}
theorem wpAny_of {ck : List (List Nat)} {ops : Array Oper} {is : List DI} (hl : lowIs P N X ops ops.toList = some is) (hok : drawOk is = true) (hck : CkOk is ck) {Q : Exit → Act → World → Prop} {K : St → Prop} {ds : List Deferred} (hQ : ∀ a w, EndIs N w0 S0 ds K a w → Q .normal a w) :
    ∀ (fuel : Nat) (listed : Array Bool) (rem : List Nat) {a : Act} {E : Env} {st : St} (_ : SR N w0 S0 E st a.tmps) (_ : a.defers = ds) (_ : listed.size = ops.size) (_ : rem = (List.range ops.size).filter (fun k => !listed.getD k true)) (_ : rem.length = fuel)
      (_ : ∀ k, listed.getD k false = true → ∀ e ∈ aft is k, listed.getD e false = true) (_ : wpIsD P ck (fun _ => []) (pickI is rem) st K), wpAny P .any ops Q fuel listed a E.w := by
  have hlen : ops.size = is.length := by simpa using (lowIs_get hl).1
  -- an operation that may run now
  have rdy : ∀ (listed : Array Bool) (j : Nat), j ∈ Region.ready .any ops listed → j < ops.size ∧ listed.getD j true = false ∧ ∀ e ∈ aft is j, listed.getD e false = true := fun listed j hj => by
    obtain ⟨h1, o, ho, h2⟩ := mem_ready.1 hj
    refine ⟨(Array.getElem?_eq_some_iff.1 ho).1, h1, fun e he => ?_⟩
    obtain ⟨i, hi, hli⟩ := (lowIs_get hl).2 j o (Array.getElem?_toList.trans ho)
    obtain ⟨_, _, _, ha, _⟩ := lowI_inv hli
    unfold aft at he
    rw [hi, Option.getD_some, ha, List.mem_map] at he
    obtain ⟨x, hx, rfl⟩ := he
    rw [List.mem_filter] at hx
    exact h2 x (by simpa using hx.1) hx.2
  have rdy' : ∀ (listed : Array Bool) (j : Nat), j < ops.size → listed.getD j true = false → (∀ e ∈ aft is j, listed.getD e false = true) → j ∈ Region.ready .any ops listed := fun listed j hlt h1 h2 => by
    have ho : ops[j]? = some ops[j] := Array.getElem?_eq_getElem hlt
    refine mem_ready.2 ⟨h1, _, ho, fun e he hb => ?_⟩
    obtain ⟨i, hi, hli⟩ := (lowIs_get hl).2 j _ (Array.getElem?_toList.trans ho)
    obtain ⟨_, _, _, ha, _⟩ := lowI_inv hli
    refine h2 _ ?_
    unfold aft
    rw [hi, Option.getD_some, ha, List.mem_map]
    exact ⟨e, List.mem_filter.2 ⟨by simpa using he, hb⟩, rfl⟩
  have mem : ∀ (listed : Array Bool) (j : Nat), j ∈ (List.range ops.size).filter (fun k => !listed.getD k true) ↔ j < ops.size ∧ listed.getD j true = false := fun listed j => by
    rw [List.mem_filter, List.mem_range]; simp
  have flip : ∀ (listed : Array Bool) (j : Nat), j < listed.size → (listed.getD j true = listed.getD j false) := fun listed j h => by simp [h]
  intro fuel
  induction fuel with
  | zero =>
    intro listed rem a E st h hd hsz hrem hfu hcl hw
    have h0 : rem = [] := List.eq_nil_of_length_eq_zero hfu
    refine ⟨?_, ?_⟩
    · cases hr : Region.ready .any ops listed with
      | nil => rfl
      | cons x xs =>
        have hx := rdy listed x (by rw [hr]; simp)
        have : x ∈ rem := by rw [hrem]; exact (mem listed x).2 ⟨hx.1, hx.2.1⟩
        rw [h0] at this; cases this
    · rw [h0] at hw; exact hQ a E.w ⟨E, st, rfl, h, hd, hw⟩
  | succ fuel ih =>
    intro listed rem a E st h hd hsz hrem hfu hcl hw
    refine ⟨fun hr => ?_, fun j hj => ?_⟩
    · exfalso
      cases hm : rem with
      | nil => rw [hm] at hfu; cases hfu
      | cons k rest =>
        have hk : k < ops.size ∧ listed.getD k true = false := (mem listed k).1 (by rw [← hrem, hm]; simp)
        have hsort : rem.Pairwise (· < ·) := by rw [hrem]; exact List.Pairwise.filter _ List.pairwise_lt_range
        have : k ∈ Region.ready .any ops listed := by
          refine rdy' listed k hk.1 hk.2 fun e he => ?_
          have hlt := (drawOk_spec hok (by omega)).1 e he
          cases hle : listed.getD e false with
          | true => rfl
          | false =>
            exfalso
            have hin : e ∈ rem := by rw [hrem]; exact (mem listed e).2 ⟨by omega, by rw [flip _ _ (by omega)]; exact hle⟩
            rw [hm] at hin hsort
            rcases List.mem_cons.1 hin with rfl | hin
            · omega
            · have := (List.pairwise_cons.1 hsort).1 e hin; omega
        rw [hr] at this; cases this
    · obtain ⟨hj1, hj2, hj3⟩ := rdy listed j hj
      have hjr : j ∈ rem := by rw [hrem]; exact (mem listed j).2 ⟨hj1, hj2⟩
      obtain ⟨pre, post, hpp⟩ := List.append_of_mem hjr
      have hsort : rem.Pairwise (· < ·) := by rw [hrem]; exact List.Pairwise.filter _ List.pairwise_lt_range
      have ho : ops[j]? = some ops[j] := Array.getElem?_eq_getElem hj1
      obtain ⟨i, hi, hli⟩ := (lowIs_get hl).2 j _ (Array.getElem?_toList.trans ho)
      have hpu : ∀ p ∈ pre, p < j ∧ listed.getD p true = false := fun p hp => by
        rw [hpp] at hsort
        exact ⟨(List.pairwise_append.1 hsort).2.2 p hp j (by simp), ((mem listed p).1 (by rw [← hrem, hpp]; simp [hp])).2⟩
      have hnd' : ∀ p ∈ pre, has ((depsOf [] is)[j]?.getD 0) p = false := fun p hp => by
        refine Bool.eq_false_iff.2 fun hdep => ?_
        have := depsOf_spec (L := fun k => listed.getD k false = true) (is0 := is) hcl is [] (by simp) (fun k _ i hi => by rw [has_iff] at hi; simp at hi) j hj3 p hdep
        have h2 := (hpu p hp).2
        rw [flip _ _ (by have := (hpu p hp).1; omega)] at h2
        rw [h2] at this; cases this
      have hpre : ∀ x ∈ pickI is pre, x.2.indep i = true ∧ (clsPair x.2.op.cls i.op.cls = some true → x.1 ∈ ck[j]?.getD []) := fun x hx => by
        obtain ⟨p, hp, rfl⟩ := List.mem_map.1 hx
        have hlt := (hpu p hp).1
        refine ⟨?_, fun hc => ?_⟩
        · rcases (drawOk_spec hok (by omega)).2 p hlt with hdep | hind
          · rw [hnd' p hp] at hdep; cases hdep
          · rw [hi, Option.getD_some] at hind; exact hind
        · refine hck j (by omega) p hlt (hnd' p hp) ?_
          rw [hi, Option.getD_some]; exact hc
      have hnodup : rem.Nodup := hsort.imp (fun h => Nat.ne_of_lt h)
      have hnd0 : pre.Nodup := by rw [hpp] at hnodup; exact (List.nodup_append.1 hnodup).1
      have hfst : (pickI is pre).map (·.1) = pre := by unfold pickI; rw [List.map_map]; exact List.map_id' _
      have hw1 : wpI P i st fun st' => wpIsD P ck (fun _ => []) (pickI is pre ++ pickI is post) st' K := by
        refine wpIsD_front hpre (by rw [hfst]; exact hnd0) (fun x hx => ?_) (fun _ _ => rfl) rfl (h.liveAt i) ?_
        · obtain ⟨p, hp, rfl⟩ := List.mem_map.1 hx
          exact Nat.ne_of_lt (hpu p hp).1
        · rw [hpp] at hw
          unfold pickI at hw ⊢
          rw [List.map_append, List.map_cons, hi] at hw
          exact hw
      refine wpOp_mono ?_ (wpI_wp h ho hli hw1 (Q := Q))
      rintro a' w' ⟨st', hk', E', rfl, hsr, hdf⟩
      refine ih _ (pre ++ post) hsr (hdf.trans hd) (by simp [hsz]) ?_ ?_ (fun k hk e he => ?_) ?_
      · have hnd : rem.Nodup := hsort.imp (fun h => Nat.ne_of_lt h)
        have h1 : (List.range ops.size).filter (fun k => !(listed.setIfInBounds j true).getD k true) = rem.filter (fun k => decide (k ≠ j)) := by
          rw [hrem, List.filter_filter]
          refine List.filter_congr fun k hk => ?_
          by_cases hkj : j = k
          · subst hkj
            have : j < listed.size := by omega
            simp [this]
          · rw [getD_set_ne _ hkj]
            have : (k ≠ j) := fun e => hkj e.symm
            simp [this]
        rw [h1, hpp, List.filter_append, List.filter_cons]
        rw [hpp] at hnd
        have hn1 : ∀ x ∈ pre, x ≠ j := fun x hx he => (List.nodup_append.1 hnd).2.2 x hx j (by simp) he
        have hn2 : ∀ x ∈ post, x ≠ j := fun x hx he => (List.nodup_cons.1 (List.nodup_append.1 hnd).2.1).1 (he ▸ hx)
        rw [List.filter_eq_self.2 (fun x hx => by simpa using hn1 x hx), List.filter_eq_self.2 (fun x hx => by simpa using hn2 x hx)]
        simp
      · rw [hpp] at hfu
        simp at hfu ⊢
        omega
      · by_cases hkj : j = k
        · subst hkj; exact getD_set_true (hj3 e he)
        · rw [getD_set_ne _ hkj] at hk
          exact getD_set_true (hcl k hk e he)
      · unfold pickI at hk' ⊢
        rw [List.map_append]
        exact hk'
theorem regionAny_wp (hm : P.follows .mixedOrders = true) (h : SR N w0 S0 E st a.tmps) {ops : Array Oper} {is : List DI} (hl : lowIs P N X ops ops.toList = some is) (hok : drawOk is = true) {Q : Exit → Act → World → Prop} {K : St → Prop}
    (hQ : ∀ a' w, EndIs N w0 S0 a.defers K a' w → Q .normal a' w) (hw : wpIsD P (ckOf is) (fun _ => []) (numb 0 is) st K) {id : Nat} : (Code.region id ops true).wp P Q a E.w := by
  refine wp_region_any hm (wpAny_of (E := { E with w := E.w.drew }) hl hok (ckOf_ok is) hQ _ _ _ h.drew rfl (by simp) rfl ?_ ?_ ?_)
  · rw [List.filter_eq_self.2]
    · simp
    · intro k hk
      rw [List.mem_range] at hk
      simp [hk]
  · intro k hk
    exfalso
    by_cases hlt : k < ops.size
    · simp [hlt] at hk
    · simp [hlt] at hk
  · rw [List.filter_eq_self.2]
    · have : ops.size = is.length := by simpa using (lowIs_get hl).1
      rw [this]
      rw [numb_pick (is := is) is 0 (fun m => by simp)] at hw
      rw [← List.range_eq_range'] at hw
      exact hw
    · intro k hk
      rw [List.mem_range] at hk
      simp [hk]
end
end Go.DL
end
section
namespace Go.DL
open Go.RowKit
section
variable [Glb] {P : Program} {X : List FuncId} {N : Nat} {w0 : World} {S0 : Base} {a : Act} {E : Env} {st : St}
end
section
variable {P : Program} {X : List FuncId} {N : Nat} {w0 : World} {S0 : Base} {a : Act} {E : Env} {st : St}
theorem lk_mem {α : Type} {d : α} : ∀ {l : List (Nat × α)} {n : Nat}, lk d l n = d ∨ (n, lk d l n) ∈ l
  | [], n => .inl rfl
  | (k, v) :: r, n => by
    unfold lk
    by_cases h : n = k
    · subst h; rw [beq_self]; exact .inr (by simp)
    · rw [beq_ne h]
      rcases lk_mem (d := d) (l := r) (n := n) with h | h
      · exact .inl h
      · exact .inr (List.mem_cons_of_mem _ h)
theorem leSl_mem {ks : List Nat} {bx : Nat → Option BX} : ∀ {l : List (Nat × V)} {sl : Nat → V}, leSl ks bx l sl → ∀ p ∈ l, LeV ks bx p.2 (sl p.1)
  | [], _, _, p, hp => by simp at hp
  | (n, v) :: r, sl, h, p, hp => by
    rcases List.mem_cons.1 hp with rfl | hp
    · exact h.1
    · exact leSl_mem h.2 p hp
theorem leGh_mem {ks : List Nat} {bx : Nat → Option BX} : ∀ {l : List (Nat × List (Nat × V))} {gh : Nat → Nat → V}, leGh ks bx l gh → ∀ p ∈ l, leSl ks bx p.2 (gh p.1)
  | [], _, _, p, hp => by simp at hp
  | (n, v) :: r, sl, h, p, hp => by
    rcases List.mem_cons.1 hp with rfl | hp
    · exact h.1
    · exact leGh_mem h.2 p hp
theorem leBx_mem {ks : List Nat} {bx : Nat → Option BX} : ∀ {l : List (Nat × BX)}, leBx ks bx l → ∀ p ∈ l, LeB ks bx p.2 (bx p.1)
  | [], _, p, hp => by simp at hp
  | (n, v) :: r, h, p, hp => by
    rcases List.mem_cons.1 hp with rfl | hp
    · exact h.1
    · exact leBx_mem h.2 p hp
theorem inGo_mem {ks : List Nat} : ∀ {vs : List V}, inBx.go ks vs = true → ∀ v ∈ vs, inBx ks v = true
  | [], _, v, hv => by simp at hv
  | u :: us, h, v, hv => by
    simp only [inBx.go, Bool.and_eq_true] at h
    rcases List.mem_cons.1 hv with rfl | hv
    · exact h.1
    · exact inGo_mem h.2 v hv
end
section
variable [Glb] {P : Program} {X : List FuncId} {N : Nat} {w0 : World} {S0 : Base} {a : Act} {E : Env} {st : St}
def Env.stone (E : Env) (live : Nat → Bool) : Env := { E with live := live, S := fun b o => E.S b o ∨ ∃ n, E.live n = true ∧ live n = false ∧ b = E.κ n }
end
section
variable {P : Program} {X : List FuncId} {N : Nat} {w0 : World} {S0 : Base} {a : Act} {E : Env} {st : St}
theorem VR.live {v : Value} {u : V} (h : VR E v u) : ∀ {ks : List Nat} {live : Nat → Bool}, (∀ n, ks.contains n = true → live n = true) → (∀ r g, E.ρ r = some g → ∀ n, E.live n = true → E.κ n ≠ g) → inBx ks u = true → VR (E.stone live) v u := by
  have up : ∀ {live : Nat → Bool} {v : Value} {t : T}, Rep E.S E.w v t → Rep (E.stone live).S (E.stone live).w v t := fun h => h.mono (fun b o h => .inl h) (fun _ _ _ => Same.rfl)
  induction h with
  | top v => intro _ _ _ _ _; exact .top v
  | t v x h => intro _ _ _ _ _; exact .t v x (up h)
  | ptr n off _ => intro ks live hl _ hi; exact VR.ptr (E := E.stone live) n off (hl n hi)
  | view n off len size cap _ hc => intro ks live hl _ hi; exact VR.view (E := E.stone live) n off len size cap (hl n hi) hc
  | own v r e size xs h =>
    intro _ live _ hr _
    obtain ⟨cells, h1, h2, h3⟩ := h.ex
    refine .own v r e size xs ⟨⟨cells, h1, h2, fun i x t hx ht => up (h3 i x t hx ht)⟩, h.uni, h.one, fun g hg => ⟨(h.row g hg).1, fun o => ⟨?_, fun ho => .inl (((h.row g hg).2 o).2 ho)⟩⟩⟩
    rintro (hs | ⟨n, hn, _, he⟩)
    · exact ((h.row g hg).2 o).1 hs
    · exact absurd he.symm (hr r g (h.row g hg).1 n hn)
  | full a len size xs h => intro _ _ _ _ _; exact .full a len size xs (up h)
  | fn f cs vs hs _ ih => intro ks live hl hr hi; exact .fn f cs vs hs fun i x u hx hu => ih i x u hx hu hl hr (inGo_mem hi u (List.mem_of_getElem? hu))
  | raw v h1 => intro _ _ _ _ _; exact .raw v h1
  | mp n _ => intro ks live hl _ hi; exact VR.mp (E := E.stone live) n (hl n hi)
  | tup cs vs hs _ ih => intro ks live hl hr hi; exact .tup cs vs hs fun i x u hx hu => ih i x u hx hu hl hr (inGo_mem hi u (List.mem_of_getElem? hu))
  | agv cs vs hs h1 _ ih => intro ks live hl hr hi; exact .agv cs vs hs h1 fun i x u hx hu => ih i x u hx hu hl hr (inGo_mem hi u (List.mem_of_getElem? hu))
theorem leCells_get {ks : List Nat} {bx : Nat → Option BX} : ∀ {us vs : List V}, leCells ks bx us vs → us.length = vs.length ∧ ∀ (i : Nat) (u v : V), us[i]? = some u → vs[i]? = some v → LeV ks bx u v
  | [], [], _ => ⟨rfl, fun i u v hu => by simp at hu⟩
  | u :: us, v :: vs, h => by
    obtain ⟨h1, h2⟩ := leCells_get h.2
    refine ⟨by simp [h1], fun i x y hx hy => ?_⟩
    cases i with
    | zero => simp at hx hy; subst hx; subst hy; exact h.1
    | succ i => simp at hx hy; exact h2 i x y hx hy
  | [], _ :: _, h => h.elim
  | _ :: _, [], h => h.elim
theorem caps_cut {cs : Array Value} {A B : List V} {v : V} (hs : cs.size = (A ++ v :: B).length) (h : ∀ (i : Nat) (x : Value) (u : V), cs[i]? = some x → (A ++ v :: B)[i]? = some u → VR E x u) :
    ∃ (c d : Array Value) (p : Value), cs = c ++ #[p] ++ d ∧ VR E p v ∧ c.size = A.length ∧ d.size = B.length ∧ (∀ (i : Nat) (x : Value) (u : V), c[i]? = some x → A[i]? = some u → VR E x u) ∧ (∀ (i : Nat) (x : Value) (u : V), d[i]? = some x → B[i]? = some u → VR E x u) := by
  have hlen : cs.toList.length = A.length + (1 + B.length) := by simp at hs ⊢; omega
  obtain ⟨l1, l2, h1, h2⟩ : ∃ l1 l2, cs.toList = l1 ++ l2 ∧ l1.length = A.length := ⟨cs.toList.take A.length, cs.toList.drop A.length, (List.take_append_drop _ _).symm, by simp; simp at hlen; omega⟩
  match l2, h1 with
  | [], h1 => rw [h1] at hlen; simp at hlen; omega
  | p :: l3, h1 =>
    have hcs : cs = l1.toArray ++ #[p] ++ l3.toArray := Array.toList_inj.1 (by rw [h1]; simp)
    have h3 : l3.length = B.length := by rw [h1] at hlen; simp at hlen; omega
    have get : ∀ i, cs[i]? = (l1 ++ p :: l3)[i]? := fun i => by rw [← Array.getElem?_toList, h1]
    refine ⟨l1.toArray, l3.toArray, p, hcs, ?_, by simpa using h2, by simpa using h3, fun i x u hx hu => ?_, fun i x u hx hu => ?_⟩
    · exact h A.length p v (by rw [get, ← h2]; simp) (by simp)
    · have hlt : i < A.length := (List.getElem?_eq_some_iff.1 hu).1
      exact h i x u (by rw [get, List.getElem?_append_left (by omega)]; simpa using hx) (by rw [List.getElem?_append_left hlt]; exact hu)
    · exact h (A.length + (i + 1)) x u (by
        rw [get, List.getElem?_append_right (by omega)]
        rw [show A.length + (i + 1) - l1.length = i + 1 by omega]
        simpa using hx) (by
        rw [List.getElem?_append_right (by omega)]
        rw [show A.length + (i + 1) - A.length = i + 1 by omega]
        simpa using hu)
end
section
variable [Glb] {P : Program} {X : List FuncId} {N : Nat} {w0 : World} {S0 : Base} {a : Act} {E : Env} {st : St}
theorem SR.weak (h : SR N w0 S0 E st a.tmps) {s : Wk} (hw : weak s st) : ∃ E' : Env, E'.w = E.w ∧ SR N w0 S0 E' s.mk' a.tmps := by
  obtain ⟨h1, h2, h4, _, hcx, h3⟩ := hw
  have m1 := leSl_mem h1
  have m2 := leBx_mem h2
  have m3 := leGh_mem h4
  unfold Wk.closed at h3
  simp only [Bool.and_eq_true, List.all_eq_true] at h3
  obtain ⟨⟨c1, c2⟩, c3⟩ := h3
  -- the boxes that are kept
  have inb : ∀ n b, s.mk'.bx n = some b → (n, b) ∈ s.bx := fun n b hb => by
    have hb' : lk none (s.bx.map fun p => (p.1, some p.2)) n = some b := hb
    rcases lk_mem (d := none) (l := s.bx.map fun p => (p.1, some p.2)) (n := n) with hh | hh
    · rw [hh] at hb'; cases hb'
    · rw [hb', List.mem_map] at hh
      obtain ⟨p, hp, he⟩ := hh
      cases he; exact hp
  have isB : ∀ n, s.keys.contains n = true → (s.mk'.bx n).isSome = true := fun n hn => by
    show (lk none (s.bx.map fun p => (p.1, some p.2)) n).isSome = true
    unfold Wk.keys at hn
    revert hn
    generalize s.bx = l
    induction l with
    | nil => intro hn; simp at hn
    | cons p l ih =>
      intro hn
      simp only [List.map_cons]
      unfold lk
      by_cases hk : n = p.1
      · rw [hk, beq_self]; rfl
      · rw [beq_ne hk]
        refine ih ?_
        simp only [List.map_cons, List.contains_cons, Bool.or_eq_true, beq_iff_eq] at hn
        exact hn.resolve_left hk
  have old : ∀ n b, s.mk'.bx n = some b → ∃ b0, st.bx n = some b0 ∧ LeB s.keys st.bx b (some b0) ∧ inBB s.keys b = true := fun n b hb => by
    have hm := inb n b hb
    have hle := m2 _ hm
    have hin := c2 _ hm
    simp only at hle
    cases hb0 : st.bx n with
    | none => rw [hb0] at hle; cases hle
    | some b0 => rw [hb0] at hle; exact ⟨b0, rfl, hle, hin⟩
  have lv : ∀ n, (s.mk'.bx n).isSome = true → E.live n = true := fun n hn => by
    obtain ⟨b, hb⟩ := Option.isSome_iff_exists.1 hn
    obtain ⟨b0, h0, _⟩ := old n b hb
    rw [h.live, h0]; rfl
  have dead : ∀ n, ¬ n ∈ s.keys → (s.mk'.bx n).isSome = false := fun n hn => by
    cases hb : s.mk'.bx n with
    | none => rfl
    | some b => exact absurd (List.mem_map.2 ⟨_, inb n b hb, rfl⟩) hn
  have klt : ∀ n, E.live n = true → E.κ n < E.w.heap.size := fun n hl => by
    rw [h.live] at hl
    obtain ⟨b', hb'⟩ := Option.isSome_iff_exists.1 hl
    obtain ⟨_, hg, _⟩ := (h.bx n b' hb').at_
    exact (Array.getElem?_eq_some_iff.1 hg).1
  have hrk : ∀ r g, E.ρ r = some g → ∀ n, E.live n = true → E.κ n ≠ g := fun r g hr => (h.rows r g hr).2.2
  let lv' : Nat → Bool := fun n => (s.mk'.bx n).isSome
  have lev : ∀ {v : Value} {u u' : V}, VR E v u → LeV s.keys st.bx u' u → inBx s.keys u' = true → VR (E.stone lv') v u' := fun {v u u'} hv hl hi => by
    have up : ∀ {v : Value} {t : T}, Rep E.S E.w v t → Rep (E.stone lv').S (E.stone lv').w v t := fun h => h.mono (fun b o h => .inl h) (fun _ _ _ => Same.rfl)
    cases hl with
    | same => exact hv.live isB hrk hi
    | nil r e n =>
      have := hv.inv_t
      cases this
      exact .own _ r e n [] (Owns.nil r e n)
    | data r e n xs =>
      cases hv with
      | own _ _ _ _ _ h => exact .t _ _ (up h.rep)
    | empty n =>
      have := hv.inv_t
      cases this
      exact .t _ _ (.slice none 0 0 0 0 _ [] (fun _ => undef) rfl (Nat.le_refl _) (fun x hx => by simp at hx) (fun t ht => by simp at ht) (fun hh => by simp at hh) (fun i hi => by simp at hi) (fun i t ht => by simp at ht))
    | conv _ x rd hc hk =>
      refine .t _ _ ((conv_sound h.bx hv hc).mono ?_ (fun _ _ _ => Same.rfl))
      rintro b o (hs | ⟨n, hn, hln, rfl⟩)
      · exact .inl hs
      · exact .inr ⟨n, hln, dead n (hk n hn), rfl⟩
    | top => exact .top _
    | knot n f A B xa ra xb rb hb ha hbb hk =>
      obtain ⟨rfl, hln⟩ := hv.inv_ptr
      obtain ⟨cs, e, hg, hcr⟩ := (h.bx n _ hb).cells rfl
      obtain ⟨L1, M1⟩ := convL_sound h.bx ha
      obtain ⟨L2, M2⟩ := convL_sound h.bx hbb
      have sx : ∀ {rd : List Nat}, (∀ m ∈ rd, m ∈ n :: (ra ++ rb)) → ∀ b o, Sx E rd b o → (E.stone lv').S b o := fun {rd} hsub b o hs => by
        rcases hs with hs | ⟨m, hm, hlm, rfl⟩
        · exact .inl hs
        · exact .inr ⟨m, hlm, dead m (hk m (hsub m hm)), rfl⟩
      cases hcr with
      | v _ hs hh =>
        have hs : 1 ≤ cs.size := hs
        have g0 : cs[0]? = some cs[0] := Array.getElem?_eq_getElem (by omega)
        have v0 := (hh 0 _ _ g0 rfl).1
        generalize hc0 : cs[0] = z0 at v0 g0
        cases v0 with
        | fn _ d1 _ hs1 hv1 =>
          obtain ⟨p1, p2, p3, rfl, p4, p5, p6, p7, p8⟩ := caps_cut hs1 hv1
          have z1' := p4.inv_ptr.1
          subst z1'
          refine .t _ _ (.knot (E.κ n) 0 f p1 p2 xa xb (by omega) (by omega) ⟨?_, .inr ⟨n, hln, dead n (hk n (by simp)), rfl⟩⟩ (fun i x t hx ht => ?_) fun i x t hx ht => ?_)
          · show E.w.cell? _ = _
            rw [cell_of_row _ _ _ _ _ _ hg]
            exact g0
          · have hi : i < A.length := by rw [L1]; exact (List.getElem?_eq_some_iff.1 ht).1
            exact (M1 i x _ t (p7 i x _ hx (List.getElem?_eq_getElem hi)) (List.getElem?_eq_getElem hi) ht).mono (sx fun m hm => by simp [hm]) (fun _ _ _ => Same.rfl)
          · have hi : i < B.length := by rw [L2]; exact (List.getElem?_eq_some_iff.1 ht).1
            exact (M2 i x _ t (p8 i x _ hx (List.getElem?_eq_getElem hi)) (List.getElem?_eq_getElem hi) ht).mono (sx fun m hm => by simp [hm]) (fun _ _ _ => Same.rfl)
  refine ⟨E.stone lv', rfl, h.size, h.base, h.glob, fun m => ?_, fun k m => ?_, fun n b hb => ?_, fun n => rfl, fun n m hn hm he => h.inj n m (lv n hn) (lv m hm) he, fun r g hr => ?_, h.rinj, fun b o hs => ?_, h.below, fun b o hs => .inl (h.s0 b o hs), fun b o hs => ?_, h.obj, hcx _ _ h.cx⟩
  · show VR _ _ (lk .top s.sl m)
    rcases lk_mem (d := V.top) (l := s.sl) (n := m) with hh | hh
    · rw [hh]; exact .top _
    · exact lev (h.sl m) (m1 _ hh) (c1 _ hh)
  · show VR _ _ (lk .top (lk [] s.gh k) m)
    rcases lk_mem (d := ([] : List (Nat × V))) (l := s.gh) (n := k) with hh | hh
    · rw [hh]; exact .top _
    · rcases lk_mem (d := V.top) (l := lk [] s.gh k) (n := m) with hg | hg
      · rw [hg]; exact .top _
      · exact lev (h.gh k m) (leSl_mem (m3 _ hh) _ hg) (c3 _ hh _ hg)
  · obtain ⟨b0, h0, hle, hin⟩ := old n b hb
    obtain ⟨g1, g2, ob, g3, gob⟩ := h.bx n b0 h0
    have hln : lv' n = true := by show (s.mk'.bx n).isSome = true; rw [hb]; rfl
    refine ⟨g1, fun o hs => ?_, ob, g3, ?_⟩
    · rcases hs with hs | ⟨m, hm, hmd, he⟩
      · exact g2 o hs
      · have := h.inj n m (lv n hln) hm he
        subst this
        rw [hln] at hmd; cases hmd
    · cases gob with
      | map arr clock ag sh es mb hm =>
        have base : ∀ mb', (mb' = mb ∨ mb' = none) → ObjR (E.stone lv') (.map arr clock) (.m ag sh es mb') := fun mb' hmb => .map arr clock ag sh es mb' ⟨hm.size, fun i x e hx he => ⟨(hm.at_ i x e hx he).1.mono (fun b o h => .inl h) (fun _ _ _ => Same.rfl), (hm.at_ i x e hx he).2.1.mono (fun b o h => .inl h) (fun _ _ _ => Same.rfl), (hm.at_ i x e hx he).2.2⟩, hm.lt, hm.apart, fun p hp => by
          rcases hmb with rfl | rfl
          · exact hm.mb p hp
          · cases hp⟩
        cases hle with
        | same => exact base _ (.inl rfl)
        | m => exact base _ (.inr rfl)
      | itd k arr c ag sh es ix hgk hS hR =>
        cases hle with
        | same => exact ObjR.itd (E := E.stone lv') k arr c ag sh es ix hgk (.inl hS) ⟨hR.size, fun i x e hx he => ⟨(hR.at_ i x e hx he).1.mono (fun b o h => .inl h) (fun _ _ _ => Same.rfl), (hR.at_ i x e hx he).2.1.mono (fun b o h => .inl h) (fun _ _ _ => Same.rfl), (hR.at_ i x e hx he).2.2⟩, hR.lt, hR.apart, hR.mb⟩
      | it m bs c ix hl =>
        cases hle with
        | same => exact ObjR.it (E := E.stone lv') m bs c ix (isB m hin)
      | cells cs e _ g4 =>
      refine .cells cs e _ ?_
      cases hle with
      | m ag sh es mb => cases g4
      | same =>
        cases g4 with
        | d n ts hl hs hh => exact .d n ts hl hs fun i x t hx ht => ⟨(hh i x t hx ht).1.mono (fun b o h => .inl h) (fun _ _ _ => Same.rfl), (hh i x t hx ht).2⟩
        | v vs hs hh =>
          simp only [inBB, List.all_eq_true] at hin
          exact .v vs hs fun i x u hx hu => ⟨(hh i x u hx hu).1.live isB hrk (hin u (List.mem_of_getElem? hu)), (hh i x u hx hu).2⟩
      | v us vs hc =>
        obtain ⟨k1, k2⟩ := leCells_get hc
        simp only [inBB, List.all_eq_true] at hin
        cases g4 with
        | v _ hs hh =>
          refine .v us (by omega) fun i x u hx hu => ?_
          have hlt : i < vs.length := by rw [← k1]; exact (List.getElem?_eq_some_iff.1 hu).1
          have := hh i x vs[i] hx (List.getElem?_eq_getElem hlt)
          exact ⟨lev this.1 (k2 i u _ hu (List.getElem?_eq_getElem hlt)) (hin u (List.mem_of_getElem? hu)), this.2⟩
      | dv n us ts hc =>
        obtain ⟨k1, k2⟩ := leCells_get hc
        simp only [inBB, List.all_eq_true] at hin
        cases g4 with
        | d _ _ hl hs hh =>
          rw [List.length_map] at k1
          refine .v us (by omega) fun i x u hx hu => ?_
          have hlt : i < ts.length := by rw [← k1]; exact (List.getElem?_eq_some_iff.1 hu).1
          have := hh i x ts[i] hx (List.getElem?_eq_getElem hlt)
          exact ⟨lev (.t _ _ this.1) (k2 i u _ hu (by rw [List.getElem?_map, List.getElem?_eq_getElem hlt]; rfl)) (hin u (List.mem_of_getElem? hu)), this.1.one this.2⟩
  · obtain ⟨k1, k2, k3⟩ := h.rows r g hr
    exact ⟨k1, k2, fun n hn => k3 n (lv n hn)⟩
  · rcases hs with hs | ⟨n, hn, _, rfl⟩
    · exact h.lt b o hs
    · exact klt n hn
  · rcases hs with hs | ⟨n, hn, _, rfl⟩
    · exact h.s1 b o hs
    · right
      rw [h.live] at hn
      obtain ⟨b', hb'⟩ := Option.isSome_iff_exists.1 hn
      have := (h.bx n b' hb').old
      rw [h.base] at this
      exact this
theorem wpIs_bare {K : St → Prop} : ∀ {is : List DI} {st : St}, wpIs P (is.map DI.bare) st K ↔ wpIs P is st K
  | [], _ => Iff.rfl
  | i :: is, st => ⟨fun h => wpI_mono (i := i) (fun _ => wpIs_bare.1) h, fun h => wpI_mono (i := i.bare) (fun _ => wpIs_bare.2) h⟩
theorem wpIsD_bare {ck : List (List Nat)} {K : St → Prop} : ∀ {is : List DI} {k : Nat} {acc : Nat → List Nat} {st : St}, wpIsD P ck acc (numb k (is.map DI.bare)) st K ↔ wpIsD P ck acc (numb k is) st K
  | [], _, _, _ => Iff.rfl
  | i :: is, k, acc, st => ⟨fun h => ⟨h.1, wpI_mono (i := i) (fun _ => wpIsD_bare.1) h.2⟩, fun h => ⟨h.1, wpI_mono (i := i.bare) (fun _ => wpIsD_bare.2) h.2⟩⟩
end
section
variable {P : Program} {X : List FuncId} {N : Nat} {w0 : World} {S0 : Base} {a : Act} {E : Env} {st : St}
theorem cutAt_eq {a : Code} {d : DCode} : ∃ b, cutAt X a d = cond b (.cut d) d := by
  cases a with
  | region id ops dr => exact ⟨X.contains (5000000 + id), rfl⟩
  | _ => exact ⟨false, rfl⟩
end
section
variable [Glb] {P : Program} {X : List FuncId} {N : Nat} {w0 : World} {S0 : Base} {a : Act} {E : Env} {st : St}
theorem Exits.mono {N : Nat} {w0 : World} {S0 : Base} {ds : List Deferred} {Q Q' : DExit → St → Prop} (hq : ∀ e s, Q e s → Q' e s) : ∀ {e : Exit} {a' : Act} {w' : World}, Exits N w0 S0 ds Q e a' w' → Exits N w0 S0 ds Q' e a' w' := by
  have key : ∀ (de : DExit) (a' : Act) (w' : World), EndIs N w0 S0 ds (Q de) a' w' → EndIs N w0 S0 ds (Q' de) a' w' := by
    rintro de a' w' ⟨E', st', rfl, hsr, hdf, hk⟩
    exact ⟨E', st', rfl, hsr, hdf, hq _ _ hk⟩
  intro e a' w' h
  cases e with
  | normal => exact key .normal _ _ h
  | exit id => exact key (.exit id) _ _ h
  | ret => exact key .ret _ _ h
  | goto l => exact h
  | panic ch => exact h
  | outgrown => exact h
theorem Exits.less {a : Act} {ds : List Deferred} {K : DExit → St → Prop} : ∀ {e : Exit} {a' : Act} {w' : World}, Exits N w0 S0 ds (OrLess K) e a' w' → Exits N w0 S0 ds K e a' w' := by
  have key : ∀ (de : DExit) (a' : Act) (w' : World), EndIs N w0 S0 ds (OrLess K de) a' w' → EndIs N w0 S0 ds (K de) a' w' := by
    rintro de a' w' ⟨E', st', rfl, hsr, hdf, hq | ⟨s', hs', hq⟩⟩
    · exact ⟨E', st', rfl, hsr, hdf, hq⟩
    · obtain ⟨E'', he, hsr''⟩ := hsr.weak hs'
      exact ⟨E'', s'.mk', he, hsr'', hdf, hq⟩
  intro e a' w' h
  cases e with
  | normal => exact key .normal _ _ h
  | exit id => exact key (.exit id) _ _ h
  | ret => exact key .ret _ _ h
  | goto l => exact h
  | panic ch => exact h
  | outgrown => exact h
theorem cut_wp {c : Code} {b : Bool} {d : DCode} {a : Act} {E : Env} {st : St} {K : DExit → St → Prop} (_ : SR N w0 S0 E st a.tmps) (hw : wpC P (cond b (.cut d) d) st K)
    (hh : ∀ K, wpC P d st K → c.wp P (Exits N w0 S0 a.defers K) a E.w) : c.wp P (Exits N w0 S0 a.defers K) a E.w := by
  cases b with
  | false => exact hh K hw
  | true =>
    have hw : CutWp (wpC P d) st K := hw
    unfold CutWp at hw
    obtain ⟨R, hR, hend⟩ := hw
    exact wp_mono (hh R hR) fun e a' w' h => Exits.less (a := a) (Exits.mono hend h)
theorem wpC_wp (hm : P.follows .mixedOrders = true) : ∀ {c : Code} {d : DCode} (_ : lowC P N X c = some d) {a : Act} {E : Env} {st : St} {K : DExit → St → Prop} (_ : SR N w0 S0 E st a.tmps) (_ : wpC P d st K),
    c.wp P (Exits N w0 S0 a.defers K) a E.w := by
  intro c
  induction c with
  | skip =>
    intro d hl a E st K h hw
    cases hl
    exact wp_skip ⟨E, st, rfl, h, rfl, hw⟩
  | ret =>
    intro d hl a E st K h hw
    cases hl
    exact wp_ret ⟨E, st, rfl, h, rfl, hw⟩
  | exit id =>
    intro d hl a E st K h hw
    cases hl
    exact wp_exit ⟨E, st, rfl, h, rfl, hw⟩
  | region id ops draw =>
    intro d hl a E st K h hw
    unfold lowC at hl
    cases hX : X.contains (1000000 + id) with
    | true =>
      rw [hX] at hl
      cases hl
      exact hw w0 S0 E a h
    | false =>
    rw [hX] at hl
    simp only [cond_false] at hl
    split at hl
    · rename_i is his
      rw [cond_eq_ite] at hl
      split at hl
      · rename_i hc
        obtain rfl := (Option.some.inj hl).symm
        refine cut_wp h (c := .region id ops draw) hw fun K hw => ?_
        cases draw with
        | false => exact region_wp h his (fun a' w hh => hh) (wpIs_bare.1 hw)
        | true =>
          have hw : wpC P (.region (is.map DI.bare) (ckOf is)) st K := hw
          have hw' : wpIsD P (ckOf is) (fun _ => []) (numb 0 is) st (K .normal) := by
            revert hw
            cases ckOf is with
            | nil =>
              intro hw
              refine wpIsD_of ?_
              have : ∀ (l : List DI) (k : Nat), (numb k l).map (·.2) = l := fun l => by
                induction l with
                | nil => exact fun _ => rfl
                | cons i l ih => exact fun k => congrArg (i :: ·) (ih (k + 1))
              rw [this]
              exact wpIs_bare.1 hw
            | cons p r => exact fun hw => wpIsD_bare.1 hw
          exact regionAny_wp hm h his (by simpa using hc) (fun a' w hh => hh) hw'
      · cases hl
    · cases hl
  | seq x y ih1 ih2 =>
    intro d hl a E st K h hw
    unfold lowC at hl
    split at hl
    · rename_i dx dy hx hy
      obtain rfl := (Option.some.inj hl).symm
      obtain ⟨cb, hcb⟩ := cutAt_eq (X := X) (a := x) (d := .seq dx dy)
      rw [hcb] at hw
      refine cut_wp h (c := .seq x y) hw fun K hw => ?_
      refine wp_seq (wp_mono (ih1 hx h hw) ?_)
      intro e a' w' hh
      cases e with
      | normal =>
        obtain ⟨E', st', rfl, hsr, hdf, hk⟩ := hh
        rw [← hdf]
        exact ih2 hy hsr hk
      | exit id => exact hh
      | ret => exact hh
      | goto l => exact hh
      | panic ch => exact hh
      | outgrown => exact hh
    · cases hl
  | cond c x y ih1 ih2 =>
    intro d hl a E st K h hw
    unfold lowC at hl
    split at hl
    · rename_i z dx dy hz hx hy
      cases hl
      have hv := ev_sound h.sl hz
      have hw : condT z (wpC P dx) (wpC P dy) st K := hw
      unfold condT at hw
      split at hw
      · rename_i hb
        rw [hb] at hv
        exact wp_cond_true hv.inv_bool (ih1 hx h hw)
      · rename_i hb
        rw [hb] at hv
        exact wp_cond_false hv.inv_bool (ih2 hy h hw)
      · exact hw.elim
    · cases hl
  | block id b ih =>
    intro d hl a E st K h hw
    unfold lowC at hl
    split at hl
    · rename_i db hb
      obtain rfl := (Option.some.inj hl).symm
      refine cut_wp h (c := .block id b) hw fun K hw => ?_
      refine wp_block (wp_mono (ih hb h hw) ?_)
      intro e a' w' hh
      cases e with
      | normal => exact hh
      | exit k =>
        have hh : EndIs N w0 S0 a.defers (fun st' => bif Nat.beq k id then K .normal st' else K (.exit k) st') a' w' := hh
        show if k = id then _ else _
        by_cases hk : k = id
        · rw [if_pos hk]
          obtain ⟨E', st', e1, e2, e3, e4⟩ := hh
          rw [hk, beq_self] at e4
          exact ⟨E', st', e1, e2, e3, e4⟩
        · rw [if_neg hk]
          obtain ⟨E', st', e1, e2, e3, e4⟩ := hh
          rw [beq_ne hk] at e4
          exact ⟨E', st', e1, e2, e3, e4⟩
      | ret => exact hh
      | goto l => exact hh
      | panic ch => exact hh
      | outgrown => exact hh
    · cases hl
  | loop b ih =>
    intro d hl a E st K h hw
    unfold lowC at hl
    split at hl
    · rename_i db hb
      cases hl
      have hw : LoopWp (wpC P db) st K := hw
      unfold LoopWp at hw
      obtain ⟨I, n0, s0, hs0, hi0, round⟩ := hw
      refine wp_loop_ghost (fun n a' w' => a'.defers = a.defers ∧ ∃ (E' : Env) (s : Wk), E'.w = w' ∧ SR N w0 S0 E' s.mk' a'.tmps ∧ I n s) n0 ?_ ?_
      · obtain ⟨E', he, hsr⟩ := h.weak hs0
        exact ⟨rfl, E', s0, he, hsr, hi0⟩
      · rintro n a1 w1 ⟨hdf, E1, s, rfl, hsr, hi⟩
        obtain ⟨R, hR, hend⟩ := round n s hi
        refine wp_mono (ih hb hsr hR) ?_
        intro e a' w' hh
        have hh := Exits.mono hend hh
        rw [hdf] at hh
        cases e with
        | normal =>
          obtain ⟨E', st', rfl, hsr', hdf', m, s', hlt, hs', hi'⟩ := hh
          obtain ⟨E'', he, hsr''⟩ := hsr'.weak hs'
          exact ⟨m, hlt, hdf', E'', s', he, hsr'', hi'⟩
        | exit id =>
          obtain ⟨E', st', rfl, hsr', hdf', hq | ⟨s', hs', hq⟩⟩ := hh
          · exact ⟨E', st', rfl, hsr', hdf', hq⟩
          · obtain ⟨E'', he, hsr''⟩ := hsr'.weak hs'
            exact ⟨E'', s'.mk', he, hsr'', hdf', hq⟩
        | ret => exact hh
        | goto l => exact hh
        | panic ch => exact hh
        | outgrown => exact hh
    · cases hl
  | label l =>
    intro d hl a E st K h hw
    cases hl
    exact wp_label ⟨E, st, rfl, h, rfl, hw⟩
  | scope b ih =>
    intro d hl a E st K h hw
    unfold lowC at hl
    refine wp_scope_straight (wp_mono (ih hl h hw) ?_)
    intro e a' w' hh
    cases e with
    | normal => exact hh
    | exit id => exact hh
    | ret => exact hh
    | goto l => exact hh
    | panic ch => exact hh
    | outgrown => exact hh
  | _ => intro d hl; cases hl
end
end Go.DL
end
section
namespace Go.DL
open Go.RowKit
section
variable [Glb] {P : Program} {X : List FuncId} {N : Nat} {w0 : World} {S0 : Base} {a : Act} {E : Env} {st : St}
def resT : List T → T
  | [x] => x
  | xs => .tup xs
def sizesOf (P : Program) (t : TypeId) : Option (Nat × Bool) :=
  match P.underlying t, P.info? t with
  | some _, some i => cond (aggT P t || Nat.beq i.size 1) (some (i.size, aggT P t)) none
  | _, _ => none
theorem load_res (h : SR N w0 S0 E st a.tmps) {t : TypeId} {d : TypeDesc} {i : TypeInfo} (hu : P.underlying t = some d) (hi : P.info? t = some i) {b off : Nat} {bx : BX} (hb : st.bx b = some bx) {x : T}
    (hx : match loadB b bx off i.size (aggT P t) with
      | .yes e => asT e.val = some x
      | .eq c t _ => c ∧ t = x
      | _ => False) : ∃ v, (loadVar t ⟨E.κ b, off, none⟩).run P E.w = .ok v E.w ∧ Rep E.S E.w v x := by
  have hB := h.bx b bx hb
  cases hM : bx.isM with
  | true => cases bx <;> first | exact hx.elim | cases hM
  | false =>
  obtain ⟨cs, e, hg, hc⟩ := hB.cells hM
  have cell : ∀ j, E.w.cell? ⟨E.κ b, j, none⟩ = cs[j]? := fun j => cell_of_row _ _ _ _ _ _ hg
  cases hc with
  | d m ts hl hs hrep =>
    unfold loadB partT at hx
    cases hag : aggT P t with
    | true =>
      rw [hag] at hx
      have big : off + i.size ≤ m → ∃ v, (loadVar t ⟨E.κ b, off, none⟩).run P E.w = .ok v E.w ∧ Rep E.S E.w v (.agg ((ts.drop off).take i.size)) := fun hle => by
        have hl2 : ((cs.toList.drop off).take i.size).length = i.size := by simp; omega
        refine ⟨_, run_loadVar_agg hu hi hag _ _ _ ((cs.toList.drop off).take i.size) hl2 fun j v hj => ?_, rep_part (fun j x u hx hu' => ?_) ?_⟩
        · rw [getElem?_dt] at hj
          split at hj
          · rw [cell]; simpa using hj
          · cases hj
        · rw [getElem?_dt] at hx hu'
          split at hx
          · rename_i hj
            rw [if_pos hj] at hu'
            exact hrep (off + j) x u (by simpa using hx) hu'
          · cases hx
        · rw [hl2]; simp [hl]; omega
      simp only at hx
      cases hz : (Nat.beq off 0 && Nat.beq m i.size) with
      | true =>
        rw [hz] at hx
        simp only [Bool.and_eq_true] at hz
        have ho0 : off = 0 := Nat.eq_of_beq_eq_true hz.1
        have hm : m = i.size := Nat.eq_of_beq_eq_true hz.2
        have hx' : x = .agg ts := by
          have : asT (.t (.agg ts)) = some x := hx
          exact (Option.some.inj this).symm
        obtain ⟨v, h1, h2⟩ := big (by omega)
        refine ⟨v, h1, ?_⟩
        rw [ho0, List.drop_zero, List.take_of_length_le (by omega)] at h2
        rw [hx']; exact h2
      | false =>
        rw [hz] at hx
        obtain ⟨hc, rfl⟩ := hx
        exact big hc
    | false =>
      rw [hag] at hx
      obtain ⟨hlt, rfl⟩ := hx
      have hone : off < cs.size := by omega
      have hcell : E.w.cell? ⟨E.κ b, off, none⟩ = some cs[off] := by rw [cell]; simp [hone]
      have ht : ts[off]? = some (ts[off]?.getD .nil) := by
        have : off < ts.length := by omega
        simp [this]
      exact ⟨_, run_loadVar_one hu hag _ _ _ hcell, (hrep off _ _ (by simp [hone]) ht).1⟩
  | v vs hs hrep =>
    unfold loadB at hx
    cases hag : aggT P t with
    | true =>
      rw [hag] at hx
      simp only at hx
      cases hT : allT ((vs.drop off).take i.size) with
      | none => rw [hT] at hx; exact hx.elim
      | some ts =>
      rw [hT] at hx
      simp only at hx
      cases hz : Nat.beq ts.length i.size with
      | false => rw [hz] at hx; exact hx.elim
      | true =>
      rw [hz] at hx
      have hx' : x = .agg ts := by
        have : asT (.t (.agg ts)) = some x := hx
        exact (Option.some.inj this).symm
      subst hx'
      have hz := Nat.eq_of_beq_eq_true hz
      obtain ⟨q1, q2⟩ := allT_at hT
      rw [List.length_take, List.length_drop, hz] at q1
      have hl2 : ((cs.toList.drop off).take i.size).length = i.size := by simp; omega
      refine ⟨_, run_loadVar_agg hu hi hag _ _ _ ((cs.toList.drop off).take i.size) hl2 fun j v hj => ?_, rep_part (fun j x u hx hu' => ?_) ?_⟩
      · rw [getElem?_dt] at hj
        split at hj
        · rw [cell]; simpa using hj
        · cases hj
      · have hx' := hx
        rw [getElem?_dt] at hx'
        split at hx'
        · rename_i hj
          have hlt : off + j < vs.length := by
            have := (List.getElem?_eq_some_iff.1 hu').1
            omega
          have hv' : ((vs.drop off).take i.size)[j]? = some vs[off + j] := by rw [getElem?_dt, if_pos hj]; exact List.getElem?_eq_getElem hlt
          have hr := hrep (off + j) x _ (by simpa using hx') (List.getElem?_eq_getElem hlt)
          have hR := asT_sound hr.1 (q2 j _ u hv' hu')
          exact ⟨hR, hR.one_of hr.2⟩
        · cases hx'
      · rw [hl2, hz]
    | false =>
      rw [hag] at hx
      simp only at hx
      cases hv : vs[off]? with
      | none => rw [hv] at hx; exact hx.elim
      | some u =>
        rw [hv] at hx
        have hlt : off < cs.size := Nat.lt_of_lt_of_le (List.getElem?_eq_some_iff.1 hv).1 hs
        have hcell : E.w.cell? ⟨E.κ b, off, none⟩ = some cs[off] := by rw [cell]; simp [hlt]
        exact ⟨_, run_loadVar_one hu hag _ _ _ hcell, asT_sound (hrep off _ _ (by simp [hlt]) hv).1 hx⟩
end
section
variable {P : Program} {X : List FuncId} {N : Nat} {w0 : World} {S0 : Base} {a : Act} {E : Env} {st : St}
theorem cutW_spec {bx : Nat → Option BX} {n : Nat} : ∀ {c a b : List V} {k : Nat}, cutW bx n c = some (a, k, b) → c = a ++ .ptr k 0 :: b ∧ bx k = some (.v [.ptr n 0])
  | [], a, b, k, h => by cases h
  | v :: vs, a, b, k, h => by
    unfold cutW at h
    split at h
    · rename_i k' hk
      simp only [Option.some.injEq, Prod.mk.injEq] at h
      obtain ⟨rfl, rfl, rfl⟩ := h
      split at hk
      · rename_i k2
        split at hk
        · rename_i m hb
          simp only [cond_eq_ite] at hk
          split at hk
          · rename_i hc
            cases hk
            have := Nat.eq_of_beq_eq_true hc
            subst this
            exact ⟨rfl, hb⟩
          · cases hk
        · cases hk
      · cases hk
    · split at h
      · rename_i a' k' b' hr
        simp only [Option.some.injEq, Prod.mk.injEq] at h
        obtain ⟨rfl, rfl, rfl⟩ := h
        obtain ⟨h1, h2⟩ := cutW_spec hr
        exact ⟨by rw [h1]; rfl, h2⟩
      · cases h
theorem convR_sound (hbx : ∀ n b, st.bx n = some b → BoxR E (E.κ n) b) (hlv : ∀ n, E.live n = (st.bx n).isSome) {v : Value} {u : V} (h : VR E v u) {t : T} {rd : List Nat} (hc : convR st.bx u = some (t, rd)) : Rep (Sx E rd) E.w v t := by
  unfold convR at hc
  split at hc
  · rename_i n off
    split at hc
    · rename_i r hw
      cases hc
      unfold convW at hw
      split at hw
      · rename_i f1 c1 f2 c2 hb
        split at hw
        · rename_i a1 k1 b1 a2 k2 b2 h1 h2
          split at hw
          · rename_i x1 r1 y1 s1 x2 r2 y2 s2 e1 e2 e3 e4
            simp only [cond_eq_ite] at hw
            split at hw
            · rename_i hk
              simp only [Option.some.injEq, Prod.mk.injEq] at hw
              obtain ⟨rfl, rfl⟩ := hw
              have hk := Nat.eq_of_beq_eq_true hk
              subst hk
              obtain ⟨q1, q2⟩ := cutW_spec h1
              obtain ⟨q3, _⟩ := cutW_spec h2
              obtain ⟨rfl, hln⟩ := h.inv_ptr
              obtain ⟨cs, e, hg, hcr⟩ := (hbx n _ hb).cells rfl
              obtain ⟨cw, ew, hgw, hcw⟩ := (hbx k1 _ q2).cells rfl
              have hlk : E.live k1 = true := by rw [hlv, q2]; rfl
              cases hcr with
              | v _ hs hh =>
                have hs : 2 ≤ cs.size := hs
                have g0 : cs[0]? = some cs[0] := Array.getElem?_eq_getElem (by omega)
                have g1 : cs[1]? = some cs[1] := Array.getElem?_eq_getElem (by omega)
                have v0 := (hh 0 _ _ g0 rfl).1
                have v1 := (hh 1 _ _ g1 rfl).1
                cases hcw with
                | v _ hsw hhw =>
                  have hsw : 1 ≤ cw.size := hsw
                  have gw : cw[0]? = some cw[0] := Array.getElem?_eq_getElem (by omega)
                  have vw := (hhw 0 _ _ gw rfl).1
                  have ew' := vw.inv_ptr.1
                  rw [ew'] at gw
                  have rn : n ∈ (n :: k1 :: (r1 ++ s1 ++ r2 ++ s2)) := by simp
                  have rk : k1 ∈ (n :: k1 :: (r1 ++ s1 ++ r2 ++ s2)) := by simp
                  generalize hc0 : cs[0] = z0 at v0 g0
                  generalize hc1 : cs[1] = z1 at v1 g1
                  cases v0 with
                  | fn _ d1 _ hs1 hv1 =>
                    cases v1 with
                    | fn _ d2 _ hs2 hv2 =>
                      rw [q1] at hs1 hv1
                      rw [q3] at hs2 hv2
                      obtain ⟨p1, p2, p3, rfl, p4, p5, p6, p7, p8⟩ := caps_cut hs1 hv1
                      obtain ⟨o1, o2, o3, rfl, o4, o5, o6, o7, o8⟩ := caps_cut hs2 hv2
                      have z1' := p4.inv_ptr.1
                      have z2' := o4.inv_ptr.1
                      subst z1'; subst z2'
                      obtain ⟨L1, M1⟩ := convL_sound hbx e1
                      obtain ⟨L2, M2⟩ := convL_sound hbx e2
                      obtain ⟨L3, M3⟩ := convL_sound hbx e3
                      obtain ⟨L4, M4⟩ := convL_sound hbx e4
                      have fin : ∀ {c : Array Value} {A : List V} {X : List T} {r : List Nat}, A.length = X.length → (∀ (i : Nat) (v : Value) (u : V) (t : T), VR E v u → A[i]? = some u → X[i]? = some t → Rep (Sx E r) E.w v t) → (∀ (i : Nat) (x : Value) (u : V), c[i]? = some x → A[i]? = some u → VR E x u) → (∀ m ∈ r, m ∈ (n :: k1 :: (r1 ++ s1 ++ r2 ++ s2))) →
                          ∀ (i : Nat) (x : Value) (t : T), c[i]? = some x → X[i]? = some t → Rep (Sx E (n :: k1 :: (r1 ++ s1 ++ r2 ++ s2))) E.w x t := fun {c A X r} hL hM hV hr i x t hx ht => by
                        have hlt : i < A.length := by rw [hL]; exact (List.getElem?_eq_some_iff.1 ht).1
                        have hA := List.getElem?_eq_getElem hlt
                        exact (hM i x _ t (hV i x _ hx hA) hA ht).mono (Sx_mono hr) (fun _ _ _ => Same.rfl)
                      have cell : ∀ i, E.w.cell? ⟨E.κ n, i, none⟩ = cs[i]? := fun i => cell_of_row _ _ _ _ _ _ hg
                      have := Rep.wrld (S := Sx E (n :: k1 :: (r1 ++ s1 ++ r2 ++ s2))) (w := E.w) (E.κ n) 0 (E.κ k1) 0 off f1 f2 p1 p2 o1 o2 x1 y1 x2 y2 (by omega) (by omega) (by omega) (by omega)
                        ⟨by rw [cell_of_row _ _ _ _ _ _ hgw]; exact gw, .inr ⟨k1, rk, hlk, rfl⟩⟩ ⟨by rw [cell]; exact g0, .inr ⟨n, rn, hln, rfl⟩⟩ ⟨by rw [cell]; exact g1, .inr ⟨n, rn, hln, rfl⟩⟩
                        (fin L1 M1 p7 (fun m hm => by simp [hm])) (fin L2 M2 p8 (fun m hm => by simp [hm])) (fin L3 M3 o7 (fun m hm => by simp [hm])) (fin L4 M4 o8 (fun m hm => by simp [hm]))
                      rwa [Nat.zero_add] at this
            · cases hw
          · cases hw
        · cases hw
      · cases hw
    · exact conv_sound hbx h hc
  · exact conv_sound hbx h hc
end
section
variable [Glb] {P : Program} {X : List FuncId} {N : Nat} {w0 : World} {S0 : Base} {a : Act} {E : Env} {st : St}
def readRes (tmps : Array Value) : ResultVar → Sem Value
  | .tmp t => pure (tmps.getD t undef)
  | .cell a t => do loadVar t (← asAddr (tmps.getD a undef))
def Sall (E : Env) : Stable := fun b o => E.S b o ∨ ∃ n, E.live n = true ∧ b = E.κ n
end
section
variable {P : Program} {X : List FuncId} {N : Nat} {w0 : World} {S0 : Base} {a : Act} {E : Env} {st : St}
theorem Sx_all {E : Env} {rd : List Nat} : ∀ b o, Sx E rd b o → Sall E b o := by
  rintro b o (h | ⟨n, _, h⟩)
  · exact .inl h
  · exact .inr ⟨n, h⟩
end
section
variable [Glb] {P : Program} {X : List FuncId} {N : Nat} {w0 : World} {S0 : Base} {a : Act} {E : Env} {st : St}
theorem res_list (h : SR N w0 S0 E st a.tmps) : ∀ {rs : List ResultVar} {xs : List T}, resP (sizesOf P) st rs xs → ∃ vs : List Value, (rs.mapM (readRes a.tmps)).run P E.w = .ok vs E.w ∧ vs.length = xs.length ∧
    ∀ (i : Nat) (v : Value) (x : T), vs[i]? = some v → xs[i]? = some x → Rep (Sall E) E.w v x
  | [], [], _ => ⟨[], by simp, rfl, fun i v x hv => by simp at hv⟩
  | .tmp t :: rs, x :: xs, hp => by
    obtain ⟨vs, h1, h2, h3⟩ := res_list h hp.2
    refine ⟨a.tmps.getD t undef :: vs, ?_, by simp [h2], fun i v y hv hy => ?_⟩
    · rw [List.mapM_cons, Sem.run_bind]
      have : (readRes a.tmps (.tmp t)).run P E.w = .ok (a.tmps.getD t undef) E.w := rfl
      rw [this]
      simp [h1]
    · cases i with
      | zero =>
        simp only [List.getElem?_cons_zero, Option.some.injEq] at hv hy
        subst hv; subst hy
        obtain ⟨⟨x', rd⟩, hc, rfl⟩ := Option.map_eq_some_iff.1 hp.1
        exact (convR_sound h.bx h.live (h.sl t) hc).mono Sx_all (fun _ _ _ => Same.rfl)
      | succ i => simp at hv hy; exact h3 i v y hv hy
  | .cell c ty :: rs, x :: xs, hp => by
    obtain ⟨hp1, hp2⟩ := hp
    obtain ⟨vs, h1, h2, h3⟩ := res_list h hp2
    have key : ∃ v, (readRes a.tmps (.cell c ty)).run P E.w = .ok v E.w ∧ Rep E.S E.w v x := by
      have hs := h.sl c
      split at hp1
      · rename_i b off n agg hb hz
        rw [hb] at hs
        obtain ⟨hv, hl⟩ := hs.inv_ptr
        unfold sizesOf at hz
        split at hz
        · rename_i d i hu hi
          simp only [cond_eq_ite] at hz
          split at hz
          · simp only [Option.some.injEq, Prod.mk.injEq] at hz
            obtain ⟨rfl, rfl⟩ := hz
            split at hp1
            · rename_i cs hcs
              obtain ⟨v, k1, k2⟩ := load_res h hu hi (off := off) hcs (x := x) hp1
              refine ⟨v, ?_, k2⟩
              show (asAddr (a.tmps.getD c undef) >>= fun d => loadVar ty d).run P E.w = _
              rw [hv]
              simp [asAddr, k1]
            · exact hp1.elim
          · cases hz
        · cases hz
      · exact hp1.elim
    obtain ⟨v0, k1, k2⟩ := key
    refine ⟨v0 :: vs, ?_, by simp [h2], fun i v y hv hy => ?_⟩
    · rw [List.mapM_cons, Sem.run_bind, k1]
      simp [h1]
    · cases i with
      | zero => simp only [List.getElem?_cons_zero, Option.some.injEq] at hv hy; subst hv; subst hy; exact k2.mono (fun b o hs => .inl hs) (fun _ _ _ => Same.rfl)
      | succ i => simp at hv hy; exact h3 i v y hv hy
  | [], _ :: _, hp => hp.elim
  | .tmp _ :: _, [], hp => hp.elim
  | .cell _ _ :: _, [], hp => hp.elim
theorem results_run (h : SR N w0 S0 E st a.tmps) {fn : Func} {xs : List T} (hp : resP (sizesOf P) st fn.results.toList xs) : ∃ v, (results fn a.tmps).run P E.w = .ok v E.w ∧ Rep (Sall E) E.w v (resT xs) := by
  obtain ⟨vs, h1, h2, h3⟩ := res_list h hp
  have hr : (results fn a.tmps).run P E.w = .ok (if h : vs.toArray.size = 1 then vs.toArray[0] else .tuple vs.toArray) E.w := by
    have : results fn a.tmps = (do let vs ← fn.results.mapM (readRes a.tmps); pure (if h : vs.size = 1 then vs[0] else .tuple vs)) := rfl
    rw [this, Array.mapM_eq_mapM_toList]
    rw [Sem.run_bind]
    have h2 : (Functor.map List.toArray (fn.results.toList.mapM (readRes a.tmps))).run P E.w = .ok vs.toArray E.w := by
      rw [map_eq_pure_bind, Sem.run_bind, h1]; rfl
    rw [h2]; rfl
  refine ⟨_, hr, ?_⟩
  match vs, xs, h2, h3 with
  | [v], [x], _, h3 => exact h3 0 v x rfl rfl
  | [], [], _, h3 => exact .tup _ _ rfl fun i x t hx ht => by simp at ht
  | v :: u :: vs, x :: y :: xs, h2, h3 =>
    have hne : ¬ (v :: u :: vs).toArray.size = 1 := by simp
    rw [dif_neg hne]
    exact .tup _ _ (by simpa using h2) fun i z t hz ht => h3 i z t (by simpa using hz) ht
end
section
variable {P : Program} {X : List FuncId} {N : Nat} {w0 : World} {S0 : Base} {a : Act} {E : Env} {st : St}
theorem callable_of {f : FuncId} {fn : Func} (hf : P.funcs[f]? = some fn) (hb : fn.body.isSome = true) (hn : (fn.name == "runtime.NumGoroutine") = false) : Callable P f := fun args w => by
  have hb' : fn.body.isNone = false := by cases h : fn.body <;> simp_all
  have hp : (program : Sem Program).run P w = .ok P w := rfl
  unfold callFunc
  rw [Sem.run_bind, hp]
  simp only [Result.andThen_ok, hf, hn, hb', Bool.false_eq_true, if_false]
  rfl
end
section
variable [Glb] {P : Program} {X : List FuncId} {N : Nat} {w0 : World} {S0 : Base} {a : Act} {E : Env} {st : St}
theorem init_sr {S : Stable} {w : World} {vs : List Value} {args : List T} (hS : ∀ b o, S b o → b < w.heap.size) (hG : GlobOk S w) (hlen : vs.length = args.length) (hrep : ∀ (i : Nat) (v : Value) (t : T), vs[i]? = some v → args[i]? = some t → Rep S w v t) (ha : args.length ≤ N) :
    SR N w { S := S } { S := S, w := w, B := w.heap.size, κ := fun _ => 0, ρ := fun _ => none, live := fun _ => false } (initSt args) (vs.toArray ++ Array.replicate (N - vs.toArray.size) undef) := by
  refine ⟨by simp; omega, rfl, hG, fun m => ?_, fun k m => .top _, fun n b hb => (by cases hb), fun n => rfl, fun n m hn => (by cases hn), fun r g hr => (by cases hr), fun r r' g hr => (by cases hr), hS, Below.refl _ _, fun b o h => h, fun b o h => .inl h, fun g o hg => (by cases hg), trivial⟩
  show VR _ _ (match args[m]? with | some t => .t t | none => .top)
  cases ht : args[m]? with
  | none => exact .top _
  | some t =>
    have hlt : m < vs.length := by rw [hlen]; exact (List.getElem?_eq_some_iff.1 ht).1
    have hv := hrep m vs[m] t (List.getElem?_eq_getElem hlt) ht
    have : (vs.toArray ++ Array.replicate (N - vs.toArray.size) undef).getD m undef = vs[m] := by
      rw [Array.getD_eq_getD_getElem?, Array.getElem?_append_left (by simpa using hlt)]
      simp [hlt]
    rw [this]
    exact .t _ _ hv
theorem dcalls_of (hm : P.follows .mixedOrders = true) {f : FuncId} {fn : Func} {c : Code} {d : DCode} (hf : P.funcs[f]? = some fn) (hb : fn.body = some c) (hn : (fn.name == "runtime.NumGoroutine") = false)
    (hl : lowC P fn.ntmps X c = some d) {args : List T} {r : List T} (ha : args.length ≤ fn.ntmps) (h : wpC P d (initSt args) (Post (sizesOf P) fn.results.toList r)) : DCalls P f args (resT r) := by
  refine ⟨callable_of hf (by rw [hb]; rfl) hn, fun S w vs hS hG hlen hrep => calls_of_wp hf hb ?_⟩
  have hsr := init_sr (N := fn.ntmps) hS hG hlen hrep ha
  refine wp_mono (wpC_wp hm hl (a := { tmps := vs.toArray ++ Array.replicate (fn.ntmps - vs.toArray.size) undef, defers := [] }) hsr h) ?_
  have fin : ∀ {a' : Act} {w' : World}, EndIs fn.ntmps w { S := S } [] (fun st' => resP (sizesOf P) st' fn.results.toList r) a' w' → a'.defers = [] ∧ ∃ v, (results fn a'.tmps).run P w' = .ok v w' ∧
      ∃ v', Ending.returned v = .returned v' ∧ Below w.heap.size w w' ∧ Rep (fun b o => S b o ∨ (w.heap.size ≤ b ∧ b < w'.heap.size)) w' v' (resT r) := by
    rintro a' w' ⟨E', st', rfl, hsr', hdf, hk⟩
    obtain ⟨v, h1, h2⟩ := results_run hsr' hk
    refine ⟨hdf, v, h1, v, rfl, hsr'.below, h2.mono (fun b o hs => ?_) (fun _ _ _ => Same.rfl)⟩
    rcases hs with hs | ⟨n, hn, rfl⟩
    · exact (hsr'.s1 b o hs).imp id fun hle => ⟨hle, hsr'.lt b o hs⟩
    · right
      rw [hsr'.live] at hn
      obtain ⟨b', hb'⟩ := Option.isSome_iff_exists.1 hn
      have hB := hsr'.bx n b' hb'
      obtain ⟨_, hg, _⟩ := hB.at_
      have := hB.old
      rw [hsr'.base] at this
      exact ⟨this, (Array.getElem?_eq_some_iff.1 hg).1⟩
  intro e a' w' hh
  cases e with
  | normal => exact fin hh
  | ret => exact fin hh
  | exit id =>
    obtain ⟨_, _, _, _, _, hk⟩ := hh
    exact hk.elim
  | goto l => exact hh.elim
  | panic ch => exact hh.elim
  | outgrown => exact hh.elim
theorem dcalls_low (hm : P.follows .mixedOrders = true) {f : FuncId} {fn : Func} {d : DCode} {N : Nat} {rs : List ResultVar} (hf : P.funcs[f]? = some fn) (hl : (fn.body.bind (lowC P N X)) = some d) (hN : fn.ntmps = N) (hn : (fn.name == "runtime.NumGoroutine") = false)
    (hr : fn.results.toList = rs) {args : List T} {r : List T} (ha : args.length ≤ N) (h : wpC P d (initSt args) (Post (sizesOf P) rs r)) : DCalls P f args (resT r) := by
  cases hb : fn.body with
  | none => rw [hb] at hl; cases hl
  | some c =>
    rw [hb] at hl
    subst hN; subst hr
    exact dcalls_of hm hf hb hn hl ha h
end
end Go.DL
end
section
namespace Go.DL
open Go.RowKit
section
variable [Glb] {P : Program} {X : List FuncId} {N : Nat} {w0 : World} {S0 : Base} {a : Act} {E : Env} {st : St}
theorem set_put {a : Array Value} {d : Option Nat} {v : Value} {u : V} (h : SR N w0 S0 E st a) (hd : ∀ n, d = some n → n < N) (hv : VR E v u) : SR N w0 S0 E (st.set d u) (putA a d v) := by
  cases d with
  | none => exact h
  | some n => exact h.put (hd n rfl) hv
theorem WC_dc {f : FuncId} {us : List V} {d : Option Nat} {K : St → Prop} {ts : List T} {rd : List Nat} {r : T} (hc : convs st.bx us = some (ts, rd)) (hr : DCalls P f ts r) (hf : rd = [] ∨ r.flat = true) (hk : K (st.set d (.t r))) : WC P f us d st K := by
  refine ⟨hr.1, fun N w0 S0 E a vs h hlen hv hd => ?_⟩
  obtain ⟨c1, c2⟩ := convs_sound h.bx hc
  have hlt : ∀ b x, Sx E rd b x → b < E.w.heap.size := by
    rintro b x (h1 | ⟨n, _, hl, rfl⟩)
    · exact h.lt b x h1
    · rw [h.live] at hl
      obtain ⟨b', hb'⟩ := Option.isSome_iff_exists.1 hl
      obtain ⟨_, hg, _⟩ := (h.bx n b' hb').at_
      exact (Array.getElem?_eq_some_iff.1 hg).1
  have hcall := hr.2 (Sx E rd) E.w vs.toList hlt (h.globX rd) (by simp; omega) (fun i v t hvi ht => by
    have hi : i < us.length := by rw [c1]; exact (List.getElem?_eq_some_iff.1 ht).1
    exact c2 i v _ t (hv i v _ (by simpa using hvi) (List.getElem?_eq_getElem hi)) (List.getElem?_eq_getElem hi) ht)
  refine Calls.mono (by simpa using hcall) ?_
  rintro e w' ⟨v, rfl, hb, hrep⟩
  refine ⟨v, rfl, ?_⟩
  rcases hf with rfl | hf
  · have h' := h.world hb (fun b o => E.S b o ∨ (E.w.heap.size ≤ b ∧ b < w'.heap.size)) (fun b o => ⟨fun hh => hh.elim .inl fun k => .inr ⟨.inr k, k⟩, fun hh => hh.elim .inl fun k => k.1⟩)
    refine ⟨_, _, rfl, hk, set_put h' hd (.t _ _ (hrep.mono (fun b o hh => ?_) (fun _ _ _ => Same.rfl)))⟩
    rcases hh with (h1 | ⟨n, hn, _⟩) | h1
    · exact .inl h1
    · simp at hn
    · exact .inr h1
  · have h' := h.world hb E.S (fun b o => ⟨.inl, fun hh => hh.elim id fun k => k.1⟩)
    exact ⟨_, _, rfl, hk, set_put h' hd (.t _ _ (hrep.of_flat hf))⟩
def resV (st : St) : List ResultVar → Option (List V)
  | [] => some []
  | .tmp t :: rs => match resV st rs with
    | some us => some (st.sl t :: us)
    | none => none
  | .cell _ _ :: _ => none
def oneV : List V → V
  | [u] => u
  | us => .tup us
theorem resV_run (h : SR N w0 S0 E st a.tmps) : ∀ {rs : List ResultVar} {us : List V}, resV st rs = some us → ∃ vs : List Value, (rs.mapM (readRes a.tmps)).run P E.w = .ok vs E.w ∧ vs.length = us.length ∧ ∀ (i : Nat) (v : Value) (u : V), vs[i]? = some v → us[i]? = some u → VR E v u
  | [], us, hr => by cases hr; exact ⟨[], by simp, rfl, fun i v x hv => by simp at hv⟩
  | .cell _ _ :: _, us, hr => by cases hr
  | .tmp t :: rs, us, hr => by
    unfold resV at hr
    split at hr
    · rename_i us' hr'
      cases hr
      obtain ⟨vs, h1, h2, h3⟩ := resV_run h hr'
      refine ⟨a.tmps.getD t undef :: vs, ?_, by simp [h2], fun i v y hv hy => ?_⟩
      · rw [List.mapM_cons, Sem.run_bind]
        have : (readRes a.tmps (.tmp t)).run P E.w = .ok (a.tmps.getD t undef) E.w := rfl
        rw [this]
        simp [h1]
      · cases i with
        | zero => simp only [List.getElem?_cons_zero, Option.some.injEq] at hv hy; subst hv; subst hy; exact h.sl t
        | succ i => simp at hv hy; exact h3 i v y hv hy
    · cases hr
theorem resultsV_run (h : SR N w0 S0 E st a.tmps) {fn : Func} {us : List V} (hr : resV st fn.results.toList = some us) : ∃ v, (results fn a.tmps).run P E.w = .ok v E.w ∧ VR E v (oneV us) := by
  obtain ⟨vs, h1, h2, h3⟩ := resV_run (P := P) h hr
  have hr : (results fn a.tmps).run P E.w = .ok (if h : vs.toArray.size = 1 then vs.toArray[0] else .tuple vs.toArray) E.w := by
    have : results fn a.tmps = (do let vs ← fn.results.mapM (readRes a.tmps); pure (if h : vs.size = 1 then vs[0] else .tuple vs)) := rfl
    rw [this, Array.mapM_eq_mapM_toList]
    rw [Sem.run_bind]
    have h2 : (Functor.map List.toArray (fn.results.toList.mapM (readRes a.tmps))).run P E.w = .ok vs.toArray E.w := by
      rw [map_eq_pure_bind, Sem.run_bind, h1]; rfl
    rw [h2]; rfl
  refine ⟨_, hr, ?_⟩
  match vs, us, h2, h3 with
  | [v], [x], _, h3 => exact h3 0 v x rfl rfl
  | [], [], _, h3 => exact .tup _ _ rfl fun i x t hx ht => by simp at ht
  | v :: u :: vs, x :: y :: xs, h2, h3 =>
    have hne : ¬ (v :: u :: vs).toArray.size = 1 := by simp
    rw [dif_neg hne]
    exact .tup _ _ (by simpa using h2) fun i z t hz ht => h3 i z t (by simpa using hz) ht
def pushS (s : Nat → V) (g : Nat → Nat → V) : Nat → Nat → V
  | 0 => s
  | k + 1 => g k
def pushB (s : Nat → Value) (g : Nat → Nat → Value) : Nat → Nat → Value
  | 0 => s
  | k + 1 => g k
def St.enter (st : St) (us : List V) (off : Nat) : St := { sl := fun m => us[m]?.getD .top, bx := st.bx, gh := pushS st.sl st.gh, off := off, cx := fun S w => ∃ vals, st.cx { S with vals := vals } w }
def St.back (st2 st : St) : St := { sl := st2.gh 0, bx := st2.bx, gh := fun k => st2.gh (k + 1), off := st.off, cx := st.cx }
def PostV (rs : List ResultVar) (st : St) (d : Option Nat) (K : St → Prop) : DExit → St → Prop
  | .normal, st2 => ∃ us, resV st2 rs = some us ∧ K ((st2.back st).set d (oneV us))
  | .ret, st2 => ∃ us, resV st2 rs = some us ∧ K ((st2.back st).set d (oneV us))
  | .exit _, _ => False
theorem WC_inl (hm : P.follows .mixedOrders = true) {f : FuncId} {fn : Func} {dc : DCode} {N' : Nat} {rs : List ResultVar} (hf : P.funcs[f]? = some fn) (hl : (fn.body.bind (lowC P N' X)) = some dc) (hN : fn.ntmps = N') (hn : (fn.name == "runtime.NumGoroutine") = false)
    (hr : fn.results.toList = rs) {us : List V} (off : Nat) (ha : us.length ≤ N') {d : Option Nat} {K : St → Prop} (hw : wpC P dc (st.enter us off) (PostV rs st d K)) : WC P f us d st K := by
  cases hb : fn.body with
  | none => rw [hb] at hl; cases hl
  | some c =>
    rw [hb] at hl
    subst hN; subst hr
    refine ⟨callable_of hf (by rw [hb]; rfl) hn, fun N w0 S0 E a vs h hlen hv hd => calls_of_wp hf hb ?_⟩
    have hsr : SR fn.ntmps w0 { S0 with vals := pushB (fun m => a.getD m undef) S0.vals } E (st.enter us off) (vs ++ Array.replicate (fn.ntmps - vs.size) undef) := by
      refine ⟨by simp; omega, h.base, h.glob, fun m => ?_, fun k m => ?_, h.bx, h.live, h.inj, h.rows, h.rinj, h.lt, h.below, h.s0, h.s1, h.obj, ⟨S0.vals, h.cx⟩⟩
      · show VR _ _ (us[m]?.getD .top)
        cases ht : us[m]? with
        | none => exact .top _
        | some t =>
          have hlt : m < vs.size := by rw [hlen]; exact (List.getElem?_eq_some_iff.1 ht).1
          have hv := hv m vs[m] t (Array.getElem?_eq_getElem hlt) ht
          have : (vs ++ Array.replicate (fn.ntmps - vs.size) undef).getD m undef = vs[m] := by
            rw [Array.getD_eq_getD_getElem?, Array.getElem?_append_left hlt]
            simp [hlt]
          rw [this]
          exact hv
      · cases k with
        | zero => exact h.sl m
        | succ k => exact h.gh k m
    refine wp_mono (wpC_wp hm hl (a := { tmps := vs ++ Array.replicate (fn.ntmps - vs.size) undef, defers := [] }) hsr hw) ?_
    have fin : ∀ {a' : Act} {w' : World}, EndIs fn.ntmps w0 { S0 with vals := pushB (fun m => a.getD m undef) S0.vals } [] (fun st2 => ∃ us, resV st2 fn.results.toList = some us ∧ K ((st2.back st).set d (oneV us))) a' w' → a'.defers = [] ∧ ∃ v, (results fn a'.tmps).run P w' = .ok v w' ∧
        ∃ v', Ending.returned v = .returned v' ∧ ∃ (E' : Env) (st' : St), E'.w = w' ∧ K st' ∧ SR N w0 S0 E' st' (putA a d v') := by
      rintro a' w' ⟨E', st2, rfl, hsr', hdf, us', hus, hk⟩
      obtain ⟨v, h1, h2⟩ := resultsV_run (P := P) hsr' hus
      have hback : SR N w0 S0 E' (st2.back st) a := by
        refine ⟨h.size, hsr'.base, hsr'.glob, fun m => hsr'.gh 0 m, fun k m => hsr'.gh (k + 1) m, hsr'.bx, hsr'.live, hsr'.inj, hsr'.rows, hsr'.rinj, hsr'.lt, hsr'.below, hsr'.s0, hsr'.s1, hsr'.obj, h.cx⟩
      exact ⟨hdf, v, h1, v, rfl, E', _, rfl, hk, set_put hback hd h2⟩
    intro e a' w' hh
    cases e with
    | normal => exact fin hh
    | ret => exact fin hh
    | exit id =>
      obtain ⟨_, _, _, _, _, hk⟩ := hh
      exact hk.elim
    | goto l => exact hh.elim
    | panic ch => exact hh.elim
    | outgrown => exact hh.elim
def PostF (rs : List ResultVar) (e : TypeId) (size : Nat) (xs rest : List T) : DExit → St → Prop
  | .exit _, _ => False
  | _, st => (∀ t ∈ xs.flatMap T.cells, t.flat = true) ∧ (∀ t ∈ rest, t.flat = true) ∧ ∃ u, resV st rs = some (u :: rest.map .t) ∧ ((∃ q, u = .own q e size xs) ∨ (u = .t .nil ∧ xs = []))
def FEnd (w : World) (e : TypeId) (size : Nat) (xs rest : List T) (v : Value) (w' : World) : Prop :=
  ∃ (v' : Value) (us : List Value), Ending.returned v = .returned (valRest v' us) ∧ Below w.heap.size w w' ∧ Fresh w w' v' e size xs ∧
    us.length = rest.length ∧ ∀ (i : Nat) (u : Value) (t : T), us[i]? = some u → rest[i]? = some t → t.flat = true ∧ Rep (fun _ _ => False) w' u t
theorem postF_run {S0 : Base} {E : Env} {st : St} {w : World} {a : Act} (h : SR N w S0 E st a.tmps) {fn : Func} {e : TypeId} {size : Nat} {xs rest : List T} (hfl : ∀ t ∈ xs.flatMap T.cells, t.flat = true) (hrf : ∀ t ∈ rest, t.flat = true) {u : V}
    (hres : resV st fn.results.toList = some (u :: rest.map .t)) (hu : (∃ q, u = .own q e size xs) ∨ (u = .t .nil ∧ xs = [])) : ∃ v, (results fn a.tmps).run P E.w = .ok v E.w ∧ FEnd w e size xs rest v E.w := by
  obtain ⟨vals, h1, h2, h3⟩ := resV_run (P := P) h hres
  match vals, h2, h3 with
  | [], h2, _ => simp at h2
  | v :: us, h2, h3 =>
    have hv := h3 0 v u rfl rfl
    have hfr : Fresh w E.w v e size xs := by
      have own : ∀ q, VR E v (.own q e size xs) → Fresh w E.w v e size xs := fun q ho => by
        have ho := ho.inv_own
        obtain ⟨cells, k1, k2, k3⟩ := ho.ex
        rw [h.base] at k1
        exact ⟨⟨cells, k1, k2, fun i x t hx ht => (k3 i x t hx ht).of_flat (hfl t (List.mem_of_getElem? ht))⟩, ho.uni, ho.one, hfl⟩
      rcases hu with ⟨q, rfl⟩ | ⟨rfl, rfl⟩
      · exact own q hv
      · have hn := hv.inv_t
        cases hn
        exact own 0 (.own _ 0 e size [] (Owns.nil 0 e size))
    have hr : (results fn a.tmps).run P E.w = .ok (if h : (v :: us).toArray.size = 1 then (v :: us).toArray[0] else .tuple (v :: us).toArray) E.w := by
      have : results fn a.tmps = (do let vs ← fn.results.mapM (readRes a.tmps); pure (if h : vs.size = 1 then vs[0] else .tuple vs)) := rfl
      rw [this, Array.mapM_eq_mapM_toList]
      rw [Sem.run_bind]
      have h2 : (Functor.map List.toArray (fn.results.toList.mapM (readRes a.tmps))).run P E.w = .ok (v :: us).toArray E.w := by
        rw [map_eq_pure_bind, Sem.run_bind, h1]; rfl
      rw [h2]; rfl
    refine ⟨_, hr, v, us, ?_, h.below, hfr, by simpa using h2, fun i x t hx ht => ?_⟩
    · match us with
      | [] => rfl
      | y :: ys =>
        have hne : ¬ (v :: y :: ys).toArray.size = 1 := by simp
        rw [dif_neg hne]
        rfl
    · have hft := hrf t (List.mem_of_getElem? ht)
      exact ⟨hft, (h3 (i + 1) x (.t t) (by simpa using hx) (by simpa using ht)).inv_t.of_flat hft⟩
theorem fcalls_low (hm : P.follows .mixedOrders = true) {f : FuncId} {fn : Func} {d : DCode} {N : Nat} {rs : List ResultVar} (hf : P.funcs[f]? = some fn) (hl : (fn.body.bind (lowC P N X)) = some d) (hN : fn.ntmps = N) (hn : (fn.name == "runtime.NumGoroutine") = false)
    (hr : fn.results.toList = rs) {args : List T} {e : TypeId} {size : Nat} {xs rest : List T} (ha : args.length ≤ N) (h : wpC P d (initSt args) (PostF rs e size xs rest)) : FCalls P f args e size xs rest := by
  cases hb : fn.body with
  | none => rw [hb] at hl; cases hl
  | some c =>
    rw [hb] at hl
    subst hN; subst hr
    refine ⟨callable_of hf (by rw [hb]; rfl) hn, fun S w vs hS hG hlen hrep => calls_of_wp hf hb ?_⟩
    have hsr := init_sr (N := fn.ntmps) hS hG hlen hrep ha
    refine wp_mono (wpC_wp hm hl (a := { tmps := vs.toArray ++ Array.replicate (fn.ntmps - vs.toArray.size) undef, defers := [] }) hsr h) ?_
    have fin : ∀ {a' : Act} {w' : World}, EndIs fn.ntmps w { S := S } [] (fun st => (∀ t ∈ xs.flatMap T.cells, t.flat = true) ∧ (∀ t ∈ rest, t.flat = true) ∧ ∃ u, resV st fn.results.toList = some (u :: rest.map .t) ∧ ((∃ q, u = .own q e size xs) ∨ (u = .t .nil ∧ xs = []))) a' w' →
        a'.defers = [] ∧ ∃ v, (results fn a'.tmps).run P w' = .ok v w' ∧ FEnd w e size xs rest v w' := by
      rintro a' w' ⟨E', st', rfl, hsr', hdf, hfl, hrf, u, hres, hu⟩
      exact ⟨hdf, postF_run hsr' hfl hrf hres hu⟩
    intro en a' w' hh
    cases en with
    | normal => exact fin hh
    | ret => exact fin hh
    | exit id =>
      obtain ⟨_, _, _, _, _, hk⟩ := hh
      exact hk.elim
    | goto l => exact hh.elim
    | panic ch => exact hh.elim
    | outgrown => exact hh.elim
def withRest (u : V) (rest : List T) : V :=
  match rest with
  | [] => u
  | _ => .tup (u :: rest.map .t)
end
section
variable {P : Program} {X : List FuncId} {N : Nat} {w0 : World} {S0 : Base} {a : Act} {E : Env} {st : St}
theorem withRest_vr {v : Value} {u : V} {us : List Value} {rest : List T} (hv : VR E v u) (hl : us.length = rest.length) (hr : ∀ (i : Nat) (x : Value) (t : T), us[i]? = some x → rest[i]? = some t → t.flat = true ∧ Rep (fun _ _ => False) E.w x t) :
    VR E (valRest v us) (withRest u rest) := by
  match us, rest, hl, hr with
  | [], [], _, _ => exact hv
  | y :: ys, t :: ts, hl, hr =>
    refine .tup _ _ (by simpa using hl) fun i x z hx hz => ?_
    cases i with
    | zero => simp at hx hz; subst hx; subst hz; exact hv
    | succ i =>
      have hx' : (y :: ys)[i]? = some x := by simpa using hx
      have hz' : ((t :: ts).map V.t)[i]? = some z := by simpa using hz
      rw [List.getElem?_map, Option.map_eq_some_iff] at hz'
      obtain ⟨t', ht', rfl⟩ := hz'
      have := hr i x t' hx' ht'
      exact .t _ _ (this.2.of_flat this.1)
end
section
variable [Glb] {P : Program} {X : List FuncId} {N : Nat} {w0 : World} {S0 : Base} {a : Act} {E : Env} {st : St}
theorem WC_own {f : FuncId} {us : List V} {d : Nat} {K : St → Prop} {ts : List T} {rd : List Nat} {e : TypeId} {size : Nat} {xs rest : List T} (hc : convs st.bx us = some (ts, rd)) (hr : FCalls P f ts e size xs rest)
    (hk : K ((st.dg (d + st.off) (d + st.off)).set (some d) (withRest (.own (d + st.off) e size xs) rest))) : WC P f us (some d) st K := by
  refine ⟨hr.1, fun N w0 S0 E a vs h hlen hv hd => Calls.mono (fcall_world (a := ⟨a, []⟩) hc hr h hlen hv) ?_⟩
  rintro en w' ⟨v, us', rfl, hb, hfr, hl, hrest, h'⟩
  refine ⟨_, rfl, ?_⟩
  have h1 := h'.dg (d + st.off) (d + st.off)
  have hne : E.w.heap.size ≤ w'.heap.size := hb.size
  have klt : ∀ m, E.live m = true → E.κ m < E.w.heap.size := fun m hm => klive (a := ⟨a, []⟩) h hm
  obtain ⟨cells, k1, k2, k3⟩ := hfr.ex
  rcases k1.2 with ⟨rfl, hn⟩ | ⟨g, cap, cur, rfl, hbg, hg, hcap, hm, hs, htk⟩
  · have hx : xs = [] := List.eq_nil_of_length_eq_zero hn
    subst hx
    exact ⟨_, _, rfl, hk, set_put h1 hd (withRest_vr (.own _ _ _ _ _ (Owns.nil _ _ _)) hl hrest)⟩
  · have hlt : g < w'.heap.size := (Array.getElem?_eq_some_iff.1 hg).1
    have h2 := h1.adoptRow (q := d + st.off) (g := g) (k := (xs.flatMap T.cells).length) (by simp) (fun m hm => by have := klt m hm; show E.κ m ≠ g; omega) (fun r hr => by
      dsimp only at hr
      split at hr
      · cases hr
      · have := (h.rows r g hr).2.1; omega) hlt (by show E.B ≤ g; rw [h.base]; have := h.below.size; omega)
    refine ⟨_, _, rfl, hk, set_put h2 hd (withRest_vr (.own _ _ _ _ _ ⟨⟨cells, ⟨k1.1, .inr ⟨g, cap, cur, rfl, ?_, hg, hcap, hm, hs, htk⟩⟩, k2, fun i x t hx ht => (k3 i x t hx ht).of_flat (hfr.flat t (List.mem_of_getElem? ht))⟩, hfr.uni, hfr.one, fun g' hg' => ?_⟩) hl hrest)⟩
    · show E.B ≤ g; rw [h.base]; have := h.below.size; omega
    · simp only [Value.ownBlock, Option.some.injEq] at hg'
      subst hg'
      refine ⟨upd_same _ _ _, fun o => ?_⟩
      show (E.S g o ∨ (g = g ∧ o < _)) ↔ _
      exact ⟨fun hh => hh.elim (fun hs => absurd (h.lt g o hs) (by omega)) (·.2), fun hh => .inr ⟨rfl, hh⟩⟩
end
end Go.DL
end
section
namespace Go.DL
open Go.RowKit
section
variable [Glb] {P : Program} {N : Nat} {w0 : World} {S0 : Base} {o : Oper} {a : Act} {E : Env} {st : St} {F : Fence} {n : Nat}
theorem opIn_did (hF : ∀ f, F.fn f) (h : SR N w0 S0 E st a.tmps) (hd : okDst N o.dst) {x : DOp} (hl : lowOp P o.op = some x) (hc : x.isCall = false) {K : St → Prop} (hw : wpO P x o.dst st K) {Q : Exit → Act → World → Prop} :
    o.wpIn F n P a E.w (fun a' w' => ∃ st', K st' ∧ Next' N w0 S0 a st' a' w') Q := by
  obtain ⟨st', hk, nx, v, E', hr, hnx, hsr⟩ := wpO_did h hd hl hc hw
  refine ⟨fun f _ => hF f, ?_⟩
  rw [Oper.semAt_eq _ _ _ (fun c hop => by rw [hop] at hl; cases hl), hr]
  rcases hnx with rfl | ⟨rfl, rfl⟩
  · exact ⟨st', hk, E', rfl, hsr, by cases o.dst <;> rfl⟩
  · exact ⟨st', hk, E', rfl, hsr, by cases o.dst <;> rfl⟩
end
section
variable {P : Program} {N : Nat} {w0 : World} {S0 : Base} {o : Oper} {a : Act} {E : Env} {st : St} {F : Fence} {n : Nat}
theorem markX_nil (d : Option Nat) (x : DOp) : markD [] d x = x := by
  have mx : markX [] x = x := by
    cases x with
    | append t e size bytes s x => cases s <;> rfl
    | _ => rfl
  cases x with
  | buildS => cases d <;> rfl
  | call => cases d <;> rfl
  | _ => exact mx
end
section
variable [Glb] {P : Program} {N : Nat} {w0 : World} {S0 : Base} {o : Oper} {a : Act} {E : Env} {st : St} {F : Fence} {n : Nat}
theorem wpIn_I (hF : ∀ f, F.fn f) (h : SR N w0 S0 E st a.tmps) {ops : Array Oper} {k : Nat} (ho : ops[k]? = some o) {i : DI} (hl : lowI P N [] ops o = some i) (hc : i.op.isCall = false) {K : St → Prop} (hw : wpI P i st K) {Q : Exit → Act → World → Prop} :
    wpOpIn F n P ops Q k (fun a' w' => ∃ st', K st' ∧ Next' N w0 S0 a st' a' w') a E.w := by
  obtain ⟨⟨x, h1, hx⟩, h2, h3, _, h4⟩ := lowI_inv hl
  rw [markX_nil] at hx
  have run : wpO P i.op i.dst st K → Region.wanted o (yielded ops a.tmps) = true → wpOpIn F n P ops Q k (fun a' w' => ∃ st', K st' ∧ Next' N w0 S0 a st' a' w') a E.w := fun hw hwant => by
    rw [h2, hx] at hw
    unfold wpOpIn
    simp only [ho, hwant, if_true]
    exact opIn_did hF h h3 h1 (hx ▸ hc) hw
  have skip : K (st.set i.dst skipV) → Region.wanted o (yielded ops a.tmps) = false → wpOpIn F n P ops Q k (fun a' w' => ∃ st', K st' ∧ Next' N w0 S0 a st' a' w') a E.w := fun hk hwant => by
    unfold wpOpIn
    simp only [ho, hwant, Bool.false_eq_true, if_false]
    refine ⟨fun f _ => hF f, _, hk, ?_⟩
    rw [h2]
    exact ⟨E, rfl, h.putO h3 (skip_vr E), by cases o.dst <;> rfl⟩
  unfold wpI at hw
  rcases h4 with ⟨hg, hi⟩ | ⟨j, want, g, hg, hj, hi, hlt⟩
  · rw [hi] at hw
    exact run hw (by unfold Region.wanted; rw [hg])
  · rw [hi] at hw
    simp only at hw
    have yl : ∀ b, st.sl g = .t (.bool b) → yielded ops a.tmps j = some b := fun b hb => by
      have hv := h.sl g
      rw [hb] at hv
      have hv := hv.inv_bool
      have hsz : g < a.tmps.size := by rw [h.size]; exact hlt
      have : a.tmps[g]? = some (.bool b) := by
        rw [Array.getElem?_eq_getElem hsz]
        simpa [hsz] using hv
      unfold yielded
      rw [hj]
      simp [this]
    have wn : ∀ b, st.sl g = .t (.bool b) → Region.wanted o (yielded ops a.tmps) = (b == want) := fun b hb => by
      unfold Region.wanted
      rw [hg]
      simp only [yl b hb]
      cases b <;> cases want <;> rfl
    split at hw
    · rename_i b hb
      have hwn := wn b hb
      cases b <;> cases want <;> simp only at hw
      · exact run hw hwn
      · exact skip hw hwn
      · exact skip hw hwn
      · exact run hw hwn
    · rename_i hb
      refine skip hw ?_
      have hv := skip_inv (hb ▸ h.sl g)
      unfold Region.wanted
      rw [hg]
      have : yielded ops a.tmps j = none := by
        have hsz : g < a.tmps.size := by rw [h.size]; exact hlt
        have : a.tmps[g]? = some (.tuple #[]) := by
          rw [Array.getElem?_eq_getElem hsz]
          simpa [hsz] using hv
        unfold yielded
        rw [hj]
        simp [this]
      simp only [this]
      rfl
    · exact hw.elim
theorem wpIn_Is (hF : ∀ f, F.fn f) {ops : Array Oper} {is : List DI} (hl : lowIs P N [] ops ops.toList = some is) (hc : is.all (fun i => !i.op.isCall) = true) {Q : Exit → Act → World → Prop} {K : St → Prop} {ds : List Deferred} {rest : List Nat}
    (hQ : ∀ a w, EndIs N w0 S0 ds K a w → wpOpsIn F n P ops Q rest a w) :
    ∀ (ks : List Nat) (_ : ∀ k ∈ ks, k < ops.size) {a : Act} {E : Env} {st : St} (_ : SR N w0 S0 E st a.tmps) (_ : a.defers = ds) (_ : wpIs P (pick' is ks) st K), wpOpsIn F n P ops Q (ks ++ rest) a E.w
  | [], _, a, E, st, h, hd, hw => hQ a E.w ⟨E, st, rfl, h, hd, hw⟩
  | k :: ks, hk, a, E, st, h, hd, hw => by
    have hlt := hk k (by simp)
    have ho : ops[k]? = some ops[k] := Array.getElem?_eq_getElem hlt
    obtain ⟨i, hi, hli⟩ := (lowIs_get hl).2 k _ (Array.getElem?_toList.trans ho)
    have hw' : wpI P i st fun st' => wpIs P (pick' is ks) st' K := by
      have := hw
      unfold pick' at this
      rw [List.map_cons, hi] at this
      exact this
    have hci : i.op.isCall = false := by
      have := List.all_eq_true.1 hc i (List.mem_of_getElem? hi)
      simpa using this
    rw [List.cons_append, wpOpsIn_cons]
    refine wpOpIn_mono ?_ (wpIn_I hF h ho hli hci hw' (Q := Q))
    rintro a' w' ⟨st', hk', E', rfl, hsr, hdf⟩
    exact wpIn_Is hF hl hc hQ ks (fun k hk' => hk k (List.mem_cons_of_mem _ hk')) hsr (hdf.trans hd) hk'
theorem regionIn_wp (hF : ∀ f, F.fn f) (h : SR N w0 S0 E st a.tmps) {ops : Array Oper} {is : List DI} (hl : lowIs P N [] ops ops.toList = some is) (hc : is.all (fun i => !i.op.isCall) = true) {Q : Exit → Act → World → Prop} {K : St → Prop}
    (hQ : ∀ a' w, EndIs N w0 S0 a.defers K a' w → Q .normal a' w) (hw : wpIs P is st K) {id : Nat} : (Code.region id ops false).wpIn F n P Q a E.w := by
  refine wpIn_region ?_
  have := wpIn_Is (n := n) hF hl hc (rest := []) (K := K) (ds := a.defers) (Q := Q) (fun a w hh => hQ a w hh) (List.range ops.size) (fun k hk => by simpa using hk) h rfl (by
    have : ops.size = is.length := by simpa using (lowIs_get hl).1
    rw [this, pick_range]
    exact hw)
  rwa [List.append_nil] at this
end
section
variable {P : Program} {N : Nat} {w0 : World} {S0 : Base} {o : Oper} {a : Act} {E : Env} {st : St} {F : Fence} {n : Nat}
theorem cell_noCells {w : World} {l : Nat} {x : Obj} (h : w.heap[l]? = some x) (hx : noCells x = true) (o : Nat) : w.cell? ⟨l, o, none⟩ = none := by
  unfold World.cell?
  simp only [h]
  cases x <;> first | rfl | cases hx
end
section
variable [Glb] {P : Program} {N : Nat} {w0 : World} {S0 : Base} {o : Oper} {a : Act} {E : Env} {st : St} {F : Fence} {n : Nat}
def Env.put (E : Env) (l : Nat) (y : Obj) : Env := { E with w := E.w.putObj l y, ρ := fun r => if E.ρ r = some l then none else E.ρ r }
section put
variable {l : Nat} {x y : Obj}
end put
end
section
variable {P : Program} {N : Nat} {w0 : World} {S0 : Base} {o : Oper} {a : Act} {E : Env} {st : St} {F : Fence} {n : Nat}
variable {l : Nat} {x y : Obj}
theorem put_cell' (hlx : E.w.heap[l]? = some x) (hnx : noCells x = true) (hy : noCells y = true) (b o : Nat) : (E.w.putObj l y).cell? ⟨b, o, none⟩ = E.w.cell? ⟨b, o, none⟩ := by
  by_cases hb : b = l
  · subst hb
    rw [cell_noCells hlx hnx, cell_noCells (World.putObj_heap_same (Array.getElem?_eq_some_iff.1 hlx).1) hy]
  · exact World.cell?_of_block (w := E.w) (a := ⟨b, o, none⟩) (World.putObj_heap_other hb)
theorem put_cell (hlx : E.w.heap[l]? = some x) (hnx : noCells x = true) (hy : noCells y = true) (b o : Nat) : Same E.w (E.w.putObj l y) b o :=
  ⟨put_cell' hlx hnx hy b o, fun arr c hg => by
    have hb : b ≠ l := fun e => by rw [e, hlx] at hg; cases hg; cases hnx
    exact (World.putObj_heap_other hb).trans hg⟩
theorem VR.putObj (hlx : E.w.heap[l]? = some x) (hnx : noCells x = true) (hy : noCells y = true) {v : Value} {u : V} (h : VR E v u) : VR (E.put l y) v u := by
  have up : ∀ {v : Value} {t : T}, Rep E.S E.w v t → Rep (E.put l y).S (E.put l y).w v t := fun h => h.mono (fun b o h => h) (fun b o _ => put_cell hlx hnx hy b o)
  induction h with
  | top v => exact .top v
  | t v x h => exact .t v x (up h)
  | ptr n off hl => exact VR.ptr (E := E.put l y) n off hl
  | view n off len size cap hl hc => exact VR.view (E := E.put l y) n off len size cap hl hc
  | mp n hl => exact VR.mp (E := E.put l y) n hl
  | own v r e size xs h =>
    obtain ⟨cells, h1, h2, h3⟩ := h.ex
    refine .own v r e size xs ⟨⟨cells, ownsRow_of_heap h1 fun g hg => ?_, h2, fun i x t hx ht => up (h3 i x t hx ht)⟩, h.uni, h.one, fun g hg => ⟨?_, (h.row g hg).2⟩⟩
    · refine World.putObj_heap_other fun e => ?_
      rcases h1.2 with ⟨rfl, _⟩ | ⟨g', cap, cur, rfl, _, hg', _⟩
      · cases hg
      · simp only [Value.ownBlock, Option.some.injEq] at hg
        rw [hg, e, hlx] at hg'
        cases hg'; cases hnx
    · show (if E.ρ r = some l then none else E.ρ r) = some g
      have hr := (h.row g hg).1
      rw [if_neg]
      · exact hr
      · intro e
        rw [hr] at e
        have e := Option.some.inj e
        rcases h1.2 with ⟨rfl, _⟩ | ⟨g', cap, cur, rfl, _, hg', _⟩
        · cases hg
        · simp only [Value.ownBlock, Option.some.injEq] at hg
          rw [hg, e, hlx] at hg'
          cases hg'; cases hnx
  | full a len size xs h => exact .full a len size xs (up h)
  | fn f cs vs hs _ ih => exact .fn f cs vs hs ih
  | tup cs vs hs _ ih => exact .tup cs vs hs ih
  | agv cs vs hs h1 _ ih => exact .agv cs vs hs h1 ih
  | raw v h1 => exact .raw v h1
end
section
variable [Glb] {P : Program} {N : Nat} {w0 : World} {S0 : Base} {o : Oper} {a : Act} {E : Env} {st : St} {F : Fence} {n : Nat}
section put
variable {l : Nat} {x y : Obj}
theorem SR.putObj {b : Array Value} (h : SR N w0 S0 E st b) (hx : S0.objs l = some x) (hy : noCells y = true) (hl : w0.heap.size ≤ l) (hcx : st.cx { S0 with objs := upd S0.objs l (some y) } w0) :
    SR N w0 { S0 with objs := upd S0.objs l (some y) } (E.put l y) st b := by
  obtain ⟨hnx, hlx⟩ := h.obj l x hx
  have hlt : l < E.w.heap.size := (Array.getElem?_eq_some_iff.1 hlx).1
  have hsz : (E.w.putObj l y).heap.size = E.w.heap.size := by simp [World.putObj]
  have hne : ∀ r g, (if E.ρ r = some l then none else E.ρ r) = some g → E.ρ r = some g ∧ g ≠ l := fun r g hr => by
    split at hr
    · cases hr
    · rename_i hn
      exact ⟨hr, fun e => hn (e ▸ hr)⟩
  refine ⟨h.size, h.base, h.glob, fun m => (h.sl m).putObj hlx hnx hy, fun k m => (h.gh k m).putObj hlx hnx hy, fun n b' hb => ?_, h.live, h.inj, fun r g hr => ?_, fun r r' g h1 h2 => h.rinj r r' g (hne r g h1).1 (hne r' g h2).1, fun b o hs => ?_, ?_, h.s0, h.s1, fun g o hg => ?_, hcx⟩
  · have hB := h.bx n b' hb
    obtain ⟨ob, hg, hob⟩ := hB.at_
    have hnl : E.κ n ≠ l := fun e => by rw [e, hlx] at hg; cases hg; cases hob <;> cases hnx
    refine ⟨hB.old, hB.free, ob, (World.putObj_heap_other hnl).trans hg, ?_⟩
    cases hob with
    | itd k arr c ag sh es ix hgk hS hR => exact ObjR.itd (E := E.put l y) k arr c ag sh es ix ((put_cell hlx hnx hy k 0).map _ _ hgk) hS ⟨hR.size, fun i x e hx he => ⟨(hR.at_ i x e hx he).1.mono (fun b o h => h) (fun b o _ => put_cell hlx hnx hy b o), (hR.at_ i x e hx he).2.1.mono (fun b o h => h) (fun b o _ => put_cell hlx hnx hy b o), (hR.at_ i x e hx he).2.2⟩, hR.lt, hR.apart, hR.mb⟩
    | it m bs c ix hl => exact ObjR.it (E := E.put l y) m bs c ix hl
    | map arr clock ag sh es mb hm => exact .map arr clock ag sh es mb ⟨hm.size, fun i x e hx he => ⟨(hm.at_ i x e hx he).1.mono (fun b o h => h) (fun b o _ => put_cell hlx hnx hy b o), (hm.at_ i x e hx he).2.1.mono (fun b o h => h) (fun b o _ => put_cell hlx hnx hy b o), (hm.at_ i x e hx he).2.2⟩, hm.lt, hm.apart, hm.mb⟩
    | cells cs e _ hc =>
    refine .cells cs e _ ?_
    cases hc with
    | d m ts h1 h2 h3 => exact .d m ts h1 h2 fun i z t hz ht => ⟨(h3 i z t hz ht).1.mono (fun b o h => h) (fun b o _ => put_cell hlx hnx hy b o), (h3 i z t hz ht).2⟩
    | v vs h1 h2 => exact .v vs h1 fun i z u hz hu => ⟨(h2 i z u hz hu).1.putObj hlx hnx hy, (h2 i z u hz hu).2⟩
  · obtain ⟨k1, k2⟩ := hne r g hr
    obtain ⟨g1, g2, g3⟩ := h.rows r g k1
    exact ⟨g1, by show g < (E.w.putObj l y).heap.size; rw [hsz]; exact g2, g3⟩
  · show b < (E.w.putObj l y).heap.size
    rw [hsz]; exact h.lt b o hs
  · exact h.below.trans (.of rfl rfl rfl (by show _ ≤ (E.w.putObj l y).heap.size; rw [hsz]; exact Nat.le_refl _) (fun k hk => World.putObj_heap_other (by omega)) (Nat.le_refl _))
  · by_cases hgl : g = l
    · subst hgl
      have : some y = some o := by
        have hg' : upd S0.objs g (some y) g = some o := hg
        rwa [upd_same] at hg'
      cases this
      exact ⟨hy, World.putObj_heap_same hlt⟩
    · have hg' : upd S0.objs l (some y) g = some o := hg
      rw [upd_other _ _ _ _ hgl] at hg'
      exact ⟨(h.obj g o hg').1, (World.putObj_heap_other hgl).trans (h.obj g o hg').2⟩
end put
end
end Go.DL
end
