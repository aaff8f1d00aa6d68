/- Joined by program: parts of a data level over the model, of the program's functions over it, and of the statement's proof. -/
import Derived.Test.YtedccjcfafejdaaDoorGc
import Derived.RangeFuncIn
import Derived.RangeFuncOwn
import Derived.Test.YtedccjcfafejdaaDoorProg
import Derived.KernelRfl
import Derived.DataReads
import Derived.Carry
import Derived.ProofKit
import Derived.OpenShut
import Derived.Below
import Derived.JoinedCond
import Derived.Deep.DeepHandedRow
import Derived.Lib.LaidTab
import Derived.Shelf.SlSortCmp.NoneTotal
import Derived.Stop.LaidErr
section
namespace Go.DL
open Go.RowKit
section
variable [Glb] {P : Program} {N : Nat} {w0 : World} {S0 : Base} {o : Oper} {a : Act} {E : Env} {st : St} {n : Nat}
def St.round (st : St) (p : Nat) (u : V) (off : Nat) : St := { sl := upd (st.gh 0) p u, bx := st.bx, gh := pushS st.sl st.gh, off := off }
def readyRec (fn : FuncId) (tmps : Array Value) (p : Nat) (assign body : Code) (d : Nat) : Loop := { state := .ready, pending := none, fn := fn, tmps := tmps, params := #[p], assign := assign, body := body, defers := d }
end
section
variable {P : Program} {N : Nat} {w0 : World} {S0 : Base} {o : Oper} {a : Act} {E : Env} {st : St} {n : Nat}
theorem yield_run {l : Nat} {X Y : Operand} {ats : Array TypeId} (ho : o.op = .call { callee := .value X, args := #[Y], argTypes := ats }) (hX : a.eval X = .func (.yield l) #[] #[]) (w : World) :
    (execOp a.eval o).run P w = (Instr.yield l #[a.eval Y]).run P w := by
  unfold execOp
  simp [ho, resolve, hX, Deferred.ofValue, invoke]
end
section
variable [Glb] {P : Program} {N : Nat} {w0 : World} {S0 : Base} {o : Oper} {a : Act} {E : Env} {st : St} {n : Nat}
theorem yield_wp (h : SR N w0 S0 E st a.tmps) (hd : ∀ n, o.dst = some n → n < N) {l : Nat} {X Y : Operand} {y : O} {ats : Array TypeId} (ho : o.op = .call { callee := .value X, args := #[Y], argTypes := ats }) (hX : a.eval X = .func (.yield l) #[] #[]) (hY : lowO Y = some y)
    {fn : FuncId} {tmps : Array Value} {p N' dd id1 id2 bl : Nat} {ops1 ops2 : Array Oper} {is1 is2 : List DI} (hobj : S0.objs l = some (.loop (readyRec fn tmps p (.region id1 ops1 false) (.block bl (.region id2 ops2 false)) dd))) (hl : w0.heap.size ≤ l)
    (hframe : ∀ m, S0.vals 0 m = tmps.getD m undef) (hN : tmps.size = N') (hp : p < N') (hl1 : lowIs P N' [] ops1 ops1.toList = some is1) (hc1 : is1.all (fun i => !i.op.isCall) = true) (hl2 : lowIs P N' [] ops2 ops2.toList = some is2) (hc2 : is2.all (fun i => !i.op.isCall) = true)
    (off : Nat) {K : St → Prop} (hw : wpIs P is1 (st.round p (ev st.sl y) off) fun s1 => (∀ S w, s1.cx S w) ∧ wpIs P is2 s1 fun s2 => (∀ S w, s2.cx S w) ∧ K ((s2.back st).set o.dst (.t (.bool true)))) {Q : Exit → Act → World → Prop} :
    o.wpIn Fence.wide n P a E.w (fun a' w' => ∃ st', K st' ∧ Next' N w0 S0 a st' a' w') Q := by
  have hF : ∀ f, (Fence.wide.inRound l).fn f := fun _ => trivial
  obtain ⟨_, hlw⟩ := h.obj l _ hobj
  refine ⟨fun f _ => trivial, ?_⟩
  rw [Oper.semAt_eq _ _ _ (fun c hop => by rw [ho] at hop; cases hop), yield_run ho hX, run_yield hlw rfl]
  refine ⟨fun hh => (by cases hh), roundIn_of_wpIn trivial ?_⟩
  -- the state of the round
  let tm' : Array Value := tmps.setIfInBounds p (a.eval Y)
  let S0r : Base := { S0 with vals := pushB (fun m => a.tmps.getD m undef) S0.vals }
  have hv := ev_sound h.sl hY
  have hsr : SR N' w0 S0r E (st.round p (ev st.sl y) off) tm' := by
    refine ⟨by simp [tm', hN], h.base, h.glob, fun m => ?_, fun k m => ?_, h.bx, h.live, h.inj, h.rows, h.rinj, h.lt, h.below, h.s0, h.s1, h.obj, trivial⟩
    · rw [getD_put (by rw [hN]; exact hp)]
      show VR E _ (upd (st.gh 0) p (ev st.sl y) m)
      by_cases hm : m = p
      · subst hm; rw [if_pos rfl, upd_same]; exact hv
      · rw [if_neg hm, upd_other _ _ _ _ hm, ← hframe]; exact h.gh 0 m
    · cases k with
      | zero => exact h.sl m
      | succ k => exact h.gh k m
  have hasg := regionIn_wp (F := Fence.wide.inRound l) (n := n - 1) (a := { tmps := tm', defers := [] }) hF hsr hl1 hc1 (K := fun s1 => (∀ S w, s1.cx S w) ∧ wpIs P is2 s1 fun s2 => (∀ S w, s2.cx S w) ∧ K ((s2.back st).set o.dst (.t (.bool true))))
    (Q := fun e a' w' => match e with
      | .normal => EndIs N' w0 S0r [] (fun s1 => (∀ S w, s1.cx S w) ∧ wpIs P is2 s1 fun s2 => (∀ S w, s2.cx S w) ∧ K ((s2.back st).set o.dst (.t (.bool true)))) a' w'
      | _ => False) (fun a' w hh => hh) hw (id := id1)
  have hz : (((readyRec fn tmps p (.region id1 ops1 false) (.block bl (.region id2 ops2 false)) dd).params.zip #[a.eval Y]).foldl (fun tmps (t, a) => tmps.setIfInBounds t a) (readyRec fn tmps p (.region id1 ops1 false) (.block bl (.region id2 ops2 false)) dd).tmps) = tm' := by
    simp [readyRec, tm']
  rw [hz]
  refine wpIn_mono hasg ?_
  intro e a1 w1 hq
  cases e with
  | normal =>
    obtain ⟨E1, s1, rfl, hsr1, hdf1, hcx1, hw2⟩ := hq
    obtain ⟨_, hlw1⟩ := hsr1.obj l _ hobj
    refine ⟨_, run_beginRound hlw1 rfl, ?_⟩
    let rc : Loop := readyRec fn tmps p (.region id1 ops1 false) (.block bl (.region id2 ops2 false)) dd
    have hsr2 := hsr1.putObj (x := .loop rc) (y := .loop { rc with state := .busy }) hobj rfl hl (hcx1 _ _)
    refine wpIn_block ?_
    refine wpIn_mono (regionIn_wp (F := Fence.wide.inRound l) (n := n - 1) hF hsr2 hl2 hc2 (K := fun s2 => (∀ S w, s2.cx S w) ∧ K ((s2.back st).set o.dst (.t (.bool true))))
      (Q := fun e a' w' => match e with
        | .normal => EndIs N' w0 { S0r with objs := upd S0r.objs l (some (.loop { rc with state := .busy })) } a1.defers (fun s2 => (∀ S w, s2.cx S w) ∧ K ((s2.back st).set o.dst (.t (.bool true)))) a' w'
        | _ => False) (fun a' w hh => hh) hw2 (id := id2)) ?_
    intro e a2 w2 hq
    cases e with
    | normal =>
      obtain ⟨E2, s2, rfl, hsr3, hdf2, hcx2, hk⟩ := hq
      have hb : (upd S0r.objs l (some (.loop { rc with state := .busy }))) l = some (.loop { rc with state := .busy }) := upd_same _ _ _
      obtain ⟨_, hlw3⟩ := hsr3.obj l _ hb
      refine ⟨_, _, run_endRound none hlw3, ?_⟩
      have hsr4 := hsr3.putObj (x := .loop { rc with state := .busy }) (y := .loop rc) hb rfl hl (hcx2 _ _)
      have hobjs : upd (upd S0r.objs l (some (.loop { rc with state := .busy }))) l (some (.loop rc)) = S0.objs := by
        funext k
        by_cases hk : k = l
        · subst hk; rw [upd_same]; exact hobj.symm
        · rw [upd_other _ _ _ _ hk, upd_other _ _ _ _ hk]
      have hback : SR N w0 S0 (E2.put l (.loop rc)) (s2.back st) a.tmps := by
        refine ⟨h.size, hsr4.base, hsr4.glob, fun m => hsr4.gh 0 m, fun k m => hsr4.gh (k + 1) m, hsr4.bx, hsr4.live, hsr4.inj, hsr4.rows, hsr4.rinj, hsr4.lt, hsr4.below, hsr4.s0, hsr4.s1, fun g x hg => hsr4.obj g x (by show upd _ l _ g = _; rw [hobjs]; exact hg), h.cx⟩
      refine ⟨_, hk, E2.put l (.loop rc), rfl, ?_, by cases o.dst <;> rfl⟩
      exact hback.putO (d := o.dst) (by cases hdst : o.dst with | none => trivial | some d => exact hd d hdst) (.t _ _ (.bool true))
    | _ => exact hq.elim
  | _ => exact hq.elim
end
end Go.DL
end
section
namespace Go.DL
open Go.RowKit
section
variable [Glb] {P : Program} {X : List FuncId} {N : Nat} {w0 : World} {S0 : Base} {a : Act} {E : Env} {st : St}
def iterCx (l : Nat) (r : Loop) : Base → World → Prop := fun S w => S.objs l = some (.loop r) ∧ w.heap.size ≤ l ∧ ∀ m, S.vals 0 m = r.tmps.getD m undef
def St.iter (st : St) (l : Nat) (r : Loop) (caps : List V) (off : Nat) : St :=
  { sl := fun m => match m with | 0 => .raw (.func (.yield l) #[] #[]) | k + 1 => caps[k]?.getD .top, bx := st.bx, gh := pushS st.sl st.gh, off := off, cx := iterCx l r }
def PostI (st : St) (K : St → Prop) : DExit → St → Prop
  | .exit _, _ => False
  | _, st2 => K (st2.back st)
def AfterLoop (N : Nat) (w0 : World) (S : Stable) (vals : Nat → Nat → Value) (a : Act) (K : St → Prop) (a' : Act) (w' : World) : Prop :=
  ∃ (S0' : Base) (E' : Env) (st' : St) (D : Nat), E'.w = w' ∧ SR N w0 S0' E' st' a'.tmps ∧ S0'.S = S ∧ S0'.vals = vals ∧ w0.heap.size ≤ D ∧ S0'.objs D = some (.deferred (some [])) ∧ a'.defers = { target := .collected D, args := #[] } :: a.defers ∧ K st'
theorem range_wp (hm : P.follows .mixedOrders = true) (h : SR N w0 S0 E st a.tmps) (hcx : ∀ S w, st.cx S w) {g : Operand} {y : O} {p id1 id2 bl : Nat} {ops1 ops2 : Array Oper} (hg : lowO g = some y) {gf : FuncId} {caps : List V} (hv : ev st.sl y = .fn gf caps)
    {fn : Func} {dc : DCode} {N' : Nat} (hf : P.funcs[gf]? = some fn) (hl : (fn.body.bind (lowC P N' X)) = some dc) (hN : fn.ntmps = N') (hn : (fn.name == "runtime.NumGoroutine") = false) (hr : fn.results = #[]) (ha : caps.length + 1 ≤ N') (off : Nat) {K : St → Prop}
    (hw : ∀ (l d : Nat) (f : FuncId) (tmps : Array Value), tmps.size = N → wpC P dc (st.iter l (readyRec f tmps p (.region id1 ops1 false) (.block bl (.region id2 ops2 false)) d) caps off) (PostI st K))
    {Q : Exit → Act → World → Prop} (hQ : ∀ a' w', AfterLoop N w0 S0.S S0.vals a K a' w' → Q .normal a' w') : (Code.rangeFunc g #[p] (.region id1 ops1 false) (.block bl (.region id2 ops2 false))).wp P Q a E.w := by
  have hgv := ev_sound h.sl hg
  rw [hv] at hgv
  generalize hga : a.eval g = gv at hgv
  cases hgv with
  | fn _ lb _ hs hcaps =>
  refine (wpIn_wide (n := 0)).1 (wpIn_rangeFunc ?_)
  intro f _
  let L := E.w.heap.size + 1
  let D := E.w.heap.size
  let rc : Loop := readyRec f a.tmps p (.region id1 ops1 false) (.block bl (.region id2 ops2 false)) D
  let W1 := (E.w.alloc (.deferred (some []))).alloc (.loop rc)
  have hL1 : W1.heap[L]? = some (.loop rc) := by
    have := World.alloc_heap_new (E.w.alloc (.deferred (some []))) (.loop rc); rwa [World.size_alloc] at this
  have hK1 : W1.heap[D]? = some (.deferred (some [])) := (Below.heap_alloc _ _ _ (by simp [D])).trans (World.alloc_heap_new E.w _)
  have hb1 : Below E.w.heap.size E.w W1 := ((Below.refl _ E.w).alloc (Nat.le_refl _) _).alloc (by simp) _
  have hcallable := callable_of hf (P := P) (f := gf) (by cases hb : fn.body with | none => rw [hb] at hl; cases hl | some c => rfl) hn
  refine ⟨L, [{ target := .collected D, args := #[] }], W1, { target := .fn (.func gf) lb, args := #[.func (.yield L) #[] #[]] }, W1, gf, #[.func (.yield L) #[] #[]] ++ lb, W1, run_enterLoop_outer _ _ _ _ _, ?_, fun f' _ => trivial, ?_, fun hh => (by cases hh), ?_⟩
  · simp only [resolve, hga]
    simp [go_sem]
  · simp [invoke, go_sem, hcallable _ _]
  · refine callsIn_wide.2 ?_
    cases hb : fn.body with
    | none => rw [hb] at hl; cases hl
    | some c =>
    rw [hb] at hl
    subst hN
    refine calls_of_wp hf hb ?_
    -- the iterator's state
    let S0i : Base := { S := S0.S, vals := pushB (fun m => a.tmps.getD m undef) S0.vals, objs := upd (upd S0.objs D (some (.deferred (some [])))) L (some (.loop rc)) }
    have h1 := h.world hb1 E.S (fun b o => ⟨.inl, fun hh => hh.elim id fun k => k.1⟩)
    have hDL : D ≠ L := by show E.w.heap.size ≠ E.w.heap.size + 1; omega
    have hobj : ∀ (k : Nat) (o : Obj), S0i.objs k = some o → noCells o = true ∧ W1.heap[k]? = some o := fun k o hk => by
      have hk : upd (upd S0.objs D (some (.deferred (some [])))) L (some (.loop rc)) k = some o := hk
      by_cases e1 : k = L
      · subst e1; rw [upd_same] at hk; cases hk; exact ⟨rfl, hL1⟩
      · rw [upd_other _ _ _ _ e1] at hk
        by_cases e2 : k = D
        · subst e2; rw [upd_same] at hk; cases hk; exact ⟨rfl, hK1⟩
        · rw [upd_other _ _ _ _ e2] at hk; exact h1.obj k o hk
    have hsr : SR fn.ntmps w0 S0i { E with w := W1 } (st.iter L rc caps off) ((#[.func (.yield L) #[] #[]] ++ lb) ++ Array.replicate (fn.ntmps - (#[Value.func (.yield L) #[] #[]] ++ lb).size) undef) := by
      refine ⟨by simp [hs]; omega, h1.base, h1.glob, fun m => ?_, fun k m => ?_, h1.bx, h1.live, h1.inj, h1.rows, h1.rinj, h1.lt, h1.below, h1.s0, h1.s1, hobj, ?_⟩
      · cases m with
        | zero =>
          have : ((#[Value.func (.yield L) #[] #[]] ++ lb) ++ Array.replicate (fn.ntmps - (#[Value.func (.yield L) #[] #[]] ++ lb).size) undef).getD 0 undef = .func (.yield L) #[] #[] := by
            rw [Array.getD_eq_getD_getElem?, Array.getElem?_append_left (by simp; omega), Array.getElem?_append_left (by simp)]
            rfl
          rw [this]
          exact .raw _ rfl
        | succ m =>
          show VR _ _ (caps[m]?.getD .top)
          cases ht : caps[m]? with
          | none => exact .top _
          | some u =>
            have hlt : m < lb.size := by rw [hs]; exact (List.getElem?_eq_some_iff.1 ht).1
            have hvm := hcaps m lb[m] u (Array.getElem?_eq_getElem hlt) ht
            have : ((#[Value.func (.yield L) #[] #[]] ++ lb) ++ Array.replicate (fn.ntmps - (#[Value.func (.yield L) #[] #[]] ++ lb).size) undef).getD (m + 1) undef = lb[m] := by
              rw [Array.getD_eq_getD_getElem?, Array.getElem?_append_left (by simp; omega), Array.getElem?_append_right (by simp)]
              simp [hlt]
            rw [this]
            have gr : Grow E { E with w := W1 } := ⟨rfl, fun _ hl => ⟨hl, rfl⟩, fun r k hr => ⟨hr, hb1.block k (h.rows r k hr).2.1, fun _ => Iff.rfl⟩, fun _ _ hs => hs, fun b o hs => Same.of_below hb1 (h.lt b o hs)⟩
            exact hvm.grow gr
      · cases k with
        | zero => exact h1.sl m
        | succ k => exact h1.gh k m
      · exact ⟨upd_same _ _ _, by have := h.below.size; show _ ≤ E.w.heap.size + 1; omega, fun m => rfl⟩
    refine wp_mono (wpC_wp hm hl (a := { tmps := (#[.func (.yield L) #[] #[]] ++ lb) ++ Array.replicate (fn.ntmps - (#[Value.func (.yield L) #[] #[]] ++ lb).size) undef, defers := [] }) hsr (hw L D f a.tmps h.size)) ?_
    have fin : ∀ {a' : Act} {w' : World}, EndIs fn.ntmps w0 S0i [] (fun st2 => K (st2.back st)) a' w' → a'.defers = [] ∧ ∃ v, (results fn a'.tmps).run P w' = .ok v w' ∧
        rangePost Fence.wide 0 P L Q { a with defers := [{ target := .collected D, args := #[] }] ++ a.defers } (.returned v) w' := by
      rintro a' w' ⟨E', st2, rfl, hsr', hdf, hk⟩
      refine ⟨hdf, .tuple #[], results_none hr _ _ _, ?_⟩
      have hLo : S0i.objs L = some (.loop rc) := upd_same _ _ _
      obtain ⟨_, hlw⟩ := hsr'.obj L _ hLo
      refine ⟨none, _, run_endLoop hlw (by show LoopState.ready ≠ .busy; simp), ?_⟩
      have hback : SR N w0 { S0 with objs := S0i.objs } E' (st2.back st) a.tmps :=
        ⟨h.size, hsr'.base, hsr'.glob, fun m => hsr'.gh 0 m, fun k m => hsr'.gh (k + 1) m, hsr'.bx, hsr'.live, hsr'.inj, hsr'.rows, hsr'.rinj, hsr'.lt, hsr'.below, hsr'.s0, hsr'.s1, hsr'.obj, hcx _ _⟩
      have h2 := hback.putObj (x := .loop rc) (y := .loop { rc with state := .exhausted }) hLo rfl (by have := h.below.size; show _ ≤ E.w.heap.size + 1; omega) (hcx _ _)
      refine hQ _ _ ⟨_, _, _, D, rfl, h2, rfl, rfl, h.below.size, ?_, rfl, hk⟩
      show upd (upd (upd S0.objs D (some (.deferred (some [])))) L (some (.loop rc))) L _ D = _
      rw [upd_other _ _ _ _ hDL, upd_other _ _ _ _ hDL, upd_same]
    intro e a' w' hh
    cases e with
    | normal => exact fin hh
    | ret => exact fin hh
    | exit id =>
      obtain ⟨_, _, _, _, _, hk⟩ := hh
      exact hk.elim
    | goto l => exact hh.elim
    | panic ch => exact hh.elim
    | outgrown => exact hh.elim
end
end Go.DL
end
section
namespace Go.DL
open Go.RowKit
section
variable [Glb] {P : Program}
def rg (id : Nat) : Code → Option Code
  | .region i ops d => cond (Nat.beq i id) (some (.region i ops d)) none
  | .seq a b => match rg id a with | some c => some c | none => rg id b
  | .cond _ a b => match rg id a with | some c => some c | none => rg id b
  | .block _ b => rg id b
  | .loop b => rg id b
  | .rangeFunc _ _ a b => match rg id a with | some c => some c | none => rg id b
  | _ => none
def rg0 (id : Nat) (c : Option Code) : Code := ((c.bind (rg id)).getD .skip)
end
end Go.DL
end
section
namespace Go.DL
open Go.RowKit
section
variable [Glb]
theorem k_call {P : Program} {f : FuncId} {ts : List T} {K : T → Prop} (r : T) (h : DCalls P f ts r) (hk : K r) : ∃ r, DCalls P f ts r ∧ K r := ⟨r, h, hk⟩
end
section
theorem leI {ks : List Nat} {bx : Nat → Option BX} {n m : Int} (h : n = m) : LeV ks bx (.t (.int .i64 n)) (.t (.int .i64 m)) := by rw [h]; exact .same _
theorem leT {ks : List Nat} {bx : Nat → Option BX} {n m : T} (h : n = m) : LeV ks bx (.t n) (.t m) := by rw [h]; exact .same _
theorem leOwn {ks : List Nat} {bx : Nat → Option BX} {r : Nat} {e : TypeId} {n : Nat} {xs ys : List T} (h : xs = ys) : LeV ks bx (.own r e n xs) (.own r e n ys) := by rw [h]; exact .same _
theorem leBd {ks : List Nat} {bx : Nat → Option BX} {n : Nat} {ts us : List T} (h : ts = us) : LeB ks bx (.d n ts) (some (.d n us)) := by rw [h]; exact .same _
end
section
variable [Glb]
theorem DCalls.less {P : Program} {f : FuncId} {ts us : List T} {r : T} (h : DCalls P f us r) (hlen : ts.length = us.length)
    (hle : ∀ (S : Stable) (w : World) (i : Nat) (v : Value) (t u : T), ts[i]? = some t → us[i]? = some u → Rep S w v t → Rep S w v u) : DCalls P f ts r :=
  ⟨h.1, fun S w vs hS hG hl hr => h.2 S w vs hS hG (hl.trans hlen) fun i v u hv hu => by
    have hlt : i < ts.length := by rw [hlen]; exact (List.getElem?_eq_some_iff.1 hu).1
    exact hle S w i v ts[i] u (List.getElem?_eq_getElem hlt) hu (hr i v ts[i] hv (List.getElem?_eq_getElem hlt))⟩
end
section
theorem Rep.nil_slice {S : Stable} {w : World} {v : Value} (n : Nat) (h : Rep S w v .nil) : Rep S w v (.slice n []) := by
  cases h
  exact .slice none 0 0 0 0 n [] (fun _ => undef) rfl (Nat.le_refl _) (fun _ h => by cases h) (fun _ h => by cases h) (fun h => absurd h (by simp)) (fun i h => absurd h (by simp)) (fun i t h => by simp at h)
end
section
variable [Glb]
theorem DCalls.res {P : Program} {f : FuncId} {ts : List T} {r r' : T} (h : DCalls P f ts r) (hle : ∀ (S : Stable) (w : World) (v : Value), Rep S w v r → Rep S w v r') : DCalls P f ts r' :=
  ⟨h.1, fun S w vs hS hG hl hr => (h.2 S w vs hS hG hl hr).mono fun _ _ ⟨v, h1, h2, h3⟩ => ⟨v, h1, h2, hle _ _ _ h3⟩⟩
end
section
theorem wrap_id {n : Int} (h0 : -9223372036854775808 ≤ n) (h1 : n < 9223372036854775808) : IntKind.wrap .i64 n = n := by
  unfold IntKind.wrap
  simp [IntKind.bits, IntKind.signed]
  omega
theorem OrLess.mono {Q Q' : DExit → St → Prop} (hq : ∀ e s, Q e s → Q' e s) {e : DExit} {s : St} (h : OrLess Q e s) : OrLess Q' e s := h.imp (hq _ _) fun ⟨s', h1, h2⟩ => ⟨s', h1, hq _ _ h2⟩
end
section
variable [Glb]
end
end Go.DL
end
section
namespace Go.DL
open Go.RowKit
section
variable [Glb] {P : Program} {N : Nat} {st : St}
def lowK (P : Program) (N : Nat) (ops : Array Oper) : List Nat → Option (List DI)
  | [] => some []
  | k :: ks => match ops[k]? with
    | some o => match lowI P N [] ops o, lowK P N ops ks with
      | some i, some is => some (i :: is)
      | _, _ => none
    | none => none
end
section
variable {P : Program} {N : Nat} {st : St}
theorem wpOpIn_mono' {F : Fence} {n : Nat} {ops : Array Oper} {Q : Exit → Act → World → Prop} {k : Nat} {a : Act} {w : World} {K K' : Act → World → Prop} (h : ∀ a w, K a w → K' a w) (hh : wpOpIn F n P ops Q k K a w) : wpOpIn F n P ops Q k K' a w := by
  unfold wpOpIn at *
  split
  · exact h _ _ (by simpa [*] using hh)
  · rename_i o ho
    simp only [ho] at hh
    split
    · rename_i hw; simp only [hw, if_true] at hh; exact Oper.wpIn_mono h hh
    · rename_i hw; simp only [hw] at hh; exact ⟨hh.1, h _ _ hh.2⟩
end
section
variable [Glb] {P : Program} {N : Nat} {st : St}
theorem wpK {n : Nat} {w0 : World} {S0 : Base} {ops : Array Oper} {Q : Exit → Act → World → Prop} {rest : List Nat} {ds : List Deferred} {K : St → Prop}
    (hk : ∀ (a : Act) (E : Env) (st : St), SR N w0 S0 E st a.tmps → a.defers = ds → K st → wpOpsIn Fence.wide n P ops Q rest a E.w) :
    ∀ (ks : List Nat) (is : List DI) (_ : lowK P N ops ks = some is) (_ : is.all (fun i => !i.op.isCall) = true) {a : Act} {E : Env} {st : St} (_ : SR N w0 S0 E st a.tmps) (_ : a.defers = ds) (_ : wpIs P is st K), wpOpsIn Fence.wide n P ops Q (ks ++ rest) a E.w
  | [], is, hl, _, a, E, st, h, hd, hw => by
    cases hl
    exact hk a E st h hd hw
  | k :: ks, is, hl, hc, a, E, st, h, hd, hw => by
    unfold lowK at hl
    split at hl
    · rename_i o ho
      split at hl
      · rename_i i is' hi his
        cases hl
        simp only [List.all_cons, Bool.and_eq_true] at hc
        rw [List.cons_append, wpOpsIn_cons]
        refine wpOpIn_mono' ?_ (wpIn_I (fun _ => trivial) h ho hi (by simpa using hc.1) hw)
        rintro a' w' ⟨st', hk', E', rfl, hsr, hdf⟩
        exact wpK hk ks is' his hc.2 hsr (hdf.trans hd) hk'
      · cases hl
    · cases hl
theorem yield_sem {ops : Array Oper} {k1 k2 : List Nat} {k : Nat} (hks : List.range ops.size = k1 ++ (k :: k2)) {is1 is2 : List DI} (h1 : lowK P N ops k1 = some is1) (c1 : is1.all (fun i => !i.op.isCall) = true) (h2 : lowK P N ops k2 = some is2) (c2 : is2.all (fun i => !i.op.isCall) = true)
    {o : Oper} (hok : ops[k]? = some o) (hg : o.guard = none) {x y d : Nat} {ats : Array TypeId} (ho : o.op = .call { callee := .value (.tmp x), args := #[.tmp y], argTypes := ats }) (hd : o.dst = some d) (hdN : d < N)
    {fn : FuncId} {tmps : Array Value} {p N' dd id1 id2 bl l : Nat} {opsA opsB : Array Oper} {isA isB : List DI} (hN : tmps.size = N') (hp : p < N')
    (hlA : lowIs P N' [] opsA opsA.toList = some isA) (hcA : isA.all (fun i => !i.op.isCall) = true) (hlB : lowIs P N' [] opsB opsB.toList = some isB) (hcB : isB.all (fun i => !i.op.isCall) = true) (off : Nat) {id : Nat} {Q : DExit → St → Prop}
    (hw : wpIs P is1 st fun s0 => (∀ S w, s0.cx S w → iterCx l (readyRec fn tmps p (.region id1 opsA false) (.block bl (.region id2 opsB false)) dd) S w) ∧ s0.sl x = .raw (.func (.yield l) #[] #[]) ∧
      wpIs P isA (s0.round p (s0.sl y) off) fun s1 => (∀ S w, s1.cx S w) ∧ wpIs P isB s1 fun s2 => (∀ S w, s2.cx S w) ∧ wpIs P is2 ((s2.back s0).set (some d) (.t (.bool true))) (Q .normal)) : SemC P N (.region id ops false) st Q := by
  intro w0 S0 E a h
  refine (wpIn_wide (n := 0)).1 (wpIn_region ?_)
  rw [hks]
  refine wpK (ds := a.defers) (K := _) ?_ k1 is1 h1 c1 h rfl hw
  rintro a1 E1 s0 hs hd1 ⟨hcx, hx, hA⟩
  rw [wpOpsIn_cons]
  have hwant : Region.wanted o (yielded ops a1.tmps) = true := by unfold Region.wanted; rw [hg]
  unfold wpOpIn
  simp only [hok, hwant, if_true]
  obtain ⟨q1, q2, q3⟩ := hcx _ _ hs.cx
  have hX : a1.eval (.tmp x) = .func (.yield l) #[] #[] := by
    have := hs.sl x
    rw [hx] at this
    show a1.tmps.getD x undef = _
    generalize a1.tmps.getD x undef = v at this
    cases this
    rfl
  have := yield_wp (n := 0) (o := o) hs (fun n hn => by rw [hd] at hn; cases hn; exact hdN) ho hX (Y := .tmp y) (y := .tmp y) rfl q1 q2 q3 hN hp hlA hcA hlB hcB off (K := fun s => wpIs P is2 s (Q .normal)) (by rw [hd]; exact hA) (Q := Exits N w0 S0 a.defers Q)
  refine Oper.wpIn_mono ?_ this
  rintro a' w' ⟨st', hk', E', rfl, hsr, hdf⟩
  have := wpK (rest := []) (n := 0) (Q := Exits N w0 S0 a.defers Q) (ds := a.defers) (K := Q .normal) (fun a2 E2 s2 hs2 hd2 hq => (by
    show Exits N w0 S0 a.defers Q .normal a2 E2.w
    exact ⟨E2, s2, rfl, hs2, hd2, hq⟩)) k2 is2 h2 c2 hsr (hdf.trans hd1) hk'
  rwa [List.append_nil] at this
end
end Go.DL
end
section
namespace Go.RC
open Go Go.DL Go.Proofs
set_option maxRecDepth 100000
abbrev Kc (n : Int) : O := .const (.int .i64 n)
abbrev Zi (n : Int) : T := .int .i64 n
abbrev Ui (n : Int) : T := .int .u8 n
abbrev tm (n : Nat) : O := .tmp n
abbrev mv (d s : Nat) : DI := ⟨some d, .mov (.tmp s), none, []⟩
abbrev mF (d s g : Nat) : DI := ⟨some d, .mov (.tmp s), some (g, false), []⟩
abbrev mT (d s g : Nat) : DI := ⟨some d, .mov (.tmp s), some (g, true), []⟩
abbrev oo (d : Nat) (p : DOp) : DI := ⟨some d, p, none, []⟩
abbrev oF (d g : Nat) (p : DOp) : DI := ⟨some d, p, some (g, false), []⟩
abbrev oT (d g : Nat) (p : DOp) : DI := ⟨some d, p, some (g, true), []⟩
abbrev o0 (p : DOp) : DI := ⟨none, p, none, []⟩
noncomputable def c119 : DCode := (.seq (.region [oo 4 (.mov (.const (.int .u32 0)))] []) (.seq (.region [mv 6 1,oo 7 (.conv .u64 (tm 6)),oo 8 (.bin .and (tm 7) (.const (.int .u64 31))),mv 5 8] []) (.seq (.region [mv 9 0,mv 10 5,oo 11 (.bin .shl (tm 9) (tm 10)),mv 12 0,mv 13 5,oo 14 (.bin .sub (.const (.int .u64 32)) (tm 13)),oo 15 (.bin .shr (tm 12) (tm 14)),oo 16 (.bin .or (tm 11) (tm 15)),mv 4 16] []) .ret)))
theorem l119 : (Tryd.f119.body.bind (lowC Tryd.prog 17 [])) = some c119 := by kernel_rfl
noncomputable def c104 : DCode := (.seq (.region [oo 8 (.mov (.const (.int .u32 0)))] []) (.seq (.region [mv 9 0,mv 10 1,oo 11 (.neg (tm 10)),oo 12 (.call 119 [(tm 9), (tm 11)]),mv 13 0,mv 14 2,oo 15 (.neg (tm 14)),oo 16 (.call 119 [(tm 13), (tm 15)]),oo 17 (.bin .xor (tm 12) (tm 16)),mv 18 0,mv 19 3,oo 20 (.neg (tm 19)),oo 21 (.call 119 [(tm 18), (tm 20)]),oo 22 (.bin .xor (tm 17) (tm 21)),mv 8 22] []) .ret))
theorem l104 : (Tryd.f104.body.bind (lowC Tryd.prog 23 [])) = some c104 := by kernel_rfl
noncomputable def c103 : DCode := (.seq (.region [oo 2 (.alloc [(.int .u32 0), (.int .u32 0), (.int .u32 0), (.int .u32 0), (.int .u32 0), (.int .u32 0), (.int .u32 0), (.int .u32 0), (.int .u32 0), (.int .u32 0), (.int .u32 0), (.int .u32 0), (.int .u32 0), (.int .u32 0), (.int .u32 0), (.int .u32 0), (.int .u32 0), (.int .u32 0), (.int .u32 0), (.int .u32 0), (.int .u32 0), (.int .u32 0), (.int .u32 0), (.int .u32 0), (.int .u32 0), (.int .u32 0), (.int .u32 0), (.int .u32 0), (.int .u32 0), (.int .u32 0), (.int .u32 0), (.int .u32 0), (.int .u32 0), (.int .u32 0), (.int .u32 0), (.int .u32 0), (.int .u32 0), (.int .u32 0), (.int .u32 0), (.int .u32 0), (.int .u32 0), (.int .u32 0), (.int .u32 0), (.int .u32 0), (.int .u32 0), (.int .u32 0), (.int .u32 0), (.int .u32 0), (.int .u32 0), (.int .u32 0), (.int .u32 0), (.int .u32 0), (.int .u32 0), (.int .u32 0), (.int .u32 0), (.int .u32 0), (.int .u32 0), (.int .u32 0), (.int .u32 0), (.int .u32 0), (.int .u32 0), (.int .u32 0), (.int .u32 0), (.int .u32 0)])] []) (.seq (.region [oo 3 (.alloc [(.int .u32 0), (.int .u32 0), (.int .u32 0), (.int .u32 0), (.int .u32 0), (.int .u32 0), (.int .u32 0), (.int .u32 0), (.int .u32 0), (.int .u32 0), (.int .u32 0), (.int .u32 0), (.int .u32 0), (.int .u32 0), (.int .u32 0), (.int .u32 0), (.int .u32 0), (.int .u32 0), (.int .u32 0), (.int .u32 0), (.int .u32 0), (.int .u32 0), (.int .u32 0), (.int .u32 0), (.int .u32 0), (.int .u32 0), (.int .u32 0), (.int .u32 0), (.int .u32 0), (.int .u32 0), (.int .u32 0), (.int .u32 0), (.int .u32 0), (.int .u32 0), (.int .u32 0), (.int .u32 0), (.int .u32 0), (.int .u32 0), (.int .u32 0), (.int .u32 0), (.int .u32 0), (.int .u32 0), (.int .u32 0), (.int .u32 0), (.int .u32 0), (.int .u32 0), (.int .u32 0), (.int .u32 0), (.int .u32 0), (.int .u32 0), (.int .u32 0), (.int .u32 0), (.int .u32 0), (.int .u32 0), (.int .u32 0), (.int .u32 0), (.int .u32 0), (.int .u32 0), (.int .u32 0), (.int .u32 0), (.int .u32 0), (.int .u32 0), (.int .u32 0), (.int .u32 0)])] []) (.seq (.seq (.region [oo 11 (.mov (Kc 0))] []) (.block 0 (.loop (.seq (.region [oo 12 (.bin .lss (tm 11) (Kc 64))] []) (.seq (.cond (tm 12) .skip (.exit 0)) (.seq (.block 1 (.seq (.region [mv 13 11,mv 4 13] []) (.seq (.seq (.region [mv 14 4,oo 15 (.bin .lss (tm 14) (Kc 16))] []) (.cond (tm 15) (.seq (.seq (.region [mv 16 0,mv 17 4,oo 18 (.bin .mul (Kc 4) (tm 17)),mv 19 4,oo 20 (.bin .mul (Kc 4) (tm 19)),oo 21 (.bin .add (tm 20) (Kc 4)),oo 22 (.slice 1 (tm 16) (some (tm 18)) (some (tm 21))),oo 23 (.len (tm 22)),oo 24 (.mov (Kc 0))] []) (.block 2 (.loop (.seq (.region [oo 25 (.bin .lss (tm 24) (tm 23))] []) (.seq (.cond (tm 25) .skip (.exit 2)) (.seq (.block 3 (.seq (.region [oo 26 (.idxL 1 (tm 22) (tm 24)),oo 27 (.load 1 false (tm 26)),mv 6 27] []) (.region [mv 28 4,mv 29 4,oo 30 (.idxA 64 1 (tm 3) (tm 29)),oo 31 (.load 1 false (tm 30)),oo 32 (.bin .shl (tm 31) (.const (.int .u64 8))),mv 33 6,oo 34 (.conv .u32 (tm 33)),oo 35 (.bin .or (tm 32) (tm 34)),oo 36 (.idxA 64 1 (tm 3) (tm 28)),o0 (.store 1 (tm 36) (tm 35))] []))) (.region [oo 37 (.bin .add (tm 24) (Kc 1)),mv 24 37] []))))))) (.exit 1)) .skip)) (.seq (.region [mv 38 4,oo 39 (.bin .sub (tm 38) (Kc 15)),oo 40 (.idxA 64 1 (tm 3) (tm 39)),oo 41 (.load 1 false (tm 40)),mv 42 4,oo 43 (.bin .sub (tm 42) (Kc 2)),oo 44 (.idxA 64 1 (tm 3) (tm 43)),oo 45 (.load 1 false (tm 44)),mv 7 41,mv 8 45] []) (.seq (.region [mv 46 7,oo 47 (.call 119 [(tm 46), (.const (.int .i64 (-7)))]),mv 48 7,oo 49 (.call 119 [(tm 48), (.const (.int .i64 (-18)))]),oo 50 (.bin .xor (tm 47) (tm 49)),mv 51 7,oo 52 (.bin .shr (tm 51) (.const (.int .u64 3))),oo 53 (.bin .xor (tm 50) (tm 52)),mv 9 53] []) (.seq (.region [mv 54 8,oo 55 (.call 119 [(tm 54), (.const (.int .i64 (-17)))]),mv 56 8,oo 57 (.call 119 [(tm 56), (.const (.int .i64 (-19)))]),oo 58 (.bin .xor (tm 55) (tm 57)),mv 59 8,oo 60 (.bin .shr (tm 59) (.const (.int .u64 10))),oo 61 (.bin .xor (tm 58) (tm 60)),mv 10 61] []) (.region [mv 62 4,mv 63 4,oo 64 (.bin .sub (tm 63) (Kc 16)),oo 65 (.idxA 64 1 (tm 3) (tm 64)),oo 66 (.load 1 false (tm 65)),mv 67 9,oo 68 (.bin .add (tm 66) (tm 67)),mv 69 4,oo 70 (.bin .sub (tm 69) (Kc 7)),oo 71 (.idxA 64 1 (tm 3) (tm 70)),oo 72 (.load 1 false (tm 71)),oo 73 (.bin .add (tm 68) (tm 72)),mv 74 10,oo 75 (.bin .add (tm 73) (tm 74)),oo 76 (.idxA 64 1 (tm 3) (tm 62)),o0 (.store 1 (tm 76) (tm 75))] []))))))) (.region [oo 77 (.bin .add (tm 11) (Kc 1)),mv 11 77] []))))))) (.seq (.region [oo 78 (.load 64 true (tm 3)),o0 (.store 64 (tm 2) (tm 78))] []) .ret))))
theorem l103 : (Tryd.f103.body.bind (lowC Tryd.prog 79 [])) = some c103 := by kernel_rfl
noncomputable def c92 : DCode := (.seq (.region [oo 2 (.box 8 (tm 0)),oo 4 (.alloc [(.int .u32 0), (.int .u32 0), (.int .u32 0), (.int .u32 0), (.int .u32 0), (.int .u32 0), (.int .u32 0), (.int .u32 0)])] []) (.seq (.region [mv 13 1,oo 14 (.call 103 [(tm 13)]),oo 5 (.alloc [(.int .u32 0), (.int .u32 0), (.int .u32 0), (.int .u32 0), (.int .u32 0), (.int .u32 0), (.int .u32 0), (.int .u32 0), (.int .u32 0), (.int .u32 0), (.int .u32 0), (.int .u32 0), (.int .u32 0), (.int .u32 0), (.int .u32 0), (.int .u32 0), (.int .u32 0), (.int .u32 0), (.int .u32 0), (.int .u32 0), (.int .u32 0), (.int .u32 0), (.int .u32 0), (.int .u32 0), (.int .u32 0), (.int .u32 0), (.int .u32 0), (.int .u32 0), (.int .u32 0), (.int .u32 0), (.int .u32 0), (.int .u32 0), (.int .u32 0), (.int .u32 0), (.int .u32 0), (.int .u32 0), (.int .u32 0), (.int .u32 0), (.int .u32 0), (.int .u32 0), (.int .u32 0), (.int .u32 0), (.int .u32 0), (.int .u32 0), (.int .u32 0), (.int .u32 0), (.int .u32 0), (.int .u32 0), (.int .u32 0), (.int .u32 0), (.int .u32 0), (.int .u32 0), (.int .u32 0), (.int .u32 0), (.int .u32 0), (.int .u32 0), (.int .u32 0), (.int .u32 0), (.int .u32 0), (.int .u32 0), (.int .u32 0), (.int .u32 0), (.int .u32 0), (.int .u32 0)]),o0 (.store 64 (tm 5) (tm 14))] []) (.seq (.region [oo 15 (.sliceA 8 1 (tm 2) none (some (Kc 4))),oo 16 (.arrP 4 (tm 15)),oo 17 (.load 4 true (tm 16)),oo 18 (.sliceA 8 1 (tm 2) (some (Kc 4)) none),oo 19 (.arrP 4 (tm 18)),oo 20 (.load 4 true (tm 19)),oo 6 (.alloc [(.int .u32 0), (.int .u32 0), (.int .u32 0), (.int .u32 0)]),oo 7 (.alloc [(.int .u32 0), (.int .u32 0), (.int .u32 0), (.int .u32 0)]),o0 (.store 4 (tm 6) (tm 17)),o0 (.store 4 (tm 7) (tm 20))] [[], [], [], [], [], [], [], [], [5], []]) (.seq (.seq (.region [oo 21 (.load 64 true (.const (.glob 0 0))),oo 22 (.mov (Kc 0))] []) (.block 0 (.loop (.seq (.region [oo 23 (.bin .lss (tm 22) (Kc 64))] []) (.seq (.cond (tm 23) .skip (.exit 0)) (.seq (.block 1 (.seq (.region [mv 24 22,oo 25 (.idxV 64 1 false (tm 21) (tm 22)),mv 8 24,mv 9 25] []) (.seq (.region [oo 26 (.idxA 4 1 (tm 7) (Kc 3)),oo 27 (.load 1 false (tm 26)),oo 28 (.idxA 4 1 (tm 7) (Kc 0)),oo 29 (.load 1 false (tm 28)),oo 30 (.call 104 [(tm 29), (Kc 6), (Kc 11), (Kc 25)]),oo 31 (.bin .add (tm 27) (tm 30)),oo 32 (.idxA 4 1 (tm 7) (Kc 0)),oo 33 (.load 1 false (tm 32)),oo 34 (.idxA 4 1 (tm 7) (Kc 1)),oo 35 (.load 1 false (tm 34)),oo 36 (.bin .and (tm 33) (tm 35)),oo 37 (.idxA 4 1 (tm 7) (Kc 0)),oo 38 (.load 1 false (tm 37)),oo 39 (.cpl (tm 38)),oo 40 (.idxA 4 1 (tm 7) (Kc 2)),oo 41 (.load 1 false (tm 40)),oo 42 (.bin .and (tm 39) (tm 41)),oo 43 (.bin .xor (tm 36) (tm 42)),oo 44 (.bin .add (tm 31) (tm 43)),mv 45 9,oo 46 (.bin .add (tm 44) (tm 45)),mv 47 8,oo 48 (.idxA 64 1 (tm 5) (tm 47)),oo 49 (.load 1 false (tm 48)),oo 50 (.bin .add (tm 46) (tm 49)),mv 10 50] []) (.seq (.region [oo 51 (.idxA 4 1 (tm 6) (Kc 0)),oo 52 (.load 1 false (tm 51)),oo 53 (.call 104 [(tm 52), (Kc 2), (Kc 13), (Kc 22)]),oo 54 (.idxA 4 1 (tm 6) (Kc 0)),oo 55 (.load 1 false (tm 54)),oo 56 (.idxA 4 1 (tm 6) (Kc 1)),oo 57 (.load 1 false (tm 56)),oo 58 (.bin .and (tm 55) (tm 57)),oo 59 (.idxA 4 1 (tm 6) (Kc 0)),oo 60 (.load 1 false (tm 59)),oo 61 (.idxA 4 1 (tm 6) (Kc 2)),oo 62 (.load 1 false (tm 61)),oo 63 (.bin .and (tm 60) (tm 62)),oo 64 (.bin .xor (tm 58) (tm 63)),oo 65 (.idxA 4 1 (tm 6) (Kc 1)),oo 66 (.load 1 false (tm 65)),oo 67 (.idxA 4 1 (tm 6) (Kc 2)),oo 68 (.load 1 false (tm 67)),oo 69 (.bin .and (tm 66) (tm 68)),oo 70 (.bin .xor (tm 64) (tm 69)),oo 71 (.bin .add (tm 53) (tm 70)),mv 11 71] []) (.seq (.region [oo 72 (.idxA 4 1 (tm 6) (Kc 3)),oo 73 (.load 1 false (tm 72)),mv 74 10,oo 75 (.bin .add (tm 73) (tm 74)),oo 76 (.idxA 4 1 (tm 7) (Kc 0)),oo 77 (.load 1 false (tm 76)),oo 78 (.idxA 4 1 (tm 7) (Kc 1)),oo 79 (.load 1 false (tm 78)),oo 80 (.idxA 4 1 (tm 7) (Kc 2)),oo 81 (.load 1 false (tm 80)),oo 82 (.build [(.int .u32 0), (.int .u32 0), (.int .u32 0), (.int .u32 0)] [(0, 1, (tm 75)), (1, 1, (tm 77)), (2, 1, (tm 79)), (3, 1, (tm 81))]),o0 (.store 4 (tm 7) (tm 82))] []) (.region [mv 83 10,mv 84 11,oo 85 (.bin .add (tm 83) (tm 84)),oo 86 (.idxA 4 1 (tm 6) (Kc 0)),oo 87 (.load 1 false (tm 86)),oo 88 (.idxA 4 1 (tm 6) (Kc 1)),oo 89 (.load 1 false (tm 88)),oo 90 (.idxA 4 1 (tm 6) (Kc 2)),oo 91 (.load 1 false (tm 90)),oo 92 (.build [(.int .u32 0), (.int .u32 0), (.int .u32 0), (.int .u32 0)] [(0, 1, (tm 85)), (1, 1, (tm 87)), (2, 1, (tm 89)), (3, 1, (tm 91))]),o0 (.store 4 (tm 6) (tm 92))] [])))))) (.region [oo 93 (.bin .add (tm 22) (Kc 1)),mv 22 93] []))))))) (.seq (.seq (.region [oo 94 (.mov (Kc 0))] []) (.block 2 (.loop (.seq (.region [oo 95 (.bin .lss (tm 94) (Kc 4))] []) (.seq (.cond (tm 95) .skip (.exit 2)) (.seq (.block 3 (.seq (.region [mv 96 94,mv 12 96] []) (.seq (.region [mv 97 12,oo 98 (.idxA 8 1 (tm 2) (tm 97)),oo 99 (.load 1 false (tm 98)),mv 100 12,oo 101 (.idxA 4 1 (tm 6) (tm 100)),oo 102 (.load 1 false (tm 101)),oo 103 (.bin .add (tm 99) (tm 102)),oo 104 (.idxA 8 1 (tm 2) (tm 97)),o0 (.store 1 (tm 104) (tm 103))] []) (.region [mv 105 12,oo 106 (.bin .add (tm 105) (Kc 4)),oo 107 (.idxA 8 1 (tm 2) (tm 106)),oo 108 (.load 1 false (tm 107)),mv 109 12,oo 110 (.idxA 4 1 (tm 7) (tm 109)),oo 111 (.load 1 false (tm 110)),oo 112 (.bin .add (tm 108) (tm 111)),oo 113 (.idxA 8 1 (tm 2) (tm 106)),o0 (.store 1 (tm 113) (tm 112))] [])))) (.region [oo 114 (.bin .add (tm 94) (Kc 1)),mv 94 114] []))))))) (.seq (.region [oo 115 (.load 8 true (tm 2)),o0 (.store 8 (tm 4) (tm 115))] []) .ret))))))
theorem l92 : (Tryd.f92.body.bind (lowC Tryd.prog 116 [])) = some c92 := by kernel_rfl
noncomputable def c72 : DCode := (.seq (.region [oo 0 (.alloc [(.int .u32 0), (.int .u32 0), (.int .u32 0), (.int .u32 0), (.int .u32 0), (.int .u32 0), (.int .u32 0), (.int .u32 0), (Ui 0), (Ui 0), (Ui 0), (Ui 0), (Ui 0), (Ui 0), (Ui 0), (Ui 0), (Ui 0), (Ui 0), (Ui 0), (Ui 0), (Ui 0), (Ui 0), (Ui 0), (Ui 0), (Ui 0), (Ui 0), (Ui 0), (Ui 0), (Ui 0), (Ui 0), (Ui 0), (Ui 0), (Ui 0), (Ui 0), (Ui 0), (Ui 0), (Ui 0), (Ui 0), (Ui 0), (Ui 0), (Ui 0), (Ui 0), (Ui 0), (Ui 0), (Ui 0), (Ui 0), (Ui 0), (Ui 0), (Ui 0), (Ui 0), (Ui 0), (Ui 0), (Ui 0), (Ui 0), (Ui 0), (Ui 0), (Ui 0), (Ui 0), (Ui 0), (Ui 0), (Ui 0), (Ui 0), (Ui 0), (Ui 0), (Ui 0), (Ui 0), (Ui 0), (Ui 0), (Ui 0), (Ui 0), (Ui 0), (Ui 0), (.int .u64 0)])] []) (.seq (.region [oo 1 (.build [(.int .u32 0), (.int .u32 0), (.int .u32 0), (.int .u32 0), (.int .u32 0), (.int .u32 0), (.int .u32 0), (.int .u32 0)] [(0, 1, (.const (.int .u32 1779033703))), (1, 1, (.const (.int .u32 3144134277))), (2, 1, (.const (.int .u32 1013904242))), (3, 1, (.const (.int .u32 2773480762))), (4, 1, (.const (.int .u32 1359893119))), (5, 1, (.const (.int .u32 2600822924))), (6, 1, (.const (.int .u32 528734635))), (7, 1, (.const (.int .u32 1541459225)))]),oo 2 (.build [(.int .u32 0), (.int .u32 0), (.int .u32 0), (.int .u32 0), (.int .u32 0), (.int .u32 0), (.int .u32 0), (.int .u32 0), (Ui 0), (Ui 0), (Ui 0), (Ui 0), (Ui 0), (Ui 0), (Ui 0), (Ui 0), (Ui 0), (Ui 0), (Ui 0), (Ui 0), (Ui 0), (Ui 0), (Ui 0), (Ui 0), (Ui 0), (Ui 0), (Ui 0), (Ui 0), (Ui 0), (Ui 0), (Ui 0), (Ui 0), (Ui 0), (Ui 0), (Ui 0), (Ui 0), (Ui 0), (Ui 0), (Ui 0), (Ui 0), (Ui 0), (Ui 0), (Ui 0), (Ui 0), (Ui 0), (Ui 0), (Ui 0), (Ui 0), (Ui 0), (Ui 0), (Ui 0), (Ui 0), (Ui 0), (Ui 0), (Ui 0), (Ui 0), (Ui 0), (Ui 0), (Ui 0), (Ui 0), (Ui 0), (Ui 0), (Ui 0), (Ui 0), (Ui 0), (Ui 0), (Ui 0), (Ui 0), (Ui 0), (Ui 0), (Ui 0), (Ui 0), (.int .u64 0)] [(0, 8, (tm 1))]),o0 (.store 73 (tm 0) (tm 2))] []) .ret))
theorem l72 : (Tryd.f72.body.bind (lowC Tryd.prog 3 [])) = some c72 := by kernel_rfl
noncomputable def c73 : DCode := (.seq (.region [oo 2 (.box 73 (tm 0)),oo 4 (.alloc [(.int .u32 0), (.int .u32 0), (.int .u32 0), (.int .u32 0), (.int .u32 0), (.int .u32 0), (.int .u32 0), (.int .u32 0), (Ui 0), (Ui 0), (Ui 0), (Ui 0), (Ui 0), (Ui 0), (Ui 0), (Ui 0), (Ui 0), (Ui 0), (Ui 0), (Ui 0), (Ui 0), (Ui 0), (Ui 0), (Ui 0), (Ui 0), (Ui 0), (Ui 0), (Ui 0), (Ui 0), (Ui 0), (Ui 0), (Ui 0), (Ui 0), (Ui 0), (Ui 0), (Ui 0), (Ui 0), (Ui 0), (Ui 0), (Ui 0), (Ui 0), (Ui 0), (Ui 0), (Ui 0), (Ui 0), (Ui 0), (Ui 0), (Ui 0), (Ui 0), (Ui 0), (Ui 0), (Ui 0), (Ui 0), (Ui 0), (Ui 0), (Ui 0), (Ui 0), (Ui 0), (Ui 0), (Ui 0), (Ui 0), (Ui 0), (Ui 0), (Ui 0), (Ui 0), (Ui 0), (Ui 0), (Ui 0), (Ui 0), (Ui 0), (Ui 0), (Ui 0), (.int .u64 0)])] []) (.seq (.block 0 (.loop (.seq (.seq (.region [mv 7 1,⟨some 8, .bin .neq (tm 7) (.const (.str ⟨#[]⟩)), none, []⟩] []) (.cond (tm 8) .skip (.exit 0))) (.block 1 (.seq (.region [oo 9 (.offA 72 (tm 2)),oo 10 (.load 1 false (tm 9)),oo 11 (.bin .rem (tm 10) (.const (.int .u64 64))),oo 12 (.conv .i64 (tm 11)),mv 5 12] []) (.seq (.cut (.region [oo 13 (.offA 8 (tm 2)),mv 14 5,oo 15 (.sliceA 64 1 (tm 13) (some (tm 14)) none),mv 16 1,oo 17 (.copy (tm 15) (tm 16)),mv 6 17] [])) (.seq (.region [mv 18 1,mv 19 6,oo 20 (.sliceS (tm 18) (some (tm 19)) none),mv 1 20] []) (.seq (.cut (.region [oo 21 (.offA 72 (tm 2)),oo 22 (.load 1 false (tm 21)),mv 23 6,oo 24 (.conv .u64 (tm 23)),oo 25 (.bin .add (tm 22) (tm 24)),oo 26 (.offA 72 (tm 2)),o0 (.store 1 (tm 26) (tm 25))] [])) (.seq (.region [mv 27 5,mv 28 6,oo 29 (.bin .add (tm 27) (tm 28)),oo 30 (.bin .eql (tm 29) (Kc 64))] []) (.cond (tm 30) (.region [oo 31 (.offA 0 (tm 2)),oo 32 (.load 8 true (tm 31)),oo 33 (.offA 8 (tm 2)),oo 34 (.sliceA 64 1 (tm 33) none none),oo 35 (.call 92 [(tm 32), (tm 34)]),oo 36 (.offA 0 (tm 2)),o0 (.store 8 (tm 36) (tm 35))] []) .skip)))))))))) (.seq (.region [oo 37 (.load 73 true (tm 2)),o0 (.store 73 (tm 4) (tm 37))] []) .ret)))
theorem l73 : (Tryd.f73.body.bind (lowC Tryd.prog 38 [6000003, 6000005])) = some c73 := by kernel_rfl
noncomputable def c75 : DCode := (.seq (.region [oo 1 (.box 73 (tm 0)),oo 2 (.alloc [(Ui 0), (Ui 0), (Ui 0), (Ui 0), (Ui 0), (Ui 0), (Ui 0), (Ui 0), (Ui 0), (Ui 0), (Ui 0), (Ui 0), (Ui 0), (Ui 0), (Ui 0), (Ui 0), (Ui 0), (Ui 0), (Ui 0), (Ui 0), (Ui 0), (Ui 0), (Ui 0), (Ui 0), (Ui 0), (Ui 0), (Ui 0), (Ui 0), (Ui 0), (Ui 0), (Ui 0), (Ui 0)])] []) (.seq (.region [oo 8 (.offA 72 (tm 1)),oo 9 (.load 1 false (tm 8)),oo 10 (.bin .mul (.const (.int .u64 8)) (tm 9)),mv 3 10] []) (.seq (.region [oo 11 (.buildS 5 1 1 [(Ui 0)] [(0, (.const (Ui 128)))]),mv 4 11] []) (.seq (.block 0 (.loop (.seq (.seq (.region [oo 12 (.offA 72 (tm 1)),oo 13 (.load 1 false (tm 12)),oo 14 (.conv .i64 (tm 13)),mv 15 4,oo 16 (.len (tm 15)),oo 17 (.bin .add (tm 14) (tm 16)),oo 18 (.bin .rem (tm 17) (Kc 64)),oo 19 (.bin .neq (tm 18) (Kc 56))] []) (.cond (tm 19) .skip (.exit 0))) (.block 1 (.region [mv 20 4,oo 21 (.buildF 1 1 [(Ui 0)] [(0, (.const (Ui 0)))]),oo 22 (.append 61 5 1 1 (tm 20) (tm 21)),mv 4 22] []))))) (.seq (.seq (.region [oo 23 (.mov (Kc 0))] []) (.block 2 (.loop (.seq (.region [oo 24 (.bin .lss (tm 23) (Kc 8))] []) (.seq (.cond (tm 24) .skip (.exit 2)) (.seq (.block 3 (.seq (.region [mv 25 23,mv 5 25] []) (.region [mv 26 4,mv 27 3,mv 28 5,oo 29 (.bin .mul (Kc 8) (tm 28)),oo 30 (.bin .sub (Kc 56) (tm 29)),oo 31 (.bin .shr (tm 27) (tm 30)),oo 32 (.conv .u8 (tm 31)),oo 33 (.buildF 1 1 [(Ui 0)] [(0, (tm 32))]),oo 34 (.append 61 5 1 1 (tm 26) (tm 33)),mv 4 34] []))) (.region [oo 35 (.bin .add (tm 23) (Kc 1)),mv 23 35] []))))))) (.seq (.region [oo 36 (.load 73 true (tm 1)),mv 37 4,oo 38 (.prim .strB (tm 37)),oo 39 (.call 73 [(tm 36), (tm 38)]),o0 (.store 73 (tm 1) (tm 39))] []) (.seq (.region [oo 6 (.alloc [(Ui 0), (Ui 0), (Ui 0), (Ui 0), (Ui 0), (Ui 0), (Ui 0), (Ui 0), (Ui 0), (Ui 0), (Ui 0), (Ui 0), (Ui 0), (Ui 0), (Ui 0), (Ui 0), (Ui 0), (Ui 0), (Ui 0), (Ui 0), (Ui 0), (Ui 0), (Ui 0), (Ui 0), (Ui 0), (Ui 0), (Ui 0), (Ui 0), (Ui 0), (Ui 0), (Ui 0), (Ui 0)])] []) (.seq (.seq (.region [oo 40 (.mov (Kc 0))] []) (.block 4 (.loop (.seq (.region [oo 41 (.bin .lss (tm 40) (Kc 32))] []) (.seq (.cond (tm 41) .skip (.exit 4)) (.seq (.block 5 (.seq (.region [mv 42 40,mv 7 42] []) (.region [mv 43 7,mv 44 7,oo 45 (.bin .quo (tm 44) (Kc 4)),oo 46 (.offA 0 (tm 1)),oo 47 (.idxA 8 1 (tm 46) (tm 45)),oo 48 (.load 1 false (tm 47)),mv 49 7,oo 50 (.bin .rem (tm 49) (Kc 4)),oo 51 (.bin .mul (Kc 8) (tm 50)),oo 52 (.bin .sub (Kc 24) (tm 51)),oo 53 (.bin .shr (tm 48) (tm 52)),oo 54 (.conv .u8 (tm 53)),oo 55 (.idxA 32 1 (tm 6) (tm 43)),o0 (.store 1 (tm 55) (tm 54))] []))) (.region [oo 56 (.bin .add (tm 40) (Kc 1)),mv 40 56] []))))))) (.seq (.region [oo 57 (.load 32 true (tm 6)),o0 (.store 32 (tm 2) (tm 57))] []) .ret)))))))))
theorem l75 : (Tryd.f75.body.bind (lowC Tryd.prog 58 [8000021, 8000033])) = some c75 := by kernel_rfl
noncomputable def c43 : DCode := (.seq (.region [oo 4 (.alloc [(Ui 0), (Ui 0), (Ui 0), (Ui 0), (Ui 0), (Ui 0), (Ui 0), (Ui 0), (Ui 0), (Ui 0), (Ui 0), (Ui 0), (Ui 0), (Ui 0), (Ui 0), (Ui 0)])] []) (.seq (.region [oo 9 (.call 72 []),mv 10 0,oo 11 (.conv .u8 (tm 10)),oo 12 (.buildT 1 1 [(Ui 0)] [(0, (tm 11))]),oo 13 (.prim .strB (tm 12)),oo 14 (.call 73 [(tm 9), (tm 13)]),oo 5 (.alloc [(.int .u32 0), (.int .u32 0), (.int .u32 0), (.int .u32 0), (.int .u32 0), (.int .u32 0), (.int .u32 0), (.int .u32 0), (Ui 0), (Ui 0), (Ui 0), (Ui 0), (Ui 0), (Ui 0), (Ui 0), (Ui 0), (Ui 0), (Ui 0), (Ui 0), (Ui 0), (Ui 0), (Ui 0), (Ui 0), (Ui 0), (Ui 0), (Ui 0), (Ui 0), (Ui 0), (Ui 0), (Ui 0), (Ui 0), (Ui 0), (Ui 0), (Ui 0), (Ui 0), (Ui 0), (Ui 0), (Ui 0), (Ui 0), (Ui 0), (Ui 0), (Ui 0), (Ui 0), (Ui 0), (Ui 0), (Ui 0), (Ui 0), (Ui 0), (Ui 0), (Ui 0), (Ui 0), (Ui 0), (Ui 0), (Ui 0), (Ui 0), (Ui 0), (Ui 0), (Ui 0), (Ui 0), (Ui 0), (Ui 0), (Ui 0), (Ui 0), (Ui 0), (Ui 0), (Ui 0), (Ui 0), (Ui 0), (Ui 0), (Ui 0), (Ui 0), (Ui 0), (.int .u64 0)]),o0 (.store 73 (tm 5) (tm 14))] []) (.seq (.seq (.region [mv 15 1,oo 16 (.len (tm 15)),oo 17 (.mov (Kc 0))] []) (.block 0 (.loop (.seq (.region [oo 18 (.bin .lss (tm 17) (tm 16))] []) (.seq (.cond (tm 18) .skip (.exit 0)) (.seq (.block 1 (.seq (.region [oo 19 (.idxL 1 (tm 15) (tm 17)),oo 20 (.load 1 false (tm 19)),mv 7 20] []) (.region [oo 21 (.load 73 true (tm 5)),mv 22 7,oo 23 (.call 74 [(tm 22)]),oo 24 (.prim .strB (tm 23)),oo 25 (.call 73 [(tm 21), (tm 24)]),o0 (.store 73 (tm 5) (tm 25))] []))) (.region [oo 26 (.bin .add (tm 17) (Kc 1)),mv 17 26] []))))))) (.seq (.region [oo 27 (.load 73 true (tm 5)),oo 28 (.call 75 [(tm 27)]),oo 8 (.alloc [(Ui 0), (Ui 0), (Ui 0), (Ui 0), (Ui 0), (Ui 0), (Ui 0), (Ui 0), (Ui 0), (Ui 0), (Ui 0), (Ui 0), (Ui 0), (Ui 0), (Ui 0), (Ui 0), (Ui 0), (Ui 0), (Ui 0), (Ui 0), (Ui 0), (Ui 0), (Ui 0), (Ui 0), (Ui 0), (Ui 0), (Ui 0), (Ui 0), (Ui 0), (Ui 0), (Ui 0), (Ui 0)]),o0 (.store 32 (tm 8) (tm 28))] []) (.seq (.region [oo 29 (.sliceA 32 1 (tm 8) none (some (Kc 16))),oo 30 (.arrP 16 (tm 29)),oo 31 (.load 16 true (tm 30)),o0 (.store 16 (tm 4) (tm 31))] []) .ret)))))
theorem l43 : (Tryd.f43.body.bind (lowC Tryd.prog 32 [])) = some c43 := by kernel_rfl
end Go.RC
end
section
namespace Go.DL
open Go
section
variable [Glb]
def mkT (P : Program) (e : TypeId) (us : List T) : T :=
  match P.underlying e with
  | some (.struct _) | some (.array _ _) => .agg us
  | _ => us.headD .nil
inductive HasC (P : Program) : TypeId → List T → Prop
  | bool {t : TypeId} (h : P.underlying t = some .bool) (b : Bool) : HasC P t [.bool b]
  | int {t : TypeId} {k : IntKind} (h : P.underlying t = some (.int k)) (n : Int) (hw : (Lit.int k n).wf = true) : HasC P t [.int k n]
  | str {t : TypeId} (h : P.underlying t = some .string) (s : ByteArray) (hs : s.size ≤ maxLen) : HasC P t [.str s]
  | nil {t e : TypeId} (h : P.underlying t = some (.slice e)) : HasC P t [.nil]
  | slice {t e : TypeId} (h : P.underlying t = some (.slice e)) (xs : List (List T)) (hx : ∀ x ∈ xs, HasC P e x) (hl : xs.length ≤ maxLen) : HasC P t [.slice (P.cellsOf e) (xs.map (mkT P e))]
  | struct {t : TypeId} {fs : Array Field} (h : P.underlying t = some (.struct fs)) (us : List T) (hl : us.length = P.cellsOf t) (hf : ∀ f ∈ fs.toList, HasC P f.type ((us.drop f.offset).take (P.cellsOf f.type))) : HasC P t us
  | array {t e : TypeId} {n : Nat} (h : P.underlying t = some (.array n e)) (us : List T) (hl : us.length = P.cellsOf t) (hf : ∀ i, i < n → HasC P e ((us.drop (i * P.cellsOf e)).take (P.cellsOf e))) : HasC P t us
def dense (P : Program) : Nat → List Field → Nat
  | off, [] => off
  | off, f :: fs => if f.offset = off then dense P (off + P.cellsOf f.type) fs else 0
def closedB (P : Program) (L : List TypeId) : Bool := L.all fun t => match P.underlying t with
  | some .bool | some (.int _) | some .string => Nat.beq (P.cellsOf t) 1
  | some (.slice e) => Nat.beq (P.cellsOf t) 1 && L.contains e
  | some (.struct fs) => (fs.toList.all fun f => L.contains f.type) && Nat.beq (dense P 0 fs.toList) (P.cellsOf t) && Nat.ble 1 (P.cellsOf t)
  | some (.array n e) => L.contains e && Nat.beq (P.cellsOf t) (n * P.cellsOf e) && Nat.ble 1 (P.cellsOf t)
  | _ => false
end
section
theorem HasC.len {P : Program} {L : List TypeId} (hL : closedB P L = true) {t : TypeId} {us : List T} (ht : t ∈ L) (h : HasC P t us) : us.length = P.cellsOf t := by
  have := List.all_eq_true.1 hL t ht
  cases h with
  | bool h | int h | str h => rw [h] at this; simp at this; simp [this]
  | nil h | slice h => rw [h] at this; simp at this; simp [this]
  | struct h us hl hf => exact hl
  | array h us hl hf => exact hl
end
section
variable [Glb]
structure Weigh (H : Type) where
  B : DataW H → Nat
  BA : List (DataW H) → Nat
  lit : ∀ l, 1 ≤ B (.lit l)
  str : ∀ s, s.length + 1 ≤ B (.lit (.string s))
  nil : 1 ≤ B .nil
  slice : ∀ e s, BA e + 1 ≤ B (.slice e s)
  agg : ∀ p, BA p ≤ B (.agg p)
  allc : ∀ d r, B d + BA r ≤ BA (d :: r)
mutual
def T.bulk : T → Nat
  | .str s => s.size + 1
  | .slice _ xs => bulkL xs + 1
  | .agg cs => bulkL cs
  | _ => 1
def bulkL : List T → Nat
  | [] => 0
  | t :: ts => t.bulk + bulkL ts
end
end
section
theorem bulkL_append : ∀ {a b : List T}, bulkL (a ++ b) = bulkL a + bulkL b
  | [], b => by simp [bulkL]
  | x :: a, b => by simp only [List.cons_append, bulkL, bulkL_append (a := a)]; omega
theorem Weigh.sum {H : Type} (K : Weigh H) : ∀ (l : List (DataW H)), (l.map K.B).sum ≤ K.BA l
  | [] => by simp
  | d :: l => by
    have := K.sum l
    have := K.allc d l
    simp only [List.map_cons, List.sum_cons]
    omega
end
section
variable [Glb]
def Got (P : Program) (W : World) (t : TypeId) (cs : List Value) (us : List T) : Prop :=
  us.length = cs.length ∧ cs.length = P.cellsOf t ∧ (∀ u ∈ us, u.one = true) ∧ (∀ (i : Nat) (v : Value) (u : T), cs[i]? = some v → us[i]? = some u → Rep (fun b _ => b < W.heap.size) W v u) ∧ HasC P t us
end
section
theorem got_one {P : Program} {W : World} {t : TypeId} {v : Value} {u : T} (hc : P.cellsOf t = 1) (h1 : u.one = true) (hr : Rep (fun b _ => b < W.heap.size) W v u) (hh : HasC P t [u]) : Got P W t [v] [u] := by
  refine ⟨rfl, hc.symm, by simpa using h1, fun i x y hx hy => ?_, hh⟩
  cases i with
  | zero => simp at hx hy; subst hx; subst hy; exact hr
  | succ i => simp at hx
theorem mkT_cells {P : Program} {L : List TypeId} (hL : closedB P L = true) {e : TypeId} {us : List T} (he : e ∈ L) (h : HasC P e us) (h1 : ∀ u ∈ us, u.one = true) : (mkT P e us).cells = us := by
  unfold mkT
  cases h with
  | struct h us hl hf => rw [h]; rfl
  | array h us hl hf => rw [h]; rfl
  | bool h | int h | str h | nil h | slice h => rw [h]; exact T.cells_one (h1 _ (by simp))
theorem mkT_bulk {P : Program} {e : TypeId} {us : List T} (h : HasC P e us) : (mkT P e us).bulk = bulkL us := by
  unfold mkT
  cases h with
  | struct h us hl hf => rw [h]; rfl
  | array h us hl hf => rw [h]; rfl
  | bool h | int h | str h | nil h | slice h => rw [h]; simp [bulkL]
theorem bulk_rows {P : Program} {e : TypeId} {f : Nat → List T} : ∀ {n k : Nat} {bs : List Nat}, bs.length = n → (∀ i, i < n → HasC P e (f (k + i)) ∧ bulkL (f (k + i)) ≤ bs.getD i 0) → bulkL (((List.range' k n).map f).map (mkT P e)) ≤ bs.sum
  | 0, k, bs, hl, h => by simp [bulkL]
  | n + 1, k, b :: bs, hl, h => by
    rw [List.range'_succ, List.map_cons, List.map_cons]
    have h0 := h 0 (by omega)
    have ih := bulk_rows (P := P) (e := e) (f := f) (n := n) (k := k + 1) (bs := bs) (by simpa using hl) fun i hi => by
      have := h (i + 1) (by omega)
      have e : k + 1 + i = k + (i + 1) := by omega
      rw [e]
      simpa using this
    simp only [bulkL, List.sum_cons]
    rw [mkT_bulk (by simpa using h0.1)]
    have := h0.2
    simp at this
    omega
theorem cells?_get {w : World} {base : Nat} {a : Addr} {n : Nat} {cs : List Value} (h : w.cells? base a n = some cs) : cs.length = n ∧ ∀ j, j < n → w.cell? (a.add j) = cs[j]? := by
  unfold World.cells? at h
  split at h
  · exact ⟨by simpa using mapM_some_length h, fun j hj => mapM_some_get h j j (by simp [hj])⟩
  · cases h
theorem rows_rep {P : Program} {W : World} {L : List TypeId} (hL : closedB P L = true) {e : TypeId} (he : e ∈ L) {base : Nat} {a : Addr} {len cap : Nat} (hlc : len ≤ cap)
    {bs : List Nat} (hbs : bs.length = len) (hc : ∀ i, i < len → ∃ cs us, W.cells? base (a.add (i * P.cellsOf e)) (P.cellsOf e) = some cs ∧ Got P W e cs us ∧ bulkL us ≤ bs.getD i 0) :
    ∃ xs : List (List T), xs.length = len ∧ (∀ x ∈ xs, HasC P e x) ∧ bulkL (xs.map (mkT P e)) ≤ bs.sum ∧ Rep (fun b _ => b < W.heap.size) W (.slice (some a) len cap) (.slice (P.cellsOf e) (xs.map (mkT P e))) := by
  have h0 : ∀ i, ∃ us, i < len → ∃ cs, W.cells? base (a.add (i * P.cellsOf e)) (P.cellsOf e) = some cs ∧ Got P W e cs us ∧ bulkL us ≤ bs.getD i 0 := fun i => by
    by_cases h : i < len
    · obtain ⟨cs, us, h1, h2⟩ := hc i h
      exact ⟨us, fun _ => ⟨cs, h1, h2⟩⟩
    · exact ⟨[], fun h' => absurd h' h⟩
  obtain ⟨f, hf⟩ := Classical.axiomOfChoice h0
  have hcl : ∀ i, i < len → (mkT P e (f i)).cells = f i ∧ (f i).length = P.cellsOf e := fun i hi => by
    obtain ⟨cs, h1, ⟨h2, h3, h4, h5, h6⟩, hb⟩ := hf i hi
    exact ⟨mkT_cells hL he h6 h4, h2.trans h3⟩
  have hu : ∀ x ∈ ((List.range len).map f).map (mkT P e), x.cells.length = P.cellsOf e := fun x hx => by
    simp only [List.mem_map, List.mem_range] at hx
    obtain ⟨us, ⟨i, hi, rfl⟩, rfl⟩ := hx
    rw [(hcl i hi).1, (hcl i hi).2]
  have hlen : ((((List.range len).map f).map (mkT P e)).flatMap T.cells).length = len * P.cellsOf e := by rw [flat_len hu]; simp
  have hget : ∀ i j, i < len → j < P.cellsOf e → ((((List.range len).map f).map (mkT P e)).flatMap T.cells)[i * P.cellsOf e + j]? = (f i)[j]? := fun i j hi hj => by
    rw [flat_get hu i (mkT P e (f i)) (by simp [hi]) j hj, (hcl i hi).1]
  have hcell : ∀ k, k < len * P.cellsOf e → ∃ i j, i < len ∧ j < P.cellsOf e ∧ k = i * P.cellsOf e + j := fun k hk => by
    have hp : 0 < P.cellsOf e := Nat.pos_of_ne_zero fun h => by rw [h] at hk; simp at hk
    exact ⟨k / P.cellsOf e, k % P.cellsOf e, Nat.div_lt_of_lt_mul (by rwa [Nat.mul_comm]), Nat.mod_lt _ hp, by rw [Nat.mul_comm]; exact (Nat.div_add_mod k _).symm⟩
  refine ⟨(List.range len).map f, by simp, fun x hx => ?_, ?_, ?_⟩
  · simp only [List.mem_map, List.mem_range] at hx
    obtain ⟨i, hi, rfl⟩ := hx
    obtain ⟨cs, h1, ⟨h2, h3, h4, h5, h6⟩, hb⟩ := hf i hi
    exact h6
  · rw [List.range_eq_range']
    refine bulk_rows hbs fun i hi => ?_
    obtain ⟨cs, h1, ⟨h2, h3, h4, h5, h6⟩, hb⟩ := hf i hi
    rw [Nat.zero_add]
    exact ⟨h6, hb⟩
  have hval : ∀ i j, i < len → j < P.cellsOf e → ∃ v, W.cell? ⟨a.block, a.off + (i * P.cellsOf e + j), none⟩ = some v ∧ (a.spot = none) ∧ ∃ u, (f i)[j]? = some u ∧ u.one = true ∧ Rep (fun b _ => b < W.heap.size) W v u := fun i j hi hj => by
    obtain ⟨cs, h1, ⟨h2, h3, h4, h5, h6⟩, hb⟩ := hf i hi
    obtain ⟨e1, e2⟩ := cells?_get h1
    have hj' : j < cs.length := by omega
    have hju : j < (f i).length := by omega
    have e3 := e2 j hj
    rw [List.getElem?_eq_getElem hj'] at e3
    have sp := World.cell?_spot e3
    have spa : a.spot = none := by
      have h00 := e2 0 (by omega)
      have := hf 0 (by omega)
      obtain ⟨cs0, g1, ⟨g2, g3, _, _, _⟩, _⟩ := this
      obtain ⟨_, q2⟩ := cells?_get g1
      have q3 := q2 0 (by omega)
      rw [List.getElem?_eq_getElem (by omega)] at q3
      simpa [Addr.add] using World.cell?_spot q3
    have ea : ((a.add (i * P.cellsOf e)).add j) = ⟨a.block, a.off + (i * P.cellsOf e + j), none⟩ := by
      obtain ⟨b, o, sp⟩ := a
      dsimp only at spa
      subst spa
      unfold Addr.add
      split <;> split <;> simp_all <;> omega
    rw [ea] at e3
    exact ⟨_, e3, spa, (f i)[j], by simp [hju], h4 _ (List.getElem_mem hju), h5 j _ _ (List.getElem?_eq_getElem hj') (List.getElem?_eq_getElem hju)⟩
  refine .slice (some a) a.block a.off len cap (P.cellsOf e) _ (fun k => (W.cell? ⟨a.block, a.off + k, none⟩).getD (.bool false)) (by simp) hlc hu (fun t ht => ?_) (fun h => ?_) (fun k hk => ?_) fun k t ht => ?_
  · obtain ⟨k, hk⟩ := List.mem_iff_getElem?.1 ht
    obtain ⟨i, j, hi, hj, rfl⟩ := hcell k (by rw [← hlen]; exact (List.getElem?_eq_some_iff.1 hk).1)
    rw [hget i j hi hj] at hk
    obtain ⟨v, _, _, u, hu, h1, _⟩ := hval i j hi hj
    rw [hu] at hk
    cases hk
    exact h1
  · rw [hlen] at h
    obtain ⟨i, j, hi, hj, _⟩ := hcell 0 h
    obtain ⟨v, _, sp, _⟩ := hval i j hi hj
    obtain ⟨b, o, s⟩ := a
    dsimp only at sp
    rw [sp]
  · rw [hlen] at hk
    obtain ⟨i, j, hi, hj, rfl⟩ := hcell k hk
    obtain ⟨v, hv, _⟩ := hval i j hi hj
    refine ⟨by rw [hv]; rfl, ?_⟩
    exact World.block_lt_of_cell? W ⟨a.block, a.off + (i * P.cellsOf e + j), none⟩ hv
  · obtain ⟨i, j, hi, hj, rfl⟩ := hcell k (by rw [← hlen]; exact (List.getElem?_eq_some_iff.1 ht).1)
    rw [hget i j hi hj] at ht
    obtain ⟨v, hv, _, u, hu, _, hr⟩ := hval i j hi hj
    rw [hu] at ht
    cases ht
    rw [hv]
    exact hr
end
section
variable [Glb]
def GotF (P : Program) (W : World) (cs : List Value) (fs : List Field) (off : Nat) (us : List T) : Prop :=
  off + us.length = cs.length ∧ (∀ u ∈ us, u.one = true) ∧ (∀ (i : Nat) (v : Value) (u : T), cs[off + i]? = some v → us[i]? = some u → Rep (fun b _ => b < W.heap.size) W v u) ∧
    ∀ f ∈ fs, off ≤ f.offset ∧ HasC P f.type ((us.drop (f.offset - off)).take (P.cellsOf f.type))
end
section
theorem dense_le {P : Program} : ∀ {fs : List Field} {off n : Nat}, dense P off fs = n → 1 ≤ n → off ≤ n
  | [], off, n, h, _ => by simp [dense] at h; omega
  | f :: fs, off, n, h, h1 => by
    unfold dense at h
    split at h
    · have := dense_le h h1; omega
    · omega
theorem fields_got {P : Program} {W : World} {cs : List Value} : ∀ {fs : List Field} {off : Nat} {bs : List Nat}, bs.length = fs.length → dense P off fs = cs.length → 1 ≤ cs.length →
    (∀ (i : Nat) (f : Field), fs[i]? = some f → ∃ us, Got P W f.type ((cs.drop f.offset).take (P.cellsOf f.type)) us ∧ bulkL us ≤ bs.getD i 0) → ∃ us, GotF P W cs fs off us ∧ bulkL us ≤ bs.sum
  | [], off, bs, hbs, h, h1, hg => by
    simp only [dense] at h
    exact ⟨[], ⟨by simpa using h, by simp, by simp, by simp⟩, by simp [bulkL]⟩
  | f :: fs, off, b :: bs, hbs, h, h1, hg => by
    unfold dense at h
    split at h
    · rename_i ho
      obtain ⟨us, ⟨g1, g2, g3, g4, g5⟩, gb⟩ := hg 0 f rfl
      obtain ⟨vs, ⟨k1, k2, k3, k4⟩, kb⟩ := fields_got (bs := bs) (by simpa using hbs) h h1 fun i g hgm => by simpa using hg (i + 1) g (by simpa using hgm)
      have hle := dense_le h h1
      have hl : us.length = P.cellsOf f.type := by rw [g1]; exact g2
      refine ⟨us ++ vs, ⟨by simp; omega, fun u hu => (List.mem_append.1 hu).elim (g3 u) (k2 u), fun i v u hv hu => ?_, fun g hgm => ?_⟩, by
        rw [bulkL_append, List.sum_cons]
        simp at gb
        omega⟩
      · rcases Nat.lt_or_ge i us.length with hi | hi
        · rw [List.getElem?_append_left hi] at hu
          refine g4 i v u ?_ hu
          rw [List.getElem?_take_of_lt (by omega), List.getElem?_drop, ho]
          exact hv
        · rw [List.getElem?_append_right hi] at hu
          refine k3 (i - us.length) v u ?_ hu
          rw [← hl]
          have : off + us.length + (i - us.length) = off + i := by omega
          rw [this]
          exact hv
      · rcases List.mem_cons.1 hgm with rfl | hm
        · refine ⟨by omega, ?_⟩
          rw [ho, Nat.sub_self, List.drop_zero, ← hl, List.take_left']
          · exact g5
          · rfl
        · obtain ⟨q1, q2⟩ := k4 g hm
          refine ⟨by omega, ?_⟩
          have e : (us ++ vs).drop (g.offset - off) = vs.drop (g.offset - (off + P.cellsOf f.type)) := by
            rw [List.drop_append, List.drop_eq_nil_of_le (by omega), List.nil_append]
            congr 1
            omega
          rw [e]
          exact q2
    · omega
theorem dense_rows {P : Program} {e : TypeId} : ∀ (m k : Nat), dense P (k * P.cellsOf e) ((List.range' k m).map fun i => { name := "", type := e, offset := i * P.cellsOf e, embedded := false, tag := "", pkgPath := "", byteOffset := 0 }) = (k + m) * P.cellsOf e
  | 0, k => rfl
  | m + 1, k => by
    rw [List.range'_succ, List.map_cons]
    unfold dense
    rw [if_pos rfl]
    have := dense_rows (P := P) (e := e) m (k + 1)
    dsimp only at this ⊢
    rw [Nat.succ_mul] at this
    rw [this]
    congr 1
    omega
theorem read_cells {P : Program} {W : World} {H : Type} (K : Weigh H) {enc : TypeId × Value → H} {base : Nat} {spare : Nat → Bool} {held : Bool} {L : List TypeId} (hL : closedB P L = true) :
    ∀ (fuel : Nat) (t : TypeId) (cs : List Value) (x : DataW H × List MemPlace), t ∈ L → DataW.trod enc P W base spare held fuel t cs = some x → ∃ us, Got P W t cs us ∧ bulkL us ≤ K.B x.1
  | 0, t, cs, x, ht, h => by simp [DataW.trod] at h
  | fuel + 1, t, cs, x, ht, h => by
    have ih := read_cells (P := P) (W := W) K (enc := enc) (base := base) (spare := spare) (held := held) hL fuel
    have hc := List.all_eq_true.1 hL t ht
    unfold DataW.trod at h
    cases hu : P.underlying t with
    | none => rw [hu] at hc; cases hc
    | some d =>
      rw [hu] at hc h
      cases d <;> try (simp at hc; done)
      case bool =>
        have hc : P.cellsOf t = 1 := by simpa using hc
        split at h <;> try (simp_all; done)
        rename_i b _
        cases h
        exact ⟨[.bool b], got_one hc rfl (.bool b) (.bool hu b), by have := K.lit (.bool b); simpa [bulkL, T.bulk] using this⟩
      case int k =>
        have hc1 : P.cellsOf t = 1 := by simpa using hc
        clear hc
        split at h <;> try (simp_all; done)
        rename_i k1 k2 n he
        cases he
        split at h
        · rename_i hk
          obtain ⟨rfl, hw⟩ := hk
          cases h
          exact ⟨[.int _ n], got_one hc1 rfl (.int _ n) (.int hu n hw), by have := K.lit (.int k2 n); simpa [bulkL, T.bulk] using this⟩
        · cases h
      case string =>
        have hc : P.cellsOf t = 1 := by simpa using hc
        split at h <;> try (simp_all; done)
        rename_i s _
        split at h
        · rename_i hk
          cases h
          exact ⟨[.str s], got_one hc rfl (.str s) (.str hu s hk), by have := K.str s.data.toList; simpa [bulkL, T.bulk] using this⟩
        · cases h
      case slice e =>
        simp only [Bool.and_eq_true, List.contains_iff_mem] at hc
        have hc1 : P.cellsOf t = 1 := by simpa using hc.1
        have he := hc.2
        clear hc
        split at h <;> try (simp_all; done)
        · cases h
          exact ⟨[.nil], got_one hc1 rfl .nil (.nil hu), by have := K.nil; simpa [bulkL, T.bulk] using this⟩
        · rename_i e1 a len cap h1
          cases h1
          dsimp only at h
          split at h
          · rename_i hb
            obtain ⟨elems, h2, hrest⟩ := Option.bind_eq_some_iff.1 h
            obtain ⟨rest, _, hx⟩ := Option.map_eq_some_iff.1 hrest
            have h3 : elems.length = len := by simpa using mapM_some_length h2
            obtain ⟨xs, x1, x2, xb, x3⟩ := rows_rep (W := W) hL he (base := base) (a := a) hb.2.1 (bs := (elems.map (·.1)).map K.B) (by simpa using h3) fun i hi => by
              have h4 := mapM_some_get h2 i i (by simp [hi])
              rw [List.getElem?_eq_getElem (by omega)] at h4
              obtain ⟨cs, h5, h6⟩ := Option.bind_eq_some_iff.1 h4
              obtain ⟨us, h7, h8⟩ := ih e cs _ he h6
              exact ⟨cs, us, h5, h7, by simp [List.getElem?_eq_getElem (show i < elems.length by omega)]; exact h8⟩
            refine ⟨_, got_one hc1 rfl x3 (.slice hu xs x2 (by omega)), ?_⟩
            have q1 := K.sum (elems.map (·.1))
            have q2 := K.slice (elems.map (·.1)) (rest.map (·.1))
            cases hx
            simp only [bulkL, T.bulk]
            omega
          · cases h
      case struct fs =>
        simp only [Bool.and_eq_true, List.contains_iff_mem, List.all_eq_true] at hc
        have hd : dense P 0 fs.toList = P.cellsOf t := by simpa using hc.1.2
        have hp : 1 ≤ P.cellsOf t := by simpa using hc.2
        have hm := hc.1.1
        clear hc
        split at h <;> try (simp_all; done)
        rename_i fs' h1
        cases h1
        split at h
        · rename_i hl
          obtain ⟨ys, h2, hx⟩ := Option.map_eq_some_iff.1 h
          obtain ⟨us, ⟨q1, q2, q3, q4⟩, qb⟩ := fields_got (P := P) (W := W) (fs := fs.toList) (off := 0) (bs := (ys.map (·.1)).map K.B) (by simpa using mapM_some_length h2) (by rw [hd]; exact hl.symm) (by omega) fun i f hi => by
            have h3 := mapM_some_get h2 i f hi
            have h4 : i < ys.length := by rw [mapM_some_length h2]; exact (List.getElem?_eq_some_iff.1 hi).1
            rw [List.getElem?_eq_getElem h4] at h3
            obtain ⟨us, u1, u2⟩ := ih f.type _ _ (hm f (List.mem_of_getElem? hi)) h3
            exact ⟨us, u1, by simp [List.getElem?_eq_getElem h4]; exact u2⟩
          refine ⟨us, ⟨by omega, hl, q2, fun i => by simpa using q3 i, .struct hu us (by omega) fun f hf => by simpa using (q4 f hf).2⟩, ?_⟩
          have z1 := K.sum (ys.map (·.1))
          have z2 := K.agg (ys.map (·.1))
          cases hx
          dsimp only
          omega
        · cases h
      case array n e =>
        simp only [Bool.and_eq_true, List.contains_iff_mem] at hc
        have hd : P.cellsOf t = n * P.cellsOf e := by simpa using hc.1.2
        have hnz : 1 ≤ P.cellsOf t := by simpa using hc.2
        have he := hc.1.1
        clear hc
        split at h <;> try (simp_all; done)
        rename_i c0 n' e' h1
        cases h1
        rename_i c1 _
        split at h
        · rename_i hl
          obtain ⟨ys, h2, hx⟩ := Option.map_eq_some_iff.1 h
          have hg : ∀ i, i < n → ∃ us, Got P W e ((c1.drop (i * P.cellsOf e)).take (P.cellsOf e)) us ∧ bulkL us ≤ ((ys.map (·.1)).map K.B).getD i 0 := fun i hi => by
            have h3 := mapM_some_get h2 i i (by simp [hi])
            have h4 : i < ys.length := by rw [mapM_some_length h2]; simpa using hi
            rw [List.getElem?_eq_getElem h4] at h3
            obtain ⟨us, u1, u2⟩ := ih e _ _ he h3
            exact ⟨us, u1, by simp [List.getElem?_eq_getElem h4]; exact u2⟩
          have hdr := dense_rows (P := P) (e := e) n 0
          rw [Nat.zero_mul, Nat.zero_add, ← List.range_eq_range'] at hdr
          rcases Nat.eq_zero_or_pos (n * P.cellsOf e) with h0 | h0
          · have hz : P.cellsOf t = 0 := by omega
            simp [hz] at hnz
          · obtain ⟨us, ⟨q1, q2, q3, q4⟩, qb⟩ := fields_got (P := P) (W := W) (cs := c1) (fs := (List.range n).map fun i => { name := "", type := e, offset := i * P.cellsOf e, embedded := false, tag := "", pkgPath := "", byteOffset := 0 }) (off := 0) (bs := (ys.map (·.1)).map K.B) (by simpa using mapM_some_length h2) (by rw [hdr]; omega) (by omega) fun i f hf => by
              rw [List.getElem?_map] at hf
              obtain ⟨j, hj, rfl⟩ := Option.map_eq_some_iff.1 hf
              obtain ⟨hi, rfl⟩ := List.getElem?_eq_some_iff.1 hj
              have := hg i (by simpa using hi)
              simpa using this
            refine ⟨us, ⟨by omega, hl, q2, fun i => by simpa using q3 i, .array hu us (by omega) fun i hi => by simpa using (q4 _ (List.mem_map.2 ⟨i, List.mem_range.2 hi, rfl⟩)).2⟩, ?_⟩
            have z1 := K.sum (ys.map (·.1))
            have z2 := K.agg (ys.map (·.1))
            cases hx
            dsimp only
            omega
        · cases h
end
section
variable [Glb]
end
end Go.DL
end
section
namespace Go.DL
open Go Go.ChangeShapes Go.WideShapes Go.ChangeAt Go.RowKit
section
variable [Glb]
end
section
theorem arg_rep {P : Program} {W : World} {H : Type} (K : Weigh H) {enc : TypeId × Value → H} {base : Nat} {spare : Nat → Bool} {held : Bool} {L : List TypeId} (hL : closedB P L = true) {r : Reach} {base' : Nat}
    {t : TypeId} {v : Value} {d : DataW H} {p : List MemPlace} (ht : t ∈ L) (hok : Value.okWide P W r base' t v) (h : DataW.Trod enc P W base spare held t v d p) :
    ∃ us, HasC P t us ∧ bulkL us ≤ K.B d ∧ Rep (fun b _ => b < W.heap.size) W v (mkT P t us) := by
  obtain ⟨fuel, hf⟩ := h
  obtain ⟨us, ⟨g1, g2, g3, g4, g5⟩, gb⟩ := read_cells K hL fuel t _ _ ht hf
  refine ⟨us, g5, gb, ?_⟩
  have hc := List.all_eq_true.1 hL t ht
  unfold mkT
  unfold Value.okWide at hok
  cases hu : P.underlying t with
  | none => rw [hu] at hc; cases hc
  | some d =>
    rw [hu] at hc hok
    have one : v.cells = #[v] → Rep (fun b _ => b < W.heap.size) W v (us.headD .nil) := fun hv => by
      rw [hv] at g1 g4
      have h1 : us.length = 1 := g1
      match us, h1 with
      | [u], _ => exact g4 0 v u rfl rfl
    have agg : (∃ cs, v = .agg cs ∧ cs.size = P.cellsOf t ∧ Row.okWide P W r base' t cs) → Rep (fun b _ => b < W.heap.size) W v (.agg us) := fun ⟨cs, hv, _, _⟩ => by
      subst hv
      have e : (Value.agg cs).cells.toList = cs.toList := rfl
      rw [e] at g1 g4
      exact .agg cs us (by simpa using g1.symm) g3 fun i x u hx hu => g4 i x u (by simpa using hx) hu
    cases d <;> try (simp at hc; done)
    case bool => exact one (by unfold Cell.okWide Cell.ok at hok; rw [hu] at hok; cases v <;> first | rfl | cases hok)
    case int k => exact one (by unfold Cell.okWide Cell.ok at hok; rw [hu] at hok; cases v <;> first | rfl | cases hok)
    case string => exact one (by unfold Cell.okWide Cell.ok at hok; rw [hu] at hok; cases v <;> first | rfl | cases hok)
    case slice e => exact one (by unfold Cell.okWide Cell.ok at hok; rw [hu] at hok; cases v <;> first | rfl | cases hok)
    case struct fs => exact agg hok
    case array n e => exact agg hok
end
section
variable [Glb]
def HasAll (P : Program) : List TypeId → List (List T) → Prop
  | [], [] => True
  | t :: ts, us :: uss => HasC P t us ∧ HasAll P ts uss
  | _, _ => False
def mkAll (P : Program) : List TypeId → List (List T) → List T
  | t :: ts, us :: uss => mkT P t us :: mkAll P ts uss
  | _, _ => []
def bulkA : List (List T) → Nat
  | [] => 0
  | us :: uss => bulkL us + bulkA uss
end
section
theorem args_rep {P : Program} {W : World} {H : Type} (K : Weigh H) {enc : TypeId × Value → H} {spare : Nat → Bool} {held : Bool} {L : List TypeId} (hL : closedB P L = true) {base base' : Nat} {r : Reach} :
    ∀ {ts : List TypeId} {vs : List Value} {ds : List (DataW H)} {p : List MemPlace}, (∀ t ∈ ts, t ∈ L) → (∀ (j : Nat) t v, ts[j]? = some t → vs[j]? = some v → Value.okWide P W r base' t v) →
      DataW.TrodAll enc P W base spare held ts vs ds p → ∃ uss, HasAll P ts uss ∧ bulkA uss ≤ K.BA ds ∧ vs.length = (mkAll P ts uss).length ∧
        ∀ (i : Nat) (v : Value) (t : T), vs[i]? = some v → (mkAll P ts uss)[i]? = some t → Rep (fun b _ => b < W.heap.size) W v t
  | [], vs, ds, p, _, _, h => by
    obtain ⟨rfl, rfl, rfl⟩ := trodAll_nil h
    exact ⟨[], trivial, by simp [bulkA], rfl, by simp⟩
  | t :: ts, vs, ds, p, hm, hok, h => by
    obtain ⟨v, vs', d, ds', q, q', rfl, rfl, rfl, h1, h2⟩ := trodAll_cons h
    obtain ⟨us, a1, ab, a2⟩ := arg_rep K hL (hm t (by simp)) (hok 0 t v rfl rfl) h1
    obtain ⟨uss, b1, bb, b2, b3⟩ := args_rep K hL (fun x hx => hm x (by simp [hx])) (fun j t v ht hv => hok (j + 1) t v (by simpa using ht) (by simpa using hv)) h2
    refine ⟨us :: uss, ⟨a1, b1⟩, by have := K.allc d ds'; simp only [bulkA]; omega, by simp [mkAll, b2], fun i x u hx hu => ?_⟩
    cases i with
    | zero => simp [mkAll] at hx hu; subst hx; subst hu; exact a2
    | succ i => exact b3 i x u (by simpa using hx) (by simpa [mkAll] using hu)
theorem trodAll_below {P : Program} {W W' : World} {H : Type} {enc : TypeId × Value → H} (hl : laidOutB P = true) (hb : Below W.heap.size W W') :
    ∀ {ts : List TypeId} {vs : List Value} {ds : List (DataW H)} {p : List MemPlace}, ts.all (fun t => P.readableRec t && Nat.blt t P.types.size) = true → DataW.TrodAll enc P W 0 (fun _ => true) true ts vs ds p →
      DataW.TrodAll enc P W' 0 (fun b => decide (b < W.heap.size)) true ts vs ds p
  | [], vs, ds, p, _, h => by
    obtain ⟨rfl, rfl, rfl⟩ := trodAll_nil h
    exact trodAll_mk0
  | t :: ts, vs, ds, p, hr, h => by
    simp only [List.all_cons, Bool.and_eq_true] at hr
    obtain ⟨v, vs', d, ds', q, q', rfl, rfl, rfl, h1, h2⟩ := trodAll_cons h
    have lt : ∀ x ∈ q, x.block < W.heap.size := by obtain ⟨m, hm⟩ := h1; exact DataW.trod_lt m _ _ _ hm
    exact trodAll_cons_mk (Go.RowKit.Below.trod hl hr.1.1 (Nat.le_of_ble_eq_true hr.1.2) h1 hb.toBelow lt) (trodAll_below hl hb hr.2 h2)
theorem trodAll_len {P : Program} {W : World} {H : Type} {enc : TypeId × Value → H} {base : Nat} {spare : Nat → Bool} {held : Bool} :
    ∀ {ts : List TypeId} {vs : List Value} {ds : List (DataW H)} {p : List MemPlace}, DataW.TrodAll enc P W base spare held ts vs ds p → ds.length = ts.length
  | [], vs, ds, p, h => by
    obtain ⟨rfl, rfl, rfl⟩ := trodAll_nil h
    rfl
  | t :: ts, vs, ds, p, h => by
    obtain ⟨v, vs', d, ds', q, q', rfl, rfl, rfl, h1, h2⟩ := trodAll_cons h
    simp [trodAll_len h2]
end
section
variable [Glb]
structure LawFits (C : Checked) (f : Func) (s : ChangeSpec) (L : List TypeId) (tb : TypeId) : Prop where
  laid : laidOutB C.prog = true
  closed : closedB C.prog L = true
  params : f.params.toList.all (fun t => L.contains t) = true
  readable : f.params.toList.all (fun t => C.prog.readableRec t && Nat.blt t C.prog.types.size) = true
  res : f.resultTypes.toList = [tb]
  bool : C.prog.underlying tb = some .bool
  vars : s.vars = []
  fn : ∀ (H : Type) (ds : List (DataW H)), ds.length = f.params.toList.length → s.fn H (ds ++ []) = { results := [.lit (.bool true)], args := ds }
theorem contract_of {C : Checked} {F : FuncId} {f : Func} {H : Type} {enc : TypeId × Value → H} {s : ChangeSpec} {L : List TypeId} {tb : TypeId} (fit : LawFits C f s L tb) (K : Weigh H) {N : Nat}
    (law : ∀ uss, HasAll C.prog f.params.toList uss → bulkA uss ≤ N → DCalls C.prog F (mkAll C.prog f.params.toList uss) (.bool true))
    {W : World} {base : Nat} {args : Array Value} {ds gs : List (DataW H)} {before : List MemPlace}
    (hval : ∀ (j : Nat) t v, f.params[j]? = some t → args[j]? = some v → Value.okWide C.prog W .any base t v)
    (hW : DataW.Whole enc C.prog f.params.toList s.vars false W args.toList ds gs before) (hN : K.BA ds ≤ N) (hG : GlobOk (fun b _ => b < W.heap.size) W) :
    Calls C.prog F args W fun e W' => ∃ v, e = .returned v ∧ s.post enc C.prog f false true false false W args v W' := by
  have hW' := hW
  obtain ⟨p, q, hA, hV, rfl, hfz, hnd⟩ := hW
  rw [fit.vars] at hV
  obtain ⟨rfl, rfl⟩ := trodVars_none hV
  obtain ⟨uss, u1, ub, u2, u3⟩ := args_rep K fit.closed (fun t ht => by simpa using List.all_eq_true.1 fit.params t ht) (fun j t v ht hx => hval j t v (by simpa using ht) (by simpa using hx)) hA
  have hc := (law uss u1 (Nat.le_trans ub hN)).2 (fun b _ => b < W.heap.size) W args.toList (fun b o h => h) hG u2 u3
  have hs' := fit.fn H ds (trodAll_len hA)
  have e : args.toList.toArray = args := by simp
  rw [e] at hc
  refine hc.mono fun ex W' ⟨v, he, bel, hrep⟩ => ?_
  subst he
  have hv1 : v = .bool true := by cases hrep; rfl
  subst hv1
  refine ⟨_, rfl, _, _, _, [], p, [], hW', ?_, ?_, ?_, bel.frame _, fun h => by cases h⟩
  · have h1 : f.resultTypes.size = 1 := by rw [← Array.length_toList, fit.res]; rfl
    rw [fit.res, hs', h1]
    exact trodAll_mk1 (shut_bool fit.bool _)
  · rw [hs']; exact trodAll_below fit.laid bel fit.readable hA
  · rw [fit.vars, hs']; exact rfl
theorem law_laid {C : Checked} {os : Os} {F : FuncId} {f : Func} {H : Type} {enc : TypeId × Value → H} {s : ChangeSpec} {S : OpenSpec} {k : (H : Type) → List (DataW H) → Bool} {conds : List PathCond} {laid : List (String × DataW Unit)} {L : List TypeId} {tb : TypeId} (fit : LawFits C f s L tb) (K : Weigh H) {N : Nat}
    (hS : S = { OpenSpec.ofChange s with cond := some k }) (hk : ∀ ds, k H ds = true → K.BA ds ≤ N) {I : Stop.Interp}
    (own : ownKnob C.prog.godebug = none) (started : os.Started) (noInit : C.prog.inits.idxOf? F = none) (hfn : C.prog.funcs[F]? = some f)
    (witness : ∃ (w : World) (tape : Tape) (i : Input), w.os = os ∧ (w.forCall tape i).Shaped C.prog ∧ i.vars = [] ∧ Input.okWide C.prog (w.forCall tape i) .any w.heap.size F i ∧
      S.preRow enc C.prog f conds false laid (w.forCall tape i).memory i.args ∧ (({} : Assume)).holds C.prog (lone (Frame.enter C.prog F i.args .normal) [] (w.forCall tape i)))
    (hG : ∀ W, laidMetH C.prog laid W → GlobOk (fun b _ => b < W.heap.size) W)
    (law : ∀ uss, HasAll C.prog f.params.toList uss → bulkA uss ≤ N → DCalls C.prog F (mkAll C.prog f.params.toList uss) (.bool true)) :
    ReturnsInHanded {} C os F .any (S.preRow enc C.prog f conds false laid) ((S.at I).post enc C.prog f false true false false) := by
  subst hS
  refine returnsInHanded_of_row (s := { OpenSpec.ofChange s with cond := some k }) own started noInit hfn witness ?_
  intro W base args ds gs before hval hW _ hkk _ hL _ _
  have hkk := hkk k rfl
  have hg : gs = [] := by
    obtain ⟨p, q, hA, hV, _, _, _⟩ := hW
    have hv : ({ OpenSpec.ofChange s with cond := some k } : OpenSpec).vars = [] := fit.vars
    rw [hv] at hV
    exact (trodVars_none hV).1
  subst hg
  rw [List.append_nil] at hkk
  exact contract_of fit K law hval hW (hk ds hkk) (hG W hL)
def tabT (k : IntKind) (zs : List Int) : List T := zs.map (.int k)
theorem globOk_of {W : World} (h : ∀ g cs, Glb.gs g = some cs → ∃ k zs, cs = tabT k zs ∧ 0 < zs.length ∧ ∀ i, i < zs.length → W.cell? ⟨g, i, none⟩ = some (.int k (zs.getD i 0))) : GlobOk (fun b _ => b < W.heap.size) W := fun g cs hg => by
  obtain ⟨k, zs, rfl, hp, hc⟩ := h g cs hg
  have lt : g < W.heap.size := by
    have := hc 0 hp
    unfold World.cell? at this
    rcases Nat.lt_or_ge g W.heap.size with h | h
    · exact h
    · simp [Array.getElem?_eq_none h] at this
  refine ⟨lt, fun i => .int k (zs.getD i 0), fun i t ht => ?_⟩
  unfold tabT at ht
  rw [List.getElem?_map, Option.map_eq_some_iff] at ht
  obtain ⟨z, hz, rfl⟩ := ht
  have hi := (List.getElem?_eq_some_iff.1 hz).1
  have e : zs.getD i 0 = z := by simp [List.getD, hz]
  exact ⟨hc i hi, lt, rfl, rfl, by show Rep _ _ (.int k (zs.getD i 0)) _; rw [e]; exact .int k z⟩
end
end Go.DL
end
section
namespace Go.DL
open Go
section
variable [Glb]
end
section
theorem nT_ {t : T} {K : T → Prop} (hk : K t) : ∀ t', t = t' → K t' := fun _ e => e ▸ hk
theorem nv_ {t : T} {K : T → Prop} (t0 : T) (h : t = t0) (hk : K t0) : ∀ t', t = t' → K t' := fun _ e => by rw [← e, h]; exact hk
theorem nb_ {b : Bool} {K : Bool → Prop} (b0 : Bool) (h : b = b0) (hk : K b0) : ∀ b', b = b' → K b' := fun _ e => by rw [← e, h]; exact hk
theorem nD_ {p : Prop} [Decidable p] {K : Bool → Prop} (h1 : p → K true) (h0 : ¬ p → K false) : ∀ b', decide p = b' → K b' := fun b' e => match b', e with | true, e => h1 (of_decide_eq_true e) | false, e => h0 (of_decide_eq_false e)
theorem now_D1 {p : Prop} [Decidable p] {K : Bool → Prop} (h : p) (hk : K true) : ∀ b', decide p = b' → K b' := fun b' e => by rw [← e, decide_eq_true h]; exact hk
theorem now_D0 {p : Prop} [Decidable p] {K : Bool → Prop} (h : ¬ p) (hk : K false) : ∀ b', decide p = b' → K b' := fun b' e => by rw [← e, decide_eq_false h]; exact hk
theorem nE_ {x y : Int} {K : Bool → Prop} (h1 : x = y → K true) (h0 : x ≠ y → K false) : ∀ b', (x == y) = b' → K b' := fun b' e => match b', e with | true, e => h1 (eq_of_beq e) | false, e => h0 (by simpa using e)
theorem now_E1 {x y : Int} {K : Bool → Prop} (h : x = y) (hk : K true) : ∀ b', (x == y) = b' → K b' := fun b' e => by rw [← e, h, beq_self_eq_true]; exact hk
theorem now_E0 {x y : Int} {K : Bool → Prop} (h : x ≠ y) (hk : K false) : ∀ b', (x == y) = b' → K b' := fun b' e => by rw [← e, beq_false_of_ne h]; exact hk
theorem nN_ {x y : Int} {K : Bool → Prop} (h1 : x ≠ y → K true) (h0 : x = y → K false) : ∀ b', (x != y) = b' → K b' := fun b' e => match b', e with | true, e => h1 (by simpa using e) | false, e => h0 (by simpa using e)
theorem now_N1 {x y : Int} {K : Bool → Prop} (h : x ≠ y) (hk : K true) : ∀ b', (x != y) = b' → K b' := fun b' e => by rw [← e, show (x != y) = true by simpa using h]; exact hk
theorem now_N0 {x y : Int} {K : Bool → Prop} (h : x = y) (hk : K false) : ∀ b', (x != y) = b' → K b' := fun b' e => by rw [← e, h, bne_self_eq_false]; exact hk
theorem leB {ks : List Nat} {bx : Nat → Option BX} {x y : Bool} (h : x = y) : LeV ks bx (.t (.bool x)) (.t (.bool y)) := by rw [h]; exact .same _
theorem rb {x b : Bool} {c : Prop} (h : x = b) (hc : c) : some (T.bool x) = some (T.bool b) ∧ c := ⟨congrArg _ (congrArg _ h), hc⟩
theorem ri {k : IntKind} {n m : Int} {c : Prop} (h : n = m) (hc : c) : some (T.int k n) = some (T.int k m) ∧ c := ⟨congrArg _ (congrArg _ h), hc⟩
theorem rt {t u : T} {c : Prop} (h : t = u) (hc : c) : some t = some u ∧ c := ⟨congrArg _ h, hc⟩
end
section
variable [Glb]
theorem k_fcall {P : Program} {f : FuncId} {ts : List T} {K : TypeId → Nat → List T → Nat → Prop} {e : TypeId} {size : Nat} {xs : List T} (h : FCalls P f ts e size xs []) (hk : ∀ q, K e size xs q) : ∃ e size xs, FCalls P f ts e size xs [] ∧ ∀ q, K e size xs q := ⟨e, size, xs, h, hk⟩
end
section
theorem aE1 {x y : Int} {K : Bool → Prop} (hk : K true) (h : x = y := by first | omega | (simp; done) | (simp; omega) | fail) : ∀ b', (x == y) = b' → K b' := now_E1 h hk
theorem aE0 {x y : Int} {K : Bool → Prop} (hk : K false) (h : x ≠ y := by first | omega | (simp; done) | (simp; omega) | fail) : ∀ b', (x == y) = b' → K b' := now_E0 h hk
theorem aN1 {x y : Int} {K : Bool → Prop} (hk : K true) (h : x ≠ y := by first | omega | (simp; done) | (simp; omega) | fail) : ∀ b', (x != y) = b' → K b' := now_N1 h hk
theorem aN0 {x y : Int} {K : Bool → Prop} (hk : K false) (h : x = y := by first | omega | (simp; done) | (simp; omega) | fail) : ∀ b', (x != y) = b' → K b' := now_N0 h hk
theorem aD1 {p : Prop} [Decidable p] {K : Bool → Prop} (hk : K true) (h : p := by first | omega | (simp; done) | (simp; omega) | fail) : ∀ b', decide p = b' → K b' := now_D1 h hk
theorem aD0 {p : Prop} [Decidable p] {K : Bool → Prop} (hk : K false) (h : ¬ p := by first | omega | (simp; done) | (simp; omega) | fail) : ∀ b', decide p = b' → K b' := now_D0 h hk
theorem aS {c K : Prop} (hk : K) (hc : c := by first | exact trivial | rfl | decide | exact Nat.le_of_ble_eq_true rfl | assumption | exact ⟨rfl, Nat.le_of_ble_eq_true rfl⟩ | exact ⟨trivial, rfl⟩ | exact ⟨⟨trivial, rfl⟩, rfl⟩ | omega | (simp; done) | (simp; omega) | (simp [*]; done) | fail) : c ∧ K := ⟨hc, hk⟩
theorem rb1 {b : Bool} {c : Prop} (hc : c) (h : true = b := by first | rfl | (simp; done) | (simp; omega) | (simp [*]; done) | (simp [*]; omega) | fail) : some (T.bool true) = some (T.bool b) ∧ c := rb h hc
theorem rb0 {b : Bool} {c : Prop} (hc : c) (h : false = b := by first | rfl | (simp; done) | (simp; omega) | (simp [*]; done) | (simp [*]; omega) | fail) : some (T.bool false) = some (T.bool b) ∧ c := rb h hc
theorem rbx {x b : Bool} {c : Prop} (hc : c) (h : x = b := by first | rfl | (simp; done) | (simp; omega) | (simp [*]; done) | (simp [*]; omega) | fail) : some (T.bool x) = some (T.bool b) ∧ c := rb h hc
theorem rix {k : IntKind} {n m : Int} {c : Prop} (hc : c) (h : n = m := by first | rfl | omega | (rw [wrap_id] <;> omega) | (simp; omega) | (simp [*]; done) | fail) : some (T.int k n) = some (T.int k m) ∧ c := ri h hc
theorem vx {t : T} {K : T → Prop} (t0 : T) (hk : K t0) (h : t = t0 := by first | (simp; done) | (simp [*]; done) | fail) : ∀ t', t = t' → K t' := nv_ t0 h hk
theorem lI {ks : List Nat} {bx : Nat → Option BX} {n m : Int} (h : n = m := by first | omega | (rw [wrap_id] <;> omega) | (simp; omega) | (simp [*]; done) | fail) : LeV ks bx (.t (.int .i64 n)) (.t (.int .i64 m)) := leI h
theorem lB {ks : List Nat} {bx : Nat → Option BX} {x y : Bool} (h : x = y := by first | rfl | (simp; done) | (simp [*]; done) | (simp [*]; omega) | fail) : LeV ks bx (.t (.bool x)) (.t (.bool y)) := leB h
end
section
variable [Glb]
end
end Go.DL
end
section
namespace Go.DL
open Go
section
variable [Glb]
def Les (t u : T) : Prop := ∀ (S : Stable) (w : World) (v : Value), Rep S w v t → Rep S w v u
end
section
theorem Les.refl (t : T) : Les t t := fun _ _ _ h => h
theorem Les.trans {a b c : T} (h : Les a b) (k : Les b c) : Les a c := fun S w v r => k S w v (h S w v r)
end
section
variable [Glb]
structure LesL (ts us : List T) : Prop where
  len : ts.length = us.length
  one : ∀ u ∈ us, u.one = true
  le : ∀ (i : Nat) (t u : T), ts[i]? = some t → us[i]? = some u → Les t u
end
section
theorem LesL.nil : LesL [] [] := ⟨rfl, by simp, by simp⟩
theorem LesL.cons {t u : T} {ts us : List T} (h : Les t u) (h1 : u.one = true) (k : LesL ts us) : LesL (t :: ts) (u :: us) := by
  refine ⟨by simp [k.len], fun x hx => ?_, fun i a b ha hb => ?_⟩
  · rcases List.mem_cons.1 hx with rfl | hx
    · exact h1
    · exact k.one x hx
  · cases i with
    | zero => simp at ha hb; subst ha; subst hb; exact h
    | succ i => exact k.le i a b (by simpa using ha) (by simpa using hb)
theorem LesL.append {ts us ts' us' : List T} (h : LesL ts us) (k : LesL ts' us') : LesL (ts ++ ts') (us ++ us') := by
  refine ⟨by simp [h.len, k.len], fun x hx => ?_, fun i a b ha hb => ?_⟩
  · rcases List.mem_append.1 hx with hx | hx
    · exact h.one x hx
    · exact k.one x hx
  · rcases Nat.lt_or_ge i ts.length with hi | hi
    · rw [List.getElem?_append_left hi] at ha
      rw [List.getElem?_append_left (by rw [← h.len]; exact hi)] at hb
      exact h.le i a b ha hb
    · rw [List.getElem?_append_right hi] at ha
      rw [List.getElem?_append_right (by rw [← h.len]; exact hi), ← h.len] at hb
      exact k.le _ a b ha hb
theorem Les.nil (n : Nat) : Les .nil (.slice n []) := fun _ _ _ h => Rep.nil_slice n h
theorem Les.agg {ts us : List T} (h : LesL ts us) : Les (.agg ts) (.agg us) := fun S w v r => by
  cases r with
  | agg cs _ hs h1 hc =>
    refine .agg cs us (hs.trans h.len) h.one fun i x u hx hu => ?_
    have hlt : i < ts.length := by rw [h.len]; exact (List.getElem?_eq_some_iff.1 hu).1
    exact h.le i ts[i] u (by simp [hlt]) hu S w x (hc i x ts[i] hx (by simp [hlt]))
theorem LesL.flat {n : Nat} : ∀ {xs ys : List T}, xs.length = ys.length → (∀ (i : Nat) (x y : T), xs[i]? = some x → ys[i]? = some y → LesL x.cells y.cells ∧ y.cells.length = n) → LesL (xs.flatMap T.cells) (ys.flatMap T.cells)
  | [], [], _, _ => .nil
  | x :: xs, y :: ys, hl, h => by
    simp only [List.flatMap_cons]
    exact (h 0 x y rfl rfl).1.append (LesL.flat (n := n) (by simpa using hl) fun i a b ha hb => h (i + 1) a b (by simpa using ha) (by simpa using hb))
  | [], _ :: _, hl, _ => by simp at hl
  | _ :: _, [], hl, _ => by simp at hl
theorem Les.slice {n : Nat} {xs ys : List T} (hl : xs.length = ys.length) (h : ∀ (i : Nat) (x y : T), xs[i]? = some x → ys[i]? = some y → LesL x.cells y.cells ∧ y.cells.length = n) : Les (.slice n xs) (.slice n ys) := fun S w v r => by
  have hf := LesL.flat hl h
  cases r with
  | slice a b o len cap _ _ g hl2 hc hu h1 ha hg hr =>
    refine .slice a b o len cap n ys g (by omega) hc (fun y hy => ?_) hf.one (fun h0 => ha (by rw [hf.len]; exact h0)) (fun i hi => hg i (by rw [hf.len]; exact hi)) fun i u hu => ?_
    · obtain ⟨i, hi, rfl⟩ := List.getElem_of_mem hy
      exact (h i xs[i] ys[i] (by simp [show i < xs.length by omega]) (by simp [hi])).2
    · have hlt : i < (xs.flatMap T.cells).length := by rw [hf.len]; exact (List.getElem?_eq_some_iff.1 hu).1
      exact hf.le i _ u (List.getElem?_eq_getElem hlt) hu S w (g i) (hr i _ (List.getElem?_eq_getElem hlt))
end
section
variable [Glb]
theorem DCalls.les {P : Program} {f : FuncId} {ts us : List T} {r : T} (hl : ts.length = us.length) (hle : ∀ (i : Nat) (t u : T), ts[i]? = some t → us[i]? = some u → Les t u) (h : DCalls P f us r) : DCalls P f ts r :=
  h.less hl fun S w i v t u ht hu hr => hle i t u ht hu S w v hr
def lesAll : List T → List T → Prop
  | [], [] => True
  | t :: ts, u :: us => Les t u ∧ lesAll ts us
  | _, _ => False
end
section
theorem lesAll_len : ∀ {ts us : List T}, lesAll ts us → ts.length = us.length
  | [], [], _ => rfl
  | t :: ts, u :: us, h => by simp [lesAll_len h.2]
theorem lesAll_get : ∀ {ts us : List T}, lesAll ts us → ∀ (i : Nat) (t u : T), ts[i]? = some t → us[i]? = some u → Les t u
  | [], [], _, i, t, u, h, _ => by simp at h
  | a :: ts, b :: us, h, i, t, u, ht, hu => by
    cases i with
    | zero => simp at ht hu; subst ht; subst hu; exact h.1
    | succ i => exact lesAll_get h.2 i t u (by simpa using ht) (by simpa using hu)
end
section
variable [Glb]
theorem DCalls.lesAll {P : Program} {f : FuncId} {ts us : List T} {r : T} (h : DCalls P f us r) (hle : lesAll ts us) : DCalls P f ts r :=
  DCalls.les (lesAll_len hle) (lesAll_get hle) h
end
end Go.DL
end
section
namespace Go.DL
open Go.RowKit
section
variable [Glb] {P : Program} {X : List FuncId} {N : Nat} {w0 : World} {S0 : Base} {a : Act} {E : Env} {st : St}
abbrev AllOf (w : World) : Stable := fun b _ => b < w.heap.size
def cvsM (f : V → Option T) : List V → Option (List T)
  | [] => some []
  | v :: vs => match f v, cvsM f vs with
    | some x, some xs => some (x :: xs)
    | _, _ => none
def cvM (bx : Nat → Option BX) : Nat → V → Option T
  | 0, _ => none
  | k + 1, v => match v with
    | .fn f caps => match cvsM (cvM bx k) caps with
      | some ts => some (.clos f ts)
      | none => none
    | .ptr n off => match bx n with
      | some (.v vs) => match cvsM (cvM bx k) vs with
        | some ts => some (.cptr ts off)
        | none => none
      | _ => match conv1 bx (.ptr n off) with
        | some (t, _) => some t
        | none => none
    | v => match conv1 bx v with
      | some (t, _) => some t
      | none => none
end
section
variable {P : Program} {X : List FuncId} {N : Nat} {w0 : World} {S0 : Base} {a : Act} {E : Env} {st : St}
theorem cvsM_get {f : V → Option T} : ∀ {vs : List V} {ts : List T}, cvsM f vs = some ts → vs.length = ts.length ∧ ∀ (i : Nat) (v : V) (t : T), vs[i]? = some v → ts[i]? = some t → f v = some t
  | [], ts, h => by simp [cvsM] at h; subst h; exact ⟨rfl, fun i v t hv => by simp at hv⟩
  | v :: vs, ts, h => by
    unfold cvsM at h
    split at h
    · rename_i x xs hx hxs
      cases h
      obtain ⟨h1, h2⟩ := cvsM_get hxs
      refine ⟨by simp [h1], fun i v t hv ht => ?_⟩
      cases i with
      | zero => simp at hv ht; subst hv; subst ht; exact hx
      | succ i => simp at hv ht; exact h2 i v t hv ht
    · cases h
end
section
variable [Glb] {P : Program} {X : List FuncId} {N : Nat} {w0 : World} {S0 : Base} {a : Act} {E : Env} {st : St}
theorem cvM_sound (h : SR N w0 S0 E st a.tmps) : ∀ {k : Nat} {u : V} {v : Value} {t : T}, VR E v u → cvM st.bx k u = some t → Rep (AllOf E.w) E.w v t
  | 0, u, v, t, _, hc => by cases hc
  | k + 1, u, v, t, hv, hc => by
    have all : ∀ {rd : List Nat} (b o : Nat), Sx E rd b o → AllOf E.w b o := by
      rintro rd b o (h1 | ⟨n, _, hl, rfl⟩)
      · exact h.lt b o h1
      · exact klive h hl
    have one : ∀ {t' : T} {rd : List Nat}, conv1 st.bx u = some (t', rd) → Rep (AllOf E.w) E.w v t' := fun h1 => (conv1_sound h.bx hv h1).mono all (fun _ _ _ => Same.rfl)
    have fall : (match conv1 st.bx u with | some (t, _) => some t | none => none) = some t → Rep (AllOf E.w) E.w v t := fun hc => by
      split at hc
      · rename_i t' rd h1; cases hc; exact one h1
      · cases hc
    unfold cvM at hc
    split at hc
    · rename_i f caps
      split at hc
      · rename_i ts hts
        cases hc
        cases hv with
        | fn _ cs _ hs hcaps =>
          obtain ⟨g1, g2⟩ := cvsM_get hts
          refine .clos f cs ts (by omega) fun i x t hx ht => ?_
          have hi : i < caps.length := by rw [g1]; exact (List.getElem?_eq_some_iff.1 ht).1
          have hci := List.getElem?_eq_getElem hi
          exact cvM_sound h (hcaps i x _ hx hci) (g2 i _ t hci ht)
      · cases hc
    · rename_i n off
      split at hc
      · rename_i vs hb
        split at hc
        · rename_i ts hts
          cases hc
          cases hv with
          | ptr _ _ hl =>
            obtain ⟨cs, e, hg, hcr⟩ := (h.bx n _ hb).cells rfl
            cases hcr with
            | v _ h1 h2 =>
            obtain ⟨g1, g2⟩ := cvsM_get hts
            have key : ∀ (i : Nat) (x : Value) (t : T), cs[i]? = some x → ts[i]? = some t → Rep (AllOf E.w) E.w x t ∧ t.one = true := fun i x t hx ht => by
              have hi : i < vs.length := by rw [g1]; exact (List.getElem?_eq_some_iff.1 ht).1
              have hvi := List.getElem?_eq_getElem hi
              obtain ⟨k1, k2⟩ := h2 i x _ hx hvi
              have := cvM_sound h k1 (g2 i _ t hvi ht)
              exact ⟨this, this.one_of k2⟩
            have hlt : ∀ i, i < ts.length → i < cs.size := fun i hi => by omega
            have := Rep.cptr (S := AllOf E.w) (w := E.w) (E.κ n) 0 off ts (fun i => cs[i]?.getD undef)
              (fun t ht => by
                obtain ⟨i, hi⟩ := List.mem_iff_getElem?.1 ht
                have hl := hlt i (List.getElem?_eq_some_iff.1 hi).1
                exact (key i cs[i] t (by simp [hl]) hi).2)
              (fun i hi => by
                have hl := hlt i hi
                rw [Nat.zero_add, cell_of_row _ _ _ _ _ _ hg]
                exact ⟨by simp [hl], (h.bx n _ hb).lt⟩)
              (fun i t ht => by
                have hl := hlt i (List.getElem?_eq_some_iff.1 ht).1
                have := (key i cs[i] t (by simp [hl]) ht).1
                simpa only [hl, getElem?_pos, Option.getD_some] using this)
            rwa [Nat.zero_add] at this
        · cases hc
      · exact fall hc
    · exact fall hc
abbrev cvA (st : St) (us : List V) : Option (List T) := cvsM (cvM st.bx 6) us
theorem cvA_sound (h : SR N w0 S0 E st a.tmps) {us : List V} {ts : List T} (hc : cvA st us = some ts) {vs : Array Value} (hlen : vs.size = us.length) (hv : ∀ (i : Nat) (v : Value) (u : V), vs[i]? = some v → us[i]? = some u → VR E v u) :
    vs.toList.length = ts.length ∧ ∀ (i : Nat) (v : Value) (t : T), vs.toList[i]? = some v → ts[i]? = some t → Rep (AllOf E.w) E.w v t := by
  obtain ⟨g1, g2⟩ := cvsM_get hc
  refine ⟨by simp; omega, fun i v t hvi ht => ?_⟩
  have hi : i < us.length := by rw [g1]; exact (List.getElem?_eq_some_iff.1 ht).1
  have hui := List.getElem?_eq_getElem hi
  exact cvM_sound h (hv i v _ (by simpa using hvi) hui) (g2 i _ t hui ht)
theorem SR.globA {b : Array Value} (h : SR N w0 S0 E st b) : GlobOk (AllOf E.w) E.w := h.globE.up (fun b o hs => h.lt b o hs) (Below.refl _ _)
abbrev NewOf (w w' : World) : Stable := fun b _ => w.heap.size ≤ b ∧ b < w'.heap.size
def NCalls (P : Program) (f : FuncId) (ts : List T) (r : T) : Prop :=
  Callable P f ∧ ∀ (w : World) (vs : List Value), GlobOk (AllOf w) w → vs.length = ts.length → (∀ (i : Nat) (v : Value) (t : T), vs[i]? = some v → ts[i]? = some t → Rep (AllOf w) w v t) →
    Calls P f vs.toArray w fun e w' => ∃ v, e = .returned v ∧ Below w.heap.size w w' ∧ Rep (NewOf w w') w' v r
theorem WC_new {f : FuncId} {us : List V} {d : Option Nat} {K : St → Prop} {ts : List T} {r : T} (hc : cvA st us = some ts) (hr : NCalls P f ts r) (hk : K (st.set d (.t r))) : WC P f us d st K := by
  refine ⟨hr.1, fun N w0 S0 E a vs h hlen hv hd => ?_⟩
  obtain ⟨c1, c2⟩ := cvA_sound (a := ⟨a, []⟩) h hc hlen hv
  refine Calls.mono (by simpa using hr.2 E.w vs.toList h.globA c1 c2) ?_
  rintro e w' ⟨v, rfl, hb, hrep⟩
  have h' := h.world hb (fun b o => E.S b o ∨ (E.w.heap.size ≤ b ∧ b < w'.heap.size)) (fun b o => ⟨fun hh => hh.elim .inl fun k => .inr ⟨.inr k, k⟩, fun hh => hh.elim .inl fun k => k.1⟩)
  exact ⟨v, rfl, _, _, rfl, hk, set_put h' hd (.t _ _ (hrep.mono (fun b o hh => .inr hh) (fun _ _ _ => Same.rfl)))⟩
inductive IsNew (bx : Nat → Option BX) : V → T → Prop
  | flat (t : T) (h : t.flat = true) : IsNew bx (.t t) t
  | nil (n : Nat) : IsNew bx (.t .nil) (.slice n [])
  | own (q : Nat) (e : TypeId) (n : Nat) (xs : List T) (h : ∀ t ∈ xs.flatMap T.cells, t.flat = true) : IsNew bx (.own q e n xs) (.slice n xs)
  | view (n off len size m : Nat) (ts : List T) (r : T) (rd : List Nat) (hb : bx n = some (.d m ts)) (h : ∀ t ∈ ts, t.flat = true) (hc : conv1 bx (.view n off len size) = some (r, rd)) : IsNew bx (.view n off len size) r
end
section
variable {P : Program} {X : List FuncId} {N : Nat} {w0 : World} {S0 : Base} {a : Act} {E : Env} {st : St}
theorem chunk_mem {size : Nat} : ∀ (n : Nat) (cs : List T) (t : T), (∀ u ∈ cs, u.one = true) → 0 < size → n * size ≤ cs.length → t ∈ (chunk size n cs).flatMap T.cells → t ∈ cs := fun n cs t h1 h0 hl ht => by
  rw [(chunk_spec h0 n cs hl h1).1] at ht
  exact List.mem_of_mem_take ht
theorem Rep.own_block {S S' : Stable} {w : World} {g off len cap n : Nat} {xs : List T} (h : Rep S w (.slice (some ⟨g, off, none⟩) len cap) (.slice n xs)) (hS : ∀ o, S' g o) (hf : ∀ t ∈ xs.flatMap T.cells, t.flat = true) : Rep S' w (.slice (some ⟨g, off, none⟩) len cap) (.slice n xs) := by
  cases h with
  | slice a b o _ _ _ _ gv hl hc hu h1 ha hg h =>
    refine .slice _ b o len cap n xs gv hl hc hu h1 ha (fun i hi => ⟨(hg i hi).1, ?_⟩) (fun i t ht => (h i t ht).of_flat (hf t (List.mem_of_getElem? ht)))
    have := ha (by omega)
    simp only [Option.some.injEq, Addr.mk.injEq] at this
    rw [← this.1]
    exact hS _
end
section
variable [Glb] {P : Program} {X : List FuncId} {N : Nat} {w0 : World} {S0 : Base} {a : Act} {E : Env} {st : St}
theorem IsNew.sound (h : SR N w0 S0 E st a.tmps) {u : V} {v : Value} {t : T} (hn : IsNew st.bx u t) (hv : VR E v u) : Rep (NewOf w0 E.w) E.w v t := by
  cases hn with
  | flat _ hf => exact hv.inv_t.of_flat hf
  | nil n => exact (hv.inv_t.nil_slice n).of_flat rfl
  | own q e n xs hf =>
    have ho := hv.inv_own
    have hr := ho.rep
    obtain ⟨cells, k1, k2, k3⟩ := ho.ex
    rcases k1.2 with ⟨rfl, hx⟩ | ⟨g, cap, cur, rfl, hbg, hg, _⟩
    · have hx : xs = [] := List.eq_nil_of_length_eq_zero hx
      subst hx
      exact hr.of_flat rfl
    · have hlt : g < E.w.heap.size := (Array.getElem?_eq_some_iff.1 hg).1
      refine hr.own_block (fun o => ⟨?_, hlt⟩) hf
      rw [← h.base]; exact hbg
  | view n off len size m ts _ rd hb hf hc =>
    have hr := conv1_sound h.bx hv hc
    have hcw := hc
    simp only [conv1, hb] at hc
    cases hcd : (Nat.blt 0 size && Nat.ble (off + len * size) m) with
    | false => rw [hcd] at hc; cases hc
    | true =>
    rw [hcd] at hc
    simp only [cond_true, Option.some.injEq, Prod.mk.injEq] at hc
    obtain ⟨rfl, rfl⟩ := hc
    rw [Bool.and_eq_true] at hcd
    have hle : off + len * size ≤ m := Nat.le_of_ble_eq_true hcd.2
    have hpos : 0 < size := Nat.lt_of_lt_of_le (Nat.lt_succ_self 0) (Nat.le_of_ble_eq_true hcd.1)
    obtain ⟨cs, e, hg, hcr⟩ := (h.bx n _ hb).cells rfl
    have hB := h.bx n _ hb
    cases hcr with
    | d _ _ h1 h2 h3 =>
    have ones : ∀ t ∈ ts.drop off, t.one = true := fun t ht => by
      have ht := List.mem_of_mem_drop ht
      obtain ⟨i, hi⟩ := List.mem_iff_getElem?.1 ht
      have hlt : i < cs.size := by have := (List.getElem?_eq_some_iff.1 hi).1; omega
      exact (h3 i cs[i] t (by simp [hlt]) hi).2
    cases hv with
    | view _ _ _ _ cap hl hcap =>
    refine hr.own_block (fun o => ⟨?_, hB.lt⟩) fun t ht => hf t ?_
    · rw [← h.base]; exact hB.old
    · exact List.mem_of_mem_drop (chunk_mem len (ts.drop off) t ones hpos (by simp; omega) ht)
def PostN (rs : List ResultVar) (r : T) : DExit → St → Prop
  | .exit _, _ => False
  | _, st => ∃ u, resV st rs = some [u] ∧ IsNew st.bx u r
theorem ncalls_low (hm : P.follows .mixedOrders = true) {f : FuncId} {fn : Func} {d : DCode} {N : Nat} {rs : List ResultVar} (hf : P.funcs[f]? = some fn) (hl : (fn.body.bind (lowC P N X)) = some d) (hN : fn.ntmps = N) (hn : (fn.name == "runtime.NumGoroutine") = false)
    (hr : fn.results.toList = rs) {args : List T} {r : T} (ha : args.length ≤ N) (h : wpC P d (initSt args) (PostN rs r)) : NCalls P f args r := by
  cases hb : fn.body with
  | none => rw [hb] at hl; cases hl
  | some c =>
    rw [hb] at hl
    subst hN; subst hr
    refine ⟨callable_of hf (by rw [hb]; rfl) hn, fun w vs hG hlen hrep => calls_of_wp hf hb ?_⟩
    have hsr := init_sr (N := fn.ntmps) (fun b o hs => hs) hG hlen hrep ha
    refine wp_mono (wpC_wp hm hl (a := { tmps := vs.toArray ++ Array.replicate (fn.ntmps - vs.toArray.size) undef, defers := [] }) hsr h) ?_
    have fin : ∀ {a' : Act} {w' : World}, EndIs fn.ntmps w { S := AllOf w } [] (fun st => ∃ u, resV st fn.results.toList = some [u] ∧ IsNew st.bx u r) a' w' →
        a'.defers = [] ∧ ∃ v, (results fn a'.tmps).run P w' = .ok v w' ∧ ∃ v', Ending.returned v = .returned v' ∧ Below w.heap.size w w' ∧ Rep (NewOf w w') w' v' r := by
      rintro a' w' ⟨E', st', rfl, hsr', hdf, u, hres, hu⟩
      obtain ⟨v, h1, h2⟩ := resultsV_run (P := P) hsr' hres
      exact ⟨hdf, v, h1, v, rfl, hsr'.below, hu.sound hsr' h2⟩
    intro en a' w' hh
    cases en with
    | normal => exact fin hh
    | ret => exact fin hh
    | exit id =>
      obtain ⟨_, _, _, _, _, hk⟩ := hh
      exact hk.elim
    | goto l => exact hh.elim
    | panic ch => exact hh.elim
    | outgrown => exact hh.elim
def FCallsR (P : Program) (f : FuncId) (ts : List T) (e : TypeId) (size : Nat) (R : List T → Prop) : Prop :=
  Callable P f ∧ ∀ (w : World) (vs : List Value), GlobOk (AllOf w) w → vs.length = ts.length → (∀ (i : Nat) (v : Value) (t : T), vs[i]? = some v → ts[i]? = some t → Rep (AllOf w) w v t) →
    Calls P f vs.toArray w fun en w' => ∃ (v : Value) (xs : List T), R xs ∧ en = .returned v ∧ Below w.heap.size w w' ∧ Fresh w w' v e size xs
def PostFR (rs : List ResultVar) (e : TypeId) (size : Nat) (R : List T → Prop) : DExit → St → Prop
  | .exit _, _ => False
  | _, st => ∃ xs u, R xs ∧ (∀ t ∈ xs.flatMap T.cells, t.flat = true) ∧ resV st rs = some [u] ∧ ((∃ q, u = .own q e size xs) ∨ (u = .t .nil ∧ xs = []))
theorem fcallsR_low (hm : P.follows .mixedOrders = true) {f : FuncId} {fn : Func} {d : DCode} {N : Nat} {rs : List ResultVar} (hf : P.funcs[f]? = some fn) (hl : (fn.body.bind (lowC P N X)) = some d) (hN : fn.ntmps = N) (hn : (fn.name == "runtime.NumGoroutine") = false)
    (hr : fn.results.toList = rs) {args : List T} {e : TypeId} {size : Nat} {R : List T → Prop} (ha : args.length ≤ N) (h : wpC P d (initSt args) (PostFR rs e size R)) : FCallsR P f args e size R := by
  cases hb : fn.body with
  | none => rw [hb] at hl; cases hl
  | some c =>
    rw [hb] at hl
    subst hN; subst hr
    refine ⟨callable_of hf (by rw [hb]; rfl) hn, fun w vs hG hlen hrep => calls_of_wp hf hb ?_⟩
    have hsr := init_sr (N := fn.ntmps) (fun b o hs => hs) hG hlen hrep ha
    refine wp_mono (wpC_wp hm hl (a := { tmps := vs.toArray ++ Array.replicate (fn.ntmps - vs.toArray.size) undef, defers := [] }) hsr h) ?_
    have fin : ∀ {a' : Act} {w' : World}, EndIs fn.ntmps w { S := AllOf w } [] (fun st => ∃ xs u, R xs ∧ (∀ t ∈ xs.flatMap T.cells, t.flat = true) ∧ resV st fn.results.toList = some [u] ∧ ((∃ q, u = .own q e size xs) ∨ (u = .t .nil ∧ xs = []))) a' w' →
        a'.defers = [] ∧ ∃ v, (results fn a'.tmps).run P w' = .ok v w' ∧ ∃ (v' : Value) (xs : List T), R xs ∧ Ending.returned v = .returned v' ∧ Below w.heap.size w w' ∧ Fresh w w' v' e size xs := by
      rintro a' w' ⟨E', st', rfl, hsr', hdf, xs, u, hR, hfl, hres, hu⟩
      obtain ⟨v, h1, v', us', h2, h3, h4, h5, _⟩ := postF_run (P := P) (rest := []) hsr' hfl (fun t ht => by simp at ht) (by simpa using hres) hu
      have : us' = [] := List.eq_nil_of_length_eq_zero h5
      subst this
      exact ⟨hdf, v, h1, v', xs, hR, h2, h3, h4⟩
    intro en a' w' hh
    cases en with
    | normal => exact fin hh
    | ret => exact fin hh
    | exit id =>
      obtain ⟨_, _, _, _, _, hk⟩ := hh
      exact hk.elim
    | goto l => exact hh.elim
    | panic ch => exact hh.elim
    | outgrown => exact hh.elim
theorem fcallR_world {f : FuncId} {us : List V} {ts : List T} {e : TypeId} {size : Nat} {R : List T → Prop} (hc : cvA st us = some ts) (hr : FCallsR P f ts e size R)
    (h : SR N w0 S0 E st a.tmps) {vs : Array Value} (hlen : vs.size = us.length) (hv : ∀ (i : Nat) (v : Value) (u : V), vs[i]? = some v → us[i]? = some u → VR E v u) :
    Calls P f vs E.w fun en w' => ∃ (v : Value) (xs : List T), R xs ∧ en = .returned v ∧ Below E.w.heap.size E.w w' ∧ Fresh E.w w' v e size xs ∧ SR N w0 S0 { E with w := w' } st a.tmps := by
  obtain ⟨c1, c2⟩ := cvA_sound h hc hlen hv
  refine Calls.mono (by simpa using hr.2 E.w vs.toList h.globA c1 c2) ?_
  rintro en w' ⟨v, xs, hR, rfl, hb, hfr⟩
  exact ⟨v, xs, hR, rfl, hb, hfr, h.world hb E.S (fun b o => ⟨.inl, fun hh => hh.elim id fun k => k.1⟩)⟩
theorem WC_ownR {f : FuncId} {us : List V} {d : Nat} {K : St → Prop} {ts : List T} {e : TypeId} {size : Nat} {R : List T → Prop} (hc : cvA st us = some ts) (hr : FCallsR P f ts e size R)
    (hk : ∀ xs, R xs → K ((st.dg (d + st.off) (d + st.off)).set (some d) (.own (d + st.off) e size xs))) : WC P f us (some d) st K := by
  refine ⟨hr.1, fun N w0 S0 E a vs h hlen hv hd => Calls.mono (fcallR_world (a := ⟨a, []⟩) hc hr h hlen hv) ?_⟩
  rintro en w' ⟨v, xs, hR, rfl, hb, hfr, h'⟩
  refine ⟨_, rfl, ?_⟩
  have h1 := h'.dg (d + st.off) (d + st.off)
  have klt : ∀ m, E.live m = true → E.κ m < E.w.heap.size := fun m hm => klive (a := ⟨a, []⟩) h hm
  obtain ⟨cells, k1, k2, k3⟩ := hfr.ex
  rcases k1.2 with ⟨rfl, hn⟩ | ⟨g, cap, cur, rfl, hbg, hg, hcap, hm, hs, htk⟩
  · have hx : xs = [] := List.eq_nil_of_length_eq_zero hn
    subst hx
    exact ⟨_, _, rfl, hk _ hR, set_put h1 hd (.own _ _ _ _ _ (Owns.nil _ _ _))⟩
  · have hlt : g < w'.heap.size := (Array.getElem?_eq_some_iff.1 hg).1
    have h2 := h1.adoptRow (q := d + st.off) (g := g) (k := (xs.flatMap T.cells).length) (by simp) (fun m hm => by have := klt m hm; show E.κ m ≠ g; omega) (fun r hr => by
      dsimp only at hr
      split at hr
      · cases hr
      · have := (h.rows r g hr).2.1; omega) hlt (by show E.B ≤ g; rw [h.base]; have := h.below.size; omega)
    refine ⟨_, _, rfl, hk _ hR, set_put h2 hd (.own _ _ _ _ _ ⟨⟨cells, ⟨k1.1, .inr ⟨g, cap, cur, rfl, ?_, hg, hcap, hm, hs, htk⟩⟩, k2, fun i x t hx ht => (k3 i x t hx ht).of_flat (hfr.flat t (List.mem_of_getElem? ht))⟩, hfr.uni, hfr.one, fun g' hg' => ?_⟩)⟩
    · show E.B ≤ g; rw [h.base]; have := h.below.size; omega
    · simp only [Value.ownBlock, Option.some.injEq] at hg'
      subst hg'
      refine ⟨upd_same _ _ _, fun o => ?_⟩
      show (E.S g o ∨ (g = g ∧ o < _)) ↔ _
      exact ⟨fun hh => hh.elim (fun hs => absurd (h.lt g o hs) (by omega)) (·.2), fun hh => .inr ⟨rfl, hh⟩⟩
theorem WC_viewR {f : FuncId} {us : List V} {d : Nat} {K : St → Prop} {ts : List T} {e : TypeId} {size : Nat} {R : List T → Prop} (hc : cvA st us = some ts) (hr : FCallsR P f ts e size R) (hq : st.bx (d + st.off) = none)
    (hnil : R [] → K (st.set (some d) (.t .nil))) (hk : ∀ xs, R xs → (∀ x ∈ xs, x.cells.length = size) → K ({ st with bx := upd st.bx (d + st.off) (some (.d (xs.length * size) (xs.flatMap T.cells))) }.set (some d) (.view (d + st.off) 0 xs.length size))) : WC P f us (some d) st K := by
  refine ⟨hr.1, fun N w0 S0 E a vs h hlen hv hd => Calls.mono (fcallR_world (a := ⟨a, []⟩) hc hr h hlen hv) ?_⟩
  rintro en w' ⟨v, xs, hR, rfl, hb, hfr, h'⟩
  refine ⟨_, rfl, ?_⟩
  have klt : ∀ m, E.live m = true → E.κ m < E.w.heap.size := fun m hm => klive (a := ⟨a, []⟩) h hm
  obtain ⟨cells, k1, k2, k3⟩ := hfr.ex
  rcases k1.2 with ⟨rfl, hn⟩ | ⟨g, cap, cur, rfl, hbg, hg, hcap, hm, hs, htk⟩
  · have hx : xs = [] := List.eq_nil_of_length_eq_zero hn
    subst hx
    exact ⟨_, _, rfl, hnil hR, set_put h' hd (.t _ _ .nil)⟩
  · have hfl := flat_len hfr.uni
    have hle : xs.length * size ≤ cur.size := by rw [hs]; exact Nat.mul_le_mul_right _ hcap
    have h2 := h'.adoptBox (q := d + st.off) (g := g) hq (fun m hm => by have := klt m hm; show E.κ m ≠ g; omega) (fun r hr => by have := (h.rows r g hr).2.1; omega)
      (bx := .d (xs.length * size) (xs.flatMap T.cells)) ⟨by show E.B ≤ g; rw [h.base]; have := h.below.size; omega, fun o hs => absurd (h.lt g o hs) (by omega), _, hg, .cells cur e _ <| .d _ _ hfl hle fun i x t hx ht => by
        have hi : i < xs.length * size := by rw [← hfl]; exact (List.getElem?_eq_some_iff.1 ht).1
        refine ⟨(k3 i x t ?_ ht).of_flat (hfr.flat t (List.mem_of_getElem? ht)), hfr.one t (List.mem_of_getElem? ht)⟩
        rw [← htk, List.getElem?_take, if_pos hi]
        simpa using hx⟩
    refine ⟨_, _, rfl, hk _ hR hfr.uni, set_put h2 hd ?_⟩
    have := VR.view (E := { E with w := w', κ := upd E.κ (d + st.off) g, live := upd E.live (d + st.off) true }) (d + st.off) 0 xs.length size cap (by show upd E.live _ true _ = true; exact upd_same _ _ _) hcap
    have hκ : upd E.κ (d + st.off) g (d + st.off) = g := upd_same _ _ _
    simp only [hκ] at this
    exact this
theorem fcallsR_mark {f : FuncId} {fn : Func} {c : Code} (hf : P.funcs[f]? = some fn) (hb : fn.body = some c) (hn : (fn.name == "runtime.NumGoroutine") = false) {args : List T} {e : TypeId} {size : Nat} {R : List T → Prop} (ha : args.length ≤ fn.ntmps)
    (h : ∀ (S : Stable) (w : World) (a : Act), SR fn.ntmps w { S := S } { S := S, w := w, B := w.heap.size, κ := fun _ => 0, ρ := fun _ => none, live := fun _ => false } (initSt args) a.tmps → a.defers = [] →
      c.wp P (fun x a' w' => (x = .normal ∨ x = .ret) ∧ AfterLoop fn.ntmps w S (fun _ _ => undef) { tmps := #[], defers := [] } (fun st => (∀ S w, st.cx S w) ∧ ∃ xs u, R xs ∧ (∀ t ∈ xs.flatMap T.cells, t.flat = true) ∧ resV st fn.results.toList = some [u] ∧ ((∃ q, u = .own q e size xs) ∨ (u = .t .nil ∧ xs = []))) a' w') a w) : FCallsR P f args e size R := by
  refine ⟨callable_of hf (by rw [hb]; rfl) hn, fun w vs hG hlen hrep => ?_⟩
  have hsr := init_sr (N := fn.ntmps) (fun b o hs => hs) hG hlen hrep ha
  refine (callsIn_wide (n := 0)).1 (callsIn_of_wp_marks hf hb trivial ((wpIn_wide (n := 0)).2 (wp_mono (h (AllOf w) w { tmps := vs.toArray ++ Array.replicate (fn.ntmps - vs.toArray.size) undef, defers := [] } hsr rfl) ?_)))
  have fin : ∀ {a' : Act} {w' : World}, AfterLoop fn.ntmps w (AllOf w) (fun _ _ => undef) { tmps := #[], defers := [] } (fun st => (∀ S w, st.cx S w) ∧ ∃ xs u, R xs ∧ (∀ t ∈ xs.flatMap T.cells, t.flat = true) ∧ resV st fn.results.toList = some [u] ∧ ((∃ q, u = .own q e size xs) ∨ (u = .t .nil ∧ xs = []))) a' w' →
      LeavesInM Fence.wide 0 P fn a'.tmps (fun en w' => ∃ (v : Value) (xs : List T), R xs ∧ en = .returned v ∧ Below w.heap.size w w' ∧ Fresh w w' v e size xs) a'.defers .returning w' := by
    rintro a' w' ⟨S0', E', st', D, rfl, hsr', _, _, hD, hobj, hdf, hcx, xs, u, hR, hfl, hres, hu⟩
    rw [hdf]
    obtain ⟨_, hw⟩ := hsr'.obj D _ hobj
    refine ⟨by simp, .inl ⟨D, _, rfl, run_takeDeferred hw, ?_⟩⟩
    have h2 := hsr'.putObj (x := .deferred (some [])) (y := .deferred none) hobj rfl hD (hcx _ _)
    obtain ⟨v, h3, v', us', h4, h5, h6, h7, _⟩ := postF_run (P := P) (rest := []) h2 hfl (fun t ht => by simp at ht) (by simpa using hres) hu
    have : us' = [] := List.eq_nil_of_length_eq_zero h7
    subst this
    cases h4
    exact ⟨_, h3, _, xs, hR, rfl, h5, h6⟩
  intro x a' w' hq
  obtain ⟨hx, hq⟩ := hq
  rcases hx with rfl | rfl
  · exact fin hq
  · exact fin hq
end
section
variable {P : Program} {X : List FuncId} {N : Nat} {w0 : World} {S0 : Base} {a : Act} {E : Env} {st : St}
theorem Fresh.rep {w w' : World} {v : Value} {e : TypeId} {size : Nat} {xs : List T} (h : Fresh w w' v e size xs) : Rep (NewOf w w') w' v (.slice size xs) := by
  obtain ⟨cells, k1, k2, k3⟩ := h.ex
  let E : Env := { S := fun b o => v.ownBlock = some b ∧ o < (xs.flatMap T.cells).length, w := w', B := w.heap.size, κ := fun _ => 0, ρ := fun _ => v.ownBlock, live := fun _ => false }
  have ho : Owns E v 0 e size xs := ⟨⟨cells, k1, k2, fun i x t hx ht => (k3 i x t hx ht).of_flat (h.flat t (List.mem_of_getElem? ht))⟩, h.uni, h.one, fun g hg => ⟨hg, fun o => ⟨fun hh => hh.2, fun hh => ⟨hg, hh⟩⟩⟩⟩
  refine ho.rep.mono (fun b o hs => ?_) (fun _ _ _ => Same.rfl)
  rcases k1.2 with ⟨rfl, _⟩ | ⟨g, cap, cur, rfl, hbg, hg, _⟩
  · cases hs.1
  · have := hs.1
    simp only [Value.ownBlock, Option.some.injEq] at this
    subst this
    exact ⟨hbg, (Array.getElem?_eq_some_iff.1 hg).1⟩
end
section
variable [Glb] {P : Program} {X : List FuncId} {N : Nat} {w0 : World} {S0 : Base} {a : Act} {E : Env} {st : St}
theorem FCalls.dcalls {f : FuncId} {ts : List T} {e : TypeId} {size : Nat} {xs : List T} (h : FCalls P f ts e size xs []) : DCalls P f ts (.slice size xs) := by
  refine ⟨h.1, fun S w vs hS hG hl hr => (h.2 S w vs hS hG hl hr).mono ?_⟩
  rintro en w' ⟨v, us, rfl, hb, hf, hu, _⟩
  have : us = [] := List.eq_nil_of_length_eq_zero hu
  subst this
  exact ⟨v, rfl, hb, hf.rep.mono (fun b o hs => .inr hs) (fun _ _ _ => Same.rfl)⟩
end
section
variable {P : Program} {X : List FuncId} {N : Nat} {w0 : World} {S0 : Base} {a : Act} {E : Env} {st : St}
theorem VR.clos_fn {v : Value} {f : FuncId} {ts : List T} (h : VR E v (.t (.clos f ts))) : VR E v (.fn f (ts.map .t)) := by
  have hr := h.inv_t
  cases hr with
  | clos _ cs _ hs hc =>
    refine .fn f cs _ (by simpa using hs) fun i x u hx hu => ?_
    rw [List.getElem?_map, Option.map_eq_some_iff] at hu
    obtain ⟨t, ht, rfl⟩ := hu
    exact .t _ _ (hc i x t hx ht)
end
section
variable [Glb] {P : Program} {X : List FuncId} {N : Nat} {w0 : World} {S0 : Base} {a : Act} {E : Env} {st : St}
theorem SR.reread {b : Array Value} (h : SR N w0 S0 E st b) {k : Nat} {u : V} (hu : VR E (b.getD k undef) u) : SR N w0 S0 E { st with sl := upd st.sl k u } b :=
  ⟨h.size, h.base, h.glob, fun m => by
    show VR E _ (upd st.sl k u m)
    by_cases hm : m = k
    · subst hm; rw [upd_same]; exact hu
    · rw [upd_other _ _ _ _ hm]; exact h.sl m, h.gh, h.bx, h.live, h.inj, h.rows, h.rinj, h.lt, h.below, h.s0, h.s1, h.obj, h.cx⟩
end
end Go.DL
end
section
namespace Go.DL
open Go.RowKit Go.Shelf Go.Proofs Go.Sort
section
variable [Glb] {P : Program} {N : Nat} {w0 : World} {S0 : Base} {a : Act} {E : Env} {st : St}
structure SortsK (P : Program) (f : FuncId) (k : Nat) : Prop where
  callable : Callable P f
  some_ : ∀ (m : Nat) (enc : Fin (m + 1) → List Value) (cf : Fin (m + 1) → Fin (m + 1) → Int) (g : Nat) (cb : Array Value) (blk off cap : Nat) (d : Array (Fin (m + 1))) (w : World), (∀ x, (enc x).length = k) → (∀ x, ∀ v ∈ enc x, v.oneCell' = true) → Sort.SWO (ltOf cf) →
    (∀ args w, (callFunc g args).run P w = .ok (.enter g args) w) → CmpLays P g cb enc k cf blk off d.size w → HoldsK enc k w blk off d → blk < w.heap.size → d.size < 4611686018427387904 →
    Calls P f #[.slice (some ⟨blk, off, none⟩) d.size cap, .func (.func g) #[] cb] w fun e w' => e = .returned (.tuple #[]) ∧ ∃ d' n os, Sort.PermIn 0 d.size d d' ∧ Sort.SortedIn (ltOf cf) 0 d.size d' ∧ w' = sortWorldK enc k w blk off n d' os
  none_ : ∀ (p : Option Addr) (cap : Nat) (fv : Value) (w : World), Calls P f #[.slice p 0 cap, fv] w fun e w' => e = .returned (.tuple #[]) ∧ w' = w
end
section
variable {P : Program} {N : Nat} {w0 : World} {S0 : Base} {a : Act} {E : Env} {st : St}
theorem below_grow {w w' : World} (h : Below w.heap.size w w') : ∃ q os, w' = Sort.grow (w.drewN q) os := by
  refine ⟨w'.drawn - w.drawn, w'.heap.extract w.heap.size w'.heap.size, ?_⟩
  obtain ⟨hp, tp, dr, os, out⟩ := w
  obtain ⟨hp', tp', dr', os', out'⟩ := w'
  have h1 := h.os; have h2 := h.tape; have h3 := h.output; have h4 := h.size; have h5 := h.block; have h6 := h.dr
  simp only at h1 h2 h3 h4 h5 h6
  subst h1; subst h2; subst h3
  unfold Sort.grow World.drewN
  simp only [World.mk.injEq, and_true, true_and]
  refine ⟨?_, by omega⟩
  apply Array.ext_getElem?
  intro i
  by_cases hi : i < hp.size
  · rw [Array.getElem?_append_left hi, h5 i hi]
  · rw [Array.getElem?_append_right (by omega), Array.getElem?_extract]
    by_cases hj : i < hp'.size
    · rw [if_pos (by omega)]
      congr 1; omega
    · rw [if_neg (by omega), Array.getElem?_eq_none (by omega)]
theorem flatMap_get {k : Nat} : ∀ {xs : List T} (_ : ∀ x ∈ xs, x.cells.length = k) (j : Nat), 0 < k → j < xs.length * k → (xs.flatMap T.cells)[j]? = (xs[j / k]?).bind fun x => x.cells[j % k]?
  | [], _, j, _, hj => by simp at hj
  | x :: xs, hu, j, h0, hj => by
    rw [List.flatMap_cons]
    have hx := hu x (by simp)
    by_cases h : j < k
    · rw [List.getElem?_append_left (by omega), Nat.div_eq_of_lt h, Nat.mod_eq_of_lt h]; rfl
    · rw [List.getElem?_append_right (by omega), hx, flatMap_get (fun y hy => hu y (by simp [hy])) (j - k) h0 (by rw [List.length_cons, Nat.add_mul] at hj; omega)]
      have h1 : j / k = (j - k) / k + 1 := by rw [Nat.div_eq_sub_div h0 (by omega)]
      have h2 : j % k = (j - k) % k := by rw [Nat.mod_eq_sub_mod (by omega)]
      rw [h1, h2, List.getElem?_cons_succ]
theorem chunk_get {size : Nat} (h0 : 1 < size) : ∀ (n : Nat) (cs : List T) (i : Nat), i < n → n * size ≤ cs.length → (chunk size n cs)[i]? = some (.agg ((cs.drop (i * size)).take size))
  | 0, _, i, h, _ => by omega
  | n + 1, cs, i, h, hl => by
    rw [Nat.add_mul, Nat.one_mul] at hl
    cases i with
    | zero =>
      have : Nat.beq size 1 = false := by
        cases hb : Nat.beq size 1 with
        | false => rfl
        | true => have := Nat.eq_of_beq_eq_true hb; omega
      simp [chunk, elemOf, this]
    | succ i =>
      show (chunk size n (cs.drop size))[i]? = _
      rw [chunk_get h0 n (cs.drop size) i (by omega) (by simp; omega), List.drop_drop, Nat.add_mul, Nat.one_mul, Nat.add_comm size]
end
section
variable [Glb] {P : Program} {N : Nat} {w0 : World} {S0 : Base} {a : Act} {E : Env} {st : St}
theorem WC_sort {f : FuncId} {k n off len m : Nat} {ts : List T} {u : V} {g : FuncId} {cts : List T} {d : Option Nat} {K : St → Prop} (hs : SortsK P f k) (hb : st.bx n = some (.d m ts)) (hle : off + len * k ≤ m) (hk2 : 1 < k) (hlen : len < 4611686018427387904)
    (hu : u = .t (.clos g cts) ∨ ∃ caps, u = .fn g caps ∧ allT caps = some cts) (hg : Callable P g) (cf : T → T → Int)
    (hcmp : ∀ x ∈ chunk k len (ts.drop off), ∀ y ∈ chunk k len (ts.drop off), DCalls P g (x :: y :: cts) (.int .i64 (cf x y)))
    (irrefl : ∀ x ∈ chunk k len (ts.drop off), ¬ cf x x < 0) (trans : ∀ x ∈ chunk k len (ts.drop off), ∀ y ∈ chunk k len (ts.drop off), ∀ z ∈ chunk k len (ts.drop off), cf x y < 0 → cf y z < 0 → cf x z < 0)
    (ntrans : ∀ x ∈ chunk k len (ts.drop off), ∀ y ∈ chunk k len (ts.drop off), ∀ z ∈ chunk k len (ts.drop off), ¬ cf x y < 0 → ¬ cf y z < 0 → ¬ cf x z < 0)
    (hk : ∀ ys : List T, ys.Perm (chunk k len (ts.drop off)) → ys.Pairwise (fun x y => ¬ cf y x < 0) → K ({ st with bx := upd st.bx n (some (.d m (putL ts off (len * k) (ys.flatMap T.cells)))) }.set d (.t (.tup [])))) : WC P f [.view n off len k, u] d st K := by
  refine ⟨hs.callable, fun N w0 S0 E a vs h hvl hv hd => ?_⟩
  have hsz : vs.size = 2 := hvl
  have hv0 := hv 0 vs[0] _ (by simp [hsz]) rfl
  have hv1 := hv 1 vs[1] _ (by simp [hsz]) rfl
  have hvs : vs = #[vs[0], vs[1]] := by
    apply Array.ext
    · simp [hsz]
    · intro i h1 h2
      match i, h1 with
      | 0, _ => rfl
      | 1, _ => rfl
      | i + 2, h1 => omega
  -- the comparison's closure
  obtain ⟨cb, hfv, hcl, hcr⟩ : ∃ cb : Array Value, vs[1] = .func (.func g) #[] cb ∧ cb.size = cts.length ∧ ∀ (i : Nat) (x : Value) (t : T), cb[i]? = some x → cts[i]? = some t → Rep E.S E.w x t := by
    rcases hu with rfl | ⟨caps, rfl, hc⟩
    · have hr := hv1.inv_t
      generalize vs[1] = v1 at hr
      cases hr with
      | clos _ cs _ h1 h2 => exact ⟨cs, rfl, h1, h2⟩
    · generalize vs[1] = v1 at hv1
      cases hv1 with
      | fn _ cs _ h1 h2 =>
        obtain ⟨g1, g2⟩ := allT_get hc
        refine ⟨cs, rfl, by omega, fun i x t hx ht => ?_⟩
        have hi : i < caps.length := by rw [g1]; exact (List.getElem?_eq_some_iff.1 ht).1
        have hci := List.getElem?_eq_getElem hi
        exact asT_sound (h2 i x _ hx hci) (g2 i _ t hci ht)
  obtain ⟨cap, hsl, hcap, hlive⟩ := hv0.inv_view
  obtain ⟨cs, e, hgo, hcr'⟩ := (h.bx n _ hb).cells rfl
  have hB := h.bx n _ hb
  cases hcr' with
  | d _ _ hl hszc hh =>
  -- the elements, one by one
  have hkpos : 0 < k := by omega
  have ones : ∀ t ∈ ts.drop off, t.one = true := fun t ht => by
    have ht := List.mem_of_mem_drop ht
    obtain ⟨i, hi⟩ := List.mem_iff_getElem?.1 ht
    have hlt : i < cs.size := by have := (List.getElem?_eq_some_iff.1 hi).1; omega
    exact (hh i cs[i] t (by simp [hlt]) hi).2
  generalize hxs : chunk k len (ts.drop off) = xs at hcmp irrefl trans ntrans hk
  have hsp := chunk_spec hkpos len (ts.drop off) (by simp; omega) ones
  rw [hxs] at hsp
  obtain ⟨hfl, hxl, hxu⟩ := hsp
  by_cases hl0 : len = 0
  · subst hl0
    have hx0 : xs = [] := List.eq_nil_of_length_eq_zero hxl
    subst hx0
    have hcall := hs.none_ (some ⟨E.κ n, off, none⟩) cap vs[1] E.w
    rw [← hsl, ← hvs] at hcall
    refine hcall.mono ?_
    rintro e' w' ⟨rfl, rfl⟩
    refine ⟨_, rfl, _, _, rfl, hk [] (List.Perm.refl _) List.Pairwise.nil, set_put ?_ hd (.t _ _ (.tup #[] [] rfl fun i x t hx => by simp at hx))⟩
    have hsame : putL ts off (0 * k) (([] : List T).flatMap T.cells) = ts := by simp [putL]
    rw [hsame]
    have : upd st.bx n (some (.d m ts)) = st.bx := by
      funext i
      by_cases hi : i = n
      · subst hi; rw [upd_same, hb]
      · rw [upd_other _ _ _ _ hi]
    show SR N w0 S0 E { st with bx := upd st.bx n (some (.d m ts)) } a
    rw [this]
    exact h
  obtain ⟨m', rfl⟩ : ∃ m', len = m' + 1 := ⟨len - 1, by omega⟩
  let enc : Fin (m' + 1) → List Value := fun i => (cs.toList.drop (off + i.val * k)).take k
  have hidx : ∀ i : Fin (m' + 1), i.val * k + k ≤ (m' + 1) * k := fun i => by
    have := Nat.mul_le_mul_right k (show i.val + 1 ≤ m' + 1 from i.isLt)
    rw [Nat.add_mul, Nat.one_mul] at this; exact this
  have henc : ∀ x, (enc x).length = k := fun x => by
    have := hidx x
    simp only [enc, List.length_take, List.length_drop, Array.length_toList]
    omega
  have encg : ∀ (x : Fin (m' + 1)) (r : Nat), r < k → (enc x)[r]? = cs[off + x.val * k + r]? := fun x r hr => by
    simp only [enc]
    rw [List.getElem?_take, if_pos hr, List.getElem?_drop, Array.getElem?_toList]
  have xget : ∀ x : Fin (m' + 1), xs[x.val]? = some (.agg (((ts.drop off).drop (x.val * k)).take k)) := fun x => by
    rw [← hxs]
    exact chunk_get hk2 (m' + 1) (ts.drop off) x.val x.isLt (by simp; omega)
  let xe : Fin (m' + 1) → T := fun x => .agg (((ts.drop off).drop (x.val * k)).take k)
  have xmem : ∀ x, xe x ∈ xs := fun x => List.mem_of_getElem? (xget x)
  have xcell : ∀ (x : Fin (m' + 1)) (r : Nat), r < k → (xe x).cells[r]? = ts[off + x.val * k + r]? := fun x r hr => by
    show (((ts.drop off).drop (x.val * k)).take k)[r]? = _
    rw [List.getElem?_take, if_pos hr, List.getElem?_drop, List.getElem?_drop]
    congr 1; omega
  have xlen : ∀ x, (xe x).cells.length = k := fun x => hxu _ (xmem x)
  have h1 : ∀ x, ∀ v ∈ enc x, v.oneCell' = true := fun x v hvm => by
    obtain ⟨r, hr⟩ := List.mem_iff_getElem?.1 hvm
    have hrk : r < k := by rw [← henc x]; exact (List.getElem?_eq_some_iff.1 hr).1
    rw [encg x r hrk] at hr
    have hx := hidx x
    have hlt : off + x.val * k + r < ts.length := by omega
    have := hh _ v ts[off + x.val * k + r] hr (List.getElem?_eq_getElem hlt)
    exact this.1.one this.2
  let c : Fin (m' + 1) → Fin (m' + 1) → Int := fun x y => cf (xe x) (xe y)
  have hO : Sort.SWO (ltOf c) := by
    refine ⟨fun x => ?_, fun x y z p q => ?_, fun x y z p q => ?_⟩
    · exact decide_eq_false (irrefl _ (xmem x))
    · exact decide_eq_true (trans _ (xmem x) _ (xmem y) _ (xmem z) (of_decide_eq_true p) (of_decide_eq_true q))
    · exact decide_eq_false (ntrans _ (xmem x) _ (xmem y) _ (xmem z) (of_decide_eq_false p) (of_decide_eq_false q))
  let d0 : Array (Fin (m' + 1)) := Array.ofFn fun i => i
  have hd0 : d0.size = m' + 1 := Array.size_ofFn
  have hd0g : ∀ (i : Nat) (hi : i < m' + 1), d0[i]! = ⟨i, hi⟩ := fun i hi => by
    rw [getElem!_pos d0 i (by rw [hd0]; exact hi)]
    simp [d0]
  have hH : HoldsK enc k E.w (E.κ n) off d0 := by
    intro j hj
    rw [size_flatK, hd0] at hj
    have hq : j / k < m' + 1 := Nat.div_lt_of_lt_mul (by rw [Nat.mul_comm]; exact hj)
    rw [get_flatK _ _ _ _ (by rw [hd0]; exact hj), hd0g _ hq]
    have hr : j % k < k := Nat.mod_lt _ hkpos
    have hjk : (j / k) * k + j % k = j := by rw [Nat.mul_comm]; exact Nat.div_add_mod j k
    have hlt : off + j < cs.size := by omega
    refine ⟨?_, ?_⟩
    · rw [cell_of_row _ _ _ _ _ _ hgo]
      have := encg ⟨j / k, hq⟩ (j % k) hr
      simp only at this
      rw [getElem!_def, this]
      have e1 : off + j / k * k + j % k = off + j := by omega
      rw [e1]
      simp [hlt]
    · unfold World.frozen?
      simp only [hgo]
      simp
  have hother : ∀ (q : Nat) (dk : Array (Fin (m' + 1))) (os : Array Obj) (i : Nat), i ≠ E.κ n → i < E.w.heap.size → (sortWorldK enc k E.w (E.κ n) off q dk os).heap[i]? = E.w.heap[i]? := fun q dk os i hi hil => by
    unfold sortWorldK Sort.grow putRowK Sort.putRow Sort.mapBlock Sort.ahead
    simp only
    rw [Array.getElem?_append_left (by simpa using hil), Array.getElem?_modify, if_neg (fun e => hi e.symm)]
  have hsize : ∀ (q : Nat) (dk : Array (Fin (m' + 1))) (os : Array Obj), E.w.heap.size ≤ (sortWorldK enc k E.w (E.κ n) off q dk os).heap.size := fun q dk os => size_sortWorldK_c enc k E.w (E.κ n) off q dk os
  have hsame : ∀ (q : Nat) (dk : Array (Fin (m' + 1))) (os : Array Obj) (b o : Nat), E.S b o → Same E.w (sortWorldK enc k E.w (E.κ n) off q dk os) b o := fun q dk os b o hso =>
    Same.of_block (hother q dk os b (fun e => hB.free o (e ▸ hso)) (h.lt b o hso))
  have hC : CmpLays P g cb enc k c (E.κ n) off d0.size E.w := fun q os dk _ x y => by
    have repx : ∀ z : Fin (m' + 1), Rep E.S (sortWorldK enc k E.w (E.κ n) off q dk os) (.agg (enc z).toArray) (xe z) := fun z => by
      refine .agg _ _ (by have := xlen z; simp only [List.size_toArray, henc]; exact this.symm) (fun t ht => ?_) (fun i v t hvi ht => ?_)
      · exact ones t (List.mem_of_mem_drop (List.mem_of_mem_take ht))
      · have hik : i < k := by have := (List.getElem?_eq_some_iff.1 ht).1; have h2 := xlen z; rw [← h2]; exact this
        rw [List.getElem?_toArray, encg z i hik] at hvi
        have := xcell z i hik
        rw [show (xe z).cells[i]? = some t from ht] at this
        exact (hh _ v t hvi this.symm).1.mono (fun _ _ h => h) (hsame q dk os)
    have hG : GlobOk E.S (sortWorldK enc k E.w (E.κ n) off q dk os) := fun g' cs' hg' => by
      obtain ⟨k1, v, k2⟩ := h.globE g' cs' hg'
      refine ⟨Nat.lt_of_lt_of_le k1 (hsize q dk os), v, fun i t ht => ?_⟩
      obtain ⟨j1, j2, j3, j4, j5⟩ := k2 i t ht
      exact ⟨(hsame q dk os _ _ j2).cell.trans j1, j2, j3, j4, j5.of_flat j4⟩
    have hdc := (hcmp _ (xmem x) _ (xmem y)).2 E.S (sortWorldK enc k E.w (E.κ n) off q dk os) (.agg (enc x).toArray :: .agg (enc y).toArray :: cb.toList) (fun b o hso => Nat.lt_of_lt_of_le (h.lt b o hso) (hsize q dk os)) hG (by simp [hcl]) (fun i v t hvi ht => by
      match i, hvi, ht with
      | 0, hvi, ht => simp at hvi ht; subst hvi; subst ht; exact repx x
      | 1, hvi, ht => simp at hvi ht; subst hvi; subst ht; exact repx y
      | i + 2, hvi, ht => simp at hvi ht; exact (hcr i v t (by simpa using hvi) ht).mono (fun _ _ h => h) (hsame q dk os))
    have e1 : ((.agg (enc x).toArray :: .agg (enc y).toArray :: cb.toList : List Value)).toArray = #[.agg (enc x).toArray, .agg (enc y).toArray] ++ cb := by
      apply Array.ext'
      simp
    rw [e1] at hdc
    refine hdc.mono ?_
    rintro e' w' ⟨v, rfl, hbw, hrv⟩
    obtain ⟨q', os', hw'⟩ := below_grow hbw
    exact ⟨by rw [hrv.inv_int], q', os', hw'⟩
  have hcall := hs.some_ m' enc c g cb (E.κ n) off cap d0 E.w henc h1 hO hg hC hH hB.lt (by rw [hd0]; exact hlen)
  rw [hd0, ← hsl, ← hfv, ← hvs] at hcall
  refine hcall.mono ?_
  rintro e' w' ⟨rfl, d', q, os, ⟨hps, _, hperm⟩, hsorted, rfl⟩
  have hds : d'.size = m' + 1 := by rw [hps, hd0]
  -- the sorted elements
  let ys : List T := d'.toList.map xe
  have hys : ys.length = m' + 1 := by simp [ys, hds]
  have hp0 : (d0.toList.map xe) = xs := by
    apply List.ext_getElem?
    intro i
    by_cases hi : i < m' + 1
    · rw [List.getElem?_map, Array.getElem?_toList]
      have : d0[i]? = some ⟨i, hi⟩ := by simp [d0, hi]
      rw [this]
      exact (xget ⟨i, hi⟩).symm
    · rw [List.getElem?_eq_none (by simp [hd0]; omega), List.getElem?_eq_none (by omega)]
  have hperm' : ys.Perm xs := by
    have e1 : d'.extract 0 (m' + 1) = d' := Array.extract_eq_self_of_le (by omega)
    have e2 : d0.extract 0 (m' + 1) = d0 := Array.extract_eq_self_of_le (by omega)
    rw [e1, e2] at hperm
    rw [← hp0]
    exact hperm.map xe
  have hpw : ys.Pairwise (fun x y => ¬ cf y x < 0) := by
    rw [List.pairwise_iff_getElem]
    intro i j hi hj hij
    have hi' : i < d'.size := by rw [hds]; rw [hys] at hi; exact hi
    have hj' : j < d'.size := by rw [hds]; rw [hys] at hj; exact hj
    have := hsorted i j (Nat.zero_le _) hij (by rw [← hds]; exact hj')
    rw [getElem!_pos d' i hi', getElem!_pos d' j hj'] at this
    have := of_decide_eq_false this
    simpa [ys, c] using this
  have hyu : ∀ x ∈ ys, x.cells.length = k := fun x hx => hxu x (hperm'.mem_iff.1 hx)
  have hyf : (ys.flatMap T.cells).length = (m' + 1) * k := by
    have := flat_len hyu
    rw [this, hys]
  -- the cells of the world behind
  let cs' : Array Value := Sort.putCells id off (flatK enc k d') cs
  have hcs' : cs'.size = cs.size := by simp [cs', Sort.putCells]
  have hw1 : (sortWorldK enc k E.w (E.κ n) off q d' os).heap[E.κ n]? = some (.cells cs' e (0, 0)) := by
    unfold sortWorldK Sort.grow putRowK Sort.putRow Sort.mapBlock Sort.ahead
    simp only
    rw [Array.getElem?_append_left (by simpa using hB.lt), Array.getElem?_modify, if_pos rfl, hgo]
    rfl
  have hwrite := h.write hb rfl cs' (.d m (putL ts off ((m' + 1) * k) (ys.flatMap T.cells))) fun E' gr => by
    refine .d m _ (by rw [putL_len _ _ _ _ hyf (by omega)]; exact hl) (by rw [hcs']; exact hszc) (fun j v w hv' hw => ?_)
    rw [putL_get _ _ _ _ hyf (by omega)] at hw
    have hjc : j < cs.size := by rw [← hcs']; exact (Array.getElem?_eq_some_iff.1 hv').1
    have hcj : cs'[j]? = some (if off ≤ j ∧ j < off + (m' + 1) * k then (flatK enc k d')[j - off]! else cs[j]) := by
      simp only [cs', Sort.putCells, Array.getElem?_mapIdx, Array.getElem?_eq_getElem hjc, size_flatK, hds, Option.map_some, id]
    rw [hcj] at hv'
    by_cases g1 : j < off
    · rw [if_pos g1] at hw
      rw [if_neg (by omega)] at hv'
      have := hh j v w (by rw [Array.getElem?_eq_getElem hjc]; exact hv') hw
      exact ⟨gr.rep this.1, this.2⟩
    · rw [if_neg g1] at hw
      by_cases g2 : j < off + (m' + 1) * k
      · rw [if_pos g2] at hw
        rw [if_pos (by omega)] at hv'
        have hjo : j - off < (m' + 1) * k := by omega
        have hq2 : (j - off) / k < m' + 1 := Nat.div_lt_of_lt_mul (by rw [Nat.mul_comm]; exact hjo)
        have hr2 : (j - off) % k < k := Nat.mod_lt _ hkpos
        rw [get_flatK _ _ _ _ (by rw [hds]; exact hjo), getElem!_pos d' _ (by rw [hds]; exact hq2)] at hv'
        rw [flatMap_get hyu _ hkpos (by rw [hys]; exact hjo)] at hw
        have hyg : ys[(j - off) / k]? = some (xe (d'[(j - off) / k]'(by rw [hds]; exact hq2))) := by
          simp [ys, hds, hq2]
        rw [hyg] at hw
        generalize (d'[(j - off) / k]'(by rw [hds]; exact hq2)) = z at hw hv'
        have hz := hidx z
        rw [Option.bind_some, xcell z _ hr2] at hw
        have hlz : off + z.val * k + (j - off) % k < cs.size := by omega
        rw [getElem!_def, encg z _ hr2, Array.getElem?_eq_getElem hlz] at hv'
        have := hh _ v w (by rw [Array.getElem?_eq_getElem hlz]; exact hv') hw
        exact ⟨gr.rep this.1, this.2⟩
      · rw [if_neg g2] at hw
        rw [if_neg (by omega)] at hv'
        have := hh j v w (by rw [Array.getElem?_eq_getElem hjc]; exact hv') hw
        exact ⟨gr.rep this.1, this.2⟩
  have hsetw : (E.w.setRow (E.κ n) cs').heap.size = E.w.heap.size := by simp [World.setRow]
  have hbel : Below ({ E with w := E.w.setRow (E.κ n) cs' } : Env).w.heap.size ({ E with w := E.w.setRow (E.κ n) cs' } : Env).w (sortWorldK enc k E.w (E.κ n) off q d' os) := by
    refine Below.of rfl rfl rfl (by rw [hsetw]; exact hsize q d' os) (fun i hi => ?_) ?_
    · have hi : i < E.w.heap.size := by rw [← hsetw]; exact hi
      by_cases hin : i = E.κ n
      · subst hin
        rw [hw1]
        exact (setRow_heap E.w (E.κ n) cs cs' e (0, 0) hgo).symm
      · rw [hother q d' os i hin hi]
        show _ = (E.w.heap.modify (E.κ n) _)[i]?
        rw [Array.getElem?_modify, if_neg (fun e => hin e.symm)]
    · show E.w.drawn ≤ E.w.drawn + q
      omega
  have h' := hwrite.world hbel E.S (fun b o => ⟨.inl, fun hh => hh.elim id fun k => k.1⟩)
  exact ⟨_, rfl, _, _, rfl, hk ys hperm' hpw, set_put h' hd (.t _ _ (.tup #[] [] rfl fun i x t hx => by simp at hx))⟩
end
section
variable {P : Program} {N : Nat} {w0 : World} {S0 : Base} {a : Act} {E : Env} {st : St}
theorem SortsK.of {ρ : Ren} (L : SlLaysF0.n6 P ρ) (k : Nat) (aE : ∀ w, (isAgg (ρ.t 24)).run P w = .ok true w) (zE : ∀ w, (Go.sizeOf (ρ.t 24)).run P w = .ok k w) (hc : Callable P (ρ.f 6)) : SortsK P (ρ.f 6) k :=
  ⟨hc, fun _ enc cf g cb blk off cap d w hk h1 hO eg hcmp hH hblk hsz => AnyQ.slices_SortFunc L k aE zE enc hk h1 cf hO g cb blk off cap d w eg hcmp hH hblk hsz, fun p cap fv w => AnyF.slices_SortFunc_none L p cap fv w⟩
end
section
variable [Glb] {P : Program} {N : Nat} {w0 : World} {S0 : Base} {a : Act} {E : Env} {st : St}
end
end Go.DL
end
section
namespace Go.DL
open Go.RowKit
section
variable [Glb] {P : Program} {X : List FuncId} {N : Nat} {w0 : World} {S0 : Base} {E : Env} {st : St}
inductive Names (p : Nat → Prop) : V → Prop
  | top : Names p .top
  | t (x : T) : Names p (.t x)
  | ptr (n off : Nat) (h : p n) : Names p (.ptr n off)
  | view (n off len size : Nat) (h : p n) : Names p (.view n off len size)
  | own (r : Nat) (e : TypeId) (size : Nat) (xs : List T) : Names p (.own r e size xs)
  | full (size : Nat) (xs : List T) : Names p (.full size xs)
  | fn (f : FuncId) (caps : List V) (h : ∀ c ∈ caps, Names p c) : Names p (.fn f caps)
  | tup (vs : List V) (h : ∀ c ∈ vs, Names p c) : Names p (.tup vs)
  | agv (vs : List V) (h : ∀ c ∈ vs, Names p c) : Names p (.agv vs)
  | raw (v : Value) : Names p (.raw v)
  | mp (n : Nat) (h : p n) : Names p (.mp n)
end
section
variable {P : Program} {X : List FuncId} {N : Nat} {w0 : World} {S0 : Base} {E : Env} {st : St}
theorem Names.imp {p q : Nat → Prop} (hpq : ∀ n, p n → q n) {u : V} (h : Names p u) : Names q u := by
  induction h with
  | top => exact .top
  | t x => exact .t x
  | ptr n off h => exact .ptr n off (hpq n h)
  | view n off len size h => exact .view n off len size (hpq n h)
  | own r e size xs => exact .own r e size xs
  | full size xs => exact .full size xs
  | fn f caps _ ih => exact .fn f caps ih
  | tup vs _ ih => exact .tup vs ih
  | agv vs _ ih => exact .agv vs ih
  | raw v => exact .raw v
  | mp n h => exact .mp n (hpq n h)
end
section
variable [Glb] {P : Program} {X : List FuncId} {N : Nat} {w0 : World} {S0 : Base} {E : Env} {st : St}
def NamesB (p : Nat → Prop) : BX → Prop
  | .v vs => ∀ c ∈ vs, Names p c
  | .it m _ _ _ => p m
  | _ => True
end
section
variable {P : Program} {X : List FuncId} {N : Nat} {w0 : World} {S0 : Base} {E : Env} {st : St}
theorem NamesB.imp {p q : Nat → Prop} (hpq : ∀ n, p n → q n) {b : BX} (h : NamesB p b) : NamesB q b := by
  cases b with
  | v vs => exact fun c hc => (h c hc).imp hpq
  | it m bs c ix => exact hpq m h
  | d n ts => trivial
  | m ag sh es mb => trivial
  | itd es ix => trivial
theorem VR.names {v : Value} {u : V} (h : VR E v u) : Names (fun n => E.live n = true) u := by
  induction h with
  | top v => exact .top
  | t v x h => exact .t x
  | ptr n off h => exact .ptr n off h
  | view n off len size cap h hc => exact .view n off len size h
  | own v r e size xs h => exact .own r e size xs
  | full a len size xs h => exact .full size xs
  | fn f cs vs hs _ ih =>
    refine .fn f vs fun c hc => ?_
    obtain ⟨i, hi⟩ := List.mem_iff_getElem?.1 hc
    have hlt : i < cs.size := by rw [hs]; exact (List.getElem?_eq_some_iff.1 hi).1
    exact ih i _ c (Array.getElem?_eq_getElem hlt) hi
  | raw v h1 => exact .raw v
  | mp n h => exact .mp n h
  | agv cs vs hs _ _ ih =>
    refine .agv vs fun c hc => ?_
    obtain ⟨i, hi⟩ := List.mem_iff_getElem?.1 hc
    have hlt : i < cs.size := by rw [hs]; exact (List.getElem?_eq_some_iff.1 hi).1
    exact ih i _ c (Array.getElem?_eq_getElem hlt) hi
  | tup cs vs hs _ ih =>
    refine .tup vs fun c hc => ?_
    obtain ⟨i, hi⟩ := List.mem_iff_getElem?.1 hc
    have hlt : i < cs.size := by rw [hs]; exact (List.getElem?_eq_some_iff.1 hi).1
    exact ih i _ c (Array.getElem?_eq_getElem hlt) hi
theorem BoxR.names {g : Nat} {b : BX} (h : BoxR E g b) : NamesB (fun n => E.live n = true) b := by
  obtain ⟨o, _, ho⟩ := h.at_
  cases ho with
  | cells cs e _ hc =>
    cases hc with
    | d => trivial
    | v vs hs hh =>
      intro c hc
      obtain ⟨i, hi⟩ := List.mem_iff_getElem?.1 hc
      have hlt : i < cs.size := by have := (List.getElem?_eq_some_iff.1 hi).1; omega
      exact (hh i _ c (Array.getElem?_eq_getElem hlt) hi).1.names
  | map => trivial
  | it m bs c ix hl => exact hl
  | itd => trivial
theorem VR.sub {v : Value} {u : V} (h : VR E v u) {lv : Nat → Bool} (hn : Names (fun n => lv n = true) u) : VR { E with live := lv } v u := by
  induction h with
  | top v => exact .top v
  | t v x h => exact .t v x h
  | ptr n off h => cases hn with | ptr _ _ hl => exact VR.ptr (E := { E with live := lv }) n off hl
  | view n off len size cap h hc => cases hn with | view _ _ _ _ hl => exact VR.view (E := { E with live := lv }) n off len size cap hl hc
  | own v r e size xs h => exact .own v r e size xs ⟨h.ex, h.uni, h.one, h.row⟩
  | full a len size xs h => exact .full a len size xs h
  | fn f cs vs hs _ ih => cases hn with | fn _ _ hc => exact .fn f cs vs hs fun i x u hx hu => ih i x u hx hu (hc u (List.mem_of_getElem? hu))
  | raw v h1 => exact .raw v h1
  | mp n h => cases hn with | mp _ hl => exact VR.mp (E := { E with live := lv }) n hl
  | agv cs vs hs h1 _ ih => cases hn with | agv _ hc => exact .agv cs vs hs h1 fun i x u hx hu => ih i x u hx hu (hc u (List.mem_of_getElem? hu))
  | tup cs vs hs _ ih => cases hn with | tup _ hc => exact .tup cs vs hs fun i x u hx hu => ih i x u hx hu (hc u (List.mem_of_getElem? hu))
end
section
variable [Glb] {P : Program} {X : List FuncId} {N : Nat} {w0 : World} {S0 : Base} {E : Env} {st : St}
theorem SR.drop {a : Array Value} (h : SR N w0 S0 E st a) (fr : List Nat) {lv : Nat → Bool} (hlv : ∀ n, lv n = (E.live n && !fr.contains n)) (hsl : ∀ m, Names (fun n => lv n = true) (st.sl m)) (hgh : ∀ k m, Names (fun n => lv n = true) (st.gh k m))
    (hbx : ∀ n b, lv n = true → st.bx n = some b → NamesB (fun n => lv n = true) b) : SR N w0 S0 { E with live := lv } { st with bx := fun n => if fr.contains n then none else st.bx n } a := by
  have le : ∀ n, lv n = true → E.live n = true ∧ fr.contains n = false := fun n hn => by
    rw [hlv, Bool.and_eq_true] at hn
    exact ⟨hn.1, by simpa using hn.2⟩
  refine ⟨h.size, h.base, h.glob, fun m => (h.sl m).sub (hsl m), fun k m => (h.gh k m).sub (hgh k m), fun n b hb => ?_, fun n => ?_, fun n m hn hm he => h.inj n m (le n hn).1 (le m hm).1 he, fun r g hr => ?_, h.rinj, h.lt, h.below, h.s0, h.s1, h.obj, h.cx⟩
  · have hb : (if fr.contains n then none else st.bx n) = some b := hb
    split at hb
    · cases hb
    · rename_i hc
      have hln : lv n = true := by
        rw [hlv, h.live, hb]
        simpa using hc
      have hB := h.bx n b hb
      obtain ⟨o, h1, h2⟩ := hB.at_
      refine ⟨hB.old, hB.free, o, h1, ?_⟩
      have hN := hbx n b hln hb
      cases h2 with
      | cells cs e _ hcr =>
        refine .cells cs e _ ?_
        cases hcr with
        | d n ts hl hs hh => exact .d n ts hl hs hh
        | v vs hs hh => exact .v vs hs fun i x u hx hu => ⟨(hh i x u hx hu).1.sub (hN u (List.mem_of_getElem? hu)), (hh i x u hx hu).2⟩
      | map arr clock ag sh es mb hm => exact .map arr clock ag sh es mb ⟨hm.size, hm.at_, hm.lt, hm.apart, hm.mb⟩
      | it m bs c ix hl => exact ObjR.it (E := { E with live := lv }) m bs c ix hN
      | itd g arr c ag sh es ix hg hS hR => exact ObjR.itd (E := { E with live := lv }) g arr c ag sh es ix hg hS ⟨hR.size, hR.at_, hR.lt, hR.apart, hR.mb⟩
  · show lv n = (if fr.contains n then none else st.bx n).isSome
    rw [hlv, h.live]
    cases fr.contains n <;> simp
  · obtain ⟨k1, k2, k3⟩ := h.rows r g hr
    exact ⟨k1, k2, fun n hn => k3 n (le n hn).1⟩
structure Ended (st : St) (d : Option Nat) (fr : List Nat) (m : Nat) (b : BX) (r : T) (s : St) : Prop where
  sl : s.sl = (st.set d (.t r)).sl
  gh : s.gh = st.gh
  off : s.off = st.off
  cx : s.cx = st.cx
  at_ : s.bx m = some b
  else_ : ∀ n, n ≠ m → ¬ n ∈ fr → s.bx n = st.bx n
theorem MC_of (hm : P.follows .mixedOrders = true) {f : FuncId} {fn : Func} {dc : DCode} {N' : Nat} {rs : List ResultVar} (hf : P.funcs[f]? = some fn) (hl : (fn.body.bind (lowC P N' X)) = some dc) (hN : fn.ntmps = N') (hn : (fn.name == "runtime.NumGoroutine") = false)
    (hr : fn.results.toList = rs) {us : List V} (off : Nat) (ha : us.length ≤ N') {need : List (Nat × BX)} {fr : List Nat} {m : Nat} {b : BX} {r : T} (hb : ∀ p, NamesB p b) (hmf : ¬ m ∈ fr)
    (hw : ∀ (st : St) (d : Option Nat), (∀ p ∈ need, st.bx p.1 = some p.2) → (∀ n ∈ fr, st.bx n = none) → wpC P dc (st.enter us off) (PostV rs st d (Ended st d fr m b r))) : MC P f us need fr m b r := by
  intro d st K hneed hfr hK
  have hWC := WC_inl hm hf hl hN hn hr off ha (hw st d hneed hfr)
  refine ⟨hWC.1, fun N w0 S0 E a vs h hlen hv hd => (hWC.2 N w0 S0 E a vs h hlen hv hd).mono ?_⟩
  rintro e w' ⟨v, rfl, E', s, rfl, he, hsr⟩
  have up : ∀ n, E.live n = true → (E'.live n && !fr.contains n) = true := fun n hn => by
    rw [h.live] at hn
    have hnf : ¬ n ∈ fr := fun hh => by rw [hfr n hh] at hn; cases hn
    have h2 : (s.bx n).isSome = true := by
      by_cases hnm : n = m
      · rw [hnm, he.at_]; rfl
      · rw [he.else_ n hnm hnf]; exact hn
    rw [hsr.live, h2]
    simpa using hnf
  have hd1 := hsr.drop fr (lv := fun n => E'.live n && !fr.contains n) (fun n => rfl) (fun k => by
      rw [he.sl]
      cases d with
      | none => exact (h.sl k).names.imp up
      | some q =>
        show Names _ (upd st.sl q (.t r) k)
        by_cases hk : k = q
        · rw [hk, upd_same]; exact .t r
        · rw [upd_other _ _ _ _ hk]; exact (h.sl k).names.imp up) (fun k q => by rw [he.gh]; exact (h.gh k q).names.imp up) (fun n b1 hln hb1 => by
      simp only [Bool.and_eq_true, Bool.not_eq_true'] at hln
      by_cases hnm : n = m
      · rw [hnm, he.at_] at hb1
        cases hb1
        exact hb _
      · rw [he.else_ n hnm (by simpa using hln.2)] at hb1
        exact (h.bx n b1 hb1).names.imp up)
  refine ⟨v, rfl, { E' with live := fun n => E'.live n && !fr.contains n }, _, rfl, hK, ?_⟩
  have hst : ({ s with bx := fun n => if fr.contains n then none else s.bx n } : St) = (({ st with bx := upd st.bx m (some b) } : St).set d (.t r)) := by
    refine St.ext' (by show s.sl = _; rw [he.sl]; cases d <;> rfl) ?_ (by show s.gh = _; rw [he.gh]; cases d <;> rfl) (by show s.off = _; rw [he.off]; cases d <;> rfl) (by show s.cx = _; rw [he.cx]; cases d <;> rfl)
    have : (({ st with bx := upd st.bx m (some b) } : St).set d (.t r)).bx = upd st.bx m (some b) := by cases d <;> rfl
    rw [this]
    funext n
    show (if fr.contains n then none else s.bx n) = _
    by_cases hnm : n = m
    · subst hnm
      rw [upd_same, he.at_, if_neg (by simpa using hmf)]
    · rw [upd_other _ _ _ _ hnm]
      by_cases hnf : n ∈ fr
      · rw [if_pos (by simpa using hnf), hfr n hnf]
      · rw [if_neg (by simpa using hnf), he.else_ n hnm hnf]
  rw [← hst]
  exact hd1
end
end Go.DL
end
section
namespace Go.RC
open Go Go.DL Go.Proofs
theorem mixed : Tryd.prog.follows .mixedOrders = true := by kernel_rfl
def kons : List Int := [1116352408, 1899447441, 3049323471, 3921009573, 961987163, 1508970993, 2453635748, 2870763221, 3624381080, 310598401, 607225278, 1426881987, 1925078388, 2162078206, 2614888103, 3248222580, 3835390401, 4022224774, 264347078, 604807628, 770255983, 1249150122, 1555081692, 1996064986, 2554220882, 2821834349, 2952996808, 3210313671, 3336571891, 3584528711, 113926993, 338241895, 666307205, 773529912, 1294757372, 1396182291, 1695183700, 1986661051, 2177026350, 2456956037, 2730485921, 2820302411, 3259730800, 3345764771, 3516065817, 3600352804, 4094571909, 275423344, 430227734, 506948616, 659060556, 883997877, 958139571, 1322822218, 1537002063, 1747873779, 1955562222, 2024104815, 2227730452, 2361852424, 2428436474, 2756734187, 3204031479, 3329325298]
abbrev I (n : Int) : T := .int .i64 n
abbrev W (n : Int) : T := .int .u32 n
abbrev Y (n : Int) : T := .int .u8 n
abbrev Q (n : Int) : T := .int .u64 n
instance : Glb := ⟨fun g => match g with | 0 => some (kons.map W) | _ => none⟩
theorem w32 {n : Int} (h0 : 0 ≤ n) (h1 : n < 4294967296) : IntKind.wrap .u32 n = n := by
  unfold IntKind.wrap; simp [IntKind.bits, IntKind.signed]; omega
theorem w8 {n : Int} (h0 : 0 ≤ n) (h1 : n < 256) : IntKind.wrap .u8 n = n := by
  unfold IntKind.wrap; simp [IntKind.bits, IntKind.signed]; omega
theorem w64 {n : Int} (h0 : 0 ≤ n) (h1 : n < 18446744073709551616) : IntKind.wrap .u64 n = n := by
  unfold IntKind.wrap; simp [IntKind.bits, IntKind.signed]; omega
theorem mget {f : Int → T} {ws : List Int} {k : Nat} {d : T} (h : k < ws.length) : (ws.map f)[k]?.getD d = f (ws.getD k 0) := by
  simp [List.getD_eq_getElem?_getD, h]
theorem mgetk {f : Int → T} {ws : List Int} {k' : Nat} {d : T} (k : Nat) (e : k' = k) (h : k < ws.length) : (ws.map f)[k']?.getD d = f (ws.getD k 0) := by
  rw [e]; exact mget h
theorem mset {f : Int → T} {ws : List Int} {k : Nat} {x : Int} : (ws.map f).set k (f x) = (ws.set k x).map f := by
  rw [List.map_set]
theorem putL_all {cs vs : List T} {n : Nat} (h : cs.length = n) : putL cs 0 n vs = vs := by
  simp [putL, ← h]
theorem mones {f : Int → T} (hf : ∀ n, (f n).one = true) (ws : List Int) : ∀ t ∈ ws.map f, t.one = true := fun t ht => by
  obtain ⟨n, _, rfl⟩ := List.mem_map.1 ht
  exact hf n
theorem chunk1 {f : Int → T} : ∀ (ws : List Int) (n : Nat), ws.length = n → chunk 1 n (ws.map f) = ws.map f
  | [], 0, _ => rfl
  | x :: ws, n + 1, h => by
    show f x :: chunk 1 n (ws.map f) = f x :: ws.map f
    rw [chunk1 ws n (by simpa using h)]
  | x :: ws, 0, h => by simp at h
  | [], n + 1, h => by simp at h
end Go.RC
end
section
namespace Go.RC
open Go Go.DL Go.Proofs Go.RowKit
set_option maxRecDepth 100000
def types : List TypeId := [23, 25, 3, 4, 5]
theorem cells3 : Tryd.prog.cellsOf 3 = 1 := by kernel_rfl
theorem cells23 : Tryd.prog.cellsOf 23 = 10 := by kernel_rfl
theorem hasInt {us : List T} (h : HasC Tryd.prog 3 us) : ∃ n, us = [I n] ∧ (Lit.int .i64 n).wf = true := by
  cases h with
  | int h n hw => rw [Tryd.underlying3] at h; cases h; exact ⟨n, rfl, hw⟩
  | bool h | str h | nil h | slice h | struct h | array h => rw [Tryd.underlying3] at h; cases h
theorem hasInts {t : TypeId} {m : Nat} (ht : Tryd.prog.underlying t = some (.array m 3)) (hc : Tryd.prog.cellsOf t = m) {us : List T} (h : HasC Tryd.prog t us) :
    ∃ x : List Int, us = x.map I ∧ x.length = m ∧ ∀ n ∈ x, (Lit.int .i64 n).wf = true := by
  cases h with
  | array h us hl hf =>
    rw [ht] at h
    cases h
    rw [hc] at hl
    have key : ∀ i, i < m → ∃ n, us[i]? = some (I n) ∧ (Lit.int .i64 n).wf = true := fun i hi => by
      obtain ⟨n, e, w⟩ := hasInt (hf i hi)
      rw [cells3, Nat.mul_one, List.take_one] at e
      refine ⟨n, ?_, w⟩
      have : (us.drop i).head? = us[i]? := by rw [List.head?_drop]
      rw [this] at e
      cases hx : us[i]? with
      | none => rw [hx] at e; cases e
      | some x => rw [hx] at e; cases e; rfl
    refine ⟨us.map fun t => match t with | .int _ n => n | _ => 0, ?_, by simpa using hl, fun n hn => ?_⟩
    · refine List.ext_getElem? fun i => ?_
      rcases Nat.lt_or_ge i m with hi | hi
      · obtain ⟨n, e, _⟩ := key i hi
        rw [e]
        simp [e]
      · rw [List.getElem?_eq_none (by omega), List.getElem?_eq_none (by simp; omega)]
    · obtain ⟨t, ht, rfl⟩ := List.mem_map.1 hn
      obtain ⟨i, hi⟩ := List.mem_iff_getElem?.1 ht
      obtain ⟨n, e, w⟩ := key i (by have := (List.getElem?_eq_some_iff.1 hi).1; omega)
      rw [e] at hi
      cases hi
      exact w
  | int h | bool h | str h | nil h | slice h | struct h => rw [ht] at h; cases h
theorem aHead {us : List T} (h : HasC Tryd.prog 23 us) : ∃ x : List Int, mkT Tryd.prog 23 us = .agg (x.map I) ∧ x.length = 10 ∧ ∀ n ∈ x, (Lit.int .i64 n).wf = true := by
  obtain ⟨x, rfl, hx, hw⟩ := hasInts Tryd.underlying23 cells23 h
  exact ⟨x, by unfold mkT; rw [Tryd.underlying23], hx, hw⟩
theorem g_hash : Tryd.prog.globalNamed "interlace/hash.constants" = some 0 := by kernel_rfl
theorem g_hashType : (Tryd.prog.globals[0]?).map (·.type) = some 149 := by kernel_rfl
theorem cells149 : Tryd.prog.cellsOf 149 = 64 := by kernel_rfl
theorem cells117 : Tryd.prog.cellsOf 117 = 1 := by kernel_rfl
end Go.RC
end
section
namespace Go.RC
open Go Go.DL Go.Proofs
set_option maxRecDepth 100000
set_option maxHeartbeats 8000000
def rr (x : Int) (n : Nat) : Int := bitsI .or .u32 (x.fdiv (2 ^ n)) (IntKind.u32.wrap (x * 2 ^ (32 - n)))
theorem or_comm (k : IntKind) (a b : Int) : bitsI .or k a b = bitsI .or k b a := by
  unfold bitsI
  simp only [BitVec.or_comm]
theorem rot_s : ∀ n : Fin 32, 0 < n.val → bitsI .and .u64 (IntKind.u64.wrap (-(n.val : Int))) 31 = 32 - n.val ∧ IntKind.u64.wrap (32 - (32 - (n.val : Int))) = n.val := by decide
theorem t_Rotl (x : Int) (n : Nat) (h0 : 0 < n) (h1 : n < 32) : DCalls Tryd.prog 119 [W x, I (-(n : Int))] (W (rr x n)) := by
  obtain ⟨e1, e2⟩ := rot_s ⟨n, h1⟩ h0
  dsimp only at e1 e2
  refine dcalls_low (rs := [.tmp 4]) mixed Tryd.func119 l119 rfl rfl rfl (r := [W _]) (Nat.le_of_ble_eq_true rfl) ?_
  repeat' ((conv => whnf); first | exact trivial | refine nT_ ?_ | refine aE1 ?_ | refine aE0 ?_ | refine aN1 ?_ | refine aN0 ?_ | refine aD1 ?_ | refine aD0 ?_ | refine nE_ (fun hq => ?_) (fun hq => ?_) | refine nN_ (fun hq => ?_) (fun hq => ?_) | refine nD_ (fun hq => ?_) (fun hq => ?_) | refine rb1 ?_ | refine rb0 ?_ | refine rbx ?_ | refine rix ?_ | (refine And.intro (by first | ((rw [e1]; omega); done) | ((rw [e1, e2]; omega); done) | fail) ?_) | refine aS ?_ | refine ri ?_ trivial | fail)
  rw [e1, e2, or_comm]
  have e3 : ((32 : Int) - n).toNat = 32 - n := by omega
  simp only [e3, Int.toNat_natCast, IntKind.bits]
  rw [Nat.min_eq_left (by omega), Nat.min_eq_left (by omega)]
  rfl
end Go.RC
end
section
namespace Go.RC
open Go Go.DL Go.Proofs
set_option maxRecDepth 100000
set_option maxHeartbeats 600000
def xo (a b : Int) : Int := bitsI .xor .u32 a b
def an (a b : Int) : Int := bitsI .and .u32 a b
def ad (a b : Int) : Int := IntKind.u32.wrap (a + b)
def mx (x : Int) (i j k : Nat) : Int := xo (xo (rr x i) (rr x j)) (rr x k)
theorem t_Rotn (x : Int) (n : Nat) (h0 : 0 < n) (h1 : n < 32) : DCalls Tryd.prog 119 [W x, I (IntKind.i64.wrap (0 - (n : Int)))] (W (rr x n)) := by
  rw [wrap_id (by omega) (by omega), Int.zero_sub]
  exact t_Rotl x n h0 h1
theorem t_mix (x : Int) (i j k : Nat) (h : (0 < i ∧ i < 32) ∧ (0 < j ∧ j < 32) ∧ (0 < k ∧ k < 32)) : DCalls Tryd.prog 104 [W x, I i, I j, I k] (W (mx x i j k)) := by
  obtain ⟨⟨h1, h2⟩, ⟨h3, h4⟩, ⟨h5, h6⟩⟩ := h
  refine dcalls_low (rs := [.tmp 8]) mixed Tryd.func104 l104 rfl rfl rfl (r := [W _]) (Nat.le_of_ble_eq_true rfl) ?_
  repeat' ((conv => whnf); first | exact trivial | refine k_call _ (t_Rotn x i h1 h2) ?_ | refine k_call _ (t_Rotn x j h3 h4) ?_ | refine k_call _ (t_Rotn x k h5 h6) ?_ | refine nT_ ?_ | refine aE1 ?_ | refine aE0 ?_ | refine aN1 ?_ | refine aN0 ?_ | refine aD1 ?_ | refine aD0 ?_ | refine nE_ (fun hq => ?_) (fun hq => ?_) | refine nN_ (fun hq => ?_) (fun hq => ?_) | refine nD_ (fun hq => ?_) (fun hq => ?_) | refine rb1 ?_ | refine rb0 ?_ | refine rbx ?_ | refine rix ?_ | refine aS ?_ | fail)
def sb (w b : Int) : Int := bitsI .or .u32 (IntKind.u32.wrap (w * 2 ^ 8)) (IntKind.u32.wrap b)
def s0 (x : Int) : Int := xo (xo (rr x 7) (rr x 18)) (x.fdiv (2 ^ 3))
def s1 (x : Int) : Int := xo (xo (rr x 17) (rr x 19)) (x.fdiv (2 ^ 10))
def nxt (ws : List Int) (t : Nat) : Int := ad (ad (ad (ws.getD (t - 16) 0) (s0 (ws.getD (t - 15) 0))) (ws.getD (t - 7) 0)) (s1 (ws.getD (t - 2) 0))
def SCH (bs : List Int) : Nat → List Int
  | 0 => List.replicate 64 0
  | t + 1 => (SCH bs t).set t (if t < 16 then ((bs.drop (4 * t)).take 4).foldl sb ((SCH bs t).getD t 0) else nxt (SCH bs t) t)
theorem SCH_len (bs : List Int) : ∀ t, (SCH bs t).length = 64
  | 0 => rfl
  | t + 1 => by unfold SCH; rw [List.length_set, SCH_len bs t]
theorem set_self {ws : List Int} {t : Nat} (h : t < ws.length) : ws.set t (ws.getD t 0) = ws := by
  rw [List.getD_eq_getElem?_getD, List.getElem?_eq_getElem h, Option.getD_some, List.set_getElem_self]
theorem getD_set_self {ws : List Int} {t : Nat} {x : Int} (h : t < ws.length) : (ws.set t x).getD t 0 = x := by
  simp [List.getD_eq_getElem?_getD, h]
abbrev z64 : List T := List.replicate 64 (W 0)
attribute [irreducible] SCH
attribute [local irreducible] rr
theorem SCH_s (bs : List Int) (t : Nat) (h : t < 16) : SCH bs (t + 1) = (SCH bs t).set t (((bs.drop (4 * t)).take 4).foldl sb ((SCH bs t).getD t 0)) := by
  conv => lhs; unfold SCH
  rw [if_pos h]
theorem SCH_n (bs : List Int) (t : Nat) (h : ¬ t < 16) : SCH bs (t + 1) = (SCH bs t).set t (nxt (SCH bs t) t) := by
  conv => lhs; unfold SCH
  rw [if_neg h]
theorem foldl_take (l : List Int) (w : Int) (j : Nat) (h : j < l.length) : (l.take (j + 1)).foldl sb w = sb ((l.take j).foldl sb w) (l.getD j 0) := by
  rw [List.take_succ_eq_append_getElem h, List.foldl_append, List.getD_eq_getElem?_getD, List.getElem?_eq_getElem h]
  rfl
theorem t_schedule (bs : List Int) (hb : bs.length = 64) : DCalls Tryd.prog 103 [.slice 1 (bs.map Y)] (.agg ((SCH bs 64).map W)) := by
  refine dcalls_low (rs := [.cell 2 149]) mixed Tryd.func103 l103 rfl rfl rfl (r := [.agg _]) (Nat.le_of_ble_eq_true rfl) ?_
  repeat' ((conv => whnf); first | exact trivial | refine nT_ ?_ | refine aE1 ?_ | refine aE0 ?_ | refine aN1 ?_ | refine aN0 ?_ | refine aD1 ?_ | refine aD0 ?_ | refine nE_ (fun hq => ?_) (fun hq => ?_) | refine nN_ (fun hq => ?_) (fun hq => ?_) | refine nD_ (fun hq => ?_) (fun hq => ?_) | refine rb1 ?_ | refine rb0 ?_ | refine rbx ?_ | refine rix ?_ | refine aS ?_ | fail)
  refine wpC_loop (α := Nat) (fun t => {sl := [(0, .t (.slice 1 (bs.map Y))), (2, .ptr 2 0), (3, .ptr 3 0), (11, .t (I t))], bx := [(2, .d 64 z64), (3, .d 64 ((SCH bs t).map W))]})
    (fun t => t ≤ 64) (fun t => 64 - t) 0 (by omega) ?_ ?_
  · repeat' (first | exact trivial | exact LeV.same _ | exact LeB.same _ | exact rfl | exact fun _ _ _ => trivial | exact lI | exact LeV.nil _ _ _ | exact lB | refine leBd ?_ | refine leOwn ?_ | refine And.intro ?_ ?_)
    unfold SCH
    rfl
  intro t ht
  have hl := SCH_len bs t
  rcases Nat.lt_or_ge t 64 with h | h
  · by_cases h16 : t < 16
    · have hS := SCH_s bs t h16
      generalize SCH bs t = ws at hl hS
      generalize he : (bs.drop (4 * t)).take 4 = es at hS
      have hel : es.length = 4 := by rw [← he]; simp; omega
      repeat' ((conv => whnf); first | exact trivial | (refine nv_ (.slice 1 (es.map Y)) (by first | ((rw [← he]; simp (disch := omega) only [wrap_id, w32, w8, w64]; rw [← List.map_take, ← List.map_drop]; congr 2; simp only [List.drop_take]; congr 1 <;> omega); done) | fail) ?_) | refine nT_ ?_ | refine aE1 ?_ | refine aE0 ?_ | refine aN1 ?_ | refine aN0 ?_ | refine aD1 ?_ | refine aD0 ?_ | refine nE_ (fun hq => ?_) (fun hq => ?_) | refine nN_ (fun hq => ?_) (fun hq => ?_) | refine nD_ (fun hq => ?_) (fun hq => ?_) | refine rb1 ?_ | refine rb0 ?_ | refine rbx ?_ | refine rix ?_ | (refine And.intro (by first | ((simp (disch := omega) only [wrap_id, w32, w8, w64]; simp; omega); done) | fail) ?_) | refine aS ?_ | fail)
      refine wpC_loopE 2 (α := Nat) (β := Unit) (fun j => {sl := [(0, .t (.slice 1 (bs.map Y))), (2, .ptr 2 0), (3, .ptr 3 0), (4, .t (I t)), (11, .t (I t)), (22, .t (.slice 1 (es.map Y))), (23, .t (I 4)), (24, .t (I j))], bx := [(2, .d 64 z64), (3, .d 64 ((ws.set t ((es.take j).foldl sb (ws.getD t 0))).map W))]})
        (fun j => j ≤ 4) (fun j => 4 - j) (fun _ => {sl := [(0, .t (.slice 1 (bs.map Y))), (2, .ptr 2 0), (3, .ptr 3 0), (11, .t (I t))], bx := [(2, .d 64 z64), (3, .d 64 ((SCH bs (t + 1)).map W))]}) (fun _ => True) 0 (by omega) ?_ ?_ ?_
      · repeat' (first | (exact leI (by simp [hel])) | exact trivial | exact LeV.same _ | exact LeB.same _ | exact rfl | exact fun _ _ _ => trivial | exact lI | exact LeV.nil _ _ _ | exact lB | refine leBd ?_ | refine leOwn ?_ | refine And.intro ?_ ?_)
        simp only [List.take_zero, List.foldl_nil]
        rw [set_self (by omega)]
      · intro j hj
        rcases Nat.lt_or_ge j 4 with h4 | h4
        · have hf := foldl_take es (ws.getD t 0) j (by omega)
          have hsl : (ws.set t ((es.take j).foldl sb (ws.getD t 0))).length = 64 := by simp [hl]
          generalize hcur : ws.set t ((es.take j).foldl sb (ws.getD t 0)) = cur at hsl
          have hg : cur.getD t 0 = (es.take j).foldl sb (ws.getD t 0) := by rw [← hcur]; exact getD_set_self (by omega)
          repeat' ((conv => whnf); first | exact trivial | (refine nv_ (Y (es.getD j 0)) (by first | ((simp [List.getD_eq_getElem?_getD, hel, h4]); done) | fail) ?_) | (refine nv_ (W (cur.getD t 0)) (by first | ((simp only [Int.toNat_natCast, Nat.zero_add, Nat.mul_one]; exact mget (by omega)); done) | fail) ?_) | refine nT_ ?_ | refine aE1 ?_ | refine aE0 ?_ | refine aN1 ?_ | refine aN0 ?_ | refine aD1 ?_ | refine aD0 ?_ | refine nE_ (fun hq => ?_) (fun hq => ?_) | refine nN_ (fun hq => ?_) (fun hq => ?_) | refine nD_ (fun hq => ?_) (fun hq => ?_) | refine rb1 ?_ | refine rb0 ?_ | refine rbx ?_ | refine rix ?_ | (refine And.intro (by first | ((simp [hel]; omega); done) | fail) ?_) | refine aS ?_ | fail)
          refine ⟨j + 1, by omega, by omega, ?_⟩
          repeat' (first | exact trivial | exact LeV.same _ | exact LeB.same _ | exact rfl | exact fun _ _ _ => trivial | exact lI | exact LeV.nil _ _ _ | exact lB | refine leBd ?_ | refine leOwn ?_ | refine And.intro ?_ ?_)
          rw [hf, ← hg, show ws.set t (sb (cur.getD t 0) (es.getD j 0)) = cur.set t (sb (cur.getD t 0) (es.getD j 0)) by rw [← hcur, List.set_set], ← mset]
          simp only [Int.toNat_natCast, Nat.zero_add, Nat.mul_one]
          rfl
        · have : j = 4 := by omega
          subst this
          rw [List.take_of_length_le (by omega), ← hS]
          repeat' ((conv => whnf); first | exact trivial | refine nT_ ?_ | refine aE1 ?_ | refine aE0 ?_ | refine aN1 ?_ | refine aN0 ?_ | refine aD1 ?_ | refine aD0 ?_ | refine nE_ (fun hq => ?_) (fun hq => ?_) | refine nN_ (fun hq => ?_) (fun hq => ?_) | refine nD_ (fun hq => ?_) (fun hq => ?_) | refine rb1 ?_ | refine rb0 ?_ | refine rbx ?_ | refine rix ?_ | refine aS ?_ | fail)
          exact ⟨(), trivial, by repeat' (first | exact trivial | exact LeV.same _ | exact LeB.same _ | exact rfl | exact fun _ _ _ => trivial | exact lI | exact LeV.nil _ _ _ | exact lB | refine leBd ?_ | refine leOwn ?_ | refine And.intro ?_ ?_)⟩
      · rintro - -
        repeat' ((conv => whnf); first | exact trivial | refine nT_ ?_ | refine aE1 ?_ | refine aE0 ?_ | refine aN1 ?_ | refine aN0 ?_ | refine aD1 ?_ | refine aD0 ?_ | refine nE_ (fun hq => ?_) (fun hq => ?_) | refine nN_ (fun hq => ?_) (fun hq => ?_) | refine nD_ (fun hq => ?_) (fun hq => ?_) | refine rb1 ?_ | refine rb0 ?_ | refine rbx ?_ | refine rix ?_ | refine aS ?_ | fail)
        refine ⟨t + 1, by omega, by omega, ?_⟩
        repeat' (first | exact trivial | exact LeV.same _ | exact LeB.same _ | exact rfl | exact fun _ _ _ => trivial | exact lI | exact LeV.nil _ _ _ | exact lB | refine leBd ?_ | refine leOwn ?_ | refine And.intro ?_ ?_)
    · have hS := SCH_n bs t h16
      generalize SCH bs t = ws at hl hS
      repeat' ((conv => whnf); first | exact trivial | (refine nv_ (W (ws.getD (t - 15) 0)) (by first | (exact mgetk (t - 15) (by simp (disch := omega) only [wrap_id, w32, w8, w64]; omega) (by omega); done) | fail) ?_) | (refine nv_ (W (ws.getD (t - 2) 0)) (by first | (exact mgetk (t - 2) (by simp (disch := omega) only [wrap_id, w32, w8, w64]; omega) (by omega); done) | fail) ?_) | (refine nv_ (W (ws.getD (t - 16) 0)) (by first | (exact mgetk (t - 16) (by simp (disch := omega) only [wrap_id, w32, w8, w64]; omega) (by omega); done) | fail) ?_) | (refine nv_ (W (ws.getD (t - 7) 0)) (by first | (exact mgetk (t - 7) (by simp (disch := omega) only [wrap_id, w32, w8, w64]; omega) (by omega); done) | fail) ?_) | refine k_call _ (t_Rotl (ws.getD (t - 15) 0) 7 (by omega) (by omega)) ?_ | refine k_call _ (t_Rotl (ws.getD (t - 15) 0) 18 (by omega) (by omega)) ?_ | refine k_call _ (t_Rotl (ws.getD (t - 2) 0) 17 (by omega) (by omega)) ?_ | refine k_call _ (t_Rotl (ws.getD (t - 2) 0) 19 (by omega) (by omega)) ?_ | refine nT_ ?_ | refine aE1 ?_ | refine aE0 ?_ | refine aN1 ?_ | refine aN0 ?_ | refine aD1 ?_ | refine aD0 ?_ | refine nE_ (fun hq => ?_) (fun hq => ?_) | refine nN_ (fun hq => ?_) (fun hq => ?_) | refine nD_ (fun hq => ?_) (fun hq => ?_) | refine rb1 ?_ | refine rb0 ?_ | refine rbx ?_ | refine rix ?_ | (refine And.intro (by first | ((simp (disch := omega) only [wrap_id, w32, w8, w64]; omega); done) | fail) ?_) | refine aS ?_ | fail)
      refine ⟨t + 1, by omega, by omega, ?_⟩
      repeat' (first | exact trivial | exact LeV.same _ | exact LeB.same _ | exact rfl | exact fun _ _ _ => trivial | exact lI | exact LeV.nil _ _ _ | exact lB | refine leBd ?_ | refine leOwn ?_ | refine And.intro ?_ ?_)
      rw [hS, ← mset]
      simp only [Int.toNat_natCast, Nat.zero_add, Nat.mul_one]
      rfl
  · have : t = 64 := by omega
    subst this
    generalize SCH bs 64 = ws at hl
    repeat' ((conv => whnf); first | exact trivial | refine nT_ ?_ | refine aE1 ?_ | refine aE0 ?_ | refine aN1 ?_ | refine aN0 ?_ | refine aD1 ?_ | refine aD0 ?_ | refine nE_ (fun hq => ?_) (fun hq => ?_) | refine nN_ (fun hq => ?_) (fun hq => ?_) | refine nD_ (fun hq => ?_) (fun hq => ?_) | refine rb1 ?_ | refine rb0 ?_ | refine rbx ?_ | refine rix ?_ | (refine And.intro (by first | (exact ⟨by first | (simp; done) | simpa using hl, by decide⟩; done) | (first | (simp; done) | simpa using hl; done) | fail) ?_) | refine aS ?_ | refine rt ?_ trivial | fail)
    exact congrArg T.agg (putL_all rfl)
def wd (bs : List Int) (t : Nat) : Int := bitsI .or .u32 (bitsI .or .u32 (bitsI .or .u32 (IntKind.u32.wrap (IntKind.u32.wrap (bs.getD (4 * t) 0) * 2 ^ 24)) (IntKind.u32.wrap (IntKind.u32.wrap (bs.getD (4 * t + 1) 0) * 2 ^ 16))) (IntKind.u32.wrap (IntKind.u32.wrap (bs.getD (4 * t + 2) 0) * 2 ^ 8))) (IntKind.u32.wrap (bs.getD (4 * t + 3) 0))
def SC2 (bs : List Int) : Nat → List Int
  | 0 => List.replicate 64 0
  | t + 1 => (SC2 bs t).set t (if t < 16 then wd bs t else nxt (SC2 bs t) t)
attribute [irreducible] SC2
end Go.RC
end
section
namespace Go.RC
open Go Go.DL Go.Proofs
set_option maxRecDepth 100000
set_option maxHeartbeats 1000000
attribute [local irreducible] rr
def nt (a : Int) : Int := bitsI .xor .u32 (if IntKind.signed .u32 = true then -1 else IntKind.max .u32) a
structure V8 where
  (a b c d e f g h : Int)
def V8.list (v : V8) : List Int := [v.a, v.b, v.c, v.d, v.e, v.f, v.g, v.h]
abbrev V8.lo (v : V8) : List Int := [v.a, v.b, v.c, v.d]
abbrev V8.hi (v : V8) : List Int := [v.e, v.f, v.g, v.h]
def xx (v : V8) (k w : Int) : Int := ad (ad (ad (ad v.h (mx v.e 6 11 25)) (xo (an v.e v.f) (an (nt v.e) v.g))) k) w
def yy (v : V8) : Int := ad (mx v.a 2 13 22) (xo (xo (an v.a v.b) (an v.a v.c)) (an v.b v.c))
def V8.step (v : V8) (k w : Int) : V8 := ⟨ad (xx v k w) (yy v), v.a, v.b, v.c, ad v.d (xx v k w), v.e, v.f, v.g⟩
def RN (v : V8) (ws : List Int) : Nat → V8
  | 0 => v
  | t + 1 => (RN v ws t).step (kons.getD t 0) (ws.getD t 0)
def FI (s lo hi : List Int) : Nat → List Int
  | 0 => s
  | i + 1 => ((FI s lo hi i).set i (ad ((FI s lo hi i).getD i 0) (lo.getD i 0))).set (i + 4) (ad (((FI s lo hi i).set i (ad ((FI s lo hi i).getD i 0) (lo.getD i 0))).getD (i + 4) 0) (hi.getD i 0))
theorem FI_len (s lo hi : List Int) : ∀ i, (FI s lo hi i).length = s.length
  | 0 => rfl
  | i + 1 => by unfold FI; simp [FI_len s lo hi i]
def cpr (s : V8) (bs : List Int) : V8 := let v := RN s (SCH bs 64) 64; ⟨ad s.a v.a, ad s.b v.b, ad s.c v.c, ad s.d v.d, ad s.e v.e, ad s.f v.f, ad s.g v.g, ad s.h v.h⟩
theorem FI_4 (s v : V8) : FI s.list v.lo v.hi 4 = [ad s.a v.a, ad s.b v.b, ad s.c v.c, ad s.d v.d, ad s.e v.e, ad s.f v.f, ad s.g v.g, ad s.h v.h] := rfl
attribute [local irreducible] RN
theorem t_compress (s : V8) (bs : List Int) (hb : bs.length = 64) : DCalls Tryd.prog 92 [.agg (s.list.map W), .slice 1 (bs.map Y)] (.agg ((cpr s bs).list.map W)) := by
  refine dcalls_low (rs := [.cell 4 118]) mixed Tryd.func92 l92 rfl rfl rfl (r := [.agg _]) (Nat.le_of_ble_eq_true rfl) ?_
  have hc := t_schedule bs hb
  have hwl := SCH_len bs 64
  unfold cpr
  generalize SCH bs 64 = ws at hc hwl
  repeat' ((conv => whnf); first | exact trivial | refine k_call _ (hc) ?_ | refine nT_ ?_ | refine aE1 ?_ | refine aE0 ?_ | refine aN1 ?_ | refine aN0 ?_ | refine aD1 ?_ | refine aD0 ?_ | refine nE_ (fun hq => ?_) (fun hq => ?_) | refine nN_ (fun hq => ?_) (fun hq => ?_) | refine nD_ (fun hq => ?_) (fun hq => ?_) | refine rb1 ?_ | refine rb0 ?_ | refine rbx ?_ | refine rix ?_ | (refine And.intro (by first | (exact ⟨by first | (simp; done) | simpa using hwl, by decide⟩; done) | fail) ?_) | refine aS ?_ | fail)
  refine wpC_loopE 0 (α := Nat) (β := Unit) (fun t => {sl := [(2, .ptr 2 0), (4, .ptr 4 0), (5, .ptr 5 0), (6, .ptr 6 0), (7, .ptr 7 0), (21, .t (.agg (kons.map W))), (22, .t (I t))], bx := [(2, .d 8 (s.list.map W)), (4, .d 8 (List.replicate 8 (W 0))), (5, .d 64 (ws.map W)), (6, .d 4 ((RN s ws t).lo.map W)), (7, .d 4 ((RN s ws t).hi.map W))]})
    (fun t => t ≤ 64) (fun t => 64 - t) (fun _ => {sl := [(2, .ptr 2 0), (4, .ptr 4 0), (6, .ptr 6 0), (7, .ptr 7 0)], bx := [(2, .d 8 (s.list.map W)), (4, .d 8 (List.replicate 8 (W 0))), (6, .d 4 ((RN s ws 64).lo.map W)), (7, .d 4 ((RN s ws 64).hi.map W))]}) (fun _ => True) 0 (by omega) ?_ ?_ ?_
  · repeat' (first | exact trivial | exact LeV.same _ | exact LeB.same _ | exact rfl | exact fun _ _ _ => trivial | exact lI | exact LeV.nil _ _ _ | exact lB | refine leBd ?_ | refine leOwn ?_ | refine And.intro ?_ ?_)
    · exact (putL_all rfl).symm
    · unfold RN; rfl
    · unfold RN; rfl
  · intro t ht
    rcases Nat.lt_or_ge t 64 with h | h
    · have hS : RN s ws (t + 1) = (RN s ws t).step (kons.getD t 0) (ws.getD t 0) := by conv => lhs; unfold RN
      generalize RN s ws t = v at hS
      generalize hkk : kons = kk
      have hkl : kk.length = 64 := by rw [← hkk]; rfl
      rw [hkk] at hS
      repeat' ((conv => whnf); first | exact trivial | (refine nv_ (W (kk.getD t 0)) (by first | (exact mgetk t (by omega) (by omega); done) | fail) ?_) | (refine nv_ (W (ws.getD t 0)) (by first | (exact mgetk t (by omega) (by omega); done) | fail) ?_) | refine k_call _ (t_mix v.e 6 11 25 (by decide)) ?_ | refine k_call _ (t_mix v.a 2 13 22 (by decide)) ?_ | refine nT_ ?_ | refine aE1 ?_ | refine aE0 ?_ | refine aN1 ?_ | refine aN0 ?_ | refine aD1 ?_ | refine aD0 ?_ | refine nE_ (fun hq => ?_) (fun hq => ?_) | refine nN_ (fun hq => ?_) (fun hq => ?_) | refine nD_ (fun hq => ?_) (fun hq => ?_) | refine rb1 ?_ | refine rb0 ?_ | refine rbx ?_ | refine rix ?_ | (refine And.intro (by first | ((simp [hkl]; omega); done) | ((omega); done) | fail) ?_) | refine aS ?_ | fail)
      refine ⟨t + 1, by omega, by omega, ?_⟩
      repeat' (first | exact trivial | exact LeV.same _ | exact LeB.same _ | exact rfl | exact fun _ _ _ => trivial | exact lI | exact LeV.nil _ _ _ | exact lB | refine leBd ?_ | refine leOwn ?_ | refine And.intro ?_ ?_)
      · rw [hS]; rfl
      · rw [hS]; rfl
    · have : t = 64 := by omega
      subst this
      repeat' ((conv => whnf); first | exact trivial | refine nT_ ?_ | refine aE1 ?_ | refine aE0 ?_ | refine aN1 ?_ | refine aN0 ?_ | refine aD1 ?_ | refine aD0 ?_ | refine nE_ (fun hq => ?_) (fun hq => ?_) | refine nN_ (fun hq => ?_) (fun hq => ?_) | refine nD_ (fun hq => ?_) (fun hq => ?_) | refine rb1 ?_ | refine rb0 ?_ | refine rbx ?_ | refine rix ?_ | refine aS ?_ | fail)
      exact ⟨(), trivial, by repeat' (first | exact trivial | exact LeV.same _ | exact LeB.same _ | exact rfl | exact fun _ _ _ => trivial | exact lI | exact LeV.nil _ _ _ | exact lB | refine leBd ?_ | refine leOwn ?_ | refine And.intro ?_ ?_)⟩
  rintro - -
  generalize RN s ws 64 = v
  repeat' ((conv => whnf); first | exact trivial | refine nT_ ?_ | refine aE1 ?_ | refine aE0 ?_ | refine aN1 ?_ | refine aN0 ?_ | refine aD1 ?_ | refine aD0 ?_ | refine nE_ (fun hq => ?_) (fun hq => ?_) | refine nN_ (fun hq => ?_) (fun hq => ?_) | refine nD_ (fun hq => ?_) (fun hq => ?_) | refine rb1 ?_ | refine rb0 ?_ | refine rbx ?_ | refine rix ?_ | refine aS ?_ | fail)
  refine wpC_loopE 2 (α := Nat) (β := Unit) (fun i => {sl := [(2, .ptr 2 0), (4, .ptr 4 0), (6, .ptr 6 0), (7, .ptr 7 0), (94, .t (I i))], bx := [(2, .d 8 ((FI s.list v.lo v.hi i).map W)), (4, .d 8 (List.replicate 8 (W 0))), (6, .d 4 (v.lo.map W)), (7, .d 4 (v.hi.map W))]})
    (fun i => i ≤ 4) (fun i => 4 - i) (fun _ => {sl := [(2, .ptr 2 0), (4, .ptr 4 0)], bx := [(2, .d 8 ((FI s.list v.lo v.hi 4).map W)), (4, .d 8 (List.replicate 8 (W 0)))]}) (fun _ => True) 0 (by omega) ?_ ?_ ?_
  · repeat' (first | exact trivial | exact LeV.same _ | exact LeB.same _ | exact rfl | exact fun _ _ _ => trivial | exact lI | exact LeV.nil _ _ _ | exact lB | refine leBd ?_ | refine leOwn ?_ | refine And.intro ?_ ?_)
  · intro i hi
    have hl : (FI s.list v.lo v.hi i).length = 8 := FI_len _ _ _ i
    rcases Nat.lt_or_ge i 4 with h | h
    · have hS : FI s.list v.lo v.hi (i + 1) = ((FI s.list v.lo v.hi i).set i (ad ((FI s.list v.lo v.hi i).getD i 0) (v.lo.getD i 0))).set (i + 4) (ad (((FI s.list v.lo v.hi i).set i (ad ((FI s.list v.lo v.hi i).getD i 0) (v.lo.getD i 0))).getD (i + 4) 0) (v.hi.getD i 0)) := rfl
      generalize FI s.list v.lo v.hi i = cur at hl hS
      have hlo : v.lo.length = 4 := rfl
      have hhi : v.hi.length = 4 := rfl
      generalize v.lo = lo at hlo hS
      generalize v.hi = hh at hhi hS
      generalize hcur : cur.set i (ad (cur.getD i 0) (lo.getD i 0)) = cur2 at hS
      have hl2 : cur2.length = 8 := by rw [← hcur]; simpa using hl
      have e2 : (cur.map W).set (0 + (↑i : Int).toNat * 1) (W (ad (cur.getD i 0) (lo.getD i 0))) = cur2.map W := by
        rw [mset, ← hcur]; simp
      repeat' ((conv => whnf); first | exact trivial | (refine nv_ (W (cur.getD i 0)) (by first | (exact mgetk i (by omega) (by omega); done) | fail) ?_) | (refine nv_ (W (lo.getD i 0)) (by first | (exact mgetk i (by omega) (by omega); done) | fail) ?_) | (refine nv_ (W (hh.getD i 0)) (by first | (exact mgetk i (by omega) (by omega); done) | fail) ?_) | (refine nv_ (W (cur2.getD (i + 4) 0)) (by first | ((refine (congrArg (fun l : List T => l[_]?.getD _) e2).trans ?_; exact mgetk (i + 4) (by simp (disch := omega) only [wrap_id, w32, w8, w64]; omega) (by omega)); done) | fail) ?_) | refine nT_ ?_ | refine aE1 ?_ | refine aE0 ?_ | refine aN1 ?_ | refine aN0 ?_ | refine aD1 ?_ | refine aD0 ?_ | refine nE_ (fun hq => ?_) (fun hq => ?_) | refine nN_ (fun hq => ?_) (fun hq => ?_) | refine nD_ (fun hq => ?_) (fun hq => ?_) | refine rb1 ?_ | refine rb0 ?_ | refine rbx ?_ | refine rix ?_ | (refine And.intro (by first | ((simp (disch := omega) only [wrap_id, w32, w8, w64]; omega); done) | fail) ?_) | refine aS ?_ | fail)
      refine ⟨i + 1, by omega, by omega, ?_⟩
      repeat' (first | exact trivial | exact LeV.same _ | exact LeB.same _ | exact rfl | exact fun _ _ _ => trivial | exact lI | exact LeV.nil _ _ _ | exact lB | refine leBd ?_ | refine leOwn ?_ | refine And.intro ?_ ?_)
      rw [hS]
      have e3 : 0 + (IntKind.i64.wrap ((i : Int) + 4)).toNat * 1 = i + 4 := by simp (disch := omega) only [wrap_id, w32, w8, w64]; omega
      show _ = List.set (List.set (cur.map W) (0 + (↑i : Int).toNat * 1) (W (ad (cur.getD i 0) (lo.getD i 0)))) (0 + (IntKind.i64.wrap (↑i + 4)).toNat * 1) (W (ad (cur2.getD (i + 4) 0) (hh.getD i 0)))
      rw [e2, e3, mset]
    · have : i = 4 := by omega
      subst this
      repeat' ((conv => whnf); first | exact trivial | refine nT_ ?_ | refine aE1 ?_ | refine aE0 ?_ | refine aN1 ?_ | refine aN0 ?_ | refine aD1 ?_ | refine aD0 ?_ | refine nE_ (fun hq => ?_) (fun hq => ?_) | refine nN_ (fun hq => ?_) (fun hq => ?_) | refine nD_ (fun hq => ?_) (fun hq => ?_) | refine rb1 ?_ | refine rb0 ?_ | refine rbx ?_ | refine rix ?_ | refine aS ?_ | fail)
      exact ⟨(), trivial, by repeat' (first | exact trivial | exact LeV.same _ | exact LeB.same _ | exact rfl | exact fun _ _ _ => trivial | exact lI | exact LeV.nil _ _ _ | exact lB | refine leBd ?_ | refine leOwn ?_ | refine And.intro ?_ ?_)⟩
  rintro - -
  rw [FI_4]
  repeat' ((conv => whnf); first | exact trivial | refine nT_ ?_ | refine aE1 ?_ | refine aE0 ?_ | refine aN1 ?_ | refine aN0 ?_ | refine aD1 ?_ | refine aD0 ?_ | refine nE_ (fun hq => ?_) (fun hq => ?_) | refine nN_ (fun hq => ?_) (fun hq => ?_) | refine nD_ (fun hq => ?_) (fun hq => ?_) | refine rb1 ?_ | refine rb0 ?_ | refine rbx ?_ | refine rix ?_ | refine aS ?_ | refine rt ?_ trivial | fail)
end Go.RC
end
