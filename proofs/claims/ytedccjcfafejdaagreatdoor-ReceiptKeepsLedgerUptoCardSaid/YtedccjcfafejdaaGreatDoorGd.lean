/- Joined by program: parts of a data level over the model, of the program's functions over it, and of the statement's proof. -/
import Derived.Test.YtedccjcfafejdaaGreatDoorGc
import Derived.Stop.LaidErr
section
namespace Go.DL
open Go.RowKit
section
variable [Glb] {P : Program} {X : List FuncId} {N : Nat} {w0 : World} {S0 : Base} {E : Env} {st : St}
inductive Names (p : Nat → Prop) : V → Prop
  | top : Names p .top
  | t (x : T) : Names p (.t x)
  | ptr (n off : Nat) (h : p n) : Names p (.ptr n off)
  | view (n off len size : Nat) (h : p n) : Names p (.view n off len size)
  | own (r : Nat) (e : TypeId) (size : Nat) (xs : List T) : Names p (.own r e size xs)
  | full (size : Nat) (xs : List T) : Names p (.full size xs)
  | fn (f : FuncId) (caps : List V) (h : ∀ c ∈ caps, Names p c) : Names p (.fn f caps)
  | tup (vs : List V) (h : ∀ c ∈ vs, Names p c) : Names p (.tup vs)
  | agv (vs : List V) (h : ∀ c ∈ vs, Names p c) : Names p (.agv vs)
  | raw (v : Value) : Names p (.raw v)
  | mp (n : Nat) (h : p n) : Names p (.mp n)
end
section
variable {P : Program} {X : List FuncId} {N : Nat} {w0 : World} {S0 : Base} {E : Env} {st : St}
theorem Names.imp {p q : Nat → Prop} (hpq : ∀ n, p n → q n) {u : V} (h : Names p u) : Names q u := by
  induction h with
  | top => exact .top
  | t x => exact .t x
  | ptr n off h => exact .ptr n off (hpq n h)
  | view n off len size h => exact .view n off len size (hpq n h)
  | own r e size xs => exact .own r e size xs
  | full size xs => exact .full size xs
  | fn f caps _ ih => exact .fn f caps ih
  | tup vs _ ih => exact .tup vs ih
  | agv vs _ ih => exact .agv vs ih
  | raw v => exact .raw v
  | mp n h => exact .mp n (hpq n h)
end
section
variable [Glb] {P : Program} {X : List FuncId} {N : Nat} {w0 : World} {S0 : Base} {E : Env} {st : St}
def NamesB (p : Nat → Prop) : BX → Prop
  | .v vs => ∀ c ∈ vs, Names p c
  | .it m _ _ _ => p m
  | _ => True
end
section
variable {P : Program} {X : List FuncId} {N : Nat} {w0 : World} {S0 : Base} {E : Env} {st : St}
theorem NamesB.imp {p q : Nat → Prop} (hpq : ∀ n, p n → q n) {b : BX} (h : NamesB p b) : NamesB q b := by
  cases b with
  | v vs => exact fun c hc => (h c hc).imp hpq
  | it m bs c ix => exact hpq m h
  | d n ts => trivial
  | m ag sh es mb => trivial
  | itd es ix => trivial
theorem VR.names {v : Value} {u : V} (h : VR E v u) : Names (fun n => E.live n = true) u := by
  induction h with
  | top v => exact .top
  | t v x h => exact .t x
  | ptr n off h => exact .ptr n off h
  | view n off len size cap h hc => exact .view n off len size h
  | own v r e size xs h => exact .own r e size xs
  | full a len size xs h => exact .full size xs
  | fn f cs vs hs _ ih =>
    refine .fn f vs fun c hc => ?_
    obtain ⟨i, hi⟩ := List.mem_iff_getElem?.1 hc
    have hlt : i < cs.size := by rw [hs]; exact (List.getElem?_eq_some_iff.1 hi).1
    exact ih i _ c (Array.getElem?_eq_getElem hlt) hi
  | raw v h1 => exact .raw v
  | mp n h => exact .mp n h
  | agv cs vs hs _ _ ih =>
    refine .agv vs fun c hc => ?_
    obtain ⟨i, hi⟩ := List.mem_iff_getElem?.1 hc
    have hlt : i < cs.size := by rw [hs]; exact (List.getElem?_eq_some_iff.1 hi).1
    exact ih i _ c (Array.getElem?_eq_getElem hlt) hi
  | tup cs vs hs _ ih =>
    refine .tup vs fun c hc => ?_
    obtain ⟨i, hi⟩ := List.mem_iff_getElem?.1 hc
    have hlt : i < cs.size := by rw [hs]; exact (List.getElem?_eq_some_iff.1 hi).1
    exact ih i _ c (Array.getElem?_eq_getElem hlt) hi
theorem BoxR.names {g : Nat} {b : BX} (h : BoxR E g b) : NamesB (fun n => E.live n = true) b := by
  obtain ⟨o, _, ho⟩ := h.at_
  cases ho with
  | cells cs e _ hc =>
    cases hc with
    | d => trivial
    | v vs hs hh =>
      intro c hc
      obtain ⟨i, hi⟩ := List.mem_iff_getElem?.1 hc
      have hlt : i < cs.size := by have := (List.getElem?_eq_some_iff.1 hi).1; omega
      exact (hh i _ c (Array.getElem?_eq_getElem hlt) hi).1.names
  | map => trivial
  | it m bs c ix hl => exact hl
  | itd => trivial
theorem VR.sub {v : Value} {u : V} (h : VR E v u) {lv : Nat → Bool} (hn : Names (fun n => lv n = true) u) : VR { E with live := lv } v u := by
  induction h with
  | top v => exact .top v
  | t v x h => exact .t v x h
  | ptr n off h => cases hn with | ptr _ _ hl => exact VR.ptr (E := { E with live := lv }) n off hl
  | view n off len size cap h hc => cases hn with | view _ _ _ _ hl => exact VR.view (E := { E with live := lv }) n off len size cap hl hc
  | own v r e size xs h => exact .own v r e size xs ⟨h.ex, h.uni, h.one, h.row⟩
  | full a len size xs h => exact .full a len size xs h
  | fn f cs vs hs _ ih => cases hn with | fn _ _ hc => exact .fn f cs vs hs fun i x u hx hu => ih i x u hx hu (hc u (List.mem_of_getElem? hu))
  | raw v h1 => exact .raw v h1
  | mp n h => cases hn with | mp _ hl => exact VR.mp (E := { E with live := lv }) n hl
  | agv cs vs hs h1 _ ih => cases hn with | agv _ hc => exact .agv cs vs hs h1 fun i x u hx hu => ih i x u hx hu (hc u (List.mem_of_getElem? hu))
  | tup cs vs hs _ ih => cases hn with | tup _ hc => exact .tup cs vs hs fun i x u hx hu => ih i x u hx hu (hc u (List.mem_of_getElem? hu))
end
section
variable [Glb] {P : Program} {X : List FuncId} {N : Nat} {w0 : World} {S0 : Base} {E : Env} {st : St}
theorem SR.drop {a : Array Value} (h : SR N w0 S0 E st a) (fr : List Nat) {lv : Nat → Bool} (hlv : ∀ n, lv n = (E.live n && !fr.contains n)) (hsl : ∀ m, Names (fun n => lv n = true) (st.sl m)) (hgh : ∀ k m, Names (fun n => lv n = true) (st.gh k m))
    (hbx : ∀ n b, lv n = true → st.bx n = some b → NamesB (fun n => lv n = true) b) : SR N w0 S0 { E with live := lv } { st with bx := fun n => if fr.contains n then none else st.bx n } a := by
  have le : ∀ n, lv n = true → E.live n = true ∧ fr.contains n = false := fun n hn => by
    rw [hlv, Bool.and_eq_true] at hn
    exact ⟨hn.1, by simpa using hn.2⟩
  refine ⟨h.size, h.base, h.glob, fun m => (h.sl m).sub (hsl m), fun k m => (h.gh k m).sub (hgh k m), fun n b hb => ?_, fun n => ?_, fun n m hn hm he => h.inj n m (le n hn).1 (le m hm).1 he, fun r g hr => ?_, h.rinj, h.lt, h.below, h.s0, h.s1, h.obj, h.cx⟩
  · have hb : (if fr.contains n then none else st.bx n) = some b := hb
    split at hb
    · cases hb
    · rename_i hc
      have hln : lv n = true := by
        rw [hlv, h.live, hb]
        simpa using hc
      have hB := h.bx n b hb
      obtain ⟨o, h1, h2⟩ := hB.at_
      refine ⟨hB.old, hB.free, o, h1, ?_⟩
      have hN := hbx n b hln hb
      cases h2 with
      | cells cs e _ hcr =>
        refine .cells cs e _ ?_
        cases hcr with
        | d n ts hl hs hh => exact .d n ts hl hs hh
        | v vs hs hh => exact .v vs hs fun i x u hx hu => ⟨(hh i x u hx hu).1.sub (hN u (List.mem_of_getElem? hu)), (hh i x u hx hu).2⟩
      | map arr clock ag sh es mb hm => exact .map arr clock ag sh es mb ⟨hm.size, hm.at_, hm.lt, hm.apart, hm.mb⟩
      | it m bs c ix hl => exact ObjR.it (E := { E with live := lv }) m bs c ix hN
      | itd g arr c ag sh es ix hg hS hR => exact ObjR.itd (E := { E with live := lv }) g arr c ag sh es ix hg hS ⟨hR.size, hR.at_, hR.lt, hR.apart, hR.mb⟩
  · show lv n = (if fr.contains n then none else st.bx n).isSome
    rw [hlv, h.live]
    cases fr.contains n <;> simp
  · obtain ⟨k1, k2, k3⟩ := h.rows r g hr
    exact ⟨k1, k2, fun n hn => k3 n (le n hn).1⟩
structure Ended (st : St) (d : Option Nat) (fr : List Nat) (m : Nat) (b : BX) (r : T) (s : St) : Prop where
  sl : s.sl = (st.set d (.t r)).sl
  gh : s.gh = st.gh
  off : s.off = st.off
  cx : s.cx = st.cx
  at_ : s.bx m = some b
  else_ : ∀ n, n ≠ m → ¬ n ∈ fr → s.bx n = st.bx n
theorem MC_of (hm : P.follows .mixedOrders = true) {f : FuncId} {fn : Func} {dc : DCode} {N' : Nat} {rs : List ResultVar} (hf : P.funcs[f]? = some fn) (hl : (fn.body.bind (lowC P N' X)) = some dc) (hN : fn.ntmps = N') (hn : (fn.name == "runtime.NumGoroutine") = false)
    (hr : fn.results.toList = rs) {us : List V} (off : Nat) (ha : us.length ≤ N') {need : List (Nat × BX)} {fr : List Nat} {m : Nat} {b : BX} {r : T} (hb : ∀ p, NamesB p b) (hmf : ¬ m ∈ fr)
    (hw : ∀ (st : St) (d : Option Nat), (∀ p ∈ need, st.bx p.1 = some p.2) → (∀ n ∈ fr, st.bx n = none) → wpC P dc (st.enter us off) (PostV rs st d (Ended st d fr m b r))) : MC P f us need fr m b r := by
  intro d st K hneed hfr hK
  have hWC := WC_inl hm hf hl hN hn hr off ha (hw st d hneed hfr)
  refine ⟨hWC.1, fun N w0 S0 E a vs h hlen hv hd => (hWC.2 N w0 S0 E a vs h hlen hv hd).mono ?_⟩
  rintro e w' ⟨v, rfl, E', s, rfl, he, hsr⟩
  have up : ∀ n, E.live n = true → (E'.live n && !fr.contains n) = true := fun n hn => by
    rw [h.live] at hn
    have hnf : ¬ n ∈ fr := fun hh => by rw [hfr n hh] at hn; cases hn
    have h2 : (s.bx n).isSome = true := by
      by_cases hnm : n = m
      · rw [hnm, he.at_]; rfl
      · rw [he.else_ n hnm hnf]; exact hn
    rw [hsr.live, h2]
    simpa using hnf
  have hd1 := hsr.drop fr (lv := fun n => E'.live n && !fr.contains n) (fun n => rfl) (fun k => by
      rw [he.sl]
      cases d with
      | none => exact (h.sl k).names.imp up
      | some q =>
        show Names _ (upd st.sl q (.t r) k)
        by_cases hk : k = q
        · rw [hk, upd_same]; exact .t r
        · rw [upd_other _ _ _ _ hk]; exact (h.sl k).names.imp up) (fun k q => by rw [he.gh]; exact (h.gh k q).names.imp up) (fun n b1 hln hb1 => by
      simp only [Bool.and_eq_true, Bool.not_eq_true'] at hln
      by_cases hnm : n = m
      · rw [hnm, he.at_] at hb1
        cases hb1
        exact hb _
      · rw [he.else_ n hnm (by simpa using hln.2)] at hb1
        exact (h.bx n b1 hb1).names.imp up)
  refine ⟨v, rfl, { E' with live := fun n => E'.live n && !fr.contains n }, _, rfl, hK, ?_⟩
  have hst : ({ s with bx := fun n => if fr.contains n then none else s.bx n } : St) = (({ st with bx := upd st.bx m (some b) } : St).set d (.t r)) := by
    refine St.ext' (by show s.sl = _; rw [he.sl]; cases d <;> rfl) ?_ (by show s.gh = _; rw [he.gh]; cases d <;> rfl) (by show s.off = _; rw [he.off]; cases d <;> rfl) (by show s.cx = _; rw [he.cx]; cases d <;> rfl)
    have : (({ st with bx := upd st.bx m (some b) } : St).set d (.t r)).bx = upd st.bx m (some b) := by cases d <;> rfl
    rw [this]
    funext n
    show (if fr.contains n then none else s.bx n) = _
    by_cases hnm : n = m
    · subst hnm
      rw [upd_same, he.at_, if_neg (by simpa using hmf)]
    · rw [upd_other _ _ _ _ hnm]
      by_cases hnf : n ∈ fr
      · rw [if_pos (by simpa using hnf), hfr n hnf]
      · rw [if_neg (by simpa using hnf), he.else_ n hnm hnf]
  rw [← hst]
  exact hd1
end
end Go.DL
end
section
namespace Go.RC
open Go Go.DL Go.Proofs
theorem mixed : Tryz.prog.follows .mixedOrders = true := by kernel_rfl
def kons : List Int := [1116352408, 1899447441, 3049323471, 3921009573, 961987163, 1508970993, 2453635748, 2870763221, 3624381080, 310598401, 607225278, 1426881987, 1925078388, 2162078206, 2614888103, 3248222580, 3835390401, 4022224774, 264347078, 604807628, 770255983, 1249150122, 1555081692, 1996064986, 2554220882, 2821834349, 2952996808, 3210313671, 3336571891, 3584528711, 113926993, 338241895, 666307205, 773529912, 1294757372, 1396182291, 1695183700, 1986661051, 2177026350, 2456956037, 2730485921, 2820302411, 3259730800, 3345764771, 3516065817, 3600352804, 4094571909, 275423344, 430227734, 506948616, 659060556, 883997877, 958139571, 1322822218, 1537002063, 1747873779, 1955562222, 2024104815, 2227730452, 2361852424, 2428436474, 2756734187, 3204031479, 3329325298]
abbrev I (n : Int) : T := .int .i64 n
abbrev W (n : Int) : T := .int .u32 n
abbrev Y (n : Int) : T := .int .u8 n
abbrev Q (n : Int) : T := .int .u64 n
instance : Glb := ⟨fun g => match g with | 0 => some (kons.map W) | 1 => some (kons.map W) | _ => none⟩
theorem w32 {n : Int} (h0 : 0 ≤ n) (h1 : n < 4294967296) : IntKind.wrap .u32 n = n := by
  unfold IntKind.wrap; simp [IntKind.bits, IntKind.signed]; omega
theorem w8 {n : Int} (h0 : 0 ≤ n) (h1 : n < 256) : IntKind.wrap .u8 n = n := by
  unfold IntKind.wrap; simp [IntKind.bits, IntKind.signed]; omega
theorem w64 {n : Int} (h0 : 0 ≤ n) (h1 : n < 18446744073709551616) : IntKind.wrap .u64 n = n := by
  unfold IntKind.wrap; simp [IntKind.bits, IntKind.signed]; omega
theorem mget {f : Int → T} {ws : List Int} {k : Nat} {d : T} (h : k < ws.length) : (ws.map f)[k]?.getD d = f (ws.getD k 0) := by
  simp [List.getD_eq_getElem?_getD, h]
theorem mgetk {f : Int → T} {ws : List Int} {k' : Nat} {d : T} (k : Nat) (e : k' = k) (h : k < ws.length) : (ws.map f)[k']?.getD d = f (ws.getD k 0) := by
  rw [e]; exact mget h
theorem mset {f : Int → T} {ws : List Int} {k : Nat} {x : Int} : (ws.map f).set k (f x) = (ws.set k x).map f := by
  rw [List.map_set]
theorem putL_all {cs vs : List T} {n : Nat} (h : cs.length = n) : putL cs 0 n vs = vs := by
  simp [putL, ← h]
theorem mones {f : Int → T} (hf : ∀ n, (f n).one = true) (ws : List Int) : ∀ t ∈ ws.map f, t.one = true := fun t ht => by
  obtain ⟨n, _, rfl⟩ := List.mem_map.1 ht
  exact hf n
theorem chunk1 {f : Int → T} : ∀ (ws : List Int) (n : Nat), ws.length = n → chunk 1 n (ws.map f) = ws.map f
  | [], 0, _ => rfl
  | x :: ws, n + 1, h => by
    show f x :: chunk 1 n (ws.map f) = f x :: ws.map f
    rw [chunk1 ws n (by simpa using h)]
  | x :: ws, 0, h => by simp at h
  | [], n + 1, h => by simp at h
end Go.RC
end
section
namespace Go.RC
open Go Go.DL Go.Proofs Go.RowKit
set_option maxRecDepth 100000
theorem cells3 : Tryz.prog.cellsOf 3 = 1 := by kernel_rfl
theorem cells23 : Tryz.prog.cellsOf 35 = 10 := by kernel_rfl
theorem hasInt {us : List T} (h : HasC Tryz.prog 3 us) : ∃ n, us = [I n] ∧ (Lit.int .i64 n).wf = true := by
  cases h with
  | int h n hw => rw [Tryz.underlying3] at h; cases h; exact ⟨n, rfl, hw⟩
  | bool h | str h | nil h | slice h | struct h | array h => rw [Tryz.underlying3] at h; cases h
theorem hasInts {t : TypeId} {m : Nat} (ht : Tryz.prog.underlying t = some (.array m 3)) (hc : Tryz.prog.cellsOf t = m) {us : List T} (h : HasC Tryz.prog t us) :
    ∃ x : List Int, us = x.map I ∧ x.length = m ∧ ∀ n ∈ x, (Lit.int .i64 n).wf = true := by
  cases h with
  | array h us hl hf =>
    rw [ht] at h
    cases h
    rw [hc] at hl
    have key : ∀ i, i < m → ∃ n, us[i]? = some (I n) ∧ (Lit.int .i64 n).wf = true := fun i hi => by
      obtain ⟨n, e, w⟩ := hasInt (hf i hi)
      rw [cells3, Nat.mul_one, List.take_one] at e
      refine ⟨n, ?_, w⟩
      have : (us.drop i).head? = us[i]? := by rw [List.head?_drop]
      rw [this] at e
      cases hx : us[i]? with
      | none => rw [hx] at e; cases e
      | some x => rw [hx] at e; cases e; rfl
    refine ⟨us.map fun t => match t with | .int _ n => n | _ => 0, ?_, by simpa using hl, fun n hn => ?_⟩
    · refine List.ext_getElem? fun i => ?_
      rcases Nat.lt_or_ge i m with hi | hi
      · obtain ⟨n, e, _⟩ := key i hi
        rw [e]
        simp [e]
      · rw [List.getElem?_eq_none (by omega), List.getElem?_eq_none (by simp; omega)]
    · obtain ⟨t, ht, rfl⟩ := List.mem_map.1 hn
      obtain ⟨i, hi⟩ := List.mem_iff_getElem?.1 ht
      obtain ⟨n, e, w⟩ := key i (by have := (List.getElem?_eq_some_iff.1 hi).1; omega)
      rw [e] at hi
      cases hi
      exact w
  | int h | bool h | str h | nil h | slice h | struct h => rw [ht] at h; cases h
theorem g_ref : Tryz.prog.globalNamed "interlace/interlaceref02.constants" = some 1 := by kernel_rfl
theorem g_hash : Tryz.prog.globalNamed "interlace/hash.constants" = some 0 := by kernel_rfl
theorem globOk_both {W : World} (h1 : Lib.TabIs Tryz.prog W "interlace/interlaceref02.constants" .u32 kons) (h2 : Lib.TabIs Tryz.prog W "interlace/hash.constants" .u32 kons) :
    GlobOk (fun b _ => b < W.heap.size) W := globOk_of fun g cs h => by
  match g, h with
  | 0, h => cases h; exact ⟨.u32, kons, rfl, by decide, fun i hi => h2.cell g_hash i hi⟩
  | 1, h => cases h; exact ⟨.u32, kons, rfl, by decide, fun i hi => h1.cell g_ref i hi⟩
theorem g_refType : (Tryz.prog.globals[1]?).map (·.type) = some 222 := by kernel_rfl
theorem g_hashType : (Tryz.prog.globals[0]?).map (·.type) = some 222 := by kernel_rfl
theorem cells149 : Tryz.prog.cellsOf 222 = 64 := by kernel_rfl
theorem cells117 : Tryz.prog.cellsOf 176 = 1 := by kernel_rfl
theorem globOk_two {W : World} (h : laidMet Tryz.prog [("interlace/interlaceref02.constants", Lib.tabData .u32 kons), ("interlace/hash.constants", Lib.tabData .u32 kons)] W) :
    GlobOk (fun b _ => b < W.heap.size) W :=
  globOk_both (Lib.tabIs_of_head g_ref g_refType Tryz.underlying222 Tryz.underlying176 cells117 cells149 h) (Lib.tabIs_of_head g_hash g_hashType Tryz.underlying222 Tryz.underlying176 cells117 cells149 (laidMet.tail h))
end Go.RC
end
section
namespace Go.RC
open Go Go.DL Go.Proofs
set_option maxRecDepth 100000
set_option maxHeartbeats 8000000
def rr (x : Int) (n : Nat) : Int := bitsI .or .u32 (x.fdiv (2 ^ n)) (IntKind.u32.wrap (x * 2 ^ (32 - n)))
theorem or_comm (k : IntKind) (a b : Int) : bitsI .or k a b = bitsI .or k b a := by
  unfold bitsI
  simp only [BitVec.or_comm]
theorem rot_s : ∀ n : Fin 32, 0 < n.val → bitsI .and .u64 (IntKind.u64.wrap (-(n.val : Int))) 31 = 32 - n.val ∧ IntKind.u64.wrap (32 - (32 - (n.val : Int))) = n.val := by decide
theorem t_Rotl (x : Int) (n : Nat) (h0 : 0 < n) (h1 : n < 32) : DCalls Tryz.prog 192 [W x, I (-(n : Int))] (W (rr x n)) := by
  obtain ⟨e1, e2⟩ := rot_s ⟨n, h1⟩ h0
  dsimp only at e1 e2
  refine dcalls_low (rs := [.tmp 4]) mixed Tryz.func192 l192 rfl rfl rfl (r := [W _]) (Nat.le_of_ble_eq_true rfl) ?_
  repeat' ((conv => whnf); first | (refine And.intro (by first | ((rw [e1]; omega); done) | ((rw [e1, e2]; omega); done) | fail) ?_) | refine ri ?_ trivial | fail)
  rw [e1, e2, or_comm]
  have e3 : ((32 : Int) - n).toNat = 32 - n := by omega
  simp only [e3, Int.toNat_natCast, IntKind.bits]
  rw [Nat.min_eq_left (by omega), Nat.min_eq_left (by omega)]
  rfl
theorem t_rotr (x : Int) (n : Nat) (h0 : 0 < n) (h1 : n < 32) : DCalls Tryz.prog 183 [W x, I n] (W (rr x n)) := by
  refine dcalls_low (rs := [.tmp 4]) mixed Tryz.func183 l183 rfl rfl rfl (r := [W _]) (Nat.le_of_ble_eq_true rfl) ?_
  have e1 : IntKind.i64.wrap (32 - (n : Int)) = 32 - n := wrap_id (by omega) (by omega)
  repeat' ((conv => whnf); first | (refine And.intro (by first | ((rw [e1]; omega); done) | fail) ?_) | refine aS ?_ | refine ri ?_ trivial | fail)
  rw [e1]
  have e3 : ((32 : Int) - n).toNat = 32 - n := by omega
  simp only [e3, Int.toNat_natCast, IntKind.bits]
  rw [Nat.min_eq_left (by omega), Nat.min_eq_left (by omega)]
  rfl
end Go.RC
end
section
namespace Go.RC
open Go Go.DL Go.Proofs
set_option maxRecDepth 100000
set_option maxHeartbeats 600000
def xo (a b : Int) : Int := bitsI .xor .u32 a b
def an (a b : Int) : Int := bitsI .and .u32 a b
def ad (a b : Int) : Int := IntKind.u32.wrap (a + b)
def mx (x : Int) (i j k : Nat) : Int := xo (xo (rr x i) (rr x j)) (rr x k)
theorem t_Rotn (x : Int) (n : Nat) (h0 : 0 < n) (h1 : n < 32) : DCalls Tryz.prog 192 [W x, I (IntKind.i64.wrap (0 - (n : Int)))] (W (rr x n)) := by
  rw [wrap_id (by omega) (by omega), Int.zero_sub]
  exact t_Rotl x n h0 h1
theorem t_mix (x : Int) (i j k : Nat) (h : (0 < i ∧ i < 32) ∧ (0 < j ∧ j < 32) ∧ (0 < k ∧ k < 32)) : DCalls Tryz.prog 180 [W x, I i, I j, I k] (W (mx x i j k)) := by
  obtain ⟨⟨h1, h2⟩, ⟨h3, h4⟩, ⟨h5, h6⟩⟩ := h
  refine dcalls_low (rs := [.tmp 8]) mixed Tryz.func180 l180 rfl rfl rfl (r := [W _]) (Nat.le_of_ble_eq_true rfl) ?_
  repeat' ((conv => whnf); first | exact trivial | refine k_call _ (t_Rotn x i h1 h2) ?_ | refine k_call _ (t_Rotn x j h3 h4) ?_ | refine k_call _ (t_Rotn x k h5 h6) ?_ | refine rix ?_ | fail)
def sb (w b : Int) : Int := bitsI .or .u32 (IntKind.u32.wrap (w * 2 ^ 8)) (IntKind.u32.wrap b)
def s0 (x : Int) : Int := xo (xo (rr x 7) (rr x 18)) (x.fdiv (2 ^ 3))
def s1 (x : Int) : Int := xo (xo (rr x 17) (rr x 19)) (x.fdiv (2 ^ 10))
def nxt (ws : List Int) (t : Nat) : Int := ad (ad (ad (ws.getD (t - 16) 0) (s0 (ws.getD (t - 15) 0))) (ws.getD (t - 7) 0)) (s1 (ws.getD (t - 2) 0))
def SCH (bs : List Int) : Nat → List Int
  | 0 => List.replicate 64 0
  | t + 1 => (SCH bs t).set t (if t < 16 then ((bs.drop (4 * t)).take 4).foldl sb ((SCH bs t).getD t 0) else nxt (SCH bs t) t)
theorem SCH_len (bs : List Int) : ∀ t, (SCH bs t).length = 64
  | 0 => rfl
  | t + 1 => by unfold SCH; rw [List.length_set, SCH_len bs t]
theorem set_self {ws : List Int} {t : Nat} (h : t < ws.length) : ws.set t (ws.getD t 0) = ws := by
  rw [List.getD_eq_getElem?_getD, List.getElem?_eq_getElem h, Option.getD_some, List.set_getElem_self]
theorem getD_set_self {ws : List Int} {t : Nat} {x : Int} (h : t < ws.length) : (ws.set t x).getD t 0 = x := by
  simp [List.getD_eq_getElem?_getD, h]
abbrev z64 : List T := List.replicate 64 (W 0)
attribute [irreducible] SCH
attribute [local irreducible] rr
theorem SCH_s (bs : List Int) (t : Nat) (h : t < 16) : SCH bs (t + 1) = (SCH bs t).set t (((bs.drop (4 * t)).take 4).foldl sb ((SCH bs t).getD t 0)) := by
  conv => lhs; unfold SCH
  rw [if_pos h]
theorem SCH_n (bs : List Int) (t : Nat) (h : ¬ t < 16) : SCH bs (t + 1) = (SCH bs t).set t (nxt (SCH bs t) t) := by
  conv => lhs; unfold SCH
  rw [if_neg h]
theorem foldl_take (l : List Int) (w : Int) (j : Nat) (h : j < l.length) : (l.take (j + 1)).foldl sb w = sb ((l.take j).foldl sb w) (l.getD j 0) := by
  rw [List.take_succ_eq_append_getElem h, List.foldl_append, List.getD_eq_getElem?_getD, List.getElem?_eq_getElem h]
  rfl
theorem t_schedule (bs : List Int) (hb : bs.length = 64) : DCalls Tryz.prog 179 [.slice 1 (bs.map Y)] (.agg ((SCH bs 64).map W)) := by
  refine dcalls_low (rs := [.cell 2 222]) mixed Tryz.func179 l179 rfl rfl rfl (r := [.agg _]) (Nat.le_of_ble_eq_true rfl) ?_
  skip
  refine wpC_loop (α := Nat) (fun t => {sl := [(0, .t (.slice 1 (bs.map Y))), (2, .ptr 2 0), (3, .ptr 3 0), (11, .t (I t))], bx := [(2, .d 64 z64), (3, .d 64 ((SCH bs t).map W))]})
    (fun t => t ≤ 64) (fun t => 64 - t) 0 (by omega) ?_ ?_
  · repeat' (first | exact trivial | exact LeV.same _ | exact LeB.same _ | exact rfl | exact fun _ _ _ => trivial | refine leBd ?_ | refine And.intro ?_ ?_)
    unfold SCH
    rfl
  intro t ht
  have hl := SCH_len bs t
  rcases Nat.lt_or_ge t 64 with h | h
  · by_cases h16 : t < 16
    · have hS := SCH_s bs t h16
      generalize SCH bs t = ws at hl hS
      generalize he : (bs.drop (4 * t)).take 4 = es at hS
      have hel : es.length = 4 := by rw [← he]; simp; omega
      repeat' ((conv => whnf); first | (refine nv_ (.slice 1 (es.map Y)) (by first | ((rw [← he]; simp (disch := omega) only [wrap_id, w32, w8, w64]; rw [← List.map_take, ← List.map_drop]; congr 2; simp only [List.drop_take]; congr 1 <;> omega); done) | fail) ?_) | refine aD1 ?_ | (refine And.intro (by first | ((simp (disch := omega) only [wrap_id, w32, w8, w64]; simp; omega); done) | fail) ?_) | refine aS ?_ | fail)
      refine wpC_loopE 2 (α := Nat) (β := Unit) (fun j => {sl := [(0, .t (.slice 1 (bs.map Y))), (2, .ptr 2 0), (3, .ptr 3 0), (4, .t (I t)), (11, .t (I t)), (22, .t (.slice 1 (es.map Y))), (23, .t (I 4)), (24, .t (I j))], bx := [(2, .d 64 z64), (3, .d 64 ((ws.set t ((es.take j).foldl sb (ws.getD t 0))).map W))]})
        (fun j => j ≤ 4) (fun j => 4 - j) (fun _ => {sl := [(0, .t (.slice 1 (bs.map Y))), (2, .ptr 2 0), (3, .ptr 3 0), (11, .t (I t))], bx := [(2, .d 64 z64), (3, .d 64 ((SCH bs (t + 1)).map W))]}) (fun _ => True) 0 (by omega) ?_ ?_ ?_
      · repeat' (first | (exact leI (by simp [hel])) | exact trivial | exact LeV.same _ | exact LeB.same _ | exact rfl | exact fun _ _ _ => trivial | refine leBd ?_ | refine And.intro ?_ ?_)
        simp only [List.take_zero, List.foldl_nil]
        rw [set_self (by omega)]
      · intro j hj
        rcases Nat.lt_or_ge j 4 with h4 | h4
        · have hf := foldl_take es (ws.getD t 0) j (by omega)
          have hsl : (ws.set t ((es.take j).foldl sb (ws.getD t 0))).length = 64 := by simp [hl]
          generalize hcur : ws.set t ((es.take j).foldl sb (ws.getD t 0)) = cur at hsl
          have hg : cur.getD t 0 = (es.take j).foldl sb (ws.getD t 0) := by rw [← hcur]; exact getD_set_self (by omega)
          repeat' ((conv => whnf); first | (refine nv_ (Y (es.getD j 0)) (by first | ((simp [List.getD_eq_getElem?_getD, hel, h4]); done) | fail) ?_) | (refine nv_ (W (cur.getD t 0)) (by first | ((simp only [Int.toNat_natCast, Nat.zero_add, Nat.mul_one]; exact mget (by omega)); done) | fail) ?_) | refine nT_ ?_ | refine aD1 ?_ | (refine And.intro (by first | ((simp [hel]; omega); done) | fail) ?_) | refine aS ?_ | fail)
          refine ⟨j + 1, by omega, by omega, ?_⟩
          repeat' (first | exact trivial | exact LeV.same _ | exact LeB.same _ | exact rfl | exact fun _ _ _ => trivial | exact lI | refine leBd ?_ | refine And.intro ?_ ?_)
          rw [hf, ← hg, show ws.set t (sb (cur.getD t 0) (es.getD j 0)) = cur.set t (sb (cur.getD t 0) (es.getD j 0)) by rw [← hcur, List.set_set], ← mset]
          simp only [Int.toNat_natCast, Nat.zero_add, Nat.mul_one]
          rfl
        · have : j = 4 := by omega
          subst this
          rw [List.take_of_length_le (by omega), ← hS]
          repeat' ((conv => whnf); first | refine aD0 ?_ | refine aS ?_ | fail)
          exact ⟨(), trivial, by repeat' (first | exact trivial | exact LeV.same _ | exact LeB.same _ | exact rfl | exact fun _ _ _ => trivial | refine And.intro ?_ ?_)⟩
      · rintro - -
        skip
        refine ⟨t + 1, by omega, by omega, ?_⟩
        repeat' (first | exact trivial | exact LeV.same _ | exact LeB.same _ | exact rfl | exact fun _ _ _ => trivial | exact lI | refine And.intro ?_ ?_)
    · have hS := SCH_n bs t h16
      generalize SCH bs t = ws at hl hS
      repeat' ((conv => whnf); first | (refine nv_ (W (ws.getD (t - 15) 0)) (by first | (exact mgetk (t - 15) (by simp (disch := omega) only [wrap_id, w32, w8, w64]; omega) (by omega); done) | fail) ?_) | (refine nv_ (W (ws.getD (t - 2) 0)) (by first | (exact mgetk (t - 2) (by simp (disch := omega) only [wrap_id, w32, w8, w64]; omega) (by omega); done) | fail) ?_) | (refine nv_ (W (ws.getD (t - 16) 0)) (by first | (exact mgetk (t - 16) (by simp (disch := omega) only [wrap_id, w32, w8, w64]; omega) (by omega); done) | fail) ?_) | (refine nv_ (W (ws.getD (t - 7) 0)) (by first | (exact mgetk (t - 7) (by simp (disch := omega) only [wrap_id, w32, w8, w64]; omega) (by omega); done) | fail) ?_) | refine k_call _ (t_Rotl (ws.getD (t - 15) 0) 7 (by omega) (by omega)) ?_ | refine k_call _ (t_Rotl (ws.getD (t - 15) 0) 18 (by omega) (by omega)) ?_ | refine k_call _ (t_Rotl (ws.getD (t - 2) 0) 17 (by omega) (by omega)) ?_ | refine k_call _ (t_Rotl (ws.getD (t - 2) 0) 19 (by omega) (by omega)) ?_ | refine aD1 ?_ | refine aD0 ?_ | (refine And.intro (by first | ((simp (disch := omega) only [wrap_id, w32, w8, w64]; omega); done) | fail) ?_) | refine aS ?_ | fail)
      refine ⟨t + 1, by omega, by omega, ?_⟩
      repeat' (first | exact trivial | exact LeV.same _ | exact LeB.same _ | exact rfl | exact fun _ _ _ => trivial | exact lI | refine leBd ?_ | refine And.intro ?_ ?_)
      rw [hS, ← mset]
      simp only [Int.toNat_natCast, Nat.zero_add, Nat.mul_one]
      rfl
  · have : t = 64 := by omega
    subst this
    generalize SCH bs 64 = ws at hl
    repeat' ((conv => whnf); first | refine aD0 ?_ | (refine And.intro (by first | (exact ⟨by first | (simp; done) | simpa using hl, by decide⟩; done) | (first | (simp; done) | simpa using hl; done) | fail) ?_) | refine rt ?_ trivial | fail)
    exact congrArg T.agg (putL_all rfl)
def wd (bs : List Int) (t : Nat) : Int := bitsI .or .u32 (bitsI .or .u32 (bitsI .or .u32 (IntKind.u32.wrap (IntKind.u32.wrap (bs.getD (4 * t) 0) * 2 ^ 24)) (IntKind.u32.wrap (IntKind.u32.wrap (bs.getD (4 * t + 1) 0) * 2 ^ 16))) (IntKind.u32.wrap (IntKind.u32.wrap (bs.getD (4 * t + 2) 0) * 2 ^ 8))) (IntKind.u32.wrap (bs.getD (4 * t + 3) 0))
def SC2 (bs : List Int) : Nat → List Int
  | 0 => List.replicate 64 0
  | t + 1 => (SC2 bs t).set t (if t < 16 then wd bs t else nxt (SC2 bs t) t)
theorem SC2_len (bs : List Int) : ∀ t, (SC2 bs t).length = 64
  | 0 => rfl
  | t + 1 => by unfold SC2; rw [List.length_set, SC2_len bs t]
theorem SC2_0 (bs : List Int) : SC2 bs 0 = List.replicate 64 0 := rfl
theorem SC2_s (bs : List Int) (t : Nat) (h : t < 16) : SC2 bs (t + 1) = (SC2 bs t).set t (wd bs t) := by
  conv => lhs; unfold SC2
  rw [if_pos h]
theorem SC2_n (bs : List Int) (t : Nat) (h : ¬ t < 16) : SC2 bs (t + 1) = (SC2 bs t).set t (nxt (SC2 bs t) t) := by
  conv => lhs; unfold SC2
  rw [if_neg h]
attribute [irreducible] SC2
theorem t_words (bs : List Int) (hb : bs.length = 64) : DCalls Tryz.prog 182 [.slice 1 (bs.map Y)] (.agg ((SC2 bs 64).map W)) := by
  refine dcalls_low (rs := [.cell 2 222]) mixed Tryz.func182 l182 rfl rfl rfl (r := [.agg _]) (Nat.le_of_ble_eq_true rfl) ?_
  skip
  refine wpC_loopE 0 (α := Nat) (β := Unit) (fun t => {sl := [(0, .t (.slice 1 (bs.map Y))), (2, .ptr 2 0), (3, .ptr 3 0), (4, .t (I t))], bx := [(2, .d 64 z64), (3, .d 64 ((SC2 bs t).map W))]})
    (fun t => t ≤ 16) (fun t => 16 - t) (fun _ => {sl := [(2, .ptr 2 0), (3, .ptr 3 0)], bx := [(2, .d 64 z64), (3, .d 64 ((SC2 bs 16).map W))]}) (fun _ => True) 0 (by omega) ?_ ?_ ?_
  · repeat' (first | exact trivial | exact LeV.same _ | exact LeB.same _ | exact rfl | exact fun _ _ _ => trivial | refine leBd ?_ | refine And.intro ?_ ?_)
    rw [SC2_0]
    rfl
  · intro t ht
    have hl := SC2_len bs t
    rcases Nat.lt_or_ge t 16 with h | h
    · have hS := SC2_s bs t h
      generalize SC2 bs t = ws at hl hS
      repeat' ((conv => whnf); first | (refine nv_ (Y (bs.getD (4 * t) 0)) (by first | (exact mgetk (4 * t) (by simp (disch := omega) only [wrap_id, w32, w8, w64]; omega) (by omega); done) | fail) ?_) | (refine nv_ (Y (bs.getD (4 * t + 1) 0)) (by first | (exact mgetk (4 * t + 1) (by simp (disch := omega) only [wrap_id, w32, w8, w64]; omega) (by omega); done) | fail) ?_) | (refine nv_ (Y (bs.getD (4 * t + 2) 0)) (by first | (exact mgetk (4 * t + 2) (by simp (disch := omega) only [wrap_id, w32, w8, w64]; omega) (by omega); done) | fail) ?_) | (refine nv_ (Y (bs.getD (4 * t + 3) 0)) (by first | (exact mgetk (4 * t + 3) (by simp (disch := omega) only [wrap_id, w32, w8, w64]; omega) (by omega); done) | fail) ?_) | refine nT_ ?_ | refine aD1 ?_ | (refine And.intro (by first | ((simp (disch := omega) only [wrap_id, w32, w8, w64]; simp [hb]; omega); done) | fail) ?_) | refine aS ?_ | fail)
      refine ⟨t + 1, by omega, by omega, ?_⟩
      repeat' (first | exact trivial | exact LeV.same _ | exact LeB.same _ | exact rfl | exact fun _ _ _ => trivial | exact lI | refine leBd ?_ | refine And.intro ?_ ?_)
      rw [hS, ← mset]
      simp only [Int.toNat_natCast, Nat.zero_add, Nat.mul_one]
      rfl
    · have : t = 16 := by omega
      subst this
      repeat' ((conv => whnf); first | refine aD0 ?_ | refine aS ?_ | fail)
      exact ⟨(), trivial, by repeat' (first | exact trivial | exact LeV.same _ | exact LeB.same _ | exact rfl | exact fun _ _ _ => trivial | refine And.intro ?_ ?_)⟩
  rintro - -
  skip
  refine wpC_loop (α := Nat) (fun t => {sl := [(2, .ptr 2 0), (3, .ptr 3 0), (5, .t (I t))], bx := [(2, .d 64 z64), (3, .d 64 ((SC2 bs t).map W))]})
    (fun t => 16 ≤ t ∧ t ≤ 64) (fun t => 64 - t) 16 (by omega) ?_ ?_
  · repeat' (first | exact trivial | exact LeV.same _ | exact LeB.same _ | exact rfl | exact fun _ _ _ => trivial | refine And.intro ?_ ?_)
  rintro t ⟨h16, ht⟩
  have hl := SC2_len bs t
  rcases Nat.lt_or_ge t 64 with h | h
  · have hS := SC2_n bs t (by omega)
    generalize SC2 bs t = ws at hl hS
    repeat' ((conv => whnf); first | (refine nv_ (W (ws.getD (t - 15) 0)) (by first | (exact mgetk (t - 15) (by simp (disch := omega) only [wrap_id, w32, w8, w64]; omega) (by omega); done) | fail) ?_) | (refine nv_ (W (ws.getD (t - 2) 0)) (by first | (exact mgetk (t - 2) (by simp (disch := omega) only [wrap_id, w32, w8, w64]; omega) (by omega); done) | fail) ?_) | (refine nv_ (W (ws.getD (t - 16) 0)) (by first | (exact mgetk (t - 16) (by simp (disch := omega) only [wrap_id, w32, w8, w64]; omega) (by omega); done) | fail) ?_) | (refine nv_ (W (ws.getD (t - 7) 0)) (by first | (exact mgetk (t - 7) (by simp (disch := omega) only [wrap_id, w32, w8, w64]; omega) (by omega); done) | fail) ?_) | refine k_call _ (t_rotr (ws.getD (t - 15) 0) 7 (by omega) (by omega)) ?_ | refine k_call _ (t_rotr (ws.getD (t - 15) 0) 18 (by omega) (by omega)) ?_ | refine k_call _ (t_rotr (ws.getD (t - 2) 0) 17 (by omega) (by omega)) ?_ | refine k_call _ (t_rotr (ws.getD (t - 2) 0) 19 (by omega) (by omega)) ?_ | refine aD1 ?_ | (refine And.intro (by first | ((simp (disch := omega) only [wrap_id, w32, w8, w64]; omega); done) | fail) ?_) | refine aS ?_ | fail)
    refine ⟨t + 1, by omega, by omega, ?_⟩
    repeat' (first | exact trivial | exact LeV.same _ | exact LeB.same _ | exact rfl | exact fun _ _ _ => trivial | exact lI | refine leBd ?_ | refine And.intro ?_ ?_)
    rw [hS, ← mset]
    simp only [Int.toNat_natCast, Nat.zero_add, Nat.mul_one]
    rfl
  · have : t = 64 := by omega
    subst this
    generalize SC2 bs 64 = ws at hl
    repeat' ((conv => whnf); first | refine aD0 ?_ | (refine And.intro (by first | (exact ⟨by first | (simp; done) | simpa using hl, by decide⟩; done) | (first | (simp; done) | simpa using hl; done) | fail) ?_) | refine rt ?_ trivial | fail)
    exact congrArg T.agg (putL_all rfl)
end Go.RC
end
section
namespace Go.RC
open Go Go.DL Go.Proofs
set_option maxRecDepth 100000
set_option maxHeartbeats 1000000
attribute [local irreducible] rr
def nt (a : Int) : Int := bitsI .xor .u32 (if IntKind.signed .u32 = true then -1 else IntKind.max .u32) a
structure V8 where
  (a b c d e f g h : Int)
def V8.list (v : V8) : List Int := [v.a, v.b, v.c, v.d, v.e, v.f, v.g, v.h]
abbrev V8.lo (v : V8) : List Int := [v.a, v.b, v.c, v.d]
abbrev V8.hi (v : V8) : List Int := [v.e, v.f, v.g, v.h]
def xx (v : V8) (k w : Int) : Int := ad (ad (ad (ad v.h (mx v.e 6 11 25)) (xo (an v.e v.f) (an (nt v.e) v.g))) k) w
def yy (v : V8) : Int := ad (mx v.a 2 13 22) (xo (xo (an v.a v.b) (an v.a v.c)) (an v.b v.c))
def V8.step (v : V8) (k w : Int) : V8 := ⟨ad (xx v k w) (yy v), v.a, v.b, v.c, ad v.d (xx v k w), v.e, v.f, v.g⟩
def RN (v : V8) (ws : List Int) : Nat → V8
  | 0 => v
  | t + 1 => (RN v ws t).step (kons.getD t 0) (ws.getD t 0)
def FI (s lo hi : List Int) : Nat → List Int
  | 0 => s
  | i + 1 => ((FI s lo hi i).set i (ad ((FI s lo hi i).getD i 0) (lo.getD i 0))).set (i + 4) (ad (((FI s lo hi i).set i (ad ((FI s lo hi i).getD i 0) (lo.getD i 0))).getD (i + 4) 0) (hi.getD i 0))
theorem FI_len (s lo hi : List Int) : ∀ i, (FI s lo hi i).length = s.length
  | 0 => rfl
  | i + 1 => by unfold FI; simp [FI_len s lo hi i]
def cpr (s : V8) (bs : List Int) : V8 := let v := RN s (SCH bs 64) 64; ⟨ad s.a v.a, ad s.b v.b, ad s.c v.c, ad s.d v.d, ad s.e v.e, ad s.f v.f, ad s.g v.g, ad s.h v.h⟩
theorem FI_4 (s v : V8) : FI s.list v.lo v.hi 4 = [ad s.a v.a, ad s.b v.b, ad s.c v.c, ad s.d v.d, ad s.e v.e, ad s.f v.f, ad s.g v.g, ad s.h v.h] := rfl
attribute [local irreducible] RN
theorem t_compress (s : V8) (bs : List Int) (hb : bs.length = 64) : DCalls Tryz.prog 151 [.agg (s.list.map W), .slice 1 (bs.map Y)] (.agg ((cpr s bs).list.map W)) := by
  refine dcalls_low (rs := [.cell 4 177]) mixed Tryz.func151 l151 rfl rfl rfl (r := [.agg _]) (Nat.le_of_ble_eq_true rfl) ?_
  have hc := t_schedule bs hb
  have hwl := SCH_len bs 64
  unfold cpr
  generalize SCH bs 64 = ws at hc hwl
  repeat' ((conv => whnf); first | refine k_call _ (hc) ?_ | refine nT_ ?_ | (refine And.intro (by first | (exact ⟨by first | (simp; done) | simpa using hwl, by decide⟩; done) | fail) ?_) | refine aS ?_ | fail)
  refine wpC_loopE 0 (α := Nat) (β := Unit) (fun t => {sl := [(2, .ptr 2 0), (4, .ptr 4 0), (5, .ptr 5 0), (6, .ptr 6 0), (7, .ptr 7 0), (21, .t (.agg (kons.map W))), (22, .t (I t))], bx := [(2, .d 8 (s.list.map W)), (4, .d 8 (List.replicate 8 (W 0))), (5, .d 64 (ws.map W)), (6, .d 4 ((RN s ws t).lo.map W)), (7, .d 4 ((RN s ws t).hi.map W))]})
    (fun t => t ≤ 64) (fun t => 64 - t) (fun _ => {sl := [(2, .ptr 2 0), (4, .ptr 4 0), (6, .ptr 6 0), (7, .ptr 7 0)], bx := [(2, .d 8 (s.list.map W)), (4, .d 8 (List.replicate 8 (W 0))), (6, .d 4 ((RN s ws 64).lo.map W)), (7, .d 4 ((RN s ws 64).hi.map W))]}) (fun _ => True) 0 (by omega) ?_ ?_ ?_
  · repeat' (first | exact trivial | exact LeV.same _ | exact LeB.same _ | exact rfl | exact fun _ _ _ => trivial | refine leBd ?_ | refine And.intro ?_ ?_)
    · exact (putL_all rfl).symm
    · unfold RN; rfl
    · unfold RN; rfl
  · intro t ht
    rcases Nat.lt_or_ge t 64 with h | h
    · have hS : RN s ws (t + 1) = (RN s ws t).step (kons.getD t 0) (ws.getD t 0) := by conv => lhs; unfold RN
      generalize RN s ws t = v at hS
      generalize hkk : kons = kk
      have hkl : kk.length = 64 := by rw [← hkk]; rfl
      rw [hkk] at hS
      repeat' ((conv => whnf); first | (refine nv_ (W (kk.getD t 0)) (by first | (exact mgetk t (by omega) (by omega); done) | fail) ?_) | (refine nv_ (W (ws.getD t 0)) (by first | (exact mgetk t (by omega) (by omega); done) | fail) ?_) | refine k_call _ (t_mix v.e 6 11 25 (by decide)) ?_ | refine k_call _ (t_mix v.a 2 13 22 (by decide)) ?_ | refine nT_ ?_ | refine aD1 ?_ | (refine And.intro (by first | ((simp [hkl]; omega); done) | ((omega); done) | fail) ?_) | refine aS ?_ | fail)
      refine ⟨t + 1, by omega, by omega, ?_⟩
      repeat' (first | exact trivial | exact LeV.same _ | exact LeB.same _ | exact rfl | exact fun _ _ _ => trivial | exact lI | refine leBd ?_ | refine And.intro ?_ ?_)
      · rw [hS]; rfl
      · rw [hS]; rfl
    · have : t = 64 := by omega
      subst this
      repeat' ((conv => whnf); first | refine aD0 ?_ | refine aS ?_ | fail)
      exact ⟨(), trivial, by repeat' (first | exact trivial | exact LeV.same _ | exact LeB.same _ | exact rfl | exact fun _ _ _ => trivial | refine And.intro ?_ ?_)⟩
  rintro - -
  generalize RN s ws 64 = v
  skip
  refine wpC_loopE 2 (α := Nat) (β := Unit) (fun i => {sl := [(2, .ptr 2 0), (4, .ptr 4 0), (6, .ptr 6 0), (7, .ptr 7 0), (94, .t (I i))], bx := [(2, .d 8 ((FI s.list v.lo v.hi i).map W)), (4, .d 8 (List.replicate 8 (W 0))), (6, .d 4 (v.lo.map W)), (7, .d 4 (v.hi.map W))]})
    (fun i => i ≤ 4) (fun i => 4 - i) (fun _ => {sl := [(2, .ptr 2 0), (4, .ptr 4 0)], bx := [(2, .d 8 ((FI s.list v.lo v.hi 4).map W)), (4, .d 8 (List.replicate 8 (W 0)))]}) (fun _ => True) 0 (by omega) ?_ ?_ ?_
  · repeat' (first | exact trivial | exact LeV.same _ | exact LeB.same _ | exact rfl | exact fun _ _ _ => trivial | refine And.intro ?_ ?_)
  · intro i hi
    have hl : (FI s.list v.lo v.hi i).length = 8 := FI_len _ _ _ i
    rcases Nat.lt_or_ge i 4 with h | h
    · have hS : FI s.list v.lo v.hi (i + 1) = ((FI s.list v.lo v.hi i).set i (ad ((FI s.list v.lo v.hi i).getD i 0) (v.lo.getD i 0))).set (i + 4) (ad (((FI s.list v.lo v.hi i).set i (ad ((FI s.list v.lo v.hi i).getD i 0) (v.lo.getD i 0))).getD (i + 4) 0) (v.hi.getD i 0)) := rfl
      generalize FI s.list v.lo v.hi i = cur at hl hS
      have hlo : v.lo.length = 4 := rfl
      have hhi : v.hi.length = 4 := rfl
      generalize v.lo = lo at hlo hS
      generalize v.hi = hh at hhi hS
      generalize hcur : cur.set i (ad (cur.getD i 0) (lo.getD i 0)) = cur2 at hS
      have hl2 : cur2.length = 8 := by rw [← hcur]; simpa using hl
      have e2 : (cur.map W).set (0 + (↑i : Int).toNat * 1) (W (ad (cur.getD i 0) (lo.getD i 0))) = cur2.map W := by
        rw [mset, ← hcur]; simp
      repeat' ((conv => whnf); first | (refine nv_ (W (cur.getD i 0)) (by first | (exact mgetk i (by omega) (by omega); done) | fail) ?_) | (refine nv_ (W (lo.getD i 0)) (by first | (exact mgetk i (by omega) (by omega); done) | fail) ?_) | (refine nv_ (W (hh.getD i 0)) (by first | (exact mgetk i (by omega) (by omega); done) | fail) ?_) | (refine nv_ (W (cur2.getD (i + 4) 0)) (by first | ((refine (congrArg (fun l : List T => l[_]?.getD _) e2).trans ?_; exact mgetk (i + 4) (by simp (disch := omega) only [wrap_id, w32, w8, w64]; omega) (by omega)); done) | fail) ?_) | refine aD1 ?_ | (refine And.intro (by first | ((simp (disch := omega) only [wrap_id, w32, w8, w64]; omega); done) | fail) ?_) | refine aS ?_ | fail)
      refine ⟨i + 1, by omega, by omega, ?_⟩
      repeat' (first | exact trivial | exact LeV.same _ | exact LeB.same _ | exact rfl | exact fun _ _ _ => trivial | exact lI | refine leBd ?_ | refine And.intro ?_ ?_)
      rw [hS]
      have e3 : 0 + (IntKind.i64.wrap ((i : Int) + 4)).toNat * 1 = i + 4 := by simp (disch := omega) only [wrap_id, w32, w8, w64]; omega
      show _ = List.set (List.set (cur.map W) (0 + (↑i : Int).toNat * 1) (W (ad (cur.getD i 0) (lo.getD i 0)))) (0 + (IntKind.i64.wrap (↑i + 4)).toNat * 1) (W (ad (cur2.getD (i + 4) 0) (hh.getD i 0)))
      rw [e2, e3, mset]
    · have : i = 4 := by omega
      subst this
      repeat' ((conv => whnf); first | refine aD0 ?_ | refine aS ?_ | fail)
      exact ⟨(), trivial, by repeat' (first | exact trivial | exact LeV.same _ | exact LeB.same _ | exact rfl | exact fun _ _ _ => trivial | refine And.intro ?_ ?_)⟩
  rintro - -
  rw [FI_4]
  repeat' ((conv => whnf); first | exact trivial | refine aS ?_ | fail)
end Go.RC
end
