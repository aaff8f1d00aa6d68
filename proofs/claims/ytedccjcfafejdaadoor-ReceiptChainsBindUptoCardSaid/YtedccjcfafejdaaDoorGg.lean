/- Joined by program: parts of a data level over the model, of the program's functions over it, and of the statement's proof. -/
import Derived.Test.YtedccjcfafejdaaDoorGd
import Derived.Test.YtedccjcfafejdaaDoorGf
import Derived.Shelf.SlLaysF0
import Derived.Shelf.SlGeneric
import Derived.Test.YtedccjcfafejdaaDoorProg
import Derived.KernelRfl
section
/- Receipts: what receipts and lines read as. -/
namespace Go.RC
open Go Go.DL Go.Proofs Go.RowKit
set_option maxRecDepth 100000
/-- The types of the arguments. -/
def typesR : List TypeId := [23, 25, 3, 4, 5, 36, 44, 47, 49, 51]
theorem typesR_ok : closedB Tryd.prog typesR = true := by kernel_rfl
theorem cells5 : Tryd.prog.cellsOf 5 = 1 := by kernel_rfl
theorem cells36 : Tryd.prog.cellsOf 36 = 8 := by kernel_rfl
theorem cells47 : Tryd.prog.cellsOf 47 = 1 := by kernel_rfl
theorem cells49 : Tryd.prog.cellsOf 49 = 16 := by kernel_rfl
theorem cells51 : Tryd.prog.cellsOf 51 = 19 := by kernel_rfl
theorem wf64 {n : Int} (h : (Lit.int .i64 n).wf = true) : i64 n := by
  simp only [Lit.wf, Bool.and_eq_true, decide_eq_true_eq] at h
  obtain ⟨h1, h2⟩ := h
  have e1 : IntKind.i64.min = -9223372036854775808 := by decide
  have e2 : IntKind.i64.max = 9223372036854775807 := by decide
  rw [e1] at h1; rw [e2] at h2
  unfold i64; omega
theorem wf8 {n : Int} (h : (Lit.int .u8 n).wf = true) : 0 ≤ n ∧ n < 256 := by
  simp only [Lit.wf, Bool.and_eq_true, decide_eq_true_eq] at h
  obtain ⟨h1, h2⟩ := h
  have e1 : IntKind.u8.min = 0 := by decide
  have e2 : IntKind.u8.max = 255 := by decide
  rw [e1] at h1; rw [e2] at h2
  omega
theorem aIntB {us : List T} (h : HasC Tryd.prog 3 us) : ∃ n, mkT Tryd.prog 3 us = I n ∧ 1 ≤ bulkL us := by
  obtain ⟨n, rfl, _⟩ := hasInt h
  exact ⟨n, by unfold mkT; rw [Tryd.underlying3]; rfl, by simp [bulkL, T.bulk]⟩
theorem hasU8 {us : List T} (h : HasC Tryd.prog 5 us) : ∃ n, us = [Y n] ∧ (Lit.int .u8 n).wf = true := by
  cases h with
  | int h n hw => rw [Tryd.underlying5] at h; cases h; exact ⟨n, rfl, hw⟩
  | bool h | str h | nil h | slice h | struct h | array h => rw [Tryd.underlying5] at h; cases h
theorem hasDig {us : List T} (h : HasC Tryd.prog 49 us) : ∃ x : List Int, us = x.map Y ∧ x.length = 16 ∧ areB x := by
  cases h with
  | array h us hl hf =>
    rw [Tryd.underlying49] at h
    cases h
    rw [cells49] at hl
    have key : ∀ i, i < 16 → ∃ n, us[i]? = some (Y n) ∧ (Lit.int .u8 n).wf = true := fun i hi => by
      obtain ⟨n, e, w⟩ := hasU8 (hf i hi)
      rw [cells5, Nat.mul_one, List.take_one] at e
      refine ⟨n, ?_, w⟩
      have : (us.drop i).head? = us[i]? := by rw [List.head?_drop]
      rw [this] at e
      cases hx : us[i]? with
      | none => rw [hx] at e; cases e
      | some x => rw [hx] at e; cases e; rfl
    refine ⟨us.map fun t => match t with | .int _ n => n | _ => 0, ?_, by simpa using hl, fun n hn => ?_⟩
    · refine List.ext_getElem? fun i => ?_
      rcases Nat.lt_or_ge i 16 with hi | hi
      · obtain ⟨n, e, _⟩ := key i hi
        rw [e]
        simp [e]
      · rw [List.getElem?_eq_none (by omega), List.getElem?_eq_none (by simp; omega)]
    · obtain ⟨t, ht, rfl⟩ := List.mem_map.1 hn
      obtain ⟨i, hi⟩ := List.mem_iff_getElem?.1 ht
      obtain ⟨n, e, w⟩ := key i (by have := (List.getElem?_eq_some_iff.1 hi).1; omega)
      rw [e] at hi
      cases hi
      exact wf8 w
  | int h | bool h | str h | nil h | slice h | struct h => rw [Tryd.underlying49] at h; cases h
theorem hasLine {us : List T} (h : HasC Tryd.prog 36 us) : ∃ x : List Int, us = x.map I ∧ x.length = 8 ∧ ∀ n ∈ x, i64 n := by
  cases h with
  | struct h us hl hf =>
    rw [Tryd.underlying36] at h
    cases h
    rw [cells36] at hl
    match us, hl with
    | [a, b, c, d, e, f, g, j], _ =>
      have f0 := hf ⟨ "Side", 3, 0, false, "", "", 0⟩ (by simp)
      have f1 := hf ⟨ "Port", 3, 1, false, "", "", 8⟩ (by simp)
      have f2 := hf ⟨ "Flow", 3, 2, false, "", "", 16⟩ (by simp)
      have f3 := hf ⟨ "Count", 3, 3, false, "", "", 24⟩ (by simp)
      have f4 := hf ⟨ "Sum", 25, 4, false, "", "", 32⟩ (by simp)
      simp only [cells3, cells25, List.drop, List.take] at f0 f1 f2 f3 f4
      obtain ⟨n0, e0, w0⟩ := hasInt f0
      obtain ⟨n1, e1, w1⟩ := hasInt f1
      obtain ⟨n2, e2, w2⟩ := hasInt f2
      obtain ⟨n3, e3, w3⟩ := hasInt f3
      obtain ⟨x, ex, hx, wx⟩ := hasInts Tryd.underlying25 cells25 f4
      simp only [List.cons.injEq, and_true] at e0 e1 e2 e3
      subst e0; subst e1; subst e2; subst e3
      refine ⟨n0 :: n1 :: n2 :: n3 :: x, by rw [ex]; rfl, by simp [hx], fun n hn => ?_⟩
      simp only [List.mem_cons] at hn
      rcases hn with rfl | rfl | rfl | rfl | hn
      · exact wf64 w0
      · exact wf64 w1
      · exact wf64 w2
      · exact wf64 w3
      · exact wf64 (wx n hn)
  | int h | bool h | str h | nil h | slice h | array h => rw [Tryd.underlying36] at h; cases h
theorem mk36 (us : List T) : mkT Tryd.prog 36 us = .agg us := by unfold mkT; rw [Tryd.underlying36]
theorem mk51 (us : List T) : mkT Tryd.prog 51 us = .agg us := by unfold mkT; rw [Tryd.underlying51]
theorem aLine {us : List T} (h : HasC Tryd.prog 36 us) : ∃ x : List Int, mkT Tryd.prog 36 us = ln x ∧ x.length = 8 ∧ ∀ n ∈ x, i64 n := by
  obtain ⟨x, rfl, hx, hw⟩ := hasLine h
  exact ⟨x, mk36 _, hx, hw⟩
theorem hasLines {us : List T} (h : HasC Tryd.prog 47 us) : ∃ (t : T) (ls : List (List Int)), us = [t] ∧ Les t (linesT ls) ∧ ls.length ≤ bulkL us ∧ ∀ x ∈ ls, x.length = 8 ∧ ∀ y ∈ x, i64 y := by
  cases h with
  | nil h => exact ⟨.nil, [], rfl, Les.nil 8, by simp, by simp⟩
  | slice h xs hx hl =>
    rw [Tryd.underlying47] at h
    cases h
    rw [cells36]
    have key : ∃ ls : List (List Int), xs.map (mkT Tryd.prog 36) = ls.map ln ∧ ls.length ≤ bulkL (xs.map (mkT Tryd.prog 36)) ∧ ∀ x ∈ ls, x.length = 8 ∧ ∀ y ∈ x, i64 y := by
      clear hl
      induction xs with
      | nil => exact ⟨[], rfl, by simp, by simp⟩
      | cons x xs ih =>
        obtain ⟨y, h1, h2, h3⟩ := aLine (hx x (by simp))
        obtain ⟨l, k2, k3, k4⟩ := ih fun y hy => hx y (by simp [hy])
        refine ⟨y :: l, by simp only [List.map_cons, k2, h1], ?_, fun z hz => ?_⟩
        · simp only [List.map_cons, bulkL, List.length_cons]
          rw [h1]
          obtain ⟨a, b, c, d, e, f, g, j, rfl⟩ := ex8 h2
          simp only [ln, T.bulk, List.map_cons, bulkL]
          omega
        · rcases List.mem_cons.1 hz with rfl | hz
          · exact ⟨h2, h3⟩
          · exact k4 z hz
    obtain ⟨ls, k2, k3, k4⟩ := key
    exact ⟨_, ls, rfl, by rw [k2]; exact Les.refl _, by simp only [bulkL, T.bulk]; omega, k4⟩
  | int h | bool h | str h | array h | struct h => rw [Tryd.underlying47] at h; cases h
theorem lesL_refl : ∀ (us : List T), (∀ u ∈ us, u.one = true) → LesL us us
  | [], _ => .nil
  | u :: us, h => .cons (Les.refl _) (h u (by simp)) (lesL_refl us fun x hx => h x (by simp [hx]))
/-- What the reading of a receipt gives. -/
theorem rd_receipt {us : List T} (h : HasC Tryd.prog 51 us) (hb : bulkL us < 2 ^ 20) : ∃ r : Rc, LesL us (rcC r.n r.i r.ls r.pv) ∧ r.ok ∧ 1 ≤ bulkL us := by
  cases h with
  | struct h us hl hf =>
    rw [Tryd.underlying51] at h
    cases h
    rw [cells51] at hl
    match us, hl with
    | a :: b :: c :: ps, hl =>
      have f0 := hf ⟨ "Node", 3, 0, false, "", "", 0⟩ (by simp)
      have f1 := hf ⟨ "Interval", 3, 1, false, "", "", 8⟩ (by simp)
      have f2 := hf ⟨ "Lines", 47, 2, false, "", "", 16⟩ (by simp)
      have f3 := hf ⟨ "Prev", 49, 3, false, "", "", 40⟩ (by simp)
      simp only [cells3, cells47, cells49, List.drop, List.take] at f0 f1 f2 f3
      have hp : ps.length = 16 := by simpa using hl
      rw [List.take_of_length_le (by omega)] at f3
      obtain ⟨n, e0, w0⟩ := hasInt f0
      obtain ⟨i, e1, w1⟩ := hasInt f1
      obtain ⟨t, ls, e2, l1, l2, l3⟩ := hasLines f2
      obtain ⟨pv, e3, p1, p2⟩ := hasDig f3
      simp only [List.cons.injEq, and_true] at e0 e1 e2
      subst e0; subst e1; subst e2; subst e3
      refine ⟨⟨n, i, ls, pv⟩, .cons (Les.refl _) rfl (.cons (Les.refl _) rfl (.cons l1 rfl (lesL_refl _ (mones (fun _ => rfl) pv)))), ⟨⟨wf64 w0, wf64 w1, l3, p1, p2⟩, ?_⟩, by simp only [bulkL, T.bulk]; omega⟩
      simp only [bulkL, T.bulk] at hb l2
      show ls.length < 2 ^ 20
      omega
    | [], hl => simp at hl
    | [_], hl => simp at hl
    | [_, _], hl => simp at hl
  | int h | bool h | str h | nil h | slice h | array h => rw [Tryd.underlying51] at h; cases h
theorem aRcs {us : List T} (h : HasC Tryd.prog 44 us) (hb : bulkL us < 2 ^ 20) : ∃ l : List Rc, Les (mkT Tryd.prog 44 us) (rcs l) ∧ l.length < 2 ^ 20 ∧ ∀ r ∈ l, r.ok := by
  have e : ∀ t, mkT Tryd.prog 44 [t] = t := fun t => by unfold mkT; rw [Tryd.underlying44]; rfl
  cases h with
  | nil h => exact ⟨[], by rw [e]; exact Les.nil 19, by simp, by simp⟩
  | slice h xs hx hl =>
    rw [Tryd.underlying44] at h
    cases h
    rw [e, cells51]
    have em : xs.map (mkT Tryd.prog 51) = xs.map .agg := List.map_congr_left fun x _ => mk51 x
    rw [em] at hb ⊢
    simp only [bulkL, T.bulk] at hb
    have key : ∃ l : List Rc, l.length = xs.length ∧ l.length ≤ bulkL (xs.map .agg) ∧ (∀ r ∈ l, r.ok) ∧ ∀ (i : Nat) x (r : Rc), xs[i]? = some x → l[i]? = some r → LesL x (rcC r.n r.i r.ls r.pv) := by
      clear hl em
      induction xs with
      | nil => exact ⟨[], rfl, by simp, by simp, by simp⟩
      | cons x xs ih =>
        simp only [List.map_cons, bulkL, T.bulk] at hb
        obtain ⟨r, h1, h2, hp⟩ := rd_receipt (hx x (by simp)) (by omega)
        obtain ⟨l, k1, k2, k3, k4⟩ := ih (fun y hy => hx y (by simp [hy])) (by omega)
        refine ⟨r :: l, by simp [k1], by simp only [List.map_cons, bulkL, T.bulk, List.length_cons]; omega, fun s hs => ?_, fun i y s hy hs => ?_⟩
        · rcases List.mem_cons.1 hs with rfl | hs
          · exact h2
          · exact k3 s hs
        · cases i with
          | zero => simp at hy hs; subst hy; subst hs; exact h1
          | succ i => exact k4 i y s (by simpa using hy) (by simpa using hs)
    obtain ⟨l, k1, k2, k3, k4⟩ := key
    refine ⟨l, Les.slice (by simp [k1]) fun i x y hx hy => ?_, by omega, k3⟩
    rw [List.getElem?_map] at hx hy
    obtain ⟨x', hx', rfl⟩ := Option.map_eq_some_iff.1 hx
    obtain ⟨r', hr', rfl⟩ := Option.map_eq_some_iff.1 hy
    exact ⟨k4 i x' r' hx' hr', rc_len (k3 r' (List.mem_of_getElem? hr'))⟩
  | int h | bool h | str h | array h | struct h => rw [Tryd.underlying44] at h; cases h
end Go.RC
end
section
/- Receipts: the keys of a map, as a row; sorted. -/
namespace Go.RC
open Go Go.DL Go.Proofs
set_option maxRecDepth 100000
set_option maxHeartbeats 1000000
abbrev nk (k : N3) : T := nm k.1 k.2.1 k.2.2
abbrev sh3 : List Sh := [.int .i64, .int .i64, .int .i64]
abbrev mpT (ks : List N3) (vs : List T) : T := .mapd true sh3 (ks.map nk) vs
noncomputable def ropsOf (id : Nat) (c : Option Code) : Array Oper := match rg0 id c with
  | .region _ ops _ => ops
  | _ => #[]
noncomputable abbrev fA : Option Code := Tryd.f100.body
noncomputable abbrev fK : Option Code := Tryd.f91.body
theorem bA : fA = some (.seq (.region 0 (ropsOf 0 fA) false) (.seq (.seq (.region 1 (ropsOf 1 fA) false)
    (.block 0 (.rangeFunc (.tmp 6) #[7] (.region 2 (ropsOf 2 fA) false) (.block 1 (.region 3 (ropsOf 3 fA) false))))) (.seq (.region 4 (ropsOf 4 fA) false) .ret))) := by kernel_rfl
abbrev isA2 : List DI := [⟨some 5, .alloc [I 0, I 0, I 0], none, []⟩, ⟨none, .store 3 (.tmp 5) (.tmp 7), none, [0, 0]⟩]
abbrev isA3 : List DI := [⟨some 8, .load 1 false (.tmp 2), none, []⟩, ⟨some 9, .load 3 true (.tmp 5), none, []⟩, ⟨some 10, .buildS 83 3 1 [I 0, I 0, I 0] [(0, .tmp 9)], none, [1]⟩,
  ⟨some 11, .append 112 83 3 24 (.tmp 8) (.tmp 10), none, [0, 2]⟩, ⟨none, .store 1 (.tmp 2) (.tmp 11), none, [3, 3, 0, 1, 2, 3]⟩]
theorem bA_0 : lowIs Tryd.prog 13 [] (ropsOf 0 fA) (ropsOf 0 fA).toList = some [⟨some 2, .box 1 (.tmp 0), none, []⟩, ⟨some 4, .mov (.const .nil), none, []⟩] := by kernel_rfl
theorem bA_1 : lowIs Tryd.prog 13 [] (ropsOf 1 fA) (ropsOf 1 fA).toList = some [⟨some 6, .mov (.tmp 1), none, []⟩] := by kernel_rfl
theorem bA_2 : lowIs Tryd.prog 13 [] (ropsOf 2 fA) (ropsOf 2 fA).toList = some isA2 := by kernel_rfl
theorem bA_3 : lowIs Tryd.prog 13 [] (ropsOf 3 fA) (ropsOf 3 fA).toList = some isA3 := by kernel_rfl
theorem bA_4 : lowIs Tryd.prog 13 [] (ropsOf 4 fA) (ropsOf 4 fA).toList = some [⟨some 12, .load 1 false (.tmp 2), none, []⟩, ⟨some 4, .mov (.tmp 12), none, [0, 0]⟩] := by kernel_rfl
noncomputable abbrev yK : Array Oper := ropsOf 3 fK
theorem bK : rg0 3 fK = .region 3 yK false := by kernel_rfl
theorem bK_1 : lowK Tryd.prog 14 yK [0, 1] = some [⟨some 10, .mov (.tmp 0), none, []⟩, ⟨some 11, .load 3 true (.tmp 3), none, []⟩] := by kernel_rfl
theorem bK_2 : lowK Tryd.prog 14 yK [3] = some [⟨some 13, .not (.tmp 12), none, [2]⟩] := by kernel_rfl
theorem bK_o : ∃ o ats, yK[2]? = some o ∧ o.guard = none ∧ o.op = .call { callee := .value (.tmp 10), args := #[.tmp 11], argTypes := ats } ∧ o.dst = some 12 := by
  refine ⟨((ropsOf 3 fK)[2]?).getD default, (match (((ropsOf 3 fK)[2]?).getD default).op with | .call c => c.argTypes | _ => #[]), by kernel_rfl, by kernel_rfl, by kernel_rfl, by kernel_rfl⟩
/-- What the caller keeps while its rounds are run. -/
noncomputable abbrev itA (l d : Nat) (f : FuncId) (tmps : Array Value) : Base → World → Prop := iterCx l (readyRec f tmps 7 (.region 2 (ropsOf 2 fA) false) (.block 1 (.region 3 (ropsOf 3 fA) false)) d)
end Go.RC
end
section
/- Receipts: the keys of a map, as a row, in whatever order. -/
namespace Go.RC
open Go Go.DL Go.Proofs
set_option maxRecDepth 100000
set_option maxHeartbeats 1000000
/-- Some order of these. -/
def permOf (ks : List N3) (xs : List T) : Prop := ∃ js : List Nat, js.Perm (List.range ks.length) ∧ xs = js.map fun j => nk (ks.getD j (0, 0, 0))
theorem range_perm {ix : List Nat} {n : Nat} (hn : ix.Nodup) (hl : ∀ j ∈ ix, j < n) (ha : ∀ j, j < n → j ∈ ix) : ix.Perm (List.range n) :=
  (List.perm_ext_iff_of_nodup hn List.nodup_range).2 fun j => ⟨fun h => List.mem_range.2 (hl j h), fun h => ha j (List.mem_range.1 h)⟩
abbrev outK (ks : List N3) (ix : List Nat) : List T := ix.map fun j => nk (ks.getD j (0, 0, 0))
abbrev esK (ks : List N3) (vs : List T) : List (T × T) := (ks.map nk).zip vs
theorem esK_get {ks : List N3} {vs : List T} {j : Nat} {e : T × T} (h : (esK ks vs)[j]? = some e) : e.1 = nk (ks.getD j (0, 0, 0)) ∧ j < ks.length := by
  rw [List.getElem?_zip_eq_some] at h
  obtain ⟨h1, _⟩ := h
  rw [List.getElem?_map, Option.map_eq_some_iff] at h1
  obtain ⟨k, hk, hk2⟩ := h1
  refine ⟨?_, (List.getElem?_eq_some_iff.1 hk).1⟩
  rw [List.getD_eq_getElem?_getD, hk, ← hk2]; rfl
theorem ent_last (es : List (T × T)) (ix : List Nat) (j : Nat) (e : T × T) (h : es[j]? = some e) : entT es (ix ++ [j]) = .tup [e.1, e.2] := by
  unfold entT
  rw [List.getLast?_concat]
  simp [h]
abbrev WK (l : Nat) (C : Base → World → Prop) (ks : List N3) (vs : List T) (ix : List Nat) (sl : List (Nat × V)) (bx : List (Nat × BX)) : Wk :=
  { sl := (0, .raw (.func (.yield l) #[] #[])) :: (5, .ptr 2005 0) :: sl, bx := (2, .v [.own 3011 83 3 (outK ks ix)]) :: (2005, .itd (esK ks vs) ix) :: bx, gh := [(0, [(2, .ptr 2 0)])], off := 2000, cx := C }
theorem cK_wp (l d : Nat) (f : FuncId) (tmps : Array Value) (ht : tmps.size = 13) (ks : List N3) (vs : List T) (hvs : vs.length = ks.length) (hl : ks.length < 2 ^ 40) (st0 : St)
    (h0 : st0 = ({sl := [(2, .ptr 2 0), (6, .fn 91 [.t (.cptr [mpT ks vs] 0)])], bx := [(2, .v [.own 3011 83 3 []])]} : Wk).mk') :
    wpC Tryd.prog c91 (st0.iter l (readyRec f tmps 7 (.region 2 (ropsOf 2 fA) false) (.block 1 (.region 3 (ropsOf 3 fA) false)) d) [.t (.cptr [mpT ks vs] 0)] 2000)
      (PostI st0 fun st => st.sl 2 = .ptr 2 0 ∧ (∃ xs, permOf ks xs ∧ st.bx 2 = some (.v [.own 3011 83 3 xs])) ∧ ∀ S w, st.cx S w) := by
  subst h0
  have hes : (esK ks vs).length = ks.length := by simp [hvs]
  repeat' ((conv => whnf); first | exact trivial | refine now_T ?_ | refine aE1 ?_ | refine aE0 ?_ | refine aN1 ?_ | refine aN0 ?_ | refine aD1 ?_ | refine aD0 ?_ | refine now_E (fun hq => ?_) (fun hq => ?_) | refine now_N (fun hq => ?_) (fun hq => ?_) | refine now_D (fun hq => ?_) (fun hq => ?_) | refine rb1 ?_ | refine rb0 ?_ | refine rbx ?_ | refine rix ?_ | refine aS ?_ | fail)
  refine wpC_loopE 0 (α := List Nat) (β := List Nat) (fun ix => WK l (itA l d f tmps) ks vs ix [] []) (fun ix => ix.Nodup ∧ ∀ j ∈ ix, j < ks.length) (fun ix => ks.length - ix.length)
    (fun ix => WK l (itA l d f tmps) ks vs ix [] []) (fun ix => ix.Perm (List.range ks.length)) [] ⟨List.nodup_nil, by simp⟩ ?_ ?_ ?_
  · exact ⟨⟨.same _, .same _, trivial⟩, ⟨.same _, .same _, trivial⟩, ⟨⟨.same _, trivial⟩, trivial⟩, rfl, fun _ _ h => h, rfl⟩
  · rintro ix ⟨hnd, hix⟩
    refine And.intro (fun j hj => by rw [hes]; exact hix j hj) (And.intro ?_ ?_)
    · intro j e he hj
      obtain ⟨he1, hjl⟩ := esK_get he
      have hent := ent_last _ ix j e he
      have hje : (ix ++ [j]).getLast?.getD 0 < (esK ks vs).length := by rw [List.getLast?_concat, hes]; exact hjl
      obtain ⟨e1, e2⟩ := e
      dsimp only at he1 hent
      subst he1
      have hixl : ix.length ≤ ks.length := by
        have := hnd.length_le_of_subset (l₂ := List.range ks.length) (fun j hj => List.mem_range.2 (hix j hj))
        simpa using this
      have hnd' : (ix ++ [j]).Nodup := by
        rw [List.nodup_append]
        exact ⟨hnd, by simp, fun a ha b hb => by rw [List.mem_singleton.1 hb]; exact fun e => hj (e ▸ ha)⟩
      have hix' : ∀ i ∈ ix ++ [j], i < ks.length := fun i hi => by
        rcases List.mem_append.1 hi with h | h
        · exact hix i h
        · rw [List.mem_singleton.1 h]; exact hjl
      have hixl' : (ix ++ [j]).length ≤ ks.length := by
        have := hnd'.length_le_of_subset (l₂ := List.range ks.length) (fun j hj => List.mem_range.2 (hix' j hj))
        simpa using this
      repeat' ((conv => whnf); first | exact trivial | refine now_v (.tup [nk (ks.getD j (0, 0, 0)), e2]) hent ?_ | refine now_T ?_ | refine aE1 ?_ | refine aE0 ?_ | refine aN1 ?_ | refine aN0 ?_ | refine aD1 ?_ | refine aD0 ?_ | refine now_E (fun hq => ?_) (fun hq => ?_) | refine now_N (fun hq => ?_) (fun hq => ?_) | refine now_D (fun hq => ?_) (fun hq => ?_) | refine rb1 ?_ | refine rb0 ?_ | refine rbx ?_ | refine rix ?_ | (refine And.intro (by first | (exact ⟨by simp, hje⟩; done) | fail) ?_) | refine aS ?_ | fail)
      obtain ⟨o, ats, o1, o2, o3, o4⟩ := bK_o
      have hsem : ∀ (st : St) (Q : DExit → St → Prop), SemC Tryd.prog 14 (.region 3 yK false) st Q → SemC Tryd.prog 14 (rg0 3 fK) st Q := fun st Q h => by rw [bK]; exact h
      refine hsem _ _ ?_
      refine yield_sem (P := Tryd.prog) (k1 := [0, 1]) (k := 2) (k2 := [3]) (by kernel_rfl) bK_1 rfl bK_2 rfl o1 o2 o3 o4 (by decide) (p := 7) ht (by decide) bA_2 rfl bA_3 rfl 3000 (l := l) (fn := f) (dd := d) (id1 := 2) (id2 := 3) (bl := 1) ?_
      refine ⟨fun _ _ h => h, rfl, ?_⟩
      repeat' ((conv => whnf); first | exact trivial | refine now_T ?_ | refine aE1 ?_ | refine aE0 ?_ | refine aN1 ?_ | refine aN0 ?_ | refine aD1 ?_ | refine aD0 ?_ | refine now_E (fun hq => ?_) (fun hq => ?_) | refine now_N (fun hq => ?_) (fun hq => ?_) | refine now_D (fun hq => ?_) (fun hq => ?_) | refine rb1 ?_ | refine rb0 ?_ | refine rbx ?_ | refine rix ?_ | (refine And.intro (by first | (exact fun _ _ => trivial; done) | (exact ⟨rfl, Nat.le_of_ble_eq_true rfl⟩; done) | ((simp; omega); done) | (exact .inl rfl; done) | fail) ?_) | refine aS ?_ | fail)
      refine ⟨ix ++ [j], ⟨hnd', hix'⟩, by rw [List.length_append]; simp at hixl' ⊢; omega, ?_⟩
      refine ⟨⟨.same _, .same _, trivial⟩, ⟨?_, .same _, trivial⟩, ⟨⟨.same _, trivial⟩, trivial⟩, rfl, fun _ _ h => h, rfl⟩
      refine .v _ _ ⟨leOwn ?_, trivial⟩
      simp [outK, putL]
    · intro hall
      repeat' ((conv => whnf); first | exact trivial | refine now_T ?_ | refine aE1 ?_ | refine aE0 ?_ | refine aN1 ?_ | refine aN0 ?_ | refine aD1 ?_ | refine aD0 ?_ | refine now_E (fun hq => ?_) (fun hq => ?_) | refine now_N (fun hq => ?_) (fun hq => ?_) | refine now_D (fun hq => ?_) (fun hq => ?_) | refine rb1 ?_ | refine rb0 ?_ | refine rbx ?_ | refine rix ?_ | refine aS ?_ | fail)
      refine ⟨ix, range_perm hnd hix (fun j hj => hall j (by rw [hes]; exact hj)), ?_⟩
      exact ⟨⟨.same _, .same _, trivial⟩, ⟨.same _, .same _, trivial⟩, ⟨⟨.same _, trivial⟩, trivial⟩, rfl, fun _ _ h => h, rfl⟩
  rintro ix hp
  repeat' ((conv => whnf); first | exact trivial | refine now_T ?_ | refine aE1 ?_ | refine aE0 ?_ | refine aN1 ?_ | refine aN0 ?_ | refine aD1 ?_ | refine aD0 ?_ | refine now_E (fun hq => ?_) (fun hq => ?_) | refine now_N (fun hq => ?_) (fun hq => ?_) | refine now_D (fun hq => ?_) (fun hq => ?_) | refine rb1 ?_ | refine rb0 ?_ | refine rbx ?_ | refine rix ?_ | refine aS ?_ | fail)
  exact ⟨⟨_, ⟨ix, hp, rfl⟩, rfl⟩, fun _ _ => trivial⟩
theorem upd_same_id {α : Type} {f : Nat → α} {n : Nat} {v : α} (h : f n = v) : upd f n v = f := by
  funext m
  by_cases e : m = n
  · rw [e, upd_same, h]
  · rw [upd_other _ _ _ _ e]
theorem nk_flat (js : List Nat) (ks : List N3) : ∀ t ∈ (js.map fun j => nk (ks.getD j (0, 0, 0))).flatMap T.cells, t.flat = true := fun t ht => by
  simp only [List.mem_flatMap, List.mem_map] at ht
  obtain ⟨x, ⟨j, _, rfl⟩, hx⟩ := ht
  simp only [T.cells, List.mem_cons, List.not_mem_nil, or_false] at hx
  rcases hx with rfl | rfl | rfl <;> rfl
abbrev keysC (ks : List N3) (vs : List T) : T := .clos 91 [.cptr [mpT ks vs] 0]
theorem f_AppendSeq (ks : List N3) (vs : List T) (hvs : vs.length = ks.length) (hl : ks.length < 2 ^ 40) : FCallsR Tryd.prog 100 [.nil, keysC ks vs] 83 3 (permOf ks) := by
  refine fcallsR_mark Tryd.func100 bA rfl (Nat.le_of_ble_eq_true rfl) ?_
  intro S w a0 hsr hdf
  let K0 : St → Prop := fun st => wpIs Tryd.prog [⟨some 6, .mov (.tmp 1), none, []⟩] st fun st =>
    weak { sl := [(2, .ptr 2 0), (6, .t (keysC ks vs))], bx := [(2, .d 1 [.nil])] } st
  have hK0 : wpIs Tryd.prog [⟨some 2, .box 1 (.tmp 0), none, []⟩, ⟨some 4, .mov (.const .nil), none, []⟩] (initSt [.nil, keysC ks vs]) K0 := by
    repeat' ((conv => whnf); first | exact trivial | refine now_T ?_ | refine aE1 ?_ | refine aE0 ?_ | refine aN1 ?_ | refine aN0 ?_ | refine aD1 ?_ | refine aD0 ?_ | refine now_E (fun hq => ?_) (fun hq => ?_) | refine now_N (fun hq => ?_) (fun hq => ?_) | refine now_D (fun hq => ?_) (fun hq => ?_) | refine rb1 ?_ | refine rb0 ?_ | refine rbx ?_ | refine rix ?_ | refine aS ?_ | fail)
    exact ⟨⟨.same _, .same _, trivial⟩, ⟨.same _, trivial⟩, trivial, rfl, fun _ _ _ => trivial, rfl⟩
  refine wp_seq (region_wp (X := []) (N := 13) hsr bA_0 (fun a1 w1 h1 => ?_) hK0)
  obtain ⟨E1, s1, rfl, k1, k2, k3⟩ := h1
  refine wp_seq (wp_seq (region_wp (X := []) k1 bA_1 (fun a2 w2 h2 => ?_) k3))
  obtain ⟨E2, s2, rfl, k4, k5, k6⟩ := h2
  obtain ⟨E3, e3, k7⟩ := k4.weak k6
  rw [← e3]
  have k8 := k7.reread (k := 6) (k7.sl 6).clos_fn
  obtain ⟨E4, e4, k10⟩ := SR.weak (a := a2) (s := {sl := [(2, .ptr 2 0), (6, .fn 91 [.t (.cptr [mpT ks vs] 0)])], bx := [(2, .v [.own 3011 83 3 []])]}) k8 ⟨⟨.same _, .same _, trivial⟩, ⟨.dv _ _ _ ⟨.nil _ _ _, trivial⟩, trivial⟩, trivial, rfl, fun _ _ _ => trivial, rfl⟩
  rw [← e4]
  refine wp_block ?_
  refine range_wp mixed k10 (fun _ _ => trivial) (y := .tmp 6) rfl (gf := 91) (caps := [.t (.cptr [mpT ks vs] 0)]) rfl Tryd.func91 l91 rfl rfl rfl (Nat.le_of_ble_eq_true rfl) 2000
    (K := fun st => st.sl 2 = .ptr 2 0 ∧ (∃ xs, permOf ks xs ∧ st.bx 2 = some (.v [.own 3011 83 3 xs])) ∧ ∀ S w, st.cx S w) (fun l d f tmps ht => ?_) (fun a5 w5 h5 => ?_)
  · exact cK_wp l d f tmps ht ks vs hvs hl _ rfl
  · obtain ⟨S0', E5, s5, D, rfl, q1, q2, q3, q4, q5, q6, r1, ⟨xs, hxs, r2⟩, r3⟩ := h5
    have q6' : a5.defers = [{ target := .collected D, args := #[] }] := by rw [q6, k5, k2, hdf]
    show Code.wp _ _ _ _ _
    refine wp_seq (region_wp (X := []) q1 bA_4 (K := fun st => (∀ S w, st.cx S w) ∧ st.sl 4 = .own 3011 83 3 xs) (fun a6 w6 h6 => ?_) ?_)
    · obtain ⟨E6, s6, rfl, p1, p2, p3, p4⟩ := h6
      obtain ⟨js, hjs, rfl⟩ := hxs
      refine wp_ret ⟨.inr rfl, S0', E6, s6, D, rfl, p1, q2, q3, q4, q5, by rw [p2, q6'], p3, _, _, ⟨js, hjs, rfl⟩, nk_flat js ks, ?_, .inl ⟨3011, rfl⟩⟩
      have : resV s6 Tryd.f100.results.toList = some [s6.sl 4] := by
        rw [show Tryd.f100.results.toList = [.tmp 4] from rfl]; rfl
      rw [this, p4]
    · obtain ⟨sl5, bx5, gh5, off5, cx5⟩ := s5
      dsimp only at r1 r2 r3
      obtain ⟨g, rfl⟩ : ∃ g, sl5 = upd g 2 (.ptr 2 0) := ⟨sl5, (upd_same_id r1).symm⟩
      obtain ⟨b, rfl⟩ : ∃ b, bx5 = upd b 2 (some (.v [.own 3011 83 3 xs])) := ⟨bx5, (upd_same_id r2).symm⟩
      exact ⟨r3, rfl⟩
theorem f_Collect (ks : List N3) (vs : List T) (hvs : vs.length = ks.length) (hl : ks.length < 2 ^ 40) : FCallsR Tryd.prog 89 [keysC ks vs] 83 3 (permOf ks) := by
  refine fcallsR_low (rs := [.tmp 2]) mixed Tryd.func89 l89 rfl rfl rfl (Nat.le_of_ble_eq_true rfl) ?_
  repeat' ((conv => whnf); first | exact trivial | refine WC_ownR (ts := [.nil, keysC ks vs]) rfl (f_AppendSeq ks vs hvs hl) (fun xs hx => ?_) | refine now_T ?_ | refine aE1 ?_ | refine aE0 ?_ | refine aN1 ?_ | refine aN0 ?_ | refine aD1 ?_ | refine aD0 ?_ | refine now_E (fun hq => ?_) (fun hq => ?_) | refine now_N (fun hq => ?_) (fun hq => ?_) | refine now_D (fun hq => ?_) (fun hq => ?_) | refine rb1 ?_ | refine rb0 ?_ | refine rbx ?_ | refine rix ?_ | refine aS ?_ | fail)
  obtain ⟨js, hjs, rfl⟩ := hx
  exact ⟨_, _, ⟨js, hjs, rfl⟩, nk_flat js ks, rfl, .inl ⟨_, rfl⟩⟩
end Go.RC
end
section
/-
  DERIVED: THE SHELF's CONTRACTS AT THIS DUMP, IN PLAIN WORDS (tools/lay-plain.mjs out of 'RCsortShelf.lean', which tools/lay-shelf.mjs wrote): THE SAME DECLARATIONS UNDER THE SAME NAMES: 'import', 'namespace', 'open', 'def', 'theorem' AND NOTHING ELSE: no command of the shelf's: FOR A HAND-IN. Each laying: the table of numbers ('.._ren') and one theorem, a field a fact of the dump's own or the kernel's comparison; each contract: ONE APPLICATION.
-/
namespace Go.Proofs
open Go.Shelf
def Tryd.laysSort90_ren : Go.Shelf.Ren := ⟨fun | 6 => 90 | 15 => 102 | 14 => 101 | 28 => 117 | 29 => 118 | 20 => 109 | 21 => 110 | 22 => 111 | 23 => 112 | 24 => 113 | 25 => 114 | 26 => 115 | 27 => 116 | 46 => 120 | 47 => 121 | 48 => 122 | 49 => 123 | 50 => 124 | 57 => 125 | n => n, fun | 22 => 112 | 24 => 83 | 25 => 86 | 3 => 3 | 39 => 76 | 0 => 0 | 53 => 117 | 55 => 34 | 4 => 4 | 46 => 158 | 45 => 157 | 50 => 162 | 5 => 5 | 9 => 9 | 66 => 166 | 70 => 170 | 76 => 172 | 77 => 173 | n => n, fun | n => n⟩
theorem Tryd.laysSort90 : Go.Proofs.SlLaysF0.n6 Tryd.prog Tryd.laysSort90_ren := {
  mixed := by kernel_rfl
  f6 := ⟨Tryd.f90.name, by decide, Tryd.func90.trans (congrArg some (by kernel_rfl))⟩
  f14 := ⟨Tryd.f101.name, by decide, Tryd.func101.trans (congrArg some (by kernel_rfl))⟩
  f15 := Tryd.func102.trans (congrArg some (by kernel_rfl))
  f20 := ⟨Tryd.f109.name, by decide, Tryd.func109.trans (congrArg some (by kernel_rfl))⟩
  f21 := ⟨Tryd.f110.name, by decide, Tryd.func110.trans (congrArg some (by kernel_rfl))⟩
  f22 := ⟨Tryd.f111.name, by decide, Tryd.func111.trans (congrArg some (by kernel_rfl))⟩
  f23 := ⟨Tryd.f112.name, by decide, Tryd.func112.trans (congrArg some (by kernel_rfl))⟩
  f24 := ⟨Tryd.f113.name, by decide, Tryd.func113.trans (congrArg some (by kernel_rfl))⟩
  f25 := ⟨Tryd.f114.name, by decide, Tryd.func114.trans (congrArg some (by kernel_rfl))⟩
  f26 := ⟨Tryd.f115.name, by decide, Tryd.func115.trans (congrArg some (by kernel_rfl))⟩
  f27 := ⟨Tryd.f116.name, by decide, Tryd.func116.trans (congrArg some (by kernel_rfl))⟩
  f28 := Tryd.func117.trans (congrArg some (by kernel_rfl))
  f29 := Tryd.func118.trans (congrArg some (by kernel_rfl))
  f46 := ⟨Tryd.f120.name, by decide, Tryd.func120.trans (congrArg some (by kernel_rfl))⟩
  f47 := Tryd.func121.trans (congrArg some (by kernel_rfl))
  f48 := Tryd.func122.trans (congrArg some (by kernel_rfl))
  f49 := ⟨Tryd.f123.name, by decide, Tryd.func123.trans (congrArg some (by kernel_rfl))⟩
  f50 := ⟨Tryd.f124.name, by decide, Tryd.func124.trans (congrArg some (by kernel_rfl))⟩
  f57 := ⟨Tryd.f125.name, by decide, Tryd.func125.trans (congrArg some (by kernel_rfl))⟩
  t0 := Tryd.underlying0
  a0 := Tryd.isAgg0
  z0 := Tryd.sizeOf0
  v0 := Tryd.zeroValue0
  t3 := Tryd.underlying3
  a3 := Tryd.isAgg3
  z3 := Tryd.sizeOf3
  v3 := Tryd.zeroValue3
  t4 := Tryd.underlying4
  a4 := Tryd.isAgg4
  z4 := Tryd.sizeOf4
  v4 := Tryd.zeroValue4
  t5 := Tryd.underlying5
  a5 := Tryd.isAgg5
  z5 := Tryd.sizeOf5
  v5 := Tryd.zeroValue5
  t9 := Tryd.underlying9
  a9 := Tryd.isAgg9
  z9 := Tryd.sizeOf9
  v9 := Tryd.zeroValue9
  t22 := Tryd.underlying112
  a22 := Tryd.isAgg112
  z22 := Tryd.sizeOf112
  v22 := Tryd.zeroValue112
  t25 := Tryd.underlying86
  a25 := Tryd.isAgg86
  z25 := Tryd.sizeOf86
  v25 := Tryd.zeroValue86
  t39 := Tryd.underlying76
  a39 := Tryd.isAgg76
  z39 := Tryd.sizeOf76
  v39 := Tryd.zeroValue76
  t45 := Tryd.underlying157
  a45 := Tryd.isAgg157
  z45 := Tryd.sizeOf157
  v45 := Tryd.zeroValue157
  t46 := Tryd.underlying158
  a46 := Tryd.isAgg158
  z46 := Tryd.sizeOf158
  v46 := Tryd.zeroValue158
  t50 := Tryd.underlying162
  a50 := Tryd.isAgg162
  z50 := Tryd.sizeOf162
  v50 := Tryd.zeroValue162
  t53 := Tryd.underlying117
  a53 := Tryd.isAgg117
  z53 := Tryd.sizeOf117
  v53 := Tryd.zeroValue117
  t55 := Tryd.underlying34
  a55 := Tryd.isAgg34
  z55 := Tryd.sizeOf34
  v55 := Tryd.zeroValue34
  t66 := Tryd.underlying166
  a66 := Tryd.isAgg166
  z66 := Tryd.sizeOf166
  v66 := Tryd.zeroValue166
  t70 := Tryd.underlying170
  a70 := Tryd.isAgg170
  z70 := Tryd.sizeOf170
  v70 := Tryd.zeroValue170
  t76 := Tryd.underlying172
  a76 := Tryd.isAgg172
  z76 := Tryd.sizeOf172
  v76 := Tryd.zeroValue172
  t77 := Tryd.underlying173
  a77 := Tryd.isAgg173
  z77 := Tryd.sizeOf173
  v77 := Tryd.zeroValue173 }
end Go.Proofs
end
section
/- Receipts: names sorted. -/
namespace Go.RC
open Go Go.DL Go.Proofs
set_option maxRecDepth 100000
set_option maxHeartbeats 1000000
theorem sortsN : SortsK Tryd.prog 90 3 :=
  SortsK.of Tryd.laysSort90 3 (fun w => Tryd.isAgg83 w) (fun w => Tryd.sizeOf83 w) (callable_of Tryd.func90 rfl rfl)
/-- A row of no element sorted. -/
theorem WC_sort_nil {P : Program} {f : FuncId} {k : Nat} {u : V} {d : Option Nat} {st : St} {K : St → Prop} (hs : SortsK P f k) (hk : K (st.set d (.t (.tup [])))) : WC P f [.t .nil, u] d st K := by
  refine ⟨hs.callable, fun N w0 S0 E a vs h hvl hv hd => ?_⟩
  have hsz : vs.size = 2 := hvl
  have hv0 := (hv 0 vs[0] _ (by simp [hsz]) rfl).inv_t
  have hvs : vs = #[vs[0], vs[1]] := by
    apply Array.ext
    · simp [hsz]
    · intro i h1 h2
      match i, h1 with
      | 0, _ => rfl
      | 1, _ => rfl
      | i + 2, h1 => omega
  have hsl : vs[0] = .slice none 0 0 := by
    generalize vs[0] = v at hv0
    cases hv0; rfl
  have hcall := hs.none_ none 0 vs[1] E.w
  rw [← hsl, ← hvs] at hcall
  refine hcall.mono ?_
  rintro e' w' ⟨rfl, rfl⟩
  exact ⟨_, rfl, _, _, rfl, hk, set_put h hd (.t _ _ (.tup #[] [] rfl fun i x t hx => by simp at hx))⟩
/-- Two names held against one another, as data. -/
def cfN : T → T → Int
  | .agg [.int _ a, .int _ b, .int _ c], .agg [.int _ a', .int _ b', .int _ c'] => cmpN (a, b, c) (a', b', c')
  | _, _ => 0
def unk : T → N3
  | .agg [.int _ a, .int _ b, .int _ c] => (a, b, c)
  | _ => (0, 0, 0)
theorem cmpN_irr (a : N3) : ¬ cmpN a a < 0 := by rw [cmpN_lt]; omega
theorem cmpN_tr {a b c : N3} (h : cmpN a b < 0) (k : cmpN b c < 0) : cmpN a c < 0 := by rw [cmpN_lt] at *; omega
theorem cmpN_ntr {a b c : N3} (h : ¬ cmpN a b < 0) (k : ¬ cmpN b c < 0) : ¬ cmpN a c < 0 := by rw [cmpN_lt] at *; omega
theorem cmpN_anti {a b : N3} (h : ¬ cmpN a b < 0) (k : ¬ cmpN b a < 0) : a = b := by
  obtain ⟨a1, a2, a3⟩ := a
  obtain ⟨b1, b2, b3⟩ := b
  rw [cmpN_lt] at *
  simp only at h k
  simp only [Prod.mk.injEq]
  omega
/-- Names in order. -/
def srt (ks : List N3) : List N3 := ks.mergeSort fun a b => !decide (cmpN b a < 0)
theorem srt_perm (ks : List N3) : (srt ks).Perm ks := List.mergeSort_perm _ _
theorem srt_sorted (ks : List N3) : (srt ks).Pairwise fun a b => ¬ cmpN b a < 0 := by
  have := List.pairwise_mergeSort (le := fun a b : N3 => !decide (cmpN b a < 0)) (fun a b c h k => by
    simp only [Bool.not_eq_true', decide_eq_false_iff_not] at *
    exact cmpN_ntr k h) (fun a b => by
    simp only [Bool.or_eq_true, Bool.not_eq_true', decide_eq_false_iff_not]
    rw [cmpN_lt, cmpN_lt]; omega) ks
  exact this.imp (fun h => by simpa using h)
theorem srt_eq {ks zs : List N3} (hp : zs.Perm ks) (hs : zs.Pairwise fun a b => ¬ cmpN b a < 0) : zs = srt ks :=
  List.Perm.eq_of_pairwise (fun a b _ _ h k => cmpN_anti k h) hs (srt_sorted ks) (hp.trans (srt_perm ks).symm)
theorem permOf_zs {ks : List N3} {xs : List T} (h : permOf ks xs) : ∃ zs : List N3, zs.Perm ks ∧ xs = zs.map nk := by
  obtain ⟨js, hp, rfl⟩ := h
  refine ⟨js.map fun j => ks.getD j (0, 0, 0), ?_, by simp⟩
  have h1 : ((List.range ks.length).map fun j => ks.getD j (0, 0, 0)) = ks := by
    apply List.ext_getElem?
    intro i
    rw [List.getElem?_map]
    by_cases h : i < ks.length
    · simp [h]
    · simp [h]
  have := hp.map (fun j => ks.getD j (0, 0, 0))
  rwa [h1] at this
theorem perm_nk {zs : List N3} {ys : List T} (h : ys.Perm (zs.map nk)) : ∃ zs' : List N3, zs'.Perm zs ∧ ys = zs'.map nk := by
  refine ⟨ys.map unk, ?_, ?_⟩
  · have := h.map unk
    rw [List.map_map] at this
    rwa [show unk ∘ nk = id from rfl, List.map_id] at this
  · rw [List.map_map]
    have : ys.map (nk ∘ unk) = ys.map id := List.map_congr_left fun y hy => by
      obtain ⟨z, _, rfl⟩ := List.mem_map.1 (h.mem_iff.1 hy)
      rfl
    rw [this, List.map_id]
theorem chunk_nk : ∀ (zs : List N3) (n : Nat), zs.length = n → chunk 3 n ((zs.map nk).flatMap T.cells) = zs.map nk
  | [], 0, _ => rfl
  | z :: zs, n + 1, h => by
    show nk z :: chunk 3 n ((zs.map nk).flatMap T.cells) = _
    rw [chunk_nk zs n (by simpa using h)]
    rfl
  | z :: zs, 0, h => by simp at h
  | [], n + 1, h => by simp at h
theorem flat_nk : ∀ (zs : List N3), ((zs.map nk).flatMap T.cells).length = zs.length * 3
  | [] => rfl
  | z :: zs => by
    rw [List.map_cons, List.flatMap_cons, List.length_append, flat_nk zs, List.length_cons]
    show 3 + _ = _
    omega
theorem isnew_srt_nil {bx : Nat → Option BX} : IsNew bx (.t .nil) (.slice 3 ((srt []).map nk)) := by
  rw [show srt [] = [] by simp [srt]]
  exact .nil 3
theorem n_Sorted (ks : List N3) (vs : List T) (hvs : vs.length = ks.length) (hl : ks.length < 2 ^ 40) : NCalls Tryd.prog 70 [keysC ks vs, .clos 52 []] (.slice 3 ((srt ks).map nk)) := by
  refine ncalls_low (rs := [.tmp 4]) mixed Tryd.func70 l70 rfl rfl rfl (Nat.le_of_ble_eq_true rfl) ?_
  repeat' ((conv => whnf); first | exact trivial | refine WC_viewR (ts := [keysC ks vs]) rfl (f_Collect ks vs hvs hl) rfl (fun h0 => ?_) (fun xs hx hc => ?_) | refine now_T ?_ | refine aE1 ?_ | refine aE0 ?_ | refine aN1 ?_ | refine aN0 ?_ | refine aD1 ?_ | refine aD0 ?_ | refine now_E (fun hq => ?_) (fun hq => ?_) | refine now_N (fun hq => ?_) (fun hq => ?_) | refine now_D (fun hq => ?_) (fun hq => ?_) | refine rb1 ?_ | refine rb0 ?_ | refine rbx ?_ | refine rix ?_ | refine aS ?_ | fail)
  · obtain ⟨zs, hp, h0⟩ := permOf_zs h0
    have : zs = [] := by
      cases zs with
      | nil => rfl
      | cons z zs => cases h0
    subst this
    have : ks = [] := List.nil_perm.1 hp
    subst this
    repeat' ((conv => whnf); first | exact trivial | refine WC_sort_nil sortsN ?_ | refine now_T ?_ | refine aE1 ?_ | refine aE0 ?_ | refine aN1 ?_ | refine aN0 ?_ | refine aD1 ?_ | refine aD0 ?_ | refine now_E (fun hq => ?_) (fun hq => ?_) | refine now_N (fun hq => ?_) (fun hq => ?_) | refine now_D (fun hq => ?_) (fun hq => ?_) | refine rb1 ?_ | refine rb0 ?_ | refine rbx ?_ | refine rix ?_ | refine aS ?_ | fail)
    exact ⟨.t .nil, rfl, isnew_srt_nil⟩
  · obtain ⟨zs, hp, rfl⟩ := permOf_zs hx
    have hzl : zs.length < 2 ^ 40 := by rw [hp.length_eq]; exact hl
    have hch : chunk 3 (zs.map nk).length (((zs.map nk).flatMap T.cells).drop 0) = zs.map nk := chunk_nk zs _ (by simp)
    repeat' ((conv => whnf); first | exact trivial | (refine WC_sort (n := 7) (off := 0) (len := (zs.map nk).length) (k := 3) (m := (zs.map nk).length * 3) (ts := (zs.map nk).flatMap T.cells) sortsN rfl (by omega) (by decide) (by simp; omega) (.inl rfl) (callable_of Tryd.func52 rfl rfl) cfN ?_ ?_ ?_ ?_ (fun ys hy hps => ?_)) | refine now_T ?_ | refine aE1 ?_ | refine aE0 ?_ | refine aN1 ?_ | refine aN0 ?_ | refine aD1 ?_ | refine aD0 ?_ | refine now_E (fun hq => ?_) (fun hq => ?_) | refine now_N (fun hq => ?_) (fun hq => ?_) | refine now_D (fun hq => ?_) (fun hq => ?_) | refine rb1 ?_ | refine rb0 ?_ | refine rbx ?_ | refine rix ?_ | refine aS ?_ | fail)
    · rw [hch]
      intro x hx y hy
      obtain ⟨a, _, rfl⟩ := List.mem_map.1 hx
      obtain ⟨b, _, rfl⟩ := List.mem_map.1 hy
      exact t_compare a b
    · rw [hch]
      intro x hx
      obtain ⟨a, _, rfl⟩ := List.mem_map.1 hx
      exact cmpN_irr a
    · rw [hch]
      intro x hx y hy z hz
      obtain ⟨a, _, rfl⟩ := List.mem_map.1 hx
      obtain ⟨b, _, rfl⟩ := List.mem_map.1 hy
      obtain ⟨c, _, rfl⟩ := List.mem_map.1 hz
      exact cmpN_tr
    · rw [hch]
      intro x hx y hy z hz
      obtain ⟨a, _, rfl⟩ := List.mem_map.1 hx
      obtain ⟨b, _, rfl⟩ := List.mem_map.1 hy
      obtain ⟨c, _, rfl⟩ := List.mem_map.1 hz
      exact cmpN_ntr
    · rw [hch] at hy
      obtain ⟨us, hu, rfl⟩ := perm_nk hy
      have hus : us = srt ks := srt_eq (hu.trans hp) ((List.pairwise_map.1 hps).imp fun h => h)
      subst hus
      have hul : (srt ks).length = zs.length := hu.length_eq
      repeat' ((conv => whnf); first | exact trivial | refine now_T ?_ | refine aE1 ?_ | refine aE0 ?_ | refine aN1 ?_ | refine aN0 ?_ | refine aD1 ?_ | refine aD0 ?_ | refine now_E (fun hq => ?_) (fun hq => ?_) | refine now_N (fun hq => ?_) (fun hq => ?_) | refine now_D (fun hq => ?_) (fun hq => ?_) | refine rb1 ?_ | refine rb0 ?_ | refine rbx ?_ | refine rix ?_ | refine aS ?_ | fail)
      have hln : (zs.map nk).length = (srt ks).length := by rw [List.length_map]; exact hul.symm
      have hpu : putL ((zs.map nk).flatMap T.cells) 0 ((zs.map nk).length * 3) (((srt ks).map nk).flatMap T.cells) = ((srt ks).map nk).flatMap T.cells := putL_all (by rw [flat_nk, List.length_map])
      refine ⟨.view 7 0 (zs.map nk).length 3, rfl, .view 7 0 (zs.map nk).length 3 ((zs.map nk).length * 3) (putL ((zs.map nk).flatMap T.cells) 0 ((zs.map nk).length * 3) (((srt ks).map nk).flatMap T.cells)) _ [7] rfl ?_ ?_⟩
      · rw [hpu]
        intro t ht
        simp only [List.mem_flatMap, List.mem_map] at ht
        obtain ⟨x, ⟨z, _, rfl⟩, hx⟩ := ht
        simp only [T.cells, List.mem_cons, List.not_mem_nil, or_false] at hx
        rcases hx with rfl | rfl | rfl <;> rfl
      · show (cond (Nat.blt 0 3 && Nat.ble (0 + (zs.map nk).length * 3) ((zs.map nk).length * 3)) (some (T.slice 3 (chunk 3 (zs.map nk).length ((putL ((zs.map nk).flatMap T.cells) 0 ((zs.map nk).length * 3) (((srt ks).map nk).flatMap T.cells)).drop 0)), [7])) none) = _
        rw [hpu, Nat.zero_add, List.drop_zero, hln, chunk_nk _ _ rfl]
        have : Nat.ble ((srt ks).length * 3) ((srt ks).length * 3) = true := Nat.ble_eq_true_of_le (Nat.le_refl _)
        rw [this]
        rfl
end Go.RC
end
section
/- Receipts: totals, comparisons, lists of receipts. -/
namespace Go.RC
open Go Go.DL Go.Proofs
set_option maxRecDepth 100000
set_option maxHeartbeats 1000000
/-- What was lost; or a conflict. -/
def cmpL (c d : Int) (s t : List Int) : Int × Int := if c < d ∨ (c = d ∧ s ≠ t) then (0, 26) else (c - d, 0)
theorem t_Compare (x y : List Int) (hx : x.length = 8) (hy : y.length = 8) (hxi : ∀ a ∈ x, i64 a) (hyi : ∀ a ∈ y, i64 a) (hx0 : 0 ≤ x.getD 3 0) (hy0 : 0 ≤ y.getD 3 0) : DCalls Tryd.prog 19 [ln x, ln y] (verT (cmpL (x.getD 3 0) (y.getD 3 0) (x.drop 4) (y.drop 4))) := by
  obtain ⟨a, b, c, d, e, f, g, j, rfl⟩ := ex8 hx
  obtain ⟨a', b', c', d', e', f', g', j', rfl⟩ := ex8 hy
  have hd := hxi d (by simp)
  have hd' := hyi d' (by simp)
  have hx0 : 0 ≤ d := hx0
  have hy0 : 0 ≤ d' := hy0
  obtain ⟨q1, q2⟩ := hd
  obtain ⟨q3, q4⟩ := hd'
  have hw : IntKind.i64.wrap (d - d') = d - d' := wrap_id (by omega) (by omega)
  refine dcalls_low (rs := [.tmp 4, .tmp 5]) mixed Tryd.func19 l19 rfl rfl rfl (r := [I _, I _]) (Nat.le_of_ble_eq_true rfl) ?_
  show wpC _ _ _ (Post _ _ [I (cmpL d d' [e, f, g, j] [e', f', g', j']).1, I (cmpL d d' [e, f, g, j] [e', f', g', j']).2])
  unfold cmpL
  by_cases h1 : d < d'
  · rw [if_pos (.inl h1)]
    repeat' ((conv => whnf); first | exact trivial | (refine now_D1 (by rw [hw]; omega) ?_) | refine now_T ?_ | refine aE1 ?_ | refine aE0 ?_ | refine aN1 ?_ | refine aN0 ?_ | refine aD1 ?_ | refine aD0 ?_ | refine now_E (fun hq => ?_) (fun hq => ?_) | refine now_N (fun hq => ?_) (fun hq => ?_) | refine now_D (fun hq => ?_) (fun hq => ?_) | refine rb1 ?_ | refine rb0 ?_ | refine rbx ?_ | refine rix ?_ | refine aS ?_ | fail)
  by_cases h2 : d = d'
  · by_cases h3 : [e, f, g, j] = [e', f', g', j']
    · rw [if_neg (fun h => h.elim h1 fun h => h.2 h3)]
      repeat' ((conv => whnf); first | exact trivial | (refine now_D0 (by rw [hw]; omega) ?_) | (refine now_E1 (by rw [hw]; omega) ?_) | refine now_b (!true) (neI (a := [e, f, g, j]) (b := [e', f', g', j']) (decide_eq_true h3)) ?_ | refine now_T ?_ | refine aE1 ?_ | refine aE0 ?_ | refine aN1 ?_ | refine aN0 ?_ | refine aD1 ?_ | refine aD0 ?_ | refine now_E (fun hq => ?_) (fun hq => ?_) | refine now_N (fun hq => ?_) (fun hq => ?_) | refine now_D (fun hq => ?_) (fun hq => ?_) | refine rb1 ?_ | refine rb0 ?_ | refine rbx ?_ | refine rix ?_ | (refine And.intro (by first | (exact ⟨fits4 (a := [e, f, g, j]) rfl, fits4 (a := [e', f', g', j']) rfl⟩; done) | fail) ?_) | refine aS ?_ | (exact ri hw (ri rfl trivial)) | fail)
    · rw [if_pos (.inr ⟨h2, h3⟩)]
      repeat' ((conv => whnf); first | exact trivial | (refine now_D0 (by rw [hw]; omega) ?_) | (refine now_E1 (by rw [hw]; omega) ?_) | refine now_b (!false) (neI (a := [e, f, g, j]) (b := [e', f', g', j']) (decide_eq_false h3)) ?_ | refine now_T ?_ | refine aE1 ?_ | refine aE0 ?_ | refine aN1 ?_ | refine aN0 ?_ | refine aD1 ?_ | refine aD0 ?_ | refine now_E (fun hq => ?_) (fun hq => ?_) | refine now_N (fun hq => ?_) (fun hq => ?_) | refine now_D (fun hq => ?_) (fun hq => ?_) | refine rb1 ?_ | refine rb0 ?_ | refine rbx ?_ | refine rix ?_ | (refine And.intro (by first | (exact ⟨fits4 (a := [e, f, g, j]) rfl, fits4 (a := [e', f', g', j']) rfl⟩; done) | fail) ?_) | refine aS ?_ | fail)
  · rw [if_neg (fun h => h.elim h1 fun h => h2 h.1)]
    repeat' ((conv => whnf); first | exact trivial | (refine now_D0 (by rw [hw]; omega) ?_) | (refine now_E0 (by rw [hw]; omega) ?_) | refine now_T ?_ | refine aE1 ?_ | refine aE0 ?_ | refine aN1 ?_ | refine aN0 ?_ | refine aD1 ?_ | refine aD0 ?_ | refine now_E (fun hq => ?_) (fun hq => ?_) | refine now_N (fun hq => ?_) (fun hq => ?_) | refine now_D (fun hq => ?_) (fun hq => ?_) | refine rb1 ?_ | refine rb0 ?_ | refine rbx ?_ | refine rix ?_ | refine aS ?_ | (exact ri hw (ri rfl trivial)) | fail)
/-- Few receipts, of few lines each. -/
def few (l : List Rc) (most : Int) : Bool := l.all (fun r => decide (r.ls.length ≤ 12)) && decide ((l.length : Int) ≤ most)
theorem t_Few (l : List Rc) (most : Int) (hl : l.length < 2 ^ 40) : DCalls Tryd.prog 20 [rcs l, I most] (.bool (few l most)) := by
  refine dcalls_low (rs := [.tmp 4]) mixed Tryd.func20 l20 rfl rfl rfl (r := [.bool _]) (Nat.le_of_ble_eq_true rfl) ?_
  repeat' ((conv => whnf); first | exact trivial | refine now_T ?_ | refine aE1 ?_ | refine aE0 ?_ | refine aN1 ?_ | refine aN0 ?_ | refine aD1 ?_ | refine aD0 ?_ | refine now_E (fun hq => ?_) (fun hq => ?_) | refine now_N (fun hq => ?_) (fun hq => ?_) | refine now_D (fun hq => ?_) (fun hq => ?_) | refine rb1 ?_ | refine rb0 ?_ | refine rbx ?_ | refine rix ?_ | refine aS ?_ | fail)
  refine wpC_loopE 0 (α := Nat) (β := Unit) (fun k => {sl := [(0, .t (rcs l)), (1, .t (I most)), (5, .t (I k))], bx := []})
    (fun k => k ≤ l.length ∧ (l.take k).all (fun r => decide (r.ls.length ≤ 12)) = true) (fun k => l.length - k) (fun _ => {sl := [(0, .t (rcs l)), (1, .t (I most))], bx := []}) (fun _ => l.all (fun r => decide (r.ls.length ≤ 12)) = true) 0 ⟨by omega, rfl⟩ ?_ ?_ ?_
  · repeat' (first | exact trivial | exact LeV.same _ | exact LeB.same _ | exact rfl | exact fun _ _ _ => trivial | exact lI | exact LeV.nil _ _ _ | exact lB | refine leBd ?_ | refine leOwn ?_ | refine And.intro ?_ ?_)
  · rintro k ⟨hk, ha⟩
    rcases Nat.lt_or_ge k l.length with h2 | h2
    · have hno := all_no (p := fun r : Rc => decide (r.ls.length ≤ 12)) (l := l) (i := k) h2
      have hye := all_take (p := fun r : Rc => decide (r.ls.length ≤ 12)) (l := l) (i := k) h2 ha
      have hxe : l[k]? = some l[k] := List.getElem?_eq_getElem h2
      generalize l[k] = r at hno hye hxe
      obtain ⟨n, i, ls, rp⟩ := r
      by_cases h3 : ls.length ≤ 12
      · repeat' ((conv => whnf); first | exact trivial | (refine now_D1 (by simp; omega) ?_) | (refine now_v (rcT n i ls rp) (by first | (exact eltRc (r := ⟨n, i, ls, rp⟩) (by simp only [Int.toNat_natCast]; exact hxe); done) | fail) ?_) | (refine now_D0 (by simp; omega) ?_) | refine now_T ?_ | refine aE1 ?_ | refine aE0 ?_ | refine aN1 ?_ | refine aN0 ?_ | refine aD1 ?_ | refine aD0 ?_ | refine now_E (fun hq => ?_) (fun hq => ?_) | refine now_N (fun hq => ?_) (fun hq => ?_) | refine now_D (fun hq => ?_) (fun hq => ?_) | refine rb1 ?_ | refine rb0 ?_ | refine rbx ?_ | refine rix ?_ | (refine And.intro (by first | ((simp; omega); done) | fail) ?_) | refine aS ?_ | fail)
        exact ⟨k + 1, ⟨by omega, hye (by simpa using h3)⟩, by omega, by repeat' (first | exact trivial | exact LeV.same _ | exact LeB.same _ | exact rfl | exact fun _ _ _ => trivial | exact lI | exact LeV.nil _ _ _ | exact lB | refine leBd ?_ | refine leOwn ?_ | refine And.intro ?_ ?_)⟩
      · have hf : false = few l most := by unfold few; rw [hno (by simpa using h3)]; rfl
        repeat' ((conv => whnf); first | exact trivial | (refine now_D1 (by simp; omega) ?_) | (refine now_v (rcT n i ls rp) (by first | (exact eltRc (r := ⟨n, i, ls, rp⟩) (by simp only [Int.toNat_natCast]; exact hxe); done) | fail) ?_) | refine now_T ?_ | refine aE1 ?_ | refine aE0 ?_ | refine aN1 ?_ | refine aN0 ?_ | refine aD1 ?_ | refine aD0 ?_ | refine now_E (fun hq => ?_) (fun hq => ?_) | refine now_N (fun hq => ?_) (fun hq => ?_) | refine now_D (fun hq => ?_) (fun hq => ?_) | refine rb1 ?_ | refine rb0 ?_ | refine rbx ?_ | refine rix ?_ | (refine And.intro (by first | ((simp; omega); done) | fail) ?_) | refine aS ?_ | (exact rb hf trivial) | fail)
    · have : k = l.length := by omega
      subst this
      rw [List.take_length] at ha
      repeat' ((conv => whnf); first | exact trivial | refine now_D0 (by simp) ?_ | refine now_T ?_ | refine aE1 ?_ | refine aE0 ?_ | refine aN1 ?_ | refine aN0 ?_ | refine aD1 ?_ | refine aD0 ?_ | refine now_E (fun hq => ?_) (fun hq => ?_) | refine now_N (fun hq => ?_) (fun hq => ?_) | refine now_D (fun hq => ?_) (fun hq => ?_) | refine rb1 ?_ | refine rb0 ?_ | refine rbx ?_ | refine rix ?_ | refine aS ?_ | fail)
      exact ⟨(), ha, by repeat' (first | exact trivial | exact LeV.same _ | exact LeB.same _ | exact rfl | exact fun _ _ _ => trivial | exact lI | exact LeV.nil _ _ _ | exact lB | refine leBd ?_ | refine leOwn ?_ | refine And.intro ?_ ?_)⟩
  rintro - hr
  unfold few
  rw [hr]
  repeat' ((conv => whnf); first | exact trivial | refine now_D (fun hq => ?_) (fun hq => ?_) | refine now_T ?_ | refine aE1 ?_ | refine aE0 ?_ | refine aN1 ?_ | refine aN0 ?_ | refine aD1 ?_ | refine aD0 ?_ | refine now_E (fun hq => ?_) (fun hq => ?_) | refine now_N (fun hq => ?_) (fun hq => ?_) | refine now_D (fun hq => ?_) (fun hq => ?_) | refine rb1 ?_ | refine rb0 ?_ | refine rbx ?_ | refine rix ?_ | refine aS ?_ | fail)
  all_goals (refine rb ?_ trivial; simpa using hq)
/-- Two lists of receipts are the same. -/
def samL (r s : Rc) : Bool := sameB r.n r.i r.ls r.pv s.n s.i s.ls s.pv
def samA : List Rc → List Rc → Bool
  | [], [] => true
  | r :: a, s :: b => samL r s && samA a b
  | _, _ => false
theorem samL_iff {r s : Rc} : samL r s = true ↔ r = s := by
  obtain ⟨n, i, ls, pv⟩ := r
  obtain ⟨n', i', ls', pv'⟩ := s
  simp [samL, sameB, and_comm]
theorem samA_cons {r s : Rc} {a b : List Rc} : samA (r :: a) (s :: b) = (samL r s && samA a b) := rfl
theorem samA_iff : ∀ {a b : List Rc}, samA a b = true ↔ a = b
  | [], [] => by simp [samA]
  | [], _ :: _ => by simp [samA]
  | _ :: _, [] => by simp [samA]
  | r :: a, s :: b => by simp [samA, samL_iff, samA_iff]
theorem t_SameAll (a b : List Rc) (hl : a.length < 2 ^ 40) (ha : ∀ r ∈ a, r.ok) (hb : ∀ r ∈ b, r.ok) : DCalls Tryd.prog 25 [rcs a, rcs b] (.bool (samA a b)) := by
  refine dcalls_low (rs := [.tmp 4]) mixed Tryd.func25 l25 rfl rfl rfl (r := [.bool _]) (Nat.le_of_ble_eq_true rfl) ?_
  by_cases hll : a.length = b.length
  case neg =>
    have hf : false = samA a b := by
      cases h : samA a b with
      | false => rfl
      | true => exact absurd (congrArg List.length (samA_iff.1 h)) hll
    repeat' ((conv => whnf); first | exact trivial | (refine now_N1 (by simp; omega) ?_) | refine now_T ?_ | refine aE1 ?_ | refine aE0 ?_ | refine aN1 ?_ | refine aN0 ?_ | refine aD1 ?_ | refine aD0 ?_ | refine now_E (fun hq => ?_) (fun hq => ?_) | refine now_N (fun hq => ?_) (fun hq => ?_) | refine now_D (fun hq => ?_) (fun hq => ?_) | refine rb1 ?_ | refine rb0 ?_ | refine rbx ?_ | refine rix ?_ | refine aS ?_ | (exact rb hf trivial) | fail)
  repeat' ((conv => whnf); first | exact trivial | refine now_N0 (by simp [hll]) ?_ | refine now_T ?_ | refine aE1 ?_ | refine aE0 ?_ | refine aN1 ?_ | refine aN0 ?_ | refine aD1 ?_ | refine aD0 ?_ | refine now_E (fun hq => ?_) (fun hq => ?_) | refine now_N (fun hq => ?_) (fun hq => ?_) | refine now_D (fun hq => ?_) (fun hq => ?_) | refine rb1 ?_ | refine rb0 ?_ | refine rbx ?_ | refine rix ?_ | refine aS ?_ | fail)
  refine wpC_loopE 0 (α := Nat) (β := Unit) (fun k => {sl := [(0, .t (rcs a)), (1, .t (rcs b)), (5, .t (I k))], bx := []})
    (fun k => k ≤ a.length ∧ samA (a.drop k) (b.drop k) = samA a b) (fun k => a.length - k) (fun _ => {sl := [], bx := []}) (fun _ => samA a b = true) 0 ⟨by omega, rfl⟩ ?_ ?_ ?_
  · repeat' (first | exact trivial | exact LeV.same _ | exact LeB.same _ | exact rfl | exact fun _ _ _ => trivial | exact lI | exact LeV.nil _ _ _ | exact lB | refine leBd ?_ | refine leOwn ?_ | refine And.intro ?_ ?_)
  · rintro k ⟨hk, ho⟩
    rcases Nat.lt_or_ge k a.length with h2 | h2
    · have h3 : k < b.length := by omega
      have ha1 := ha a[k] (List.getElem_mem h2)
      have hb1 := hb b[k] (List.getElem_mem h3)
      have hxa : a[k]? = some a[k] := List.getElem?_eq_getElem h2
      have hxb : b[k]? = some b[k] := List.getElem?_eq_getElem h3
      rw [List.drop_eq_getElem_cons h2, List.drop_eq_getElem_cons h3] at ho
      rw [samA_cons] at ho
      generalize a[k] = x at ha1 hxa ho
      generalize b[k] = y at hb1 hxb ho
      obtain ⟨n, i, ls, rp⟩ := x
      obtain ⟨n', i', ls', rp'⟩ := y
      have hlen : (rcC n i ls rp).length = 19 := rc_len ha1
      have hlen' : (rcC n' i' ls' rp').length = 19 := rc_len hb1
      have hS := t_refSame n i ls rp n' i' ls' rp' ha1.1.l8 hb1.1.l8 (by have := ha1.2; dsimp only at this; omega) ha1.1.hp hb1.1.hp
      have hf : sameB n i ls rp n' i' ls' rp' = samL ⟨n, i, ls, rp⟩ ⟨n', i', ls', rp'⟩ := rfl
      rw [hf] at hS
      cases hs : samL ⟨n, i, ls, rp⟩ ⟨n', i', ls', rp'⟩ with
      | true =>
        rw [hs] at hS ho
        repeat' ((conv => whnf); first | exact trivial | (refine now_D1 (by simp; omega) ?_) | (refine now_v (rcT n i ls rp) (by first | (exact eltRc (r := ⟨n, i, ls, rp⟩) (by simp only [Int.toNat_natCast]; exact hxa); done) | fail) ?_) | (refine now_v (rcT n' i' ls' rp') (by first | (exact eltRc (r := ⟨n', i', ls', rp'⟩) (by simp only [Int.toNat_natCast]; exact hxb); done) | fail) ?_) | refine k_call _ (hS) ?_ | refine now_T ?_ | refine aE1 ?_ | refine aE0 ?_ | refine aN1 ?_ | refine aN0 ?_ | refine aD1 ?_ | refine aD0 ?_ | refine now_E (fun hq => ?_) (fun hq => ?_) | refine now_N (fun hq => ?_) (fun hq => ?_) | refine now_D (fun hq => ?_) (fun hq => ?_) | refine rb1 ?_ | refine rb0 ?_ | refine rbx ?_ | refine rix ?_ | (refine And.intro (by first | ((simp; omega); done) | (exact hlen; done) | (exact hlen'; done) | fail) ?_) | refine aS ?_ | fail)
        rw [Bool.true_and] at ho
        exact ⟨k + 1, ⟨by omega, ho⟩, by omega, by repeat' (first | exact trivial | exact LeV.same _ | exact LeB.same _ | exact rfl | exact fun _ _ _ => trivial | exact lI | exact LeV.nil _ _ _ | exact lB | refine leBd ?_ | refine leOwn ?_ | refine And.intro ?_ ?_)⟩
      | false =>
        rw [hs] at hS ho
        rw [Bool.false_and] at ho
        repeat' ((conv => whnf); first | exact trivial | (refine now_D1 (by simp; omega) ?_) | (refine now_v (rcT n i ls rp) (by first | (exact eltRc (r := ⟨n, i, ls, rp⟩) (by simp only [Int.toNat_natCast]; exact hxa); done) | fail) ?_) | (refine now_v (rcT n' i' ls' rp') (by first | (exact eltRc (r := ⟨n', i', ls', rp'⟩) (by simp only [Int.toNat_natCast]; exact hxb); done) | fail) ?_) | refine k_call _ (hS) ?_ | refine now_T ?_ | refine aE1 ?_ | refine aE0 ?_ | refine aN1 ?_ | refine aN0 ?_ | refine aD1 ?_ | refine aD0 ?_ | refine now_E (fun hq => ?_) (fun hq => ?_) | refine now_N (fun hq => ?_) (fun hq => ?_) | refine now_D (fun hq => ?_) (fun hq => ?_) | refine rb1 ?_ | refine rb0 ?_ | refine rbx ?_ | refine rix ?_ | (refine And.intro (by first | ((simp; omega); done) | (exact hlen; done) | (exact hlen'; done) | fail) ?_) | refine aS ?_ | (exact rb ho trivial) | fail)
    · have : k = a.length := by omega
      subst this
      rw [List.drop_length, hll, List.drop_length] at ho
      repeat' ((conv => whnf); first | exact trivial | refine now_D0 (by simp) ?_ | refine now_T ?_ | refine aE1 ?_ | refine aE0 ?_ | refine aN1 ?_ | refine aN0 ?_ | refine aD1 ?_ | refine aD0 ?_ | refine now_E (fun hq => ?_) (fun hq => ?_) | refine now_N (fun hq => ?_) (fun hq => ?_) | refine now_D (fun hq => ?_) (fun hq => ?_) | refine rb1 ?_ | refine rb0 ?_ | refine rbx ?_ | refine rix ?_ | refine aS ?_ | fail)
      exact ⟨(), ho.symm, by repeat' (first | exact trivial | exact LeV.same _ | exact LeB.same _ | exact rfl | exact fun _ _ _ => trivial | exact lI | exact LeV.nil _ _ _ | exact lB | refine leBd ?_ | refine leOwn ?_ | refine And.intro ?_ ?_)⟩
  rintro - hr
  repeat' ((conv => whnf); first | exact trivial | refine now_T ?_ | refine aE1 ?_ | refine aE0 ?_ | refine aN1 ?_ | refine aN0 ?_ | refine aD1 ?_ | refine aD0 ?_ | refine now_E (fun hq => ?_) (fun hq => ?_) | refine now_N (fun hq => ?_) (fun hq => ?_) | refine now_D (fun hq => ?_) (fun hq => ?_) | refine rb1 ?_ | refine rb0 ?_ | refine rbx ?_ | refine rix ?_ | refine aS ?_ | (exact rb hr.symm trivial) | fail)
end Go.RC
end
section
/- Lowered code of the program's functions: printed by program. No statement here. -/
namespace Go.RC
open Go Go.DL Go.Proofs
set_option maxRecDepth 100000
-- interlace/interlacelaw46.sanity
noncomputable def c11 : DCode := (.seq (.region [⟨some 0, .mov (.const (.bool false)), none, []⟩] []) (.seq (.region [⟨some 1, .mov (.const (.int .i64 (4294967295))), none, []⟩] []) (.seq (.seq (.region [⟨some 27, .mov (.tmp 1), none, []⟩,
  ⟨some 28, .build [(.int .i64 (0)), (.int .i64 (0)), (.int .i64 (0)), (.int .i64 (0))] [(0, 1, (.tmp 27)), (1, 1, (.const (.int .i64 (0)))), (2, 1, (.const (.int .i64 (0)))), (3, 1, (.const (.int .i64 (5))))], none, []⟩,
  ⟨some 29, .build [(.int .i64 (0)), (.int .i64 (0)), (.int .i64 (0)), (.int .i64 (0))] [(0, 1, (.const (.int .i64 (1)))), (1, 1, (.const (.int .i64 (2)))), (2, 1, (.const (.int .i64 (0)))), (3, 1, (.const (.int .i64 (5))))], none, []⟩,
  ⟨some 30, .call 14 [(.tmp 28), (.tmp 29)], none, []⟩,
  ⟨some 31, .build [(.int .i64 (0)), (.int .i64 (0)), (.int .i64 (0)), (.int .i64 (0))] [(0, 1, (.const (.int .i64 (0)))), (1, 1, (.const (.int .i64 (2)))), (2, 1, (.const (.int .i64 (0)))), (3, 1, (.const (.int .i64 (10))))], none, []⟩,
  ⟨some 32, .eqv true [.int .i64, .int .i64, .int .i64, .int .i64] (.tmp 30) (.tmp 31), none, []⟩,
  ⟨some 33, .mov (.tmp 32), none, []⟩,
  ⟨some 34, .build [(.int .i64 (0)), (.int .i64 (0)), (.int .i64 (0)), (.int .i64 (0))] [], some (33, false), []⟩,
  ⟨some 35, .build [(.int .i64 (0)), (.int .i64 (0)), (.int .i64 (0)), (.int .i64 (0))] [(0, 1, (.const (.int .i64 (1))))], some (33, false), []⟩,
  ⟨some 36, .call 16 [(.tmp 34), (.tmp 35)], some (33, false), []⟩,
  ⟨some 37, .mov (.tmp 1), some (33, false), []⟩,
  ⟨some 38, .build [(.int .i64 (0)), (.int .i64 (0)), (.int .i64 (0)), (.int .i64 (0))] [(0, 1, (.tmp 37)), (1, 1, (.const (.int .i64 (0)))), (2, 1, (.const (.int .i64 (0)))), (3, 1, (.const (.int .i64 (0))))], some (33, false), []⟩,
  ⟨some 39, .eqv true [.int .i64, .int .i64, .int .i64, .int .i64] (.tmp 36) (.tmp 38), some (33, false), []⟩,
  ⟨some 40, .pick (.tmp 33) (.const (.bool true)) (.tmp 39), none, []⟩] []) (.cond (.tmp 40) (.seq (.region [⟨some 0, .mov (.const (.bool false)), none, []⟩] []) .ret) .skip)) (.seq (.region [⟨some 42, .inl 40 [(.const (.int .i64 (3)))], none, []⟩,
  ⟨some 41, .mov (.tmp 42), none, []⟩,
  ⟨some 43, .ext (.tmp 41) 0, none, []⟩,
  ⟨some 44, .ext (.tmp 41) 1, none, []⟩,
  ⟨some 2, .mov (.tmp 43), none, []⟩,
  ⟨some 3, .mov (.tmp 44), none, []⟩] []) (.seq (.region [⟨some 46, .inl 40 [(.const (.int .i64 (200)))], none, []⟩,
  ⟨some 45, .mov (.tmp 46), none, []⟩,
  ⟨some 47, .ext (.tmp 45) 0, none, []⟩,
  ⟨some 48, .ext (.tmp 45) 1, none, []⟩,
  ⟨some 4, .mov (.tmp 47), none, []⟩,
  ⟨some 5, .mov (.tmp 48), none, []⟩] []) (.seq (.seq (.region [⟨some 49, .mov (.tmp 3), none, []⟩,
  ⟨some 50, .bin .neq (.tmp 49) (.const (.int .i64 (0))), none, []⟩,
  ⟨some 51, .mov (.tmp 50), none, []⟩,
  ⟨some 52, .mov (.tmp 5), some (51, false), []⟩,
  ⟨some 53, .bin .neq (.tmp 52) (.const (.int .i64 (1))), some (51, false), []⟩,
  ⟨some 54, .pick (.tmp 51) (.const (.bool true)) (.tmp 53), none, []⟩,
  ⟨some 55, .mov (.tmp 54), none, []⟩,
  ⟨some 56, .mov (.tmp 2), some (55, false), []⟩,
  ⟨some 57, .isnil 0 false (.tmp 56), some (55, false), []⟩,
  ⟨some 58, .pick (.tmp 55) (.const (.bool true)) (.tmp 57), none, []⟩] []) (.cond (.tmp 58) (.seq (.region [⟨some 0, .mov (.const (.bool false)), none, []⟩] []) .ret) .skip)) (.seq (.region [⟨some 59, .build [(.int .i64 (0)), (.int .i64 (0)), (.int .i64 (0)), (.int .i64 (0)), (.int .i64 (0)), (.int .i64 (0)), (.int .i64 (0)), (.int .i64 (0)), (.int .i64 (0)), (.int .i64 (0))] [(0, 1, (.const (.int .i64 (7)))), (1, 1, (.const (.int .i64 (5))))], none, []⟩,
  ⟨some 60, .build [(.int .i64 (0)), (.int .i64 (0)), (.int .i64 (0)), (.int .i64 (0)), (.int .i64 (0)), (.int .i64 (0)), (.int .i64 (0)), (.int .i64 (0)), (.int .i64 (0)), (.int .i64 (0))] [(0, 1, (.const (.int .i64 (7)))), (1, 1, (.const (.int .i64 (6))))], none, []⟩,
  ⟨some 6, .alloc [(.int .i64 (0)), (.int .i64 (0)), (.int .i64 (0)), (.int .i64 (0)), (.int .i64 (0)), (.int .i64 (0)), (.int .i64 (0)), (.int .i64 (0)), (.int .i64 (0)), (.int .i64 (0))], none, []⟩,
  ⟨some 7, .alloc [(.int .i64 (0)), (.int .i64 (0)), (.int .i64 (0)), (.int .i64 (0)), (.int .i64 (0)), (.int .i64 (0)), (.int .i64 (0)), (.int .i64 (0)), (.int .i64 (0)), (.int .i64 (0))], none, []⟩,
  ⟨none, .store 10 (.tmp 6) (.tmp 59), none, []⟩,
  ⟨none, .store 10 (.tmp 7) (.tmp 60), none, []⟩] []) (.seq (.seq (.region [⟨some 61, .mov (.tmp 2), none, []⟩,
  ⟨some 62, .load 10 true (.tmp 6), none, []⟩,
  ⟨some 63, .mcall [1013, 1011] 41 [(.tmp 61), (.const (.int .i64 (2))), (.const (.int .i64 (7))), (.const (.int .i64 (1))), (.tmp 62)], none, []⟩,
  ⟨some 64, .mov (.tmp 2), none, []⟩,
  ⟨some 65, .load 10 true (.tmp 6), none, []⟩,
  ⟨some 66, .mcall [1013, 1011] 41 [(.tmp 64), (.const (.int .i64 (1))), (.const (.int .i64 (2))), (.const (.int .i64 (1))), (.tmp 65)], none, []⟩,
  ⟨some 67, .mov (.tmp 2), none, []⟩,
  ⟨some 68, .load 10 true (.tmp 7), none, []⟩,
  ⟨some 69, .mcall [1013, 1011] 41 [(.tmp 67), (.const (.int .i64 (2))), (.const (.int .i64 (7))), (.const (.int .i64 (1))), (.tmp 68)], none, []⟩,
  ⟨some 70, .buildT 1 3 [(.int .i64 (0))] [(0, (.tmp 63)), (1, (.tmp 66)), (2, (.tmp 69))], none, []⟩,
  ⟨some 71, .len (.tmp 70), none, []⟩,
  ⟨some 72, .mov (.const (.int .i64 (0))), none, []⟩] [[], [], [], [], [2], [], [], [2, 5], [], [], [], []]) (.block 0 (.loop (.seq (.region [⟨some 73, .bin .lss (.tmp 72) (.tmp 71), none, []⟩] []) (.seq (.cond (.tmp 73) .skip (.exit 0)) (.seq (.block 1 (.seq (.region [⟨some 74, .idxL 1 (.tmp 70) (.tmp 72), none, []⟩,
  ⟨some 75, .load 1 false (.tmp 74), none, []⟩,
  ⟨some 9, .mov (.tmp 75), none, []⟩] []) (.seq (.region [⟨some 76, .mov (.tmp 9), none, []⟩,
  ⟨some 77, .bin .neq (.tmp 76) (.const (.int .i64 (0))), none, []⟩] []) (.cond (.tmp 77) (.seq (.region [⟨some 0, .mov (.const (.bool false)), none, []⟩] []) .ret) .skip)))) (.region [⟨some 78, .bin .add (.tmp 72) (.const (.int .i64 (1))), none, []⟩,
  ⟨some 72, .mov (.tmp 78), none, []⟩] []))))))) (.seq (.cut (.region [⟨some 80, .mov (.tmp 2), none, []⟩,
  ⟨some 81, .inl 42 [(.tmp 80)], none, []⟩,
  ⟨some 79, .mov (.tmp 81), none, []⟩,
  ⟨some 82, .ext (.tmp 79) 0, none, []⟩,
  ⟨some 83, .ext (.tmp 79) 1, none, []⟩,
  ⟨some 10, .alloc [(.int .i64 (0)), (.int .i64 (0)), .nil, (.int .u8 (0)), (.int .u8 (0)), (.int .u8 (0)), (.int .u8 (0)), (.int .u8 (0)), (.int .u8 (0)), (.int .u8 (0)), (.int .u8 (0)), (.int .u8 (0)), (.int .u8 (0)), (.int .u8 (0)), (.int .u8 (0)), (.int .u8 (0)), (.int .u8 (0)), (.int .u8 (0)), (.int .u8 (0))], none, []⟩,
  ⟨none, .store 19 (.tmp 10) (.tmp 82), none, []⟩,
  ⟨some 11, .mov (.tmp 83), none, []⟩] [])) (.seq (.cut (.region [⟨some 85, .mov (.tmp 2), none, []⟩,
  ⟨some 86, .inl 42 [(.tmp 85)], none, []⟩,
  ⟨some 84, .mov (.tmp 86), none, []⟩,
  ⟨some 87, .ext (.tmp 84) 0, none, []⟩,
  ⟨some 88, .ext (.tmp 84) 1, none, []⟩,
  ⟨some 12, .alloc [(.int .i64 (0)), (.int .i64 (0)), .nil, (.int .u8 (0)), (.int .u8 (0)), (.int .u8 (0)), (.int .u8 (0)), (.int .u8 (0)), (.int .u8 (0)), (.int .u8 (0)), (.int .u8 (0)), (.int .u8 (0)), (.int .u8 (0)), (.int .u8 (0)), (.int .u8 (0)), (.int .u8 (0)), (.int .u8 (0)), (.int .u8 (0)), (.int .u8 (0))], none, []⟩,
  ⟨none, .store 19 (.tmp 12) (.tmp 87), none, []⟩,
  ⟨some 13, .mov (.tmp 88), none, []⟩] [])) (.seq (.cut (.region [⟨some 90, .load 19 true (.tmp 10), none, []⟩,
  ⟨some 91, .load 19 true (.tmp 12), none, []⟩,
  ⟨some 92, .buildS 51 19 2 [(.int .i64 (0)), (.int .i64 (0)), .nil, (.int .u8 (0)), (.int .u8 (0)), (.int .u8 (0)), (.int .u8 (0)), (.int .u8 (0)), (.int .u8 (0)), (.int .u8 (0)), (.int .u8 (0)), (.int .u8 (0)), (.int .u8 (0)), (.int .u8 (0)), (.int .u8 (0)), (.int .u8 (0)), (.int .u8 (0)), (.int .u8 (0)), (.int .u8 (0))] [(0, (.tmp 90)), (1, (.tmp 91))], none, []⟩,
  ⟨some 93, .call 22 [(.const (.int .i64 (3))), (.tmp 92)], none, []⟩,
  ⟨some 89, .mov (.tmp 93), none, []⟩,
  ⟨some 94, .ext (.tmp 89) 0, none, []⟩,
  ⟨some 95, .ext (.tmp 89) 1, none, []⟩,
  ⟨some 14, .mov (.tmp 94), none, []⟩,
  ⟨some 15, .mov (.tmp 95), none, []⟩] [])) (.seq (.cut (.region [⟨some 97, .load 19 true (.tmp 12), none, []⟩,
  ⟨some 98, .buildS 51 19 1 [(.int .i64 (0)), (.int .i64 (0)), .nil, (.int .u8 (0)), (.int .u8 (0)), (.int .u8 (0)), (.int .u8 (0)), (.int .u8 (0)), (.int .u8 (0)), (.int .u8 (0)), (.int .u8 (0)), (.int .u8 (0)), (.int .u8 (0)), (.int .u8 (0)), (.int .u8 (0)), (.int .u8 (0)), (.int .u8 (0)), (.int .u8 (0)), (.int .u8 (0))] [(0, (.tmp 97))], none, []⟩,
  ⟨some 99, .call 22 [(.const (.int .i64 (3))), (.tmp 98)], none, []⟩,
  ⟨some 96, .mov (.tmp 99), none, []⟩,
  ⟨some 100, .ext (.tmp 96) 0, none, []⟩,
  ⟨some 101, .ext (.tmp 96) 1, none, []⟩,
  ⟨some 16, .mov (.tmp 100), none, []⟩,
  ⟨some 17, .mov (.tmp 101), none, []⟩] [])) (.seq (.cut (.region [⟨some 103, .load 19 true (.tmp 10), none, []⟩,
  ⟨some 104, .call 30 [(.tmp 103), (.const (.int .i64 (2))), (.const (.int .i64 (7))), (.const (.int .i64 (1)))], none, []⟩,
  ⟨some 102, .mov (.tmp 104), none, []⟩,
  ⟨some 105, .ext (.tmp 102) 0, none, []⟩,
  ⟨some 106, .ext (.tmp 102) 1, none, []⟩,
  ⟨some 18, .alloc [(.int .i64 (0)), (.int .i64 (0)), (.int .i64 (0)), (.int .i64 (0)), (.int .i64 (0)), (.int .i64 (0)), (.int .i64 (0)), (.int .i64 (0))], none, []⟩,
  ⟨none, .store 8 (.tmp 18) (.tmp 105), none, []⟩,
  ⟨some 19, .mov (.tmp 106), none, []⟩] [])) (.seq (.region [⟨some 108, .build [(.int .i64 (0)), (.int .i64 (0)), (.int .i64 (0)), (.int .i64 (0)), (.int .i64 (0)), (.int .i64 (0)), (.int .i64 (0)), (.int .i64 (0))] [(3, 1, (.const (.int .i64 (5))))], none, []⟩,
  ⟨some 109, .build [(.int .i64 (0)), (.int .i64 (0)), (.int .i64 (0)), (.int .i64 (0)), (.int .i64 (0)), (.int .i64 (0)), (.int .i64 (0)), (.int .i64 (0))] [(3, 1, (.const (.int .i64 (3))))], none, []⟩,
  ⟨some 110, .call 19 [(.tmp 108), (.tmp 109)], none, []⟩,
  ⟨some 107, .mov (.tmp 110), none, []⟩,
  ⟨some 111, .ext (.tmp 107) 0, none, []⟩,
  ⟨some 112, .ext (.tmp 107) 1, none, []⟩,
  ⟨some 20, .mov (.tmp 111), none, []⟩,
  ⟨some 21, .mov (.tmp 112), none, []⟩] []) (.seq (.region [⟨some 114, .build [(.int .i64 (0)), (.int .i64 (0)), (.int .i64 (0)), (.int .i64 (0)), (.int .i64 (0)), (.int .i64 (0)), (.int .i64 (0)), (.int .i64 (0))] [(3, 1, (.const (.int .i64 (3))))], none, []⟩,
  ⟨some 115, .build [(.int .i64 (0)), (.int .i64 (0)), (.int .i64 (0)), (.int .i64 (0)), (.int .i64 (0)), (.int .i64 (0)), (.int .i64 (0)), (.int .i64 (0))] [(3, 1, (.const (.int .i64 (5))))], none, []⟩,
  ⟨some 116, .call 19 [(.tmp 114), (.tmp 115)], none, []⟩,
  ⟨some 113, .mov (.tmp 116), none, []⟩,
  ⟨some 117, .ext (.tmp 113) 0, none, []⟩,
  ⟨some 118, .ext (.tmp 113) 1, none, []⟩,
  ⟨some 22, .mov (.tmp 117), none, []⟩,
  ⟨some 23, .mov (.tmp 118), none, []⟩] []) (.seq (.cut (.region [⟨some 120, .build [(.int .i64 (0)), (.int .i64 (0)), (.int .i64 (0)), (.int .i64 (0))] [(0, 1, (.const (.int .i64 (1))))], none, []⟩,
  ⟨some 121, .build [(.int .i64 (0)), (.int .i64 (0)), (.int .i64 (0)), (.int .i64 (0)), (.int .i64 (0)), (.int .i64 (0)), (.int .i64 (0)), (.int .i64 (0))] [(3, 1, (.const (.int .i64 (5)))), (4, 4, (.tmp 120))], none, []⟩,
  ⟨some 122, .build [(.int .i64 (0)), (.int .i64 (0)), (.int .i64 (0)), (.int .i64 (0)), (.int .i64 (0)), (.int .i64 (0)), (.int .i64 (0)), (.int .i64 (0))] [(3, 1, (.const (.int .i64 (5))))], none, []⟩,
  ⟨some 123, .call 19 [(.tmp 121), (.tmp 122)], none, []⟩,
  ⟨some 119, .mov (.tmp 123), none, []⟩,
  ⟨some 124, .ext (.tmp 119) 0, none, []⟩,
  ⟨some 125, .ext (.tmp 119) 1, none, []⟩,
  ⟨some 24, .mov (.tmp 124), none, []⟩,
  ⟨some 25, .mov (.tmp 125), none, []⟩] [])) (.seq (.cut (.region [⟨some 126, .mov (.tmp 11), none, []⟩,
  ⟨some 127, .bin .eql (.tmp 126) (.const (.int .i64 (0))), none, []⟩,
  ⟨some 128, .mov (.tmp 127), none, []⟩,
  ⟨some 129, .mov (.tmp 13), some (128, true), []⟩,
  ⟨some 130, .bin .eql (.tmp 129) (.const (.int .i64 (0))), some (128, true), []⟩,
  ⟨some 131, .pick (.tmp 128) (.tmp 130) (.const (.bool false)), none, []⟩,
  ⟨some 132, .mov (.tmp 131), none, []⟩,
  ⟨some 133, .offA 2 (.tmp 10), some (132, true), []⟩,
  ⟨some 134, .load 1 false (.tmp 133), some (132, true), []⟩,
  ⟨some 135, .len (.tmp 134), some (132, true), []⟩,
  ⟨some 136, .bin .eql (.tmp 135) (.const (.int .i64 (2))), some (132, true), []⟩,
  ⟨some 137, .pick (.tmp 132) (.tmp 136) (.const (.bool false)), none, []⟩,
  ⟨some 138, .mov (.tmp 137), none, []⟩,
  ⟨some 139, .offA 2 (.tmp 10), some (138, true), []⟩,
  ⟨some 140, .load 1 false (.tmp 139), some (138, true), []⟩,
  ⟨some 141, .idxL 8 (.tmp 140) (.const (.int .i64 (0))), some (138, true), []⟩,
  ⟨some 142, .offA 0 (.tmp 141), some (138, true), []⟩,
  ⟨some 143, .load 1 false (.tmp 142), some (138, true), []⟩,
  ⟨some 144, .bin .eql (.tmp 143) (.const (.int .i64 (1))), some (138, true), []⟩,
  ⟨some 145, .pick (.tmp 138) (.tmp 144) (.const (.bool false)), none, []⟩,
  ⟨some 146, .mov (.tmp 145), none, []⟩,
  ⟨some 147, .offA 2 (.tmp 10), some (146, true), []⟩,
  ⟨some 148, .load 1 false (.tmp 147), some (146, true), []⟩,
  ⟨some 149, .idxL 8 (.tmp 148) (.const (.int .i64 (0))), some (146, true), []⟩,
  ⟨some 150, .offA 3 (.tmp 149), some (146, true), []⟩,
  ⟨some 151, .load 1 false (.tmp 150), some (146, true), []⟩,
  ⟨some 152, .bin .eql (.tmp 151) (.const (.int .i64 (1))), some (146, true), []⟩,
  ⟨some 153, .pick (.tmp 146) (.tmp 152) (.const (.bool false)), none, []⟩,
  ⟨some 154, .mov (.tmp 153), none, []⟩,
  ⟨some 155, .offA 1 (.tmp 10), some (154, true), []⟩,
  ⟨some 156, .load 1 false (.tmp 155), some (154, true), []⟩,
  ⟨some 157, .bin .eql (.tmp 156) (.const (.int .i64 (0))), some (154, true), []⟩,
  ⟨some 158, .pick (.tmp 154) (.tmp 157) (.const (.bool false)), none, []⟩,
  ⟨some 159, .mov (.tmp 158), none, []⟩,
  ⟨some 160, .offA 1 (.tmp 12), some (159, true), []⟩,
  ⟨some 161, .load 1 false (.tmp 160), some (159, true), []⟩,
  ⟨some 162, .bin .eql (.tmp 161) (.const (.int .i64 (1))), some (159, true), []⟩,
  ⟨some 163, .pick (.tmp 159) (.tmp 162) (.const (.bool false)), none, []⟩,
  ⟨some 164, .mov (.tmp 163), none, []⟩,
  ⟨some 165, .offA 2 (.tmp 12), some (164, true), []⟩,
  ⟨some 166, .load 1 false (.tmp 165), some (164, true), []⟩,
  ⟨some 167, .len (.tmp 166), some (164, true), []⟩,
  ⟨some 168, .bin .eql (.tmp 167) (.const (.int .i64 (0))), some (164, true), []⟩,
  ⟨some 169, .pick (.tmp 164) (.tmp 168) (.const (.bool false)), none, []⟩,
  ⟨some 170, .mov (.tmp 169), none, []⟩,
  ⟨some 171, .offA 3 (.tmp 12), some (170, true), []⟩,
  ⟨some 172, .load 16 true (.tmp 171), some (170, true), []⟩,
  ⟨some 173, .load 19 true (.tmp 10), some (170, true), []⟩,
  ⟨some 174, .call 24 [(.tmp 173)], some (170, true), []⟩,
  ⟨some 175, .eqv false [.int .u8, .int .u8, .int .u8, .int .u8, .int .u8, .int .u8, .int .u8, .int .u8, .int .u8, .int .u8, .int .u8, .int .u8, .int .u8, .int .u8, .int .u8, .int .u8] (.tmp 172) (.tmp 174), some (170, true), []⟩,
  ⟨some 176, .pick (.tmp 170) (.tmp 175) (.const (.bool false)), none, []⟩,
  ⟨some 177, .mov (.tmp 176), none, []⟩,
  ⟨some 178, .load 19 true (.tmp 10), some (177, true), []⟩,
  ⟨some 179, .call 28 [(.tmp 178)], some (177, true), []⟩,
  ⟨some 180, .bin .eql (.tmp 179) (.const (.int .i64 (0))), some (177, true), []⟩,
  ⟨some 181, .pick (.tmp 177) (.tmp 180) (.const (.bool false)), none, []⟩,
  ⟨some 26, .mov (.tmp 181), none, []⟩] [])) (.seq (.region [⟨some 182, .mov (.tmp 26), none, []⟩,
  ⟨some 183, .mov (.tmp 182), none, []⟩,
  ⟨some 184, .mov (.tmp 14), some (183, true), []⟩,
  ⟨some 185, .bin .eql (.tmp 184) (.const (.int .i64 (2))), some (183, true), []⟩,
  ⟨some 186, .pick (.tmp 183) (.tmp 185) (.const (.bool false)), none, []⟩,
  ⟨some 187, .mov (.tmp 186), none, []⟩,
  ⟨some 188, .mov (.tmp 15), some (187, true), []⟩,
  ⟨some 189, .bin .eql (.tmp 188) (.const (.int .i64 (0))), some (187, true), []⟩,
  ⟨some 190, .pick (.tmp 187) (.tmp 189) (.const (.bool false)), none, []⟩,
  ⟨some 191, .mov (.tmp 190), none, []⟩,
  ⟨some 192, .mov (.tmp 16), some (191, true), []⟩,
  ⟨some 193, .bin .eql (.tmp 192) (.const (.int .i64 (0))), some (191, true), []⟩,
  ⟨some 194, .pick (.tmp 191) (.tmp 193) (.const (.bool false)), none, []⟩,
  ⟨some 195, .mov (.tmp 194), none, []⟩,
  ⟨some 196, .mov (.tmp 17), some (195, true), []⟩,
  ⟨some 197, .bin .eql (.tmp 196) (.const (.int .i64 (25))), some (195, true), []⟩,
  ⟨some 198, .pick (.tmp 195) (.tmp 197) (.const (.bool false)), none, []⟩,
  ⟨some 199, .mov (.tmp 198), none, []⟩,
  ⟨some 200, .mov (.tmp 19), some (199, true), []⟩,
  ⟨some 201, .pick (.tmp 199) (.tmp 200) (.const (.bool false)), none, []⟩,
  ⟨some 202, .mov (.tmp 201), none, []⟩,
  ⟨some 203, .offA 3 (.tmp 18), some (202, true), []⟩,
  ⟨some 204, .load 1 false (.tmp 203), some (202, true), []⟩,
  ⟨some 205, .bin .eql (.tmp 204) (.const (.int .i64 (2))), some (202, true), []⟩,
  ⟨some 206, .pick (.tmp 202) (.tmp 205) (.const (.bool false)), none, []⟩,
  ⟨some 207, .mov (.tmp 206), none, []⟩,
  ⟨some 208, .offA 4 (.tmp 18), some (207, true), []⟩,
  ⟨some 209, .load 4 true (.tmp 208), some (207, true), []⟩,
  ⟨some 210, .load 10 true (.tmp 6), some (207, true), []⟩,
  ⟨some 211, .call 12 [(.tmp 210)], some (207, true), []⟩,
  ⟨some 212, .load 10 true (.tmp 7), some (207, true), []⟩,
  ⟨some 213, .call 12 [(.tmp 212)], some (207, true), []⟩,
  ⟨some 214, .call 14 [(.tmp 211), (.tmp 213)], some (207, true), []⟩,
  ⟨some 215, .eqv false [.int .i64, .int .i64, .int .i64, .int .i64] (.tmp 209) (.tmp 214), some (207, true), []⟩,
  ⟨some 216, .pick (.tmp 207) (.tmp 215) (.const (.bool false)), none, []⟩,
  ⟨some 217, .mov (.tmp 216), none, []⟩,
  ⟨some 218, .mov (.tmp 20), some (217, true), []⟩,
  ⟨some 219, .bin .eql (.tmp 218) (.const (.int .i64 (2))), some (217, true), []⟩,
  ⟨some 220, .pick (.tmp 217) (.tmp 219) (.const (.bool false)), none, []⟩,
  ⟨some 221, .mov (.tmp 220), none, []⟩,
  ⟨some 222, .mov (.tmp 21), some (221, true), []⟩,
  ⟨some 223, .bin .eql (.tmp 222) (.const (.int .i64 (0))), some (221, true), []⟩,
  ⟨some 224, .pick (.tmp 221) (.tmp 223) (.const (.bool false)), none, []⟩,
  ⟨some 225, .mov (.tmp 224), none, []⟩,
  ⟨some 226, .mov (.tmp 23), some (225, true), []⟩,
  ⟨some 227, .bin .eql (.tmp 226) (.const (.int .i64 (26))), some (225, true), []⟩,
  ⟨some 228, .pick (.tmp 225) (.tmp 227) (.const (.bool false)), none, []⟩,
  ⟨some 229, .mov (.tmp 228), none, []⟩,
  ⟨some 230, .mov (.tmp 25), some (229, true), []⟩,
  ⟨some 231, .bin .eql (.tmp 230) (.const (.int .i64 (26))), some (229, true), []⟩,
  ⟨some 232, .pick (.tmp 229) (.tmp 231) (.const (.bool false)), none, []⟩,
  ⟨some 0, .mov (.tmp 232), none, []⟩] []) .ret))))))))))))))))))
theorem l11 : (Tryd.f11.body.bind (lowC Tryd.prog 233 [40, 42, 6000015, 6000016, 6000017, 6000018, 6000019, 6000022, 6000023, 1000063001013, 1000063001011, 1000066001013, 1000066001011, 1000069001013, 1000069001011])) = some c11 := by kernel_rfl
-- interlace/interlacelaw46.ReceiptSumsAdd
noncomputable def c3 : DCode := (.seq (.region [⟨some 4, .box 10 (.tmp 0), none, []⟩,
  ⟨some 5, .box 4 (.tmp 1), none, []⟩,
  ⟨some 6, .box 4 (.tmp 2), none, []⟩,
  ⟨some 7, .box 4 (.tmp 3), none, []⟩,
  ⟨some 8, .mov (.const (.bool false)), none, []⟩] []) (.seq (.seq (.region [⟨some 11, .load 10 true (.tmp 4), none, []⟩,
  ⟨some 12, .call 9 [(.tmp 11)], none, []⟩,
  ⟨some 13, .not (.tmp 12), none, []⟩,
  ⟨some 14, .mov (.tmp 13), none, []⟩,
  ⟨some 15, .load 4 true (.tmp 5), some (14, false), []⟩,
  ⟨some 16, .call 10 [(.tmp 15)], some (14, false), []⟩,
  ⟨some 17, .not (.tmp 16), some (14, false), []⟩,
  ⟨some 18, .pick (.tmp 14) (.const (.bool true)) (.tmp 17), none, []⟩,
  ⟨some 19, .mov (.tmp 18), none, []⟩,
  ⟨some 20, .load 4 true (.tmp 6), some (19, false), []⟩,
  ⟨some 21, .call 10 [(.tmp 20)], some (19, false), []⟩,
  ⟨some 22, .not (.tmp 21), some (19, false), []⟩,
  ⟨some 23, .pick (.tmp 19) (.const (.bool true)) (.tmp 22), none, []⟩,
  ⟨some 24, .mov (.tmp 23), none, []⟩,
  ⟨some 25, .load 4 true (.tmp 7), some (24, false), []⟩,
  ⟨some 26, .call 10 [(.tmp 25)], some (24, false), []⟩,
  ⟨some 27, .not (.tmp 26), some (24, false), []⟩,
  ⟨some 28, .pick (.tmp 24) (.const (.bool true)) (.tmp 27), none, []⟩] []) (.cond (.tmp 28) (.seq (.region [⟨some 29, .call 11 [], none, []⟩,
  ⟨some 8, .mov (.tmp 29), none, []⟩] []) .ret) .skip)) (.seq (.seq (.region [⟨some 30, .load 10 true (.tmp 4), none, []⟩,
  ⟨some 31, .call 12 [(.tmp 30)], none, []⟩,
  ⟨some 32, .load 10 true (.tmp 4), none, []⟩,
  ⟨some 33, .call 13 [(.tmp 32)], none, []⟩,
  ⟨some 34, .eqv true [.int .i64, .int .i64, .int .i64, .int .i64] (.tmp 31) (.tmp 33), none, []⟩,
  ⟨some 35, .mov (.tmp 34), none, []⟩,
  ⟨some 36, .load 4 true (.tmp 5), some (35, false), []⟩,
  ⟨some 37, .load 4 true (.tmp 6), some (35, false), []⟩,
  ⟨some 38, .call 14 [(.tmp 36), (.tmp 37)], some (35, false), []⟩,
  ⟨some 39, .load 4 true (.tmp 5), some (35, false), []⟩,
  ⟨some 40, .load 4 true (.tmp 6), some (35, false), []⟩,
  ⟨some 41, .call 15 [(.tmp 39), (.tmp 40)], some (35, false), []⟩,
  ⟨some 42, .eqv true [.int .i64, .int .i64, .int .i64, .int .i64] (.tmp 38) (.tmp 41), some (35, false), []⟩,
  ⟨some 43, .pick (.tmp 35) (.const (.bool true)) (.tmp 42), none, []⟩,
  ⟨some 44, .mov (.tmp 43), none, []⟩,
  ⟨some 45, .load 4 true (.tmp 5), some (44, false), []⟩,
  ⟨some 46, .load 4 true (.tmp 6), some (44, false), []⟩,
  ⟨some 47, .call 16 [(.tmp 45), (.tmp 46)], some (44, false), []⟩,
  ⟨some 48, .load 4 true (.tmp 5), some (44, false), []⟩,
  ⟨some 49, .load 4 true (.tmp 6), some (44, false), []⟩,
  ⟨some 50, .call 17 [(.tmp 48), (.tmp 49)], some (44, false), []⟩,
  ⟨some 51, .eqv true [.int .i64, .int .i64, .int .i64, .int .i64] (.tmp 47) (.tmp 50), some (44, false), []⟩,
  ⟨some 52, .pick (.tmp 44) (.const (.bool true)) (.tmp 51), none, []⟩,
  ⟨some 53, .mov (.tmp 52), none, []⟩,
  ⟨some 54, .load 10 true (.tmp 4), some (53, false), []⟩,
  ⟨some 55, .call 12 [(.tmp 54)], some (53, false), []⟩,
  ⟨some 56, .call 10 [(.tmp 55)], some (53, false), []⟩,
  ⟨some 57, .not (.tmp 56), some (53, false), []⟩,
  ⟨some 58, .pick (.tmp 53) (.const (.bool true)) (.tmp 57), none, []⟩] []) (.cond (.tmp 58) (.seq (.region [⟨some 8, .mov (.const (.bool false)), none, []⟩] []) .ret) .skip)) (.seq (.region [⟨some 59, .load 4 true (.tmp 5), none, []⟩,
  ⟨some 60, .load 4 true (.tmp 6), none, []⟩,
  ⟨some 61, .call 14 [(.tmp 59), (.tmp 60)], none, []⟩,
  ⟨some 62, .load 4 true (.tmp 7), none, []⟩,
  ⟨some 63, .call 14 [(.tmp 61), (.tmp 62)], none, []⟩,
  ⟨some 64, .load 4 true (.tmp 5), none, []⟩,
  ⟨some 65, .load 4 true (.tmp 6), none, []⟩,
  ⟨some 66, .load 4 true (.tmp 7), none, []⟩,
  ⟨some 67, .call 14 [(.tmp 65), (.tmp 66)], none, []⟩,
  ⟨some 68, .call 14 [(.tmp 64), (.tmp 67)], none, []⟩,
  ⟨some 9, .alloc [(.int .i64 (0)), (.int .i64 (0)), (.int .i64 (0)), (.int .i64 (0))], none, []⟩,
  ⟨some 10, .alloc [(.int .i64 (0)), (.int .i64 (0)), (.int .i64 (0)), (.int .i64 (0))], none, []⟩,
  ⟨none, .store 4 (.tmp 9) (.tmp 63), none, []⟩,
  ⟨none, .store 4 (.tmp 10) (.tmp 68), none, []⟩] []) (.seq (.region [⟨some 69, .call 11 [], none, []⟩,
  ⟨some 70, .mov (.tmp 69), none, []⟩,
  ⟨some 71, .load 4 true (.tmp 5), some (70, true), []⟩,
  ⟨some 72, .load 4 true (.tmp 6), some (70, true), []⟩,
  ⟨some 73, .call 14 [(.tmp 71), (.tmp 72)], some (70, true), []⟩,
  ⟨some 74, .load 4 true (.tmp 6), some (70, true), []⟩,
  ⟨some 75, .load 4 true (.tmp 5), some (70, true), []⟩,
  ⟨some 76, .call 14 [(.tmp 74), (.tmp 75)], some (70, true), []⟩,
  ⟨some 77, .eqv false [.int .i64, .int .i64, .int .i64, .int .i64] (.tmp 73) (.tmp 76), some (70, true), []⟩,
  ⟨some 78, .pick (.tmp 70) (.tmp 77) (.const (.bool false)), none, []⟩,
  ⟨some 79, .mov (.tmp 78), none, []⟩,
  ⟨some 80, .load 4 true (.tmp 9), some (79, true), []⟩,
  ⟨some 81, .load 4 true (.tmp 10), some (79, true), []⟩,
  ⟨some 82, .eqv false [.int .i64, .int .i64, .int .i64, .int .i64] (.tmp 80) (.tmp 81), some (79, true), []⟩,
  ⟨some 83, .pick (.tmp 79) (.tmp 82) (.const (.bool false)), none, []⟩,
  ⟨some 84, .mov (.tmp 83), none, []⟩,
  ⟨some 85, .load 4 true (.tmp 5), some (84, true), []⟩,
  ⟨some 86, .load 4 true (.tmp 6), some (84, true), []⟩,
  ⟨some 87, .call 14 [(.tmp 85), (.tmp 86)], some (84, true), []⟩,
  ⟨some 88, .load 4 true (.tmp 6), some (84, true), []⟩,
  ⟨some 89, .call 16 [(.tmp 87), (.tmp 88)], some (84, true), []⟩,
  ⟨some 90, .load 4 true (.tmp 5), some (84, true), []⟩,
  ⟨some 91, .eqv false [.int .i64, .int .i64, .int .i64, .int .i64] (.tmp 89) (.tmp 90), some (84, true), []⟩,
  ⟨some 92, .pick (.tmp 84) (.tmp 91) (.const (.bool false)), none, []⟩,
  ⟨some 93, .mov (.tmp 92), none, []⟩,
  ⟨some 94, .load 4 true (.tmp 5), some (93, true), []⟩,
  ⟨some 95, .build [(.int .i64 (0)), (.int .i64 (0)), (.int .i64 (0)), (.int .i64 (0))] [], some (93, true), []⟩,
  ⟨some 96, .call 14 [(.tmp 94), (.tmp 95)], some (93, true), []⟩,
  ⟨some 97, .load 4 true (.tmp 5), some (93, true), []⟩,
  ⟨some 98, .eqv false [.int .i64, .int .i64, .int .i64, .int .i64] (.tmp 96) (.tmp 97), some (93, true), []⟩,
  ⟨some 99, .pick (.tmp 93) (.tmp 98) (.const (.bool false)), none, []⟩,
  ⟨some 8, .mov (.tmp 99), none, []⟩] []) .ret)))))
theorem l3 : (Tryd.f3.body.bind (lowC Tryd.prog 100 [])) = some c3 := by kernel_rfl
-- interlace/interlacelaw46.ReceiptChainsBind
noncomputable def c6 : DCode := (.seq (.region [⟨some 6, .mov (.const (.bool false)), none, []⟩] []) (.seq (.seq (.region [⟨some 12, .mov (.tmp 1), none, []⟩,
  ⟨some 13, .call 20 [(.tmp 12), (.const (.int .i64 (12)))], none, []⟩,
  ⟨some 14, .not (.tmp 13), none, []⟩,
  ⟨some 15, .mov (.tmp 14), none, []⟩,
  ⟨some 16, .mov (.tmp 2), some (15, false), []⟩,
  ⟨some 17, .call 20 [(.tmp 16), (.const (.int .i64 (12)))], some (15, false), []⟩,
  ⟨some 18, .not (.tmp 17), some (15, false), []⟩,
  ⟨some 19, .pick (.tmp 15) (.const (.bool true)) (.tmp 18), none, []⟩,
  ⟨some 20, .mov (.tmp 19), none, []⟩,
  ⟨some 21, .mov (.tmp 1), some (20, false), []⟩,
  ⟨some 22, .len (.tmp 21), some (20, false), []⟩,
  ⟨some 23, .mov (.tmp 2), some (20, false), []⟩,
  ⟨some 24, .len (.tmp 23), some (20, false), []⟩,
  ⟨some 25, .bin .neq (.tmp 22) (.tmp 24), some (20, false), []⟩,
  ⟨some 26, .pick (.tmp 20) (.const (.bool true)) (.tmp 25), none, []⟩,
  ⟨some 27, .mov (.tmp 26), none, []⟩,
  ⟨some 28, .mov (.tmp 1), some (27, false), []⟩,
  ⟨some 29, .len (.tmp 28), some (27, false), []⟩,
  ⟨some 30, .bin .eql (.tmp 29) (.const (.int .i64 (0))), some (27, false), []⟩,
  ⟨some 31, .pick (.tmp 27) (.const (.bool true)) (.tmp 30), none, []⟩,
  ⟨some 32, .mov (.tmp 31), none, []⟩,
  ⟨some 33, .mov (.tmp 1), some (32, false), []⟩,
  ⟨some 34, .mov (.tmp 1), some (32, false), []⟩,
  ⟨some 35, .len (.tmp 34), some (32, false), []⟩,
  ⟨some 36, .bin .sub (.tmp 35) (.const (.int .i64 (1))), some (32, false), []⟩,
  ⟨some 37, .idxL 19 (.tmp 33) (.tmp 36), some (32, false), []⟩,
  ⟨some 38, .load 19 true (.tmp 37), some (32, false), []⟩,
  ⟨some 39, .mov (.tmp 2), some (32, false), []⟩,
  ⟨some 40, .mov (.tmp 2), some (32, false), []⟩,
  ⟨some 41, .len (.tmp 40), some (32, false), []⟩,
  ⟨some 42, .bin .sub (.tmp 41) (.const (.int .i64 (1))), some (32, false), []⟩,
  ⟨some 43, .idxL 19 (.tmp 39) (.tmp 42), some (32, false), []⟩,
  ⟨some 44, .load 19 true (.tmp 43), some (32, false), []⟩,
  ⟨some 45, .call 21 [(.tmp 38), (.tmp 44)], some (32, false), []⟩,
  ⟨some 46, .not (.tmp 45), some (32, false), []⟩,
  ⟨some 47, .pick (.tmp 32) (.const (.bool true)) (.tmp 46), none, []⟩] []) (.cond (.tmp 47) (.seq (.region [⟨some 48, .call 11 [], none, []⟩,
  ⟨some 6, .mov (.tmp 48), none, []⟩] []) .ret) .skip)) (.seq (.region [⟨some 50, .mov (.tmp 0), none, []⟩,
  ⟨some 51, .mov (.tmp 1), none, []⟩,
  ⟨some 52, .call 22 [(.tmp 50), (.tmp 51)], none, []⟩,
  ⟨some 49, .mov (.tmp 52), none, []⟩,
  ⟨some 53, .ext (.tmp 49) 0, none, []⟩,
  ⟨some 54, .ext (.tmp 49) 1, none, []⟩,
  ⟨some 7, .mov (.tmp 53), none, []⟩,
  ⟨some 8, .mov (.tmp 54), none, []⟩] []) (.seq (.region [⟨some 56, .mov (.tmp 0), none, []⟩,
  ⟨some 57, .mov (.tmp 2), none, []⟩,
  ⟨some 58, .call 22 [(.tmp 56), (.tmp 57)], none, []⟩,
  ⟨some 55, .mov (.tmp 58), none, []⟩,
  ⟨some 59, .ext (.tmp 55) 0, none, []⟩,
  ⟨some 60, .ext (.tmp 55) 1, none, []⟩,
  ⟨some 9, .mov (.tmp 59), none, []⟩,
  ⟨some 10, .mov (.tmp 60), none, []⟩] []) (.seq (.seq (.region [⟨some 61, .mov (.tmp 8), none, []⟩,
  ⟨some 62, .bin .neq (.tmp 61) (.const (.int .i64 (0))), none, []⟩,
  ⟨some 63, .mov (.tmp 62), none, []⟩,
  ⟨some 64, .mov (.tmp 10), some (63, false), []⟩,
  ⟨some 65, .bin .neq (.tmp 64) (.const (.int .i64 (0))), some (63, false), []⟩,
  ⟨some 66, .pick (.tmp 63) (.const (.bool true)) (.tmp 65), none, []⟩,
  ⟨some 67, .mov (.tmp 66), none, []⟩,
  ⟨some 68, .mov (.tmp 7), some (67, false), []⟩,
  ⟨some 69, .mov (.tmp 1), some (67, false), []⟩,
  ⟨some 70, .len (.tmp 69), some (67, false), []⟩,
  ⟨some 71, .bin .neq (.tmp 68) (.tmp 70), some (67, false), []⟩,
  ⟨some 72, .pick (.tmp 67) (.const (.bool true)) (.tmp 71), none, []⟩,
  ⟨some 73, .mov (.tmp 72), none, []⟩,
  ⟨some 74, .mov (.tmp 9), some (73, false), []⟩,
  ⟨some 75, .mov (.tmp 2), some (73, false), []⟩,
  ⟨some 76, .len (.tmp 75), some (73, false), []⟩,
  ⟨some 77, .bin .neq (.tmp 74) (.tmp 76), some (73, false), []⟩,
  ⟨some 78, .pick (.tmp 73) (.const (.bool true)) (.tmp 77), none, []⟩] []) (.cond (.tmp 78) (.seq (.region [⟨some 79, .call 11 [], none, []⟩,
  ⟨some 6, .mov (.tmp 79), none, []⟩] []) .ret) .skip)) (.seq (.seq (.region [⟨some 80, .mov (.tmp 1), none, []⟩,
  ⟨some 81, .len (.tmp 80), none, []⟩,
  ⟨some 82, .mov (.const (.int .i64 (0))), none, []⟩] []) (.block 0 (.loop (.seq (.region [⟨some 83, .bin .lss (.tmp 82) (.tmp 81), none, []⟩] []) (.seq (.cond (.tmp 83) .skip (.exit 0)) (.seq (.block 1 (.seq (.region [⟨some 84, .mov (.tmp 82), none, []⟩,
  ⟨some 11, .mov (.tmp 84), none, []⟩] []) (.seq (.region [⟨some 85, .mov (.tmp 1), none, []⟩,
  ⟨some 86, .mov (.tmp 11), none, []⟩,
  ⟨some 87, .idxL 19 (.tmp 85) (.tmp 86), none, []⟩,
  ⟨some 88, .load 19 true (.tmp 87), none, []⟩,
  ⟨some 89, .mov (.tmp 2), none, []⟩,
  ⟨some 90, .mov (.tmp 11), none, []⟩,
  ⟨some 91, .idxL 19 (.tmp 89) (.tmp 90), none, []⟩,
  ⟨some 92, .load 19 true (.tmp 91), none, []⟩,
  ⟨some 93, .call 23 [(.tmp 88), (.tmp 92)], none, []⟩,
  ⟨some 94, .not (.tmp 93), none, []⟩,
  ⟨some 95, .mov (.tmp 94), none, []⟩,
  ⟨some 96, .mov (.tmp 1), some (95, true), []⟩,
  ⟨some 97, .mov (.tmp 11), some (95, true), []⟩,
  ⟨some 98, .idxL 19 (.tmp 96) (.tmp 97), some (95, true), []⟩,
  ⟨some 99, .load 19 true (.tmp 98), some (95, true), []⟩,
  ⟨some 100, .call 24 [(.tmp 99)], some (95, true), []⟩,
  ⟨some 101, .mov (.tmp 2), some (95, true), []⟩,
  ⟨some 102, .mov (.tmp 11), some (95, true), []⟩,
  ⟨some 103, .idxL 19 (.tmp 101) (.tmp 102), some (95, true), []⟩,
  ⟨some 104, .load 19 true (.tmp 103), some (95, true), []⟩,
  ⟨some 105, .call 24 [(.tmp 104)], some (95, true), []⟩,
  ⟨some 106, .eqv false [.int .u8, .int .u8, .int .u8, .int .u8, .int .u8, .int .u8, .int .u8, .int .u8, .int .u8, .int .u8, .int .u8, .int .u8, .int .u8, .int .u8, .int .u8, .int .u8] (.tmp 100) (.tmp 105), some (95, true), []⟩,
  ⟨some 107, .pick (.tmp 95) (.tmp 106) (.const (.bool false)), none, []⟩] []) (.cond (.tmp 107) (.seq (.region [⟨some 108, .call 11 [], none, []⟩,
  ⟨some 6, .mov (.tmp 108), none, []⟩] []) .ret) .skip)))) (.region [⟨some 109, .bin .add (.tmp 82) (.const (.int .i64 (1))), none, []⟩,
  ⟨some 82, .mov (.tmp 109), none, []⟩] []))))))) (.seq (.region [⟨some 110, .call 11 [], none, []⟩,
  ⟨some 111, .mov (.tmp 110), none, []⟩,
  ⟨some 112, .mov (.tmp 1), some (111, true), []⟩,
  ⟨some 113, .mov (.tmp 2), some (111, true), []⟩,
  ⟨some 114, .call 25 [(.tmp 112), (.tmp 113)], some (111, true), []⟩,
  ⟨some 115, .pick (.tmp 111) (.tmp 114) (.const (.bool false)), none, []⟩,
  ⟨some 6, .mov (.tmp 115), none, []⟩] []) .ret)))))))
theorem l6 : (Tryd.f6.body.bind (lowC Tryd.prog 116 [])) = some c6 := by kernel_rfl
-- interlace/interlacelaw46.ReceiptChecksAsSpecified
end Go.RC
end
section
/- The data level: a callee that is run in place, whose results lie in boxes. Generic over the program; no statement here. -/
namespace Go.DL
open Go.RowKit
section
variable [Glb] {P : Program} {X : List FuncId} {N : Nat} {w0 : World} {S0 : Base} {a : Act} {E : Env} {st : St}
/-- What result variables hold, some of them in boxes. -/
def resVP (sz : TypeId → Option (Nat × Bool)) (st : St) : List ResultVar → List V → Prop
  | [], [] => True
  | .tmp t :: rs, u :: us => st.sl t = u ∧ resVP sz st rs us
  | .cell c ty :: rs, .t x :: us => resP sz st [.cell c ty] [x] ∧ resVP sz st rs us
  | _, _ => False
theorem resVP_run (h : SR N w0 S0 E st a.tmps) : ∀ {rs : List ResultVar} {us : List V}, resVP (sizesOf P) st rs us → ∃ vs : List Value, (rs.mapM (readRes a.tmps)).run P E.w = .ok vs E.w ∧ vs.length = us.length ∧ ∀ (i : Nat) (v : Value) (u : V), vs[i]? = some v → us[i]? = some u → VR E v u
  | [], [], _ => ⟨[], by simp, rfl, fun i v x hv => by simp at hv⟩
  | .tmp t :: rs, u :: us, hr => by
    obtain ⟨hu, hr'⟩ := hr
    obtain ⟨vs, h1, h2, h3⟩ := resVP_run h hr'
    refine ⟨a.tmps.getD t undef :: vs, ?_, by simp [h2], fun i v y hv hy => ?_⟩
    · rw [List.mapM_cons, Sem.run_bind]
      have : (readRes a.tmps (.tmp t)).run P E.w = .ok (a.tmps.getD t undef) E.w := rfl
      rw [this]
      simp [h1]
    · cases i with
      | zero => simp only [List.getElem?_cons_zero, Option.some.injEq] at hv hy; subst hv; subst hy; rw [← hu]; exact h.sl t
      | succ i => simp at hv hy; exact h3 i v y hv hy
  | .cell c ty :: rs, .t x :: us, hr => by
    obtain ⟨⟨hp1, _⟩, hr'⟩ := hr
    obtain ⟨vs, h1, h2, h3⟩ := resVP_run h hr'
    have key : ∃ v, (readRes a.tmps (.cell c ty)).run P E.w = .ok v E.w ∧ Rep E.S E.w v x := by
      have hs := h.sl c
      split at hp1
      · rename_i b off n agg hb hz
        rw [hb] at hs
        obtain ⟨hv, hl⟩ := hs.inv_ptr
        unfold sizesOf at hz
        split at hz
        · rename_i d i hu hi
          simp only [cond_eq_ite] at hz
          split at hz
          · simp only [Option.some.injEq, Prod.mk.injEq] at hz
            obtain ⟨rfl, rfl⟩ := hz
            split at hp1
            · rename_i cs hcs
              obtain ⟨v, k1, k2⟩ := load_res h hu hi (off := off) hcs (x := x) hp1
              refine ⟨v, ?_, k2⟩
              show (asAddr (a.tmps.getD c undef) >>= fun d => loadVar ty d).run P E.w = _
              rw [hv]
              simp [asAddr, k1]
            · exact hp1.elim
          · cases hz
        · cases hz
      · exact hp1.elim
    obtain ⟨v0, k1, k2⟩ := key
    refine ⟨v0 :: vs, ?_, by simp [h2], fun i v y hv hy => ?_⟩
    · rw [List.mapM_cons, Sem.run_bind, k1]
      simp [h1]
    · cases i with
      | zero => simp only [List.getElem?_cons_zero, Option.some.injEq] at hv hy; subst hv; subst hy; exact .t _ _ k2
      | succ i => simp at hv hy; exact h3 i v y hv hy
theorem resultsVP_run (h : SR N w0 S0 E st a.tmps) {fn : Func} {us : List V} (hr : resVP (sizesOf P) st fn.results.toList us) : ∃ v, (results fn a.tmps).run P E.w = .ok v E.w ∧ VR E v (oneV us) := by
  obtain ⟨vs, h1, h2, h3⟩ := resVP_run (P := P) h hr
  have hr : (results fn a.tmps).run P E.w = .ok (if h : vs.toArray.size = 1 then vs.toArray[0] else .tuple vs.toArray) E.w := by
    have : results fn a.tmps = (do let vs ← fn.results.mapM (readRes a.tmps); pure (if h : vs.size = 1 then vs[0] else .tuple vs)) := rfl
    rw [this, Array.mapM_eq_mapM_toList]
    rw [Sem.run_bind]
    have h2 : (Functor.map List.toArray (fn.results.toList.mapM (readRes a.tmps))).run P E.w = .ok vs.toArray E.w := by
      rw [map_eq_pure_bind, Sem.run_bind, h1]; rfl
    rw [h2]; rfl
  refine ⟨_, hr, ?_⟩
  match vs, us, h2, h3 with
  | [v], [x], _, h3 => exact h3 0 v x rfl rfl
  | [], [], _, h3 => exact .tup _ _ rfl fun i x t hx ht => by simp at ht
  | v :: u :: vs, x :: y :: xs, h2, h3 =>
    have hne : ¬ (v :: u :: vs).toArray.size = 1 := by simp
    rw [dif_neg hne]
    exact .tup _ _ (by simpa using h2) fun i z t hz ht => h3 i z t (by simpa using hz) ht
/-- The end of a callee that is run in place, whose results lie in boxes. -/
def PostVP (sz : TypeId → Option (Nat × Bool)) (rs : List ResultVar) (st : St) (d : Option Nat) (K : St → Prop) : DExit → St → Prop
  | .normal, st2 => ∃ us, resVP sz st2 rs us ∧ K ((st2.back st).set d (oneV us))
  | .ret, st2 => ∃ us, resVP sz st2 rs us ∧ K ((st2.back st).set d (oneV us))
  | .exit _, _ => False
theorem WC_inlP (hm : P.follows .mixedOrders = true) {f : FuncId} {fn : Func} {dc : DCode} {N' : Nat} {rs : List ResultVar} (hf : P.funcs[f]? = some fn) (hl : (fn.body.bind (lowC P N' X)) = some dc) (hN : fn.ntmps = N') (hn : (fn.name == "runtime.NumGoroutine") = false)
    (hr : fn.results.toList = rs) {us : List V} (off : Nat) (ha : us.length ≤ N') {d : Option Nat} {K : St → Prop} (hw : wpC P dc (st.enter us off) (PostVP (sizesOf P) rs st d K)) : WC P f us d st K := by
  cases hb : fn.body with
  | none => rw [hb] at hl; cases hl
  | some c =>
    rw [hb] at hl
    subst hN; subst hr
    refine ⟨callable_of hf (by rw [hb]; rfl) hn, fun N w0 S0 E a vs h hlen hv hd => calls_of_wp hf hb ?_⟩
    have hsr : SR fn.ntmps w0 { S0 with vals := pushB (fun m => a.getD m undef) S0.vals } E (st.enter us off) (vs ++ Array.replicate (fn.ntmps - vs.size) undef) := by
      refine ⟨by simp; omega, h.base, h.glob, fun m => ?_, fun k m => ?_, h.bx, h.live, h.inj, h.rows, h.rinj, h.lt, h.below, h.s0, h.s1, h.obj, ⟨S0.vals, h.cx⟩⟩
      · show VR _ _ (us[m]?.getD .top)
        cases ht : us[m]? with
        | none => exact .top _
        | some t =>
          have hlt : m < vs.size := by rw [hlen]; exact (List.getElem?_eq_some_iff.1 ht).1
          have hv := hv m vs[m] t (Array.getElem?_eq_getElem hlt) ht
          have : (vs ++ Array.replicate (fn.ntmps - vs.size) undef).getD m undef = vs[m] := by
            rw [Array.getD_eq_getD_getElem?, Array.getElem?_append_left hlt]
            simp [hlt]
          rw [this]
          exact hv
      · cases k with
        | zero => exact h.sl m
        | succ k => exact h.gh k m
    refine wp_mono (wpC_wp hm hl (a := { tmps := vs ++ Array.replicate (fn.ntmps - vs.size) undef, defers := [] }) hsr hw) ?_
    have fin : ∀ {a' : Act} {w' : World}, EndIs fn.ntmps w0 { S0 with vals := pushB (fun m => a.getD m undef) S0.vals } [] (fun st2 => ∃ us, resVP (sizesOf P) st2 fn.results.toList us ∧ K ((st2.back st).set d (oneV us))) a' w' → a'.defers = [] ∧ ∃ v, (results fn a'.tmps).run P w' = .ok v w' ∧
        ∃ v', Ending.returned v = .returned v' ∧ ∃ (E' : Env) (st' : St), E'.w = w' ∧ K st' ∧ SR N w0 S0 E' st' (putA a d v') := by
      rintro a' w' ⟨E', st2, rfl, hsr', hdf, us', hus, hk⟩
      obtain ⟨v, h1, h2⟩ := resultsVP_run (P := P) hsr' hus
      have hback : SR N w0 S0 E' (st2.back st) a := by
        refine ⟨h.size, hsr'.base, hsr'.glob, fun m => hsr'.gh 0 m, fun k m => hsr'.gh (k + 1) m, hsr'.bx, hsr'.live, hsr'.inj, hsr'.rows, hsr'.rinj, hsr'.lt, hsr'.below, hsr'.s0, hsr'.s1, hsr'.obj, h.cx⟩
      exact ⟨hdf, v, h1, v, rfl, E', _, rfl, hk, set_put hback hd h2⟩
    intro e a' w' hh
    cases e with
    | normal => exact fin hh
    | ret => exact fin hh
    | exit id =>
      obtain ⟨_, _, _, _, _, hk⟩ := hh
      exact hk.elim
    | goto l => exact hh.elim
    | panic ch => exact hh.elim
    | outgrown => exact hh.elim
end
end Go.DL
end
section
/- Receipts: a ledger's note of a packet. -/
namespace Go.RC
open Go Go.DL Go.Proofs
set_option maxRecDepth 100000
set_option maxHeartbeats 2000000
/-- What a ledger holds for a name. -/
abbrev Ent := N3 × Int × List Int
abbrev tly (c : Int) (s : List Int) : T := .agg (I c :: s.map I)
abbrev esM (es : List Ent) : List (T × T) := es.map fun e => (nk e.1, tly e.2.1 e.2.2)
def getM (k : N3) : List Ent → Option (Int × List Int)
  | [] => none
  | e :: es => if k = e.1 then some e.2 else getM k es
def putM (k : N3) (v : Int × List Int) : List Ent → List Ent
  | [] => [(k, v)]
  | e :: es => if k = e.1 then (k, v) :: es else e :: putM k v es
theorem getM_cons (k : N3) (e : Ent) (es : List Ent) : getM k (e :: es) = if k = e.1 then some e.2 else getM k es := rfl
theorem putM_cons (k : N3) (v : Int × List Int) (e : Ent) (es : List Ent) : putM k v (e :: es) = if k = e.1 then (k, v) :: es else e :: putM k v es := rfl
theorem eqL_nk (k k' : N3) : eqL (nk k).cells (nk k').cells = decide (k = k') := by
  obtain ⟨a, b, c⟩ := k
  obtain ⟨a', b', c'⟩ := k'
  show (a == a' && (b == b' && (c == c' && true))) = _
  by_cases h1 : a = a' <;> by_cases h2 : b = b' <;> by_cases h3 : c = c' <;> simp [h1, h2, h3]
theorem mfind_esM (k : N3) : ∀ es : List Ent, mfind (nk k).cells (esM es) = (getM k es).map fun v => tly v.1 v.2
  | [] => rfl
  | e :: es => by
    show cond (eqL (nk k).cells (nk e.1).cells) (some (tly e.2.1 e.2.2)) (mfind (nk k).cells (esM es)) = _
    rw [eqL_nk, mfind_esM k es, getM_cons]
    by_cases h : k = e.1
    · simp [h]
    · simp [h]
theorem mput_esM (k : N3) (v : Int × List Int) : ∀ es : List Ent, mput (nk k) (tly v.1 v.2) (esM es) = esM (putM k v es)
  | [] => rfl
  | e :: es => by
    show cond (eqL (nk k).cells (nk e.1).cells) ((nk k, tly v.1 v.2) :: esM es) ((nk e.1, tly e.2.1 e.2.2) :: mput (nk k) (tly v.1 v.2) (esM es)) = _
    rw [eqL_nk, mput_esM k v es, putM_cons]
    by_cases h : k = e.1
    · simp [h]
    · simp [h]
/-- What a note gives, and leaves. -/
def noteM (k : N3) (h : List Int) (es : List Ent) : Int × List Ent :=
  if rightN k.1 k.2.1 k.2.2 && rightH h then match getM k es with
    | none => if es.length ≥ 1000 then (2, es) else (0, putM k (1, sAdd [0, 0, 0, 0] (ofH h)) es)
    | some v => if v.1 ≥ 1073741824 then (2, es) else (0, putM k (v.1 + 1, sAdd v.2 (ofH h)) es)
  else (1, es)
/-- The entries are such as notes leave. -/
def okE (es : List Ent) : Prop := ∀ e ∈ es, isS e.2.2 ∧ 0 ≤ e.2.1 ∧ e.2.1 ≤ 1073741824
theorem getM_mem {k : N3} {v : Int × List Int} : ∀ {es : List Ent}, getM k es = some v → (k, v) ∈ es
  | [], h => by cases h
  | e :: es, h => by
    rw [getM_cons] at h
    split at h
    · rename_i hk
      cases h
      rw [hk]; simp
    · exact List.mem_cons_of_mem _ (getM_mem h)
abbrev lgC (a b : V) (rest : List V) : List V := a :: b :: .mp 1011 :: rest
theorem mc_Note (a b : V) (rest : List V) (es : List Ent) (he : okE es) (hel : es.length < 2 ^ 40) (s p f : Int) (h : List Int) (hl : h.length = 10) :
    MC Tryd.prog 41 [.ptr 1013 0, .t (I s), .t (I p), .t (I f), .t (hd h)] [(1013, .v (lgC a b rest)), (1011, .m true sh3 (esM es) none)] [5009, 5011, 5012] 1011 (.m true sh3 (esM (noteM (s, p, f) h es).2) none) (I (noteM (s, p, f) h es).1) := by
  refine MC_of mixed Tryd.func41 l41 rfl rfl (rs := [.tmp 10]) rfl 5000 (Nat.le_of_ble_eq_true rfl) (fun _ => trivial) (by decide) ?_
  intro st d hneed hfr
  obtain ⟨sl, bx, gh, o, cx⟩ := st
  have e1 : bx 1013 = some (.v (lgC a b rest)) := hneed (1013, _) (by simp)
  have e2 : bx 1011 = some (.m true sh3 (esM es) none) := hneed (1011, _) (by simp)
  have e3 : bx 5009 = none := hfr 5009 (by simp)
  have e4 : bx 5011 = none := hfr 5011 (by simp)
  have e5 : bx 5012 = none := hfr 5012 (by simp)
  clear hneed hfr
  obtain ⟨g, hg⟩ : ∃ g, bx = upd (upd (upd (upd (upd g 5009 none) 5011 none) 5012 none) 1013 (some (.v (lgC a b rest)))) 1011 (some (.m true sh3 (esM es) none)) :=
    ⟨bx, by rw [upd_same_id e3, upd_same_id e4, upd_same_id e5, upd_same_id e1, upd_same_id e2]⟩
  subst hg
  clear e1 e2 e3 e4 e5
  have hR := t_right s p f
  have hO := fun (hh : okH h) => t_OfH h hh
  have hC := t_ContainsFunc 69 _ h (by rw [hl]; decide) (fun x _ => t_wide x)
  have hci : (h.any fun x => decide (x < 0) || decide (x > 65535)) = !rightH h := by
    unfold rightH
    rw [List.not_all_eq_any_not]
    congr 1
    funext x
    by_cases h1 : x < 0 <;> by_cases h2 : x > 65535 <;> simp [h1, h2] <;> omega
  rw [hci] at hC
  rw [← chunk1 (f := I) h 10 hl] at hC
  unfold noteM
  cases h1 : rightN s p f with
  | false =>
    rw [h1] at hR
    repeat' ((conv => whnf); first | exact trivial | refine k_call _ (hR) ?_ | refine now_T ?_ | refine aE1 ?_ | refine aE0 ?_ | refine aN1 ?_ | refine aN0 ?_ | refine aD1 ?_ | refine aD0 ?_ | refine now_E (fun hq => ?_) (fun hq => ?_) | refine now_N (fun hq => ?_) (fun hq => ?_) | refine now_D (fun hq => ?_) (fun hq => ?_) | refine rb1 ?_ | refine rb0 ?_ | refine rbx ?_ | refine rix ?_ | (refine And.intro (by first | (exact (List.length_map _).trans hl; done) | fail) ?_) | refine aS ?_ | fail)
    refine ⟨[.t (I 1)], rfl, ?_⟩
    cases d <;> refine ⟨rfl, rfl, rfl, rfl, rfl, fun n h1 h2 => ?_⟩
    all_goals
      simp only [List.mem_cons, List.not_mem_nil, or_false, not_or] at h2
      show upd (upd (upd _ 5009 _) 5011 _) 5011 _ n = _
      rw [upd_other _ _ _ _ h2.2.1, upd_other _ _ _ _ h2.2.1, upd_other _ _ _ _ h2.1]
      rfl
  | true =>
    rw [h1] at hR
    cases h2 : rightH h with
    | false =>
      rw [h2] at hC
      repeat' ((conv => whnf); first | exact trivial | refine k_call _ (hR) ?_ | refine k_call _ (hC) ?_ | refine now_T ?_ | refine aE1 ?_ | refine aE0 ?_ | refine aN1 ?_ | refine aN0 ?_ | refine aD1 ?_ | refine aD0 ?_ | refine now_E (fun hq => ?_) (fun hq => ?_) | refine now_N (fun hq => ?_) (fun hq => ?_) | refine now_D (fun hq => ?_) (fun hq => ?_) | refine rb1 ?_ | refine rb0 ?_ | refine rbx ?_ | refine rix ?_ | (refine And.intro (by first | (exact (List.length_map _).trans hl; done) | fail) ?_) | refine aS ?_ | fail)
      refine ⟨[.t (I 1)], rfl, ?_⟩
      cases d <;> refine ⟨rfl, rfl, rfl, rfl, rfl, fun n h1 h2 => ?_⟩
      all_goals
        simp only [List.mem_cons, List.not_mem_nil, or_false, not_or] at h2
        show upd (upd (upd _ 5009 _) 5011 _) 5011 _ n = _
        rw [upd_other _ _ _ _ h2.2.1, upd_other _ _ _ _ h2.2.1, upd_other _ _ _ _ h2.1]
        rfl
    | true =>
      rw [h2] at hC
      have hok := (rightH_ok hl).1 h2
      have hOf := hO hok
      have hofS := ofH_isS h
      generalize ofH h = oh at hOf hofS
      have hkey : keyOk true sh3 (nk (s, p, f)) := ⟨rfl, rfl, rfl, rfl, trivial⟩
      have hmf := mfind_esM (s, p, f) es
      rw [if_pos (show (true && true) = true from rfl)]
      cases h3 : getM (s, p, f) es with
      | none =>
        rw [h3] at hmf
        have hz : isS [0, 0, 0, 0] := ⟨rfl, by simp [M32]⟩
        have hA := t_sAdd [0, 0, 0, 0] oh hz hofS
        have hpu := mput_esM (s, p, f) (1, sAdd [0, 0, 0, 0] oh) es
        have hAl := (isS_add hz hofS).1
        show wpC _ _ _ (PostV _ _ _ (Ended _ _ _ _ (.m true sh3 (esM (if es.length ≥ 1000 then ((2 : Int), es) else (0, putM (s, p, f) (1, sAdd [0, 0, 0, 0] oh) es)).2) none) (I (if es.length ≥ 1000 then ((2 : Int), es) else (0, putM (s, p, f) (1, sAdd [0, 0, 0, 0] oh) es)).1)))
        generalize sAdd [0, 0, 0, 0] oh = sa at *
        obtain ⟨a0, a1, a2, a3, rfl⟩ : ∃ a b c d, sa = [a, b, c, d] := by
          match sa, hAl with
          | [a, b, c, d], _ => exact ⟨a, b, c, d, rfl⟩
        by_cases h4 : es.length ≥ 1000
        · rw [if_pos h4]
          repeat' ((conv => whnf); first | exact trivial | refine k_call _ (hR) ?_ | refine k_call _ (hC) ?_ | (refine now_v (.tup [.agg [I 0, I 0, I 0, I 0, I 0], .bool false]) (by show mres _ _ (mfind (nk (s, p, f)).cells (esM es)) = _; rw [hmf]; rfl) ?_) | (refine now_D1 (by simp; omega) ?_) | refine now_T ?_ | refine aE1 ?_ | refine aE0 ?_ | refine aN1 ?_ | refine aN0 ?_ | refine aD1 ?_ | refine aD0 ?_ | refine now_E (fun hq => ?_) (fun hq => ?_) | refine now_N (fun hq => ?_) (fun hq => ?_) | refine now_D (fun hq => ?_) (fun hq => ?_) | refine rb1 ?_ | refine rb0 ?_ | refine rbx ?_ | refine rix ?_ | (refine And.intro (by first | (exact (List.length_map _).trans hl; done) | (exact hkey; done) | fail) ?_) | refine aS ?_ | fail)
          refine ⟨[.t (I 2)], rfl, ?_⟩
          cases d <;> refine ⟨rfl, rfl, rfl, rfl, rfl, fun n h1 h2 => ?_⟩
          all_goals
            simp only [List.mem_cons, List.not_mem_nil, or_false, not_or] at h2
            show upd (upd (upd (upd (upd _ 5009 _) 5011 _) 5011 _) 5012 _) 5012 _ n = _
            rw [upd_other _ _ _ _ h2.2.2, upd_other _ _ _ _ h2.2.2, upd_other _ _ _ _ h2.2.1, upd_other _ _ _ _ h2.2.1, upd_other _ _ _ _ h2.1]
            rfl
        · rw [if_neg h4]
          repeat' ((conv => whnf); first | exact trivial | refine k_call _ (hR) ?_ | refine k_call _ (hC) ?_ | (refine now_v (.tup [.agg [I 0, I 0, I 0, I 0, I 0], .bool false]) (by show mres _ _ (mfind (nk (s, p, f)).cells (esM es)) = _; rw [hmf]; rfl) ?_) | (refine now_D0 (by simp; omega) ?_) | refine k_call _ (hOf) ?_ | refine k_call _ (hA) ?_ | refine now_T ?_ | refine aE1 ?_ | refine aE0 ?_ | refine aN1 ?_ | refine aN0 ?_ | refine aD1 ?_ | refine aD0 ?_ | refine now_E (fun hq => ?_) (fun hq => ?_) | refine now_N (fun hq => ?_) (fun hq => ?_) | refine now_D (fun hq => ?_) (fun hq => ?_) | refine rb1 ?_ | refine rb0 ?_ | refine rbx ?_ | refine rix ?_ | (refine And.intro (by first | (exact (List.length_map _).trans hl; done) | (exact hkey; done) | fail) ?_) | refine aS ?_ | fail)
          refine ⟨[.t (I 0)], rfl, ?_⟩
          cases d <;> refine ⟨rfl, rfl, rfl, rfl, congrArg (fun es => some (BX.m true sh3 es none)) hpu, fun n h1 h2 => ?_⟩
          all_goals
            simp only [List.mem_cons, List.not_mem_nil, or_false, not_or] at h2
            show upd (upd (upd (upd (upd (upd _ 5009 _) 5011 _) 5011 _) 5012 _) 5012 _) 1011 _ n = _
            rw [upd_other _ _ _ _ h1, upd_other _ _ _ _ h2.2.2, upd_other _ _ _ _ h2.2.2, upd_other _ _ _ _ h2.2.1, upd_other _ _ _ _ h2.2.1, upd_other _ _ _ _ h2.1]
            rfl
      | some v =>
        obtain ⟨c, t⟩ := v
        rw [h3] at hmf
        obtain ⟨hts, hc0, hc1⟩ := he _ (getM_mem h3)
        dsimp only at hts hc0 hc1
        have hA := t_sAdd t oh hts hofS
        have hpu := mput_esM (s, p, f) (c + 1, sAdd t oh) es
        have hAl := (isS_add hts hofS).1
        show wpC _ _ _ (PostV _ _ _ (Ended _ _ _ _ (.m true sh3 (esM (if c ≥ 1073741824 then ((2 : Int), es) else (0, putM (s, p, f) (c + 1, sAdd t oh) es)).2) none) (I (if c ≥ 1073741824 then ((2 : Int), es) else (0, putM (s, p, f) (c + 1, sAdd t oh) es)).1)))
        generalize sAdd t oh = sa at *
        obtain ⟨a0, a1, a2, a3, rfl⟩ : ∃ a b c d, sa = [a, b, c, d] := by
          match sa, hAl with
          | [a, b, c, d], _ => exact ⟨a, b, c, d, rfl⟩
        obtain ⟨t0, t1, t2, t3, rfl⟩ : ∃ a b c d, t = [a, b, c, d] := by
          match t, hts.1 with
          | [a, b, c, d], _ => exact ⟨a, b, c, d, rfl⟩
        have hw : IntKind.i64.wrap (c + 1) = c + 1 := wrap_id (by omega) (by omega)
        by_cases h4 : c ≥ 1073741824
        · rw [if_pos h4]
          repeat' ((conv => whnf); first | exact trivial | refine k_call _ (hR) ?_ | refine k_call _ (hC) ?_ | (refine now_v (.tup [tly c [t0, t1, t2, t3], .bool true]) (by show mres _ _ (mfind (nk (s, p, f)).cells (esM es)) = _; rw [hmf]; rfl) ?_) | refine now_T ?_ | refine aE1 ?_ | refine aE0 ?_ | refine aN1 ?_ | refine aN0 ?_ | refine aD1 ?_ | refine aD0 ?_ | refine now_E (fun hq => ?_) (fun hq => ?_) | refine now_N (fun hq => ?_) (fun hq => ?_) | refine now_D (fun hq => ?_) (fun hq => ?_) | refine rb1 ?_ | refine rb0 ?_ | refine rbx ?_ | refine rix ?_ | (refine And.intro (by first | (exact (List.length_map _).trans hl; done) | (exact hkey; done) | fail) ?_) | refine aS ?_ | fail)
          refine ⟨[.t (I 2)], rfl, ?_⟩
          cases d <;> refine ⟨rfl, rfl, rfl, rfl, rfl, fun n h1 h2 => ?_⟩
          all_goals
            simp only [List.mem_cons, List.not_mem_nil, or_false, not_or] at h2
            show upd (upd (upd (upd (upd _ 5009 _) 5011 _) 5011 _) 5012 _) 5012 _ n = _
            rw [upd_other _ _ _ _ h2.2.2, upd_other _ _ _ _ h2.2.2, upd_other _ _ _ _ h2.2.1, upd_other _ _ _ _ h2.2.1, upd_other _ _ _ _ h2.1]
            rfl
        · rw [if_neg h4]
          repeat' ((conv => whnf); first | exact trivial | refine k_call _ (hR) ?_ | refine k_call _ (hC) ?_ | (refine now_v (.tup [tly c [t0, t1, t2, t3], .bool true]) (by show mres _ _ (mfind (nk (s, p, f)).cells (esM es)) = _; rw [hmf]; rfl) ?_) | refine k_call _ (hOf) ?_ | refine k_call _ (hA) ?_ | refine now_T ?_ | refine aE1 ?_ | refine aE0 ?_ | refine aN1 ?_ | refine aN0 ?_ | refine aD1 ?_ | refine aD0 ?_ | refine now_E (fun hq => ?_) (fun hq => ?_) | refine now_N (fun hq => ?_) (fun hq => ?_) | refine now_D (fun hq => ?_) (fun hq => ?_) | refine rb1 ?_ | refine rb0 ?_ | refine rbx ?_ | refine rix ?_ | (refine And.intro (by first | (exact (List.length_map _).trans hl; done) | (exact hkey; done) | fail) ?_) | refine aS ?_ | fail)
          refine ⟨[.t (I 0)], rfl, ?_⟩
          cases d <;> refine ⟨rfl, rfl, rfl, rfl, (congrArg (fun c => some (BX.m true sh3 (mput (nk (s, p, f)) (tly c [a0, a1, a2, a3]) (esM es)) none)) hw).trans (congrArg (fun es => some (BX.m true sh3 es none)) hpu), fun n h1 h2 => ?_⟩
          all_goals
            simp only [List.mem_cons, List.not_mem_nil, or_false, not_or] at h2
            show upd (upd (upd (upd (upd (upd _ 5009 _) 5011 _) 5011 _) 5012 _) 5012 _) 1011 _ n = _
            rw [upd_other _ _ _ _ h1, upd_other _ _ _ _ h2.2.2, upd_other _ _ _ _ h2.2.2, upd_other _ _ _ _ h2.2.1, upd_other _ _ _ _ h2.2.1, upd_other _ _ _ _ h2.1]
            rfl
end Go.RC
end
section
/- Receipts: the examples. -/
namespace Go.RC
open Go Go.DL Go.Proofs
set_option maxRecDepth 100000
set_option maxHeartbeats 4000000
abbrev ha : List Int := [7, 5, 0, 0, 0, 0, 0, 0, 0, 0]
abbrev hb : List Int := [7, 6, 0, 0, 0, 0, 0, 0, 0, 0]
theorem okHa : okH ha := ⟨rfl, by decide⟩
theorem okHb : okH hb := ⟨rfl, by decide⟩
abbrev S0' : List Int := [0, 0, 0, 0]
theorem isS0 : isS S0' := ⟨rfl, by simp [M32]⟩
def Sa : List Int := sAdd S0' (ofH ha)
def Sab : List Int := sAdd Sa (ofH hb)
theorem isSa : isS Sa := isS_add isS0 (ofH_isS _)
theorem isSab : isS Sab := isS_add isSa (ofH_isS _)
def es1 : List Ent := [((2, 7, 1), 1, Sa)]
def es2 : List Ent := [((2, 7, 1), 1, Sa), ((1, 2, 1), 1, Sa)]
def es3 : List Ent := [((2, 7, 1), 2, Sab), ((1, 2, 1), 1, Sa)]
theorem n1 : noteM (2, 7, 1) ha [] = (0, es1) := rfl
theorem n2 : noteM (1, 2, 1) ha es1 = (0, es2) := rfl
theorem n3 : noteM (2, 7, 1) hb es2 = (0, es3) := rfl
theorem okE0 : okE [] := fun e h => by cases h
theorem okE1 : okE es1 := fun e h => by
  simp only [es1, List.mem_singleton] at h; subst h; exact ⟨isSa, by decide, by decide⟩
theorem okE2 : okE es2 := fun e h => by
  simp only [es2, List.mem_cons, List.not_mem_nil, or_false] at h
  rcases h with rfl | rfl <;> exact ⟨isSa, by decide, by decide⟩
abbrev lg0 (rest : List V) : List V := lgC (.t (I 3)) (.t (I 0)) rest
theorem m1 (rest : List V) : MC Tryd.prog 41 [.ptr 1013 0, .t (I 2), .t (I 7), .t (I 1), .t (hd ha)] [(1013, .v (lg0 rest)), (1011, .m true sh3 [] none)] [5009, 5011, 5012] 1011 (.m true sh3 (esM es1) none) (I 0) := by
  have := mc_Note (.t (I 3)) (.t (I 0)) rest [] okE0 (by decide) 2 7 1 ha rfl
  rwa [n1] at this
theorem m2 (rest : List V) : MC Tryd.prog 41 [.ptr 1013 0, .t (I 1), .t (I 2), .t (I 1), .t (hd ha)] [(1013, .v (lg0 rest)), (1011, .m true sh3 (esM es1) none)] [5009, 5011, 5012] 1011 (.m true sh3 (esM es2) none) (I 0) := by
  have := mc_Note (.t (I 3)) (.t (I 0)) rest es1 okE1 (by decide) 1 2 1 ha rfl
  rwa [n2] at this
theorem m3 (rest : List V) : MC Tryd.prog 41 [.ptr 1013 0, .t (I 2), .t (I 7), .t (I 1), .t (hd hb)] [(1013, .v (lg0 rest)), (1011, .m true sh3 (esM es2) none)] [5009, 5011, 5012] 1011 (.m true sh3 (esM es3) none) (I 0) := by
  have := mc_Note (.t (I 3)) (.t (I 0)) rest es2 okE2 (by decide) 2 7 1 hb rfl
  rwa [n3] at this
theorem srt3 : srt [(2, 7, 1), (1, 2, 1)] = [(1, 2, 1), (2, 7, 1)] := (srt_eq (ks := [(2, 7, 1), (1, 2, 1)]) (zs := [(1, 2, 1), (2, 7, 1)]) (.swap _ _ _) (by simp [cmpN, orI, cmpI])).symm
abbrev pvV (pv : List Int) : List V := pv.map fun x => .t (Y x)
theorem sAdd0 {a : List Int} (h : isS a) : sAdd S0' a = a := by
  obtain ⟨hl, hx⟩ := h
  match a, hl, hx with
  | [a, b, c, d], _, hx =>
    have h1 := hx a (by simp)
    have h2 := hx b (by simp)
    have h3 := hx c (by simp)
    have h4 := hx d (by simp)
    show [(0 + a) % M32, (0 + b) % M32, (0 + c) % M32, (0 + d) % M32] = _
    unfold M32 at *
    rw [Int.zero_add, Int.zero_add, Int.zero_add, Int.zero_add, Int.emod_eq_of_lt h1.1 h1.2, Int.emod_eq_of_lt h2.1 h2.2, Int.emod_eq_of_lt h3.1 h3.2, Int.emod_eq_of_lt h4.1 h4.2]
theorem ex16 {l : List Int} (h : l.length = 16) : ∃ d0 d1 d2 d3 d4 d5 d6 d7 d8 d9 d10 d11 d12 d13 d14 d15, l = [d0, d1, d2, d3, d4, d5, d6, d7, d8, d9, d10, d11, d12, d13, d14, d15] := by
  match l, h with
  | [d0, d1, d2, d3, d4, d5, d6, d7, d8, d9, d10, d11, d12, d13, d14, d15], _ => exact ⟨d0, d1, d2, d3, d4, d5, d6, d7, d8, d9, d10, d11, d12, d13, d14, d15, rfl⟩
theorem four {l : List Int} (h : l.length = 4) : ∃ a b c d, l = [a, b, c, d] := by
  match l, h with
  | [a, b, c, d], _ => exact ⟨a, b, c, d, rfl⟩
theorem t_sanity : DCalls Tryd.prog 11 [] (.bool true) := by
  refine dcalls_low (rs := [.tmp 0]) mixed Tryd.func11 l11 rfl rfl rfl (r := [.bool true]) (Nat.le_of_ble_eq_true rfl) ?_
  obtain ⟨x0, x1, x2, x3, hx⟩ := four isSa.1
  obtain ⟨y0, y1, y2, y3, hy⟩ := four isSab.1
  have m3' := m3 (pvV zero16)
  have he3 : esM es3 = [(nk (2, 7, 1), tly 2 [y0, y1, y2, y3]), (nk (1, 2, 1), tly 1 [x0, x1, x2, x3])] := by simp only [es3, esM, hx, hy, List.map_cons, List.map_nil]
  rw [he3] at m3'
  have xi : ∀ y ∈ [x0, x1, x2, x3], 0 ≤ y ∧ y < M32 := fun y hy => (isSa.2 y (by rw [hx]; exact hy))
  have yi : ∀ z ∈ [y0, y1, y2, y3], 0 ≤ z ∧ z < M32 := fun y hh => (isSab.2 y (by rw [hy]; exact hh))
  have hL8 : ∀ x ∈ [[1, 2, 1, 1, x0, x1, x2, x3], [2, 7, 1, 2, y0, y1, y2, y3]], x.length = 8 ∧ ∀ y ∈ x, i64 y := fun x hh => by
    simp only [List.mem_cons, List.not_mem_nil, or_false] at hh
    rcases hh with rfl | rfl
    · refine ⟨rfl, fun y h => ?_⟩
      rcases List.mem_append.1 (show y ∈ [1, 2, 1, 1] ++ [x0, x1, x2, x3] from h) with h | h
      · simp only [List.mem_cons, List.not_mem_nil, or_false] at h
        unfold i64; omega
      · have := xi y h
        unfold M32 at this; unfold i64; omega
    · refine ⟨rfl, fun y h => ?_⟩
      rcases List.mem_append.1 (show y ∈ [2, 7, 1, 2] ++ [y0, y1, y2, y3] from h) with h | h
      · simp only [List.mem_cons, List.not_mem_nil, or_false] at h
        unfold i64; omega
      · have := yi y h
        unfold M32 at this; unfold i64; omega
  have hr1 : Rc.ok ⟨3, 0, [[1, 2, 1, 1, x0, x1, x2, x3], [2, 7, 1, 2, y0, y1, y2, y3]], zero16⟩ := ⟨⟨(show i64 3 by unfold i64; decide), (show i64 0 by unfold i64; decide), hL8, rfl, (show areB zero16 by unfold areB; decide)⟩, Nat.le_of_ble_eq_true rfl⟩
  obtain ⟨d0, d1, d2, d3, d4, d5, d6, d7, d8, d9, d10, d11, d12, d13, d14, d15, hD⟩ := ex16 (dgR_len 3 0 [[1, 2, 1, 1, x0, x1, x2, x3], [2, 7, 1, 2, y0, y1, y2, y3]] zero16)
  have hDb := dgR_areB 3 0 [[1, 2, 1, 1, x0, x1, x2, x3], [2, 7, 1, 2, y0, y1, y2, y3]] zero16
  rw [hD] at hDb
  have hr2 : Rc.ok ⟨3, 1, [], [d0, d1, d2, d3, d4, d5, d6, d7, d8, d9, d10, d11, d12, d13, d14, d15]⟩ := ⟨⟨(show i64 3 by unfold i64; decide), (show i64 1 by unfold i64; decide), fun x h => by simp at h, rfl, hDb⟩, Nat.le_of_ble_eq_true rfl⟩
  have hD1 := t_Digest 3 0 [[1, 2, 1, 1, x0, x1, x2, x3], [2, 7, 1, 2, y0, y1, y2, y3]] zero16 hr1.1 hr1.2
  rw [hD] at hD1
  have hD2 := t_Digest 3 1 [] [d0, d1, d2, d3, d4, d5, d6, d7, d8, d9, d10, d11, d12, d13, d14, d15] hr2.1 hr2.2
  have hD2l := dgR_len 3 1 [] [d0, d1, d2, d3, d4, d5, d6, d7, d8, d9, d10, d11, d12, d13, d14, d15]
  generalize dgR 3 1 [] [d0, d1, d2, d3, d4, d5, d6, d7, d8, d9, d10, d11, d12, d13, d14, d15] = D2 at hD2 hD2l
  have a1 := t_sAdd [4294967295, 0, 0, 5] [1, 2, 0, 5] ⟨rfl, by simp [M32]⟩ ⟨rfl, by simp [M32]⟩
  have a2 := t_sSub [0, 0, 0, 0] [1, 0, 0, 0] ⟨rfl, by simp [M32]⟩ ⟨rfl, by simp [M32]⟩
  repeat' ((conv => whnf); first | exact trivial | refine k_call _ (a1) ?_ | refine k_call _ (a2) ?_ | refine now_b false rfl ?_ | refine now_T ?_ | refine aE1 ?_ | refine aE0 ?_ | refine aN1 ?_ | refine aN0 ?_ | refine aD1 ?_ | refine aD0 ?_ | refine now_E (fun hq => ?_) (fun hq => ?_) | refine now_N (fun hq => ?_) (fun hq => ?_) | refine now_D (fun hq => ?_) (fun hq => ?_) | refine rb1 ?_ | refine rb0 ?_ | refine rbx ?_ | refine rix ?_ | (refine And.intro (by first | (exact ⟨⟨rfl, rfl, rfl, rfl, trivial⟩, ⟨rfl, rfl, rfl, rfl, trivial⟩⟩; done) | fail) ?_) | refine aS ?_ | fail)
  refine WC_inl mixed Tryd.func40 l40 rfl rfl (rs := [.tmp 2, .tmp 3]) rfl 1000 (Nat.le_of_ble_eq_true rfl) ?_
  repeat' ((conv => whnf); first | exact trivial | refine now_T ?_ | refine aE1 ?_ | refine aE0 ?_ | refine aN1 ?_ | refine aN0 ?_ | refine aD1 ?_ | refine aD0 ?_ | refine now_E (fun hq => ?_) (fun hq => ?_) | refine now_N (fun hq => ?_) (fun hq => ?_) | refine now_D (fun hq => ?_) (fun hq => ?_) | refine rb1 ?_ | refine rb0 ?_ | refine rbx ?_ | refine rix ?_ | refine aS ?_ | refine ⟨_, rfl, ?_⟩ | fail)
  refine WC_inl mixed Tryd.func40 l40 rfl rfl (rs := [.tmp 2, .tmp 3]) rfl 2000 (Nat.le_of_ble_eq_true rfl) ?_
  repeat' ((conv => whnf); first | exact trivial | refine now_T ?_ | refine aE1 ?_ | refine aE0 ?_ | refine aN1 ?_ | refine aN0 ?_ | refine aD1 ?_ | refine aD0 ?_ | refine now_E (fun hq => ?_) (fun hq => ?_) | refine now_N (fun hq => ?_) (fun hq => ?_) | refine now_D (fun hq => ?_) (fun hq => ?_) | refine rb1 ?_ | refine rb0 ?_ | refine rbx ?_ | refine rix ?_ | refine aS ?_ | refine ⟨_, rfl, ?_⟩ | fail)
  (conv => whnf)
  refine ⟨_, _, _, _, _, m1 (pvV zero16), ?_, ?_, by decide, ?_, ?_⟩
  · intro p hp
    simp only [List.mem_cons, List.not_mem_nil, or_false] at hp
    rcases hp with rfl | rfl <;> rfl
  · intro n hn
    simp only [List.mem_cons, List.not_mem_nil, or_false] at hn
    rcases hn with rfl | rfl | rfl <;> rfl
  · rfl
  repeat' ((conv => whnf); first | exact trivial | refine now_T ?_ | refine aE1 ?_ | refine aE0 ?_ | refine aN1 ?_ | refine aN0 ?_ | refine aD1 ?_ | refine aD0 ?_ | refine now_E (fun hq => ?_) (fun hq => ?_) | refine now_N (fun hq => ?_) (fun hq => ?_) | refine now_D (fun hq => ?_) (fun hq => ?_) | refine rb1 ?_ | refine rb0 ?_ | refine rbx ?_ | refine rix ?_ | refine aS ?_ | fail)
  (conv => whnf)
  refine ⟨_, _, _, _, _, m2 (pvV zero16), ?_, ?_, by decide, ?_, ?_⟩
  · intro p hp
    simp only [List.mem_cons, List.not_mem_nil, or_false] at hp
    rcases hp with rfl | rfl <;> rfl
  · intro n hn
    simp only [List.mem_cons, List.not_mem_nil, or_false] at hn
    rcases hn with rfl | rfl | rfl <;> rfl
  · rfl
  repeat' ((conv => whnf); first | exact trivial | refine now_T ?_ | refine aE1 ?_ | refine aE0 ?_ | refine aN1 ?_ | refine aN0 ?_ | refine aD1 ?_ | refine aD0 ?_ | refine now_E (fun hq => ?_) (fun hq => ?_) | refine now_N (fun hq => ?_) (fun hq => ?_) | refine now_D (fun hq => ?_) (fun hq => ?_) | refine rb1 ?_ | refine rb0 ?_ | refine rbx ?_ | refine rix ?_ | refine aS ?_ | fail)
  (conv => whnf)
  refine ⟨_, _, _, _, _, m3', ?_, ?_, by decide, ?_, ?_⟩
  · intro p hp
    simp only [List.mem_cons, List.not_mem_nil, or_false] at hp
    rcases hp with rfl | rfl <;> rfl
  · intro n hn
    simp only [List.mem_cons, List.not_mem_nil, or_false] at hn
    rcases hn with rfl | rfl | rfl <;> rfl
  · rfl
  repeat' ((conv => whnf); first | exact trivial | refine now_T ?_ | refine aE1 ?_ | refine aE0 ?_ | refine aN1 ?_ | refine aN0 ?_ | refine aD1 ?_ | refine aD0 ?_ | refine now_E (fun hq => ?_) (fun hq => ?_) | refine now_N (fun hq => ?_) (fun hq => ?_) | refine now_D (fun hq => ?_) (fun hq => ?_) | refine rb1 ?_ | refine rb0 ?_ | refine rbx ?_ | refine rix ?_ | refine aS ?_ | fail)
  refine wpC_loopE 0 (α := Nat) (β := Unit) (fun k => {sl := [(2, .ptr 1013 0), (6, .ptr 6 0), (7, .ptr 7 0), (70, .t (.slice 1 [I 0, I 0, I 0])), (71, .t (I 3)), (72, .t (I k))], bx := [(6, .d 10 (ha.map I)), (7, .d 10 (hb.map I)), (1013, .v (lg0 (pvV zero16))), (1011, .m true sh3 [(nk (2, 7, 1), tly 2 [y0, y1, y2, y3]), (nk (1, 2, 1), tly 1 [x0, x1, x2, x3])] none)]})
    (fun k => k ≤ 3) (fun k => 3 - k) (fun _ => {sl := [(2, .ptr 1013 0), (6, .ptr 6 0), (7, .ptr 7 0)], bx := [(6, .d 10 (ha.map I)), (7, .d 10 (hb.map I)), (1013, .v (lg0 (pvV zero16))), (1011, .m true sh3 [(nk (2, 7, 1), tly 2 [y0, y1, y2, y3]), (nk (1, 2, 1), tly 1 [x0, x1, x2, x3])] none)]}) (fun _ => True) 0 (by omega) ?_ ?_ ?_
  · repeat' (first | exact trivial | exact LeV.same _ | exact LeB.same _ | exact rfl | exact fun _ _ _ => trivial | exact lI | exact LeV.nil _ _ _ | exact lB | refine leBd ?_ | refine leOwn ?_ | refine And.intro ?_ ?_)
  · rintro k hk
    rcases Nat.lt_or_ge k 3 with h | h
    · have hg : ([I 0, I 0, I 0] : List T)[k]?.getD .nil = I 0 := by
        match k, h with
        | 0, _ => rfl
        | 1, _ => rfl
        | 2, _ => rfl
      repeat' ((conv => whnf); first | exact trivial | (refine now_v (I 0) (by first | (exact hg; done) | fail) ?_) | refine now_T ?_ | refine aE1 ?_ | refine aE0 ?_ | refine aN1 ?_ | refine aN0 ?_ | refine aD1 ?_ | refine aD0 ?_ | refine now_E (fun hq => ?_) (fun hq => ?_) | refine now_N (fun hq => ?_) (fun hq => ?_) | refine now_D (fun hq => ?_) (fun hq => ?_) | refine rb1 ?_ | refine rb0 ?_ | refine rbx ?_ | refine rix ?_ | (refine And.intro (by first | ((simp; omega); done) | fail) ?_) | refine aS ?_ | fail)
      exact ⟨k + 1, by omega, by omega, by repeat' (first | exact trivial | exact LeV.same _ | exact LeB.same _ | exact rfl | exact fun _ _ _ => trivial | exact lI | exact LeV.nil _ _ _ | exact lB | refine leBd ?_ | refine leOwn ?_ | refine And.intro ?_ ?_)⟩
    · have : k = 3 := by omega
      subst this
      repeat' ((conv => whnf); first | exact trivial | refine now_T ?_ | refine aE1 ?_ | refine aE0 ?_ | refine aN1 ?_ | refine aN0 ?_ | refine aD1 ?_ | refine aD0 ?_ | refine now_E (fun hq => ?_) (fun hq => ?_) | refine now_N (fun hq => ?_) (fun hq => ?_) | refine now_D (fun hq => ?_) (fun hq => ?_) | refine rb1 ?_ | refine rb0 ?_ | refine rbx ?_ | refine rix ?_ | refine aS ?_ | fail)
      exact ⟨(), trivial, by repeat' (first | exact trivial | exact LeV.same _ | exact LeB.same _ | exact rfl | exact fun _ _ _ => trivial | exact lI | exact LeV.nil _ _ _ | exact lB | refine leBd ?_ | refine leOwn ?_ | refine And.intro ?_ ?_)⟩
  rintro - -
  refine wpC_cut (β := Unit) (fun _ => {sl := [(2, .ptr 1013 0), (6, .ptr 6 0), (7, .ptr 7 0), (10, .ptr 10 0), (11, .t (I 0))], bx := [(6, .d 10 (ha.map I)), (7, .d 10 (hb.map I)), (10, .d 19 (rcC 3 0 [[1, 2, 1, 1, x0, x1, x2, x3], [2, 7, 1, 2, y0, y1, y2, y3]] zero16)), (1013, .v (lgC (.t (I 3)) (.t (I 1)) (pvV [d0, d1, d2, d3, d4, d5, d6, d7, d8, d9, d10, d11, d12, d13, d14, d15]))), (1011, .m true sh3 [] none)]}) (fun _ => True) ?_ fun _ _ => ?_
  · repeat' ((conv => whnf); first | exact trivial | refine now_T ?_ | refine aE1 ?_ | refine aE0 ?_ | refine aN1 ?_ | refine aN0 ?_ | refine aD1 ?_ | refine aD0 ?_ | refine now_E (fun hq => ?_) (fun hq => ?_) | refine now_N (fun hq => ?_) (fun hq => ?_) | refine now_D (fun hq => ?_) (fun hq => ?_) | refine rb1 ?_ | refine rb0 ?_ | refine rbx ?_ | refine rix ?_ | refine aS ?_ | fail)
    refine WC_inlP mixed Tryd.func42 l42 rfl rfl (rs := [.cell 2 51, .tmp 3]) rfl 6000 (Nat.le_of_ble_eq_true rfl) ?_
    repeat' ((conv => whnf); first | exact trivial | refine now_T ?_ | refine aE1 ?_ | refine aE0 ?_ | refine aN1 ?_ | refine aN0 ?_ | refine aD1 ?_ | refine aD0 ?_ | refine now_E (fun hq => ?_) (fun hq => ?_) | refine now_N (fun hq => ?_) (fun hq => ?_) | refine now_D (fun hq => ?_) (fun hq => ?_) | refine rb1 ?_ | refine rb0 ?_ | refine rbx ?_ | refine rix ?_ | refine aS ?_ | fail)
    refine WC_inl mixed Tryd.func71 l71 rfl rfl (rs := [.tmp 2]) rfl 8000 (Nat.le_of_ble_eq_true rfl) ?_
    repeat' ((conv => whnf); first | exact trivial | refine now_T ?_ | refine aE1 ?_ | refine aE0 ?_ | refine aN1 ?_ | refine aN0 ?_ | refine aD1 ?_ | refine aD0 ?_ | refine now_E (fun hq => ?_) (fun hq => ?_) | refine now_N (fun hq => ?_) (fun hq => ?_) | refine now_D (fun hq => ?_) (fun hq => ?_) | refine rb1 ?_ | refine rb0 ?_ | refine rbx ?_ | refine rix ?_ | refine aS ?_ | refine ⟨_, rfl, ?_⟩ | fail)
    have hNS := n_Sorted [(2, 7, 1), (1, 2, 1)] [tly 2 [y0, y1, y2, y3], tly 1 [x0, x1, x2, x3]] rfl (by decide)
    rw [srt3] at hNS
    refine WC_new rfl hNS ?_
    refine wpC_loopE 0 (α := Nat) (β := Unit) (fun k => {sl := [(0, .ptr 1013 0), (2, .ptr 6002 0), (4, .ptr 6004 0), (32, .t (.slice 3 ([(1, 2, 1), (2, 7, 1)].map nk))), (33, .t (I 2)), (34, .t (I k))], bx := [(6, .d 10 (ha.map I)), (7, .d 10 (hb.map I)), (1013, .v (lg0 (pvV zero16))), (1011, .m true sh3 [(nk (2, 7, 1), tly 2 [y0, y1, y2, y3]), (nk (1, 2, 1), tly 1 [x0, x1, x2, x3])] none), (6002, .d 19 z19), (6004, .v (.t (I 3) :: .t (I 0) :: .own 6058 36 8 (([[1, 2, 1, 1, x0, x1, x2, x3], [2, 7, 1, 2, y0, y1, y2, y3]].take k).map ln) :: pvV zero16))], gh := [(0, [(2, .ptr 1013 0), (6, .ptr 6 0), (7, .ptr 7 0)])], off := 6000})
      (fun k => k ≤ 2) (fun k => 2 - k) (fun _ => {sl := [(0, .ptr 1013 0), (2, .ptr 6002 0), (4, .ptr 6004 0)], bx := [(6, .d 10 (ha.map I)), (7, .d 10 (hb.map I)), (1013, .v (lg0 (pvV zero16))), (1011, .m true sh3 [(nk (2, 7, 1), tly 2 [y0, y1, y2, y3]), (nk (1, 2, 1), tly 1 [x0, x1, x2, x3])] none), (6002, .d 19 z19), (6004, .v (.t (I 3) :: .t (I 0) :: .t (linesT [[1, 2, 1, 1, x0, x1, x2, x3], [2, 7, 1, 2, y0, y1, y2, y3]]) :: pvV zero16))], gh := [(0, [(2, .ptr 1013 0), (6, .ptr 6 0), (7, .ptr 7 0)])], off := 6000}) (fun _ => True) 0 (by omega) ?_ ?_ ?_
    · refine ⟨⟨.same _, .same _, .same _, .same _, .same _, .same _, trivial⟩, ⟨.same _, .same _, .same _, .same _, .same _, .dv _ _ _ ⟨.same _, .same _, .nil _ _ _, .same _, .same _, .same _, .same _, .same _, .same _, .same _, .same _, .same _, .same _, .same _, .same _, .same _, .same _, .same _, .same _, trivial⟩, trivial⟩, ⟨⟨.same _, .same _, .same _, trivial⟩, trivial⟩, rfl, fun _ _ _ => trivial, rfl⟩
    · rintro k hk
      match k, hk with
      | 0, _ =>
        repeat' ((conv => whnf); first | exact trivial | refine now_T ?_ | refine aE1 ?_ | refine aE0 ?_ | refine aN1 ?_ | refine aN0 ?_ | refine aD1 ?_ | refine aD0 ?_ | refine now_E (fun hq => ?_) (fun hq => ?_) | refine now_N (fun hq => ?_) (fun hq => ?_) | refine now_D (fun hq => ?_) (fun hq => ?_) | refine rb1 ?_ | refine rb0 ?_ | refine rbx ?_ | refine rix ?_ | (refine And.intro (by first | (exact ⟨rfl, rfl, rfl, rfl, trivial⟩; done) | fail) ?_) | refine aS ?_ | refine now_b _ rfl ?_ | fail)
        exact ⟨1, by omega, by omega, ⟨⟨.same _, .same _, .same _, .same _, .same _, lI, trivial⟩, ⟨.same _, .same _, .same _, .same _, .same _, .same _, trivial⟩, ⟨⟨.same _, .same _, .same _, trivial⟩, trivial⟩, rfl, fun _ _ _ => trivial, rfl⟩⟩
      | 1, _ =>
        repeat' ((conv => whnf); first | exact trivial | refine now_T ?_ | refine aE1 ?_ | refine aE0 ?_ | refine aN1 ?_ | refine aN0 ?_ | refine aD1 ?_ | refine aD0 ?_ | refine now_E (fun hq => ?_) (fun hq => ?_) | refine now_N (fun hq => ?_) (fun hq => ?_) | refine now_D (fun hq => ?_) (fun hq => ?_) | refine rb1 ?_ | refine rb0 ?_ | refine rbx ?_ | refine rix ?_ | (refine And.intro (by first | (exact ⟨rfl, rfl, rfl, rfl, trivial⟩; done) | fail) ?_) | refine aS ?_ | refine now_b _ rfl ?_ | fail)
        exact ⟨2, by omega, by omega, ⟨⟨.same _, .same _, .same _, .same _, .same _, lI, trivial⟩, ⟨.same _, .same _, .same _, .same _, .same _, .same _, trivial⟩, ⟨⟨.same _, .same _, .same _, trivial⟩, trivial⟩, rfl, fun _ _ _ => trivial, rfl⟩⟩
      | 2, _ =>
        repeat' ((conv => whnf); first | exact trivial | refine now_T ?_ | refine aE1 ?_ | refine aE0 ?_ | refine aN1 ?_ | refine aN0 ?_ | refine aD1 ?_ | refine aD0 ?_ | refine now_E (fun hq => ?_) (fun hq => ?_) | refine now_N (fun hq => ?_) (fun hq => ?_) | refine now_D (fun hq => ?_) (fun hq => ?_) | refine rb1 ?_ | refine rb0 ?_ | refine rbx ?_ | refine rix ?_ | refine aS ?_ | refine now_b _ rfl ?_ | fail)
        exact ⟨(), trivial, ⟨⟨.same _, .same _, .same _, trivial⟩, ⟨.same _, .same _, .same _, .same _, .same _, .v _ _ ⟨.same _, .same _, .data _ _ _ _, .same _, .same _, .same _, .same _, .same _, .same _, .same _, .same _, .same _, .same _, .same _, .same _, .same _, .same _, .same _, .same _, trivial⟩, trivial⟩, ⟨⟨.same _, .same _, .same _, trivial⟩, trivial⟩, rfl, fun _ _ _ => trivial, rfl⟩⟩
      | k + 3, h => omega
    rintro - -
    repeat' ((conv => whnf); first | exact trivial | refine k_call _ (hD1) ?_ | refine now_T ?_ | refine aE1 ?_ | refine aE0 ?_ | refine aN1 ?_ | refine aN0 ?_ | refine aD1 ?_ | refine aD0 ?_ | refine now_E (fun hq => ?_) (fun hq => ?_) | refine now_N (fun hq => ?_) (fun hq => ?_) | refine now_D (fun hq => ?_) (fun hq => ?_) | refine rb1 ?_ | refine rb0 ?_ | refine rbx ?_ | refine rix ?_ | refine aS ?_ | fail)
    refine ⟨[.t _, .t (I 0)], ⟨⟨rfl, trivial⟩, rfl, trivial⟩, ?_⟩
    repeat' ((conv => whnf); first | exact trivial | refine now_T ?_ | refine aE1 ?_ | refine aE0 ?_ | refine aN1 ?_ | refine aN0 ?_ | refine aD1 ?_ | refine aD0 ?_ | refine now_E (fun hq => ?_) (fun hq => ?_) | refine now_N (fun hq => ?_) (fun hq => ?_) | refine now_D (fun hq => ?_) (fun hq => ?_) | refine rb1 ?_ | refine rb0 ?_ | refine rbx ?_ | refine rix ?_ | refine aS ?_ | fail)
    exact ⟨(), trivial, ⟨⟨.same _, .same _, .same _, .same _, .same _, trivial⟩, ⟨.same _, .same _, .same _, .same _, .same _, trivial⟩, trivial, rfl, fun _ _ _ => trivial, rfl⟩⟩
  refine wpC_cut (β := Unit) (fun _ => {sl := [(6, .ptr 6 0), (7, .ptr 7 0), (10, .ptr 10 0), (11, .t (I 0)), (12, .ptr 12 0), (13, .t (I 0))], bx := [(6, .d 10 (ha.map I)), (7, .d 10 (hb.map I)), (10, .d 19 (rcC 3 0 [[1, 2, 1, 1, x0, x1, x2, x3], [2, 7, 1, 2, y0, y1, y2, y3]] zero16)), (12, .d 19 (rcC 3 1 [] [d0, d1, d2, d3, d4, d5, d6, d7, d8, d9, d10, d11, d12, d13, d14, d15]))]}) (fun _ => True) ?_ fun _ _ => ?_
  · repeat' ((conv => whnf); first | exact trivial | refine now_T ?_ | refine aE1 ?_ | refine aE0 ?_ | refine aN1 ?_ | refine aN0 ?_ | refine aD1 ?_ | refine aD0 ?_ | refine now_E (fun hq => ?_) (fun hq => ?_) | refine now_N (fun hq => ?_) (fun hq => ?_) | refine now_D (fun hq => ?_) (fun hq => ?_) | refine rb1 ?_ | refine rb0 ?_ | refine rbx ?_ | refine rix ?_ | refine aS ?_ | fail)
    refine WC_inlP mixed Tryd.func42 l42 rfl rfl (rs := [.cell 2 51, .tmp 3]) rfl 9000 (Nat.le_of_ble_eq_true rfl) ?_
    repeat' ((conv => whnf); first | exact trivial | refine now_D0 (by decide) ?_ | refine now_T ?_ | refine aE1 ?_ | refine aE0 ?_ | refine aN1 ?_ | refine aN0 ?_ | refine aD1 ?_ | refine aD0 ?_ | refine now_E (fun hq => ?_) (fun hq => ?_) | refine now_N (fun hq => ?_) (fun hq => ?_) | refine now_D (fun hq => ?_) (fun hq => ?_) | refine rb1 ?_ | refine rb0 ?_ | refine rbx ?_ | refine rix ?_ | refine aS ?_ | fail)
    refine WC_inl mixed Tryd.func71 l71 rfl rfl (rs := [.tmp 2]) rfl 11000 (Nat.le_of_ble_eq_true rfl) ?_
    repeat' ((conv => whnf); first | exact trivial | refine now_T ?_ | refine aE1 ?_ | refine aE0 ?_ | refine aN1 ?_ | refine aN0 ?_ | refine aD1 ?_ | refine aD0 ?_ | refine now_E (fun hq => ?_) (fun hq => ?_) | refine now_N (fun hq => ?_) (fun hq => ?_) | refine now_D (fun hq => ?_) (fun hq => ?_) | refine rb1 ?_ | refine rb0 ?_ | refine rbx ?_ | refine rix ?_ | refine aS ?_ | refine ⟨_, rfl, ?_⟩ | fail)
    have hNS := n_Sorted [] [] rfl (by decide)
    rw [show srt [] = [] by simp [srt]] at hNS
    refine WC_new rfl hNS ?_
    refine wpC_loopE 0 (α := Unit) (β := Unit) (fun _ => {sl := [(0, .ptr 1013 0), (2, .ptr 9002 0), (4, .ptr 9004 0), (33, .t (I 0)), (34, .t (I 0))], bx := [(6, .d 10 (ha.map I)), (7, .d 10 (hb.map I)), (10, .d 19 (rcC 3 0 [[1, 2, 1, 1, x0, x1, x2, x3], [2, 7, 1, 2, y0, y1, y2, y3]] zero16)), (1013, .v (lgC (.t (I 3)) (.t (I 1)) (pvV [d0, d1, d2, d3, d4, d5, d6, d7, d8, d9, d10, d11, d12, d13, d14, d15]))), (1011, .m true sh3 [] none), (9002, .d 19 z19), (9004, .d 19 (I 3 :: I 1 :: .nil :: [d0, d1, d2, d3, d4, d5, d6, d7, d8, d9, d10, d11, d12, d13, d14, d15].map Y))], gh := [(0, [(2, .ptr 1013 0), (6, .ptr 6 0), (7, .ptr 7 0), (10, .ptr 10 0), (11, .t (I 0))])], off := 9000})
      (fun _ => True) (fun _ => 0) (fun _ => {sl := [(0, .ptr 1013 0), (2, .ptr 9002 0), (4, .ptr 9004 0)], bx := [(6, .d 10 (ha.map I)), (7, .d 10 (hb.map I)), (10, .d 19 (rcC 3 0 [[1, 2, 1, 1, x0, x1, x2, x3], [2, 7, 1, 2, y0, y1, y2, y3]] zero16)), (1013, .v (lgC (.t (I 3)) (.t (I 1)) (pvV [d0, d1, d2, d3, d4, d5, d6, d7, d8, d9, d10, d11, d12, d13, d14, d15]))), (1011, .m true sh3 [] none), (9002, .d 19 z19), (9004, .v (.t (I 3) :: .t (I 1) :: .t (linesT []) :: pvV [d0, d1, d2, d3, d4, d5, d6, d7, d8, d9, d10, d11, d12, d13, d14, d15]))], gh := [(0, [(2, .ptr 1013 0), (6, .ptr 6 0), (7, .ptr 7 0), (10, .ptr 10 0), (11, .t (I 0))])], off := 9000}) (fun _ => True) () trivial ?_ ?_ ?_
    · exact ⟨⟨.same _, .same _, .same _, .same _, .same _, trivial⟩, ⟨.same _, .same _, .same _, .same _, .same _, .same _, .same _, trivial⟩, ⟨⟨.same _, .same _, .same _, .same _, .same _, trivial⟩, trivial⟩, rfl, fun _ _ _ => trivial, rfl⟩
    · rintro - -
      repeat' ((conv => whnf); first | exact trivial | refine now_T ?_ | refine aE1 ?_ | refine aE0 ?_ | refine aN1 ?_ | refine aN0 ?_ | refine aD1 ?_ | refine aD0 ?_ | refine now_E (fun hq => ?_) (fun hq => ?_) | refine now_N (fun hq => ?_) (fun hq => ?_) | refine now_D (fun hq => ?_) (fun hq => ?_) | refine rb1 ?_ | refine rb0 ?_ | refine rbx ?_ | refine rix ?_ | refine aS ?_ | refine now_b _ rfl ?_ | fail)
      exact ⟨(), trivial, ⟨⟨.same _, .same _, .same _, trivial⟩, ⟨.same _, .same _, .same _, .same _, .same _, .same _, .dv _ _ _ ⟨.same _, .same _, .empty _, .same _, .same _, .same _, .same _, .same _, .same _, .same _, .same _, .same _, .same _, .same _, .same _, .same _, .same _, .same _, .same _, trivial⟩, trivial⟩, ⟨⟨.same _, .same _, .same _, .same _, .same _, trivial⟩, trivial⟩, rfl, fun _ _ _ => trivial, rfl⟩⟩
    rintro - -
    repeat' ((conv => whnf); first | exact trivial | refine k_call _ (hD2) ?_ | refine now_T ?_ | refine aE1 ?_ | refine aE0 ?_ | refine aN1 ?_ | refine aN0 ?_ | refine aD1 ?_ | refine aD0 ?_ | refine now_E (fun hq => ?_) (fun hq => ?_) | refine now_N (fun hq => ?_) (fun hq => ?_) | refine now_D (fun hq => ?_) (fun hq => ?_) | refine rb1 ?_ | refine rb0 ?_ | refine rbx ?_ | refine rix ?_ | (refine And.intro (by first | (exact ⟨(List.length_map _).trans hD2l, Nat.le_of_ble_eq_true rfl⟩; done) | fail) ?_) | refine aS ?_ | fail)
    refine ⟨[.t _, .t (I 0)], ⟨⟨rfl, trivial⟩, rfl, trivial⟩, ?_⟩
    repeat' ((conv => whnf); first | exact trivial | refine now_T ?_ | refine aE1 ?_ | refine aE0 ?_ | refine aN1 ?_ | refine aN0 ?_ | refine aD1 ?_ | refine aD0 ?_ | refine now_E (fun hq => ?_) (fun hq => ?_) | refine now_N (fun hq => ?_) (fun hq => ?_) | refine now_D (fun hq => ?_) (fun hq => ?_) | refine rb1 ?_ | refine rb0 ?_ | refine rbx ?_ | refine rix ?_ | refine aS ?_ | fail)
    exact ⟨(), trivial, ⟨⟨.same _, .same _, .same _, .same _, .same _, .same _, trivial⟩, ⟨.same _, .same _, .same _, .same _, trivial⟩, trivial, rfl, fun _ _ _ => trivial, rfl⟩⟩
  have k0 : okLn [1, 2, 1, 1, x0, x1, x2, x3] = true := by rw [okLn8, (isSb_ok rfl).2 ⟨rfl, xi⟩]; rfl
  have k1 : okLn [2, 7, 1, 2, y0, y1, y2, y3] = true := by rw [okLn8, (isSb_ok rfl).2 ⟨rfl, yi⟩]; rfl
  have kf : okFrom none [[1, 2, 1, 1, x0, x1, x2, x3], [2, 7, 1, 2, y0, y1, y2, y3]] = true := by
    show ((okLn _ && true) && ((okLn _ && decide (cmpN (1, 2, 1) (2, 7, 1) < 0)) && true)) = true
    rw [k0, k1]; rfl
  have c1 : chk 3 0 [[1, 2, 1, 1, x0, x1, x2, x3], [2, 7, 1, 2, y0, y1, y2, y3]] = 0 := by
    unfold chk
    rw [if_neg (by simp), if_neg (by omega), if_pos kf]
  have c2 : chk 3 1 [] = 0 := rfl
  have v1 : ver 3 0 zero16 [⟨3, 0, [[1, 2, 1, 1, x0, x1, x2, x3], [2, 7, 1, 2, y0, y1, y2, y3]], zero16⟩, ⟨3, 1, [], [d0, d1, d2, d3, d4, d5, d6, d7, d8, d9, d10, d11, d12, d13, d14, d15]⟩] = (2, 0) := by
    show (if chk 3 0 [[1, 2, 1, 1, x0, x1, x2, x3], [2, 7, 1, 2, y0, y1, y2, y3]] ≠ 0 then ((0 : Int), chk 3 0 [[1, 2, 1, 1, x0, x1, x2, x3], [2, 7, 1, 2, y0, y1, y2, y3]]) else if (3 : Int) ≠ 3 then (0, 1) else if (0 : Int) ≠ 0 then (0, 25) else if zero16 ≠ zero16 then (0, 7) else ver 3 1 (dgR 3 0 [[1, 2, 1, 1, x0, x1, x2, x3], [2, 7, 1, 2, y0, y1, y2, y3]] zero16) [⟨3, 1, [], [d0, d1, d2, d3, d4, d5, d6, d7, d8, d9, d10, d11, d12, d13, d14, d15]⟩]) = _
    rw [c1, if_neg (by simp), if_neg (by simp), if_neg (by simp), if_neg (by simp), hD]
    show (if chk 3 1 [] ≠ 0 then ((1 : Int), chk 3 1 []) else if (3 : Int) ≠ 3 then (1, 1) else if (1 : Int) ≠ 1 then (1, 25) else if [d0, d1, d2, d3, d4, d5, d6, d7, d8, d9, d10, d11, d12, d13, d14, d15] ≠ [d0, d1, d2, d3, d4, d5, d6, d7, d8, d9, d10, d11, d12, d13, d14, d15] then (1, 7) else (2, 0)) = _
    rw [c2, if_neg (by simp), if_neg (by simp), if_neg (by simp), if_neg (by simp)]
  have v2 : ver 3 0 zero16 [⟨3, 1, [], [d0, d1, d2, d3, d4, d5, d6, d7, d8, d9, d10, d11, d12, d13, d14, d15]⟩] = (0, 25) := rfl
  have hV1 := t_Verify 3 [⟨3, 0, [[1, 2, 1, 1, x0, x1, x2, x3], [2, 7, 1, 2, y0, y1, y2, y3]], zero16⟩, ⟨3, 1, [], [d0, d1, d2, d3, d4, d5, d6, d7, d8, d9, d10, d11, d12, d13, d14, d15]⟩] (Nat.le_of_ble_eq_true rfl) (fun r hr => by
    simp only [List.mem_cons, List.not_mem_nil, or_false] at hr
    rcases hr with rfl | rfl
    · exact hr1
    · exact hr2)
  rw [v1] at hV1
  have hV2 := t_Verify 3 [⟨3, 1, [], [d0, d1, d2, d3, d4, d5, d6, d7, d8, d9, d10, d11, d12, d13, d14, d15]⟩] (Nat.le_of_ble_eq_true rfl) (fun r hr => by
    simp only [List.mem_cons, List.not_mem_nil, or_false] at hr
    rw [hr]
    exact hr2)
  rw [v2] at hV2
  have hF := t_Find 3 0 [[1, 2, 1, 1, x0, x1, x2, x3], [2, 7, 1, 2, y0, y1, y2, y3]] zero16 2 7 1 (Nat.le_of_ble_eq_true rfl) (fun x h => (hL8 x h).1) rfl
  have hF2 : fnd [[1, 2, 1, 1, x0, x1, x2, x3], [2, 7, 1, 2, y0, y1, y2, y3]] 2 7 1 = .tup [ln [2, 7, 1, 2, y0, y1, y2, y3], .bool true] := rfl
  rw [hF2] at hF
  have hCk := t_Check 3 0 [[1, 2, 1, 1, x0, x1, x2, x3], [2, 7, 1, 2, y0, y1, y2, y3]] zero16 (Nat.le_of_ble_eq_true rfl) (fun x h => (hL8 x h).1) rfl
  rw [c1] at hCk
  have q1 : DCalls Tryd.prog 19 [ln [0, 0, 0, 5, 0, 0, 0, 0], ln [0, 0, 0, 3, 0, 0, 0, 0]] (verT (2, 0)) := t_Compare _ _ rfl rfl (by unfold i64; decide) (by unfold i64; decide) (by decide) (by decide)
  have q2 : DCalls Tryd.prog 19 [ln [0, 0, 0, 3, 0, 0, 0, 0], ln [0, 0, 0, 5, 0, 0, 0, 0]] (verT (0, 26)) := t_Compare _ _ rfl rfl (by unfold i64; decide) (by unfold i64; decide) (by decide) (by decide)
  have q3 : DCalls Tryd.prog 19 [ln [0, 0, 0, 5, 1, 0, 0, 0], ln [0, 0, 0, 5, 0, 0, 0, 0]] (verT (0, 26)) := t_Compare _ _ rfl rfl (by unfold i64; decide) (by unfold i64; decide) (by decide) (by decide)
  have o1 := t_OfH ha okHa
  have o2 := t_OfH hb okHb
  have o3 := t_sAdd _ _ (ofH_isS ha) (ofH_isS hb)
  rw [show sAdd (ofH ha) (ofH hb) = [y0, y1, y2, y3] by rw [← hy]; unfold Sab Sa; rw [sAdd0 (ofH_isS ha)]] at o3
  refine wpC_cut (β := Unit) (fun _ => {sl := [(6, .ptr 6 0), (7, .ptr 7 0), (10, .ptr 10 0), (11, .t (I 0)), (12, .ptr 12 0), (13, .t (I 0)), (14, .t (I 2)), (15, .t (I 0))], bx := [(6, .d 10 (ha.map I)), (7, .d 10 (hb.map I)), (10, .d 19 (rcC 3 0 [[1, 2, 1, 1, x0, x1, x2, x3], [2, 7, 1, 2, y0, y1, y2, y3]] zero16)), (12, .d 19 (rcC 3 1 [] [d0, d1, d2, d3, d4, d5, d6, d7, d8, d9, d10, d11, d12, d13, d14, d15]))]}) (fun _ => True) ?_ fun _ _ => ?_
  · repeat' ((conv => whnf); first | exact trivial | refine k_call _ (hV1) ?_ | refine now_T ?_ | refine aE1 ?_ | refine aE0 ?_ | refine aN1 ?_ | refine aN0 ?_ | refine aD1 ?_ | refine aD0 ?_ | refine now_E (fun hq => ?_) (fun hq => ?_) | refine now_N (fun hq => ?_) (fun hq => ?_) | refine now_D (fun hq => ?_) (fun hq => ?_) | refine rb1 ?_ | refine rb0 ?_ | refine rbx ?_ | refine rix ?_ | refine aS ?_ | fail)
    exact ⟨(), trivial, ⟨⟨.same _, .same _, .same _, .same _, .same _, .same _, .same _, .same _, trivial⟩, ⟨.same _, .same _, .same _, .same _, trivial⟩, trivial, rfl, fun _ _ _ => trivial, rfl⟩⟩
  refine wpC_cut (β := Unit) (fun _ => {sl := [(6, .ptr 6 0), (7, .ptr 7 0), (10, .ptr 10 0), (11, .t (I 0)), (12, .ptr 12 0), (13, .t (I 0)), (14, .t (I 2)), (15, .t (I 0)), (16, .t (I 0)), (17, .t (I 25))], bx := [(6, .d 10 (ha.map I)), (7, .d 10 (hb.map I)), (10, .d 19 (rcC 3 0 [[1, 2, 1, 1, x0, x1, x2, x3], [2, 7, 1, 2, y0, y1, y2, y3]] zero16)), (12, .d 19 (rcC 3 1 [] [d0, d1, d2, d3, d4, d5, d6, d7, d8, d9, d10, d11, d12, d13, d14, d15]))]}) (fun _ => True) ?_ fun _ _ => ?_
  · repeat' ((conv => whnf); first | exact trivial | refine k_call _ (hV2) ?_ | refine now_T ?_ | refine aE1 ?_ | refine aE0 ?_ | refine aN1 ?_ | refine aN0 ?_ | refine aD1 ?_ | refine aD0 ?_ | refine now_E (fun hq => ?_) (fun hq => ?_) | refine now_N (fun hq => ?_) (fun hq => ?_) | refine now_D (fun hq => ?_) (fun hq => ?_) | refine rb1 ?_ | refine rb0 ?_ | refine rbx ?_ | refine rix ?_ | refine aS ?_ | fail)
    exact ⟨(), trivial, ⟨⟨.same _, .same _, .same _, .same _, .same _, .same _, .same _, .same _, .same _, .same _, trivial⟩, ⟨.same _, .same _, .same _, .same _, trivial⟩, trivial, rfl, fun _ _ _ => trivial, rfl⟩⟩
  refine wpC_cut (β := Unit) (fun _ => {sl := [(6, .ptr 6 0), (7, .ptr 7 0), (10, .ptr 10 0), (11, .t (I 0)), (12, .ptr 12 0), (13, .t (I 0)), (14, .t (I 2)), (15, .t (I 0)), (16, .t (I 0)), (17, .t (I 25)), (18, .ptr 18 0), (19, .t (.bool true))], bx := [(6, .d 10 (ha.map I)), (7, .d 10 (hb.map I)), (10, .d 19 (rcC 3 0 [[1, 2, 1, 1, x0, x1, x2, x3], [2, 7, 1, 2, y0, y1, y2, y3]] zero16)), (12, .d 19 (rcC 3 1 [] [d0, d1, d2, d3, d4, d5, d6, d7, d8, d9, d10, d11, d12, d13, d14, d15])), (18, .d 8 ([2, 7, 1, 2, y0, y1, y2, y3].map I))]}) (fun _ => True) ?_ fun _ _ => ?_
  · repeat' ((conv => whnf); first | exact trivial | refine k_call _ (hF) ?_ | refine now_T ?_ | refine aE1 ?_ | refine aE0 ?_ | refine aN1 ?_ | refine aN0 ?_ | refine aD1 ?_ | refine aD0 ?_ | refine now_E (fun hq => ?_) (fun hq => ?_) | refine now_N (fun hq => ?_) (fun hq => ?_) | refine now_D (fun hq => ?_) (fun hq => ?_) | refine rb1 ?_ | refine rb0 ?_ | refine rbx ?_ | refine rix ?_ | refine aS ?_ | fail)
    exact ⟨(), trivial, ⟨⟨.same _, .same _, .same _, .same _, .same _, .same _, .same _, .same _, .same _, .same _, .same _, .same _, trivial⟩, ⟨.same _, .same _, .same _, .same _, .same _, trivial⟩, trivial, rfl, fun _ _ _ => trivial, rfl⟩⟩
  repeat' ((conv => whnf); first | exact trivial | refine k_call _ (q1) ?_ | refine k_call _ (q2) ?_ | refine now_T ?_ | refine aE1 ?_ | refine aE0 ?_ | refine aN1 ?_ | refine aN0 ?_ | refine aD1 ?_ | refine aD0 ?_ | refine now_E (fun hq => ?_) (fun hq => ?_) | refine now_N (fun hq => ?_) (fun hq => ?_) | refine now_D (fun hq => ?_) (fun hq => ?_) | refine rb1 ?_ | refine rb0 ?_ | refine rbx ?_ | refine rix ?_ | refine aS ?_ | fail)
  refine wpC_cut (β := Unit) (fun _ => {sl := [(6, .ptr 6 0), (7, .ptr 7 0), (10, .ptr 10 0), (11, .t (I 0)), (12, .ptr 12 0), (13, .t (I 0)), (14, .t (I 2)), (15, .t (I 0)), (16, .t (I 0)), (17, .t (I 25)), (18, .ptr 18 0), (19, .t (.bool true)), (20, .t (I 2)), (21, .t (I 0)), (23, .t (I 26)), (25, .t (I 26))], bx := [(6, .d 10 (ha.map I)), (7, .d 10 (hb.map I)), (10, .d 19 (rcC 3 0 [[1, 2, 1, 1, x0, x1, x2, x3], [2, 7, 1, 2, y0, y1, y2, y3]] zero16)), (12, .d 19 (rcC 3 1 [] [d0, d1, d2, d3, d4, d5, d6, d7, d8, d9, d10, d11, d12, d13, d14, d15])), (18, .d 8 ([2, 7, 1, 2, y0, y1, y2, y3].map I))]}) (fun _ => True) ?_ fun _ _ => ?_
  · repeat' ((conv => whnf); first | exact trivial | refine k_call _ (q3) ?_ | refine now_T ?_ | refine aE1 ?_ | refine aE0 ?_ | refine aN1 ?_ | refine aN0 ?_ | refine aD1 ?_ | refine aD0 ?_ | refine now_E (fun hq => ?_) (fun hq => ?_) | refine now_N (fun hq => ?_) (fun hq => ?_) | refine now_D (fun hq => ?_) (fun hq => ?_) | refine rb1 ?_ | refine rb0 ?_ | refine rbx ?_ | refine rix ?_ | refine aS ?_ | fail)
    exact ⟨(), trivial, ⟨⟨.same _, .same _, .same _, .same _, .same _, .same _, .same _, .same _, .same _, .same _, .same _, .same _, .same _, .same _, .same _, .same _, trivial⟩, ⟨.same _, .same _, .same _, .same _, .same _, trivial⟩, trivial, rfl, fun _ _ _ => trivial, rfl⟩⟩
  refine wpC_cut (β := Unit) (fun _ => {sl := [(6, .ptr 6 0), (7, .ptr 7 0), (14, .t (I 2)), (15, .t (I 0)), (16, .t (I 0)), (17, .t (I 25)), (18, .ptr 18 0), (19, .t (.bool true)), (20, .t (I 2)), (21, .t (I 0)), (23, .t (I 26)), (25, .t (I 26)), (26, .t (.bool true))], bx := [(6, .d 10 (ha.map I)), (7, .d 10 (hb.map I)), (18, .d 8 ([2, 7, 1, 2, y0, y1, y2, y3].map I))]}) (fun _ => True) ?_ fun _ _ => ?_
  · have eD : eqL ([d0, d1, d2, d3, d4, d5, d6, d7, d8, d9, d10, d11, d12, d13, d14, d15].map Y) ([d0, d1, d2, d3, d4, d5, d6, d7, d8, d9, d10, d11, d12, d13, d14, d15].map Y) = true := eqY (by simp)
    repeat' ((conv => whnf); first | exact trivial | refine k_call _ (hCk) ?_ | refine k_call _ (hD1) ?_ | refine now_b true eD ?_ | refine now_T ?_ | refine aE1 ?_ | refine aE0 ?_ | refine aN1 ?_ | refine aN0 ?_ | refine aD1 ?_ | refine aD0 ?_ | refine now_E (fun hq => ?_) (fun hq => ?_) | refine now_N (fun hq => ?_) (fun hq => ?_) | refine now_D (fun hq => ?_) (fun hq => ?_) | refine rb1 ?_ | refine rb0 ?_ | refine rbx ?_ | refine rix ?_ | (refine And.intro (by first | (exact ⟨fits16 (a := [d0, d1, d2, d3, d4, d5, d6, d7, d8, d9, d10, d11, d12, d13, d14, d15]) rfl, fits16 (a := [d0, d1, d2, d3, d4, d5, d6, d7, d8, d9, d10, d11, d12, d13, d14, d15]) rfl⟩; done) | fail) ?_) | refine aS ?_ | refine now_b _ rfl ?_ | fail)
    exact ⟨(), trivial, ⟨⟨.same _, .same _, .same _, .same _, .same _, .same _, .same _, .same _, .same _, .same _, .same _, .same _, .same _, trivial⟩, ⟨.same _, .same _, .same _, trivial⟩, trivial, rfl, fun _ _ _ => trivial, rfl⟩⟩
  have eY : eqL ([y0, y1, y2, y3].map I) ([y0, y1, y2, y3].map I) = true := eqI (by simp)
  repeat' ((conv => whnf); first | exact trivial | refine k_call _ (o1) ?_ | refine k_call _ (o2) ?_ | refine k_call _ (o3) ?_ | refine now_b true eY ?_ | refine now_T ?_ | refine aE1 ?_ | refine aE0 ?_ | refine aN1 ?_ | refine aN0 ?_ | refine aD1 ?_ | refine aD0 ?_ | refine now_E (fun hq => ?_) (fun hq => ?_) | refine now_N (fun hq => ?_) (fun hq => ?_) | refine now_D (fun hq => ?_) (fun hq => ?_) | refine rb1 ?_ | refine rb0 ?_ | refine rbx ?_ | refine rix ?_ | (refine And.intro (by first | (exact ⟨fits4 (a := [y0, y1, y2, y3]) rfl, fits4 (a := [y0, y1, y2, y3]) rfl⟩; done) | fail) ?_) | refine aS ?_ | refine now_b _ rfl ?_ | fail)
end Go.RC
end
section
/- Receipts: chains bind. -/
namespace Go.RC
open Go Go.DL Go.Proofs
set_option maxRecDepth 100000
set_option maxHeartbeats 2000000
/-- Each receipt names the digest of the one before. -/
def chained : List Int → List Rc → Prop
  | _, [] => True
  | pv, r :: l => r.pv = pv ∧ chained r.dg l
theorem ver_chained {node : Int} : ∀ {l : List Rc} {k : Nat} {pv : List Int}, (ver node k pv l).2 = 0 → chained pv l
  | [], _, _, _ => trivial
  | r :: l, k, pv, h => by
    rw [ver] at h
    by_cases c0 : chkR r ≠ 0
    · rw [if_pos c0] at h; exact absurd h c0
    rw [if_neg c0] at h
    by_cases c1 : r.n ≠ node
    · rw [if_pos c1] at h; simp at h
    rw [if_neg c1] at h
    by_cases c2 : r.i ≠ k
    · rw [if_pos c2] at h; simp at h
    rw [if_neg c2] at h
    by_cases c3 : r.pv ≠ pv
    · rw [if_pos c3] at h; simp at h
    rw [if_neg c3] at h
    exact ⟨by simpa using c3, ver_chained h⟩
theorem bind : ∀ {a b : List Rc} {p q : List Int}, chained p a → chained q b → a.length = b.length → (∀ r s, a.getLast? = some r → b.getLast? = some s → r = s) → (∀ (j : Nat) r s, a[j]? = some r → b[j]? = some s → r = s ∨ r.dg ≠ s.dg) → a = b
  | [], [], _, _, _, _, _, _, _ => rfl
  | [], _ :: _, _, _, _, _, h, _, _ => by simp at h
  | _ :: _, [], _, _, _, _, h, _, _ => by simp at h
  | [r], [s], _, _, _, _, _, hl, _ => by rw [hl r s rfl rfl]
  | [_], _ :: _ :: _, _, _, _, _, h, _, _ => by simp at h
  | _ :: _ :: _, [_], _, _, _, _, h, _, _ => by simp at h
  | r :: r2 :: a, s :: s2 :: b, p, q, ha, hb, h, hl, hd => by
    have e : r2 :: a = s2 :: b := bind (p := r.dg) (q := s.dg) ha.2 hb.2 (by simpa using h) (fun x y hx hy => hl x y (by simpa using hx) (by simpa using hy)) fun j x y hx hy => hd (j + 1) x y (by simpa using hx) (by simpa using hy)
    have e2 : r.dg = s.dg := by
      have h1 := ha.2.1
      have h2 := hb.2.1
      have : r2 = s2 := (List.cons.inj e).1
      rw [← h1, ← h2, this]
    rcases hd 0 r s rfl rfl with e3 | e3
    · rw [e3, e]
    · exact absurd e2 e3
theorem t_ChainsBind (node : Int) (a b : List Rc) (la : a.length < 2 ^ 40) (lb : b.length < 2 ^ 40) (ha : ∀ r ∈ a, r.ok) (hb : ∀ r ∈ b, r.ok) : DCalls Tryd.prog 6 [I node, rcs a, rcs b] (.bool true) := by
  refine dcalls_low (rs := [.tmp 6]) mixed Tryd.func6 l6 rfl rfl rfl (r := [.bool _]) (Nat.le_of_ble_eq_true rfl) ?_
  have fA := t_Few a 12 la
  have fB := t_Few b 12 lb
  cases f1 : few a 12
  case false =>
    rw [f1] at fA
    repeat' ((conv => whnf); first | exact trivial | refine k_call _ (fA) ?_ | refine k_call _ (t_sanity) ?_ | refine now_T ?_ | refine aE1 ?_ | refine aE0 ?_ | refine aN1 ?_ | refine aN0 ?_ | refine aD1 ?_ | refine aD0 ?_ | refine now_E (fun hq => ?_) (fun hq => ?_) | refine now_N (fun hq => ?_) (fun hq => ?_) | refine now_D (fun hq => ?_) (fun hq => ?_) | refine rb1 ?_ | refine rb0 ?_ | refine rbx ?_ | refine rix ?_ | refine aS ?_ | fail)
  rw [f1] at fA
  cases f2 : few b 12
  case false =>
    rw [f2] at fB
    repeat' ((conv => whnf); first | exact trivial | refine k_call _ (fA) ?_ | refine k_call _ (fB) ?_ | refine k_call _ (t_sanity) ?_ | refine now_T ?_ | refine aE1 ?_ | refine aE0 ?_ | refine aN1 ?_ | refine aN0 ?_ | refine aD1 ?_ | refine aD0 ?_ | refine now_E (fun hq => ?_) (fun hq => ?_) | refine now_N (fun hq => ?_) (fun hq => ?_) | refine now_D (fun hq => ?_) (fun hq => ?_) | refine rb1 ?_ | refine rb0 ?_ | refine rbx ?_ | refine rix ?_ | refine aS ?_ | fail)
  rw [f2] at fB
  by_cases hll : a.length = b.length
  case neg => repeat' ((conv => whnf); first | exact trivial | refine k_call _ (fA) ?_ | refine k_call _ (fB) ?_ | (refine now_N1 (by simp; omega) ?_) | refine k_call _ (t_sanity) ?_ | refine now_T ?_ | refine aE1 ?_ | refine aE0 ?_ | refine aN1 ?_ | refine aN0 ?_ | refine aD1 ?_ | refine aD0 ?_ | refine now_E (fun hq => ?_) (fun hq => ?_) | refine now_N (fun hq => ?_) (fun hq => ?_) | refine now_D (fun hq => ?_) (fun hq => ?_) | refine rb1 ?_ | refine rb0 ?_ | refine rbx ?_ | refine rix ?_ | refine aS ?_ | fail)
  by_cases hz : a.length = 0
  case pos => repeat' ((conv => whnf); first | exact trivial | refine k_call _ (fA) ?_ | refine k_call _ (fB) ?_ | refine now_N0 (by simp [hll]) ?_ | (refine now_E1 (by simp only [List.length_map]; omega) ?_) | refine k_call _ (t_sanity) ?_ | refine now_T ?_ | refine aE1 ?_ | refine aE0 ?_ | refine aN1 ?_ | refine aN0 ?_ | refine aD1 ?_ | refine aD0 ?_ | refine now_E (fun hq => ?_) (fun hq => ?_) | refine now_N (fun hq => ?_) (fun hq => ?_) | refine now_D (fun hq => ?_) (fun hq => ?_) | refine rb1 ?_ | refine rb0 ?_ | refine rbx ?_ | refine rix ?_ | refine aS ?_ | fail)
  have hN : ((a.map rc).length : Int) = ((b.map rc).length : Int) := by simp [hll]
  have hE : ((a.map rc).length : Int) ≠ 0 := by simp only [List.length_map]; omega
  have ha2 : a.length - 1 < a.length := by omega
  have hb2 : b.length - 1 < b.length := by omega
  have hxa : a[a.length - 1]? = some a[a.length - 1] := List.getElem?_eq_getElem ha2
  have hxb : b[b.length - 1]? = some b[b.length - 1] := List.getElem?_eq_getElem hb2
  have ga : ∀ r, a.getLast? = some r → r = a[a.length - 1] := fun r h => by rw [List.getLast?_eq_getElem?, hxa] at h; exact (Option.some.inj h).symm
  have gb : ∀ r, b.getLast? = some r → r = b[b.length - 1] := fun r h => by rw [List.getLast?_eq_getElem?, hxb] at h; exact (Option.some.inj h).symm
  have ha1 := ha a[a.length - 1] (List.getElem_mem ha2)
  have hb1 := hb b[b.length - 1] (List.getElem_mem hb2)
  generalize a[a.length - 1] = x at ha1 hxa ga
  generalize b[b.length - 1] = y at hb1 hxb gb
  obtain ⟨n, i, ls, rp⟩ := x
  obtain ⟨n', i', ls', rp'⟩ := y
  have hlen : (rcC n i ls rp).length = 19 := rc_len ha1
  have hlen' : (rcC n' i' ls' rp').length = 19 := rc_len hb1
  have hS := t_refSame n i ls rp n' i' ls' rp' ha1.1.l8 hb1.1.l8 (by have := ha1.2; dsimp only at this; omega) ha1.1.hp hb1.1.hp
  have hf : sameB n i ls rp n' i' ls' rp' = samL ⟨n, i, ls, rp⟩ ⟨n', i', ls', rp'⟩ := rfl
  rw [hf] at hS
  have wA : (IntKind.i64.wrap (((a.map rc).length : Int) - 1)).toNat = a.length - 1 := by simp only [List.length_map]; rw [wrap_id (by omega) (by omega)]; omega
  have wB : (IntKind.i64.wrap (((b.map rc).length : Int) - 1)).toNat = b.length - 1 := by simp only [List.length_map]; rw [wrap_id (by omega) (by omega)]; omega
  cases hs : samL ⟨n, i, ls, rp⟩ ⟨n', i', ls', rp'⟩
  case false =>
    rw [hs] at hS
    repeat' ((conv => whnf); first | exact trivial | refine k_call _ (fA) ?_ | refine k_call _ (fB) ?_ | refine now_N0 hN ?_ | refine now_E0 hE ?_ | (refine now_v (rcT n i ls rp) (by first | (exact eltRc (r := ⟨n, i, ls, rp⟩) (by rw [wA]; exact hxa); done) | fail) ?_) | (refine now_v (rcT n' i' ls' rp') (by first | (exact eltRc (r := ⟨n', i', ls', rp'⟩) (by rw [wB]; exact hxb); done) | fail) ?_) | refine k_call _ (hS) ?_ | refine k_call _ (t_sanity) ?_ | refine now_T ?_ | refine aE1 ?_ | refine aE0 ?_ | refine aN1 ?_ | refine aN0 ?_ | refine aD1 ?_ | refine aD0 ?_ | refine now_E (fun hq => ?_) (fun hq => ?_) | refine now_N (fun hq => ?_) (fun hq => ?_) | refine now_D (fun hq => ?_) (fun hq => ?_) | refine rb1 ?_ | refine rb0 ?_ | refine rbx ?_ | refine rix ?_ | (refine And.intro (by first | ((simp only [List.length_map]; rw [wrap_id (by omega) (by omega)]; omega); done) | (exact hlen; done) | (exact hlen'; done) | fail) ?_) | refine aS ?_ | fail)
  rw [hs] at hS
  have hlast : (⟨n, i, ls, rp⟩ : Rc) = ⟨n', i', ls', rp'⟩ := samL_iff.1 hs
  have vA := t_Verify node a la ha
  have vB := t_Verify node b lb hb
  have cA := @ver_chained node a 0 zero16
  have cB := @ver_chained node b 0 zero16
  generalize ver node 0 zero16 a = va at vA cA
  generalize ver node 0 zero16 b = vb at vB cB
  obtain ⟨p, e⟩ := va
  obtain ⟨p', e'⟩ := vb
  dsimp only at cA cB
  by_cases e0 : e = 0
  case neg => repeat' ((conv => whnf); first | exact trivial | refine k_call _ (fA) ?_ | refine k_call _ (fB) ?_ | refine now_N0 hN ?_ | refine now_E0 hE ?_ | (refine now_v (rcT n i ls rp) (by first | (exact eltRc (r := ⟨n, i, ls, rp⟩) (by rw [wA]; exact hxa); done) | fail) ?_) | (refine now_v (rcT n' i' ls' rp') (by first | (exact eltRc (r := ⟨n', i', ls', rp'⟩) (by rw [wB]; exact hxb); done) | fail) ?_) | refine k_call _ (hS) ?_ | refine k_call _ (vA) ?_ | refine k_call _ (vB) ?_ | refine now_N1 e0 ?_ | refine k_call _ (t_sanity) ?_ | refine now_T ?_ | refine aE1 ?_ | refine aE0 ?_ | refine aN1 ?_ | refine aN0 ?_ | refine aD1 ?_ | refine aD0 ?_ | refine now_E (fun hq => ?_) (fun hq => ?_) | refine now_N (fun hq => ?_) (fun hq => ?_) | refine now_D (fun hq => ?_) (fun hq => ?_) | refine rb1 ?_ | refine rb0 ?_ | refine rbx ?_ | refine rix ?_ | (refine And.intro (by first | ((simp only [List.length_map]; rw [wrap_id (by omega) (by omega)]; omega); done) | (exact hlen; done) | (exact hlen'; done) | fail) ?_) | refine aS ?_ | fail)
  by_cases e1 : e' = 0
  case neg => repeat' ((conv => whnf); first | exact trivial | refine k_call _ (fA) ?_ | refine k_call _ (fB) ?_ | refine now_N0 hN ?_ | refine now_E0 hE ?_ | (refine now_v (rcT n i ls rp) (by first | (exact eltRc (r := ⟨n, i, ls, rp⟩) (by rw [wA]; exact hxa); done) | fail) ?_) | (refine now_v (rcT n' i' ls' rp') (by first | (exact eltRc (r := ⟨n', i', ls', rp'⟩) (by rw [wB]; exact hxb); done) | fail) ?_) | refine k_call _ (hS) ?_ | refine k_call _ (vA) ?_ | refine k_call _ (vB) ?_ | refine now_N0 e0 ?_ | refine now_N1 e1 ?_ | refine k_call _ (t_sanity) ?_ | refine now_T ?_ | refine aE1 ?_ | refine aE0 ?_ | refine aN1 ?_ | refine aN0 ?_ | refine aD1 ?_ | refine aD0 ?_ | refine now_E (fun hq => ?_) (fun hq => ?_) | refine now_N (fun hq => ?_) (fun hq => ?_) | refine now_D (fun hq => ?_) (fun hq => ?_) | refine rb1 ?_ | refine rb0 ?_ | refine rbx ?_ | refine rix ?_ | (refine And.intro (by first | ((simp only [List.length_map]; rw [wrap_id (by omega) (by omega)]; omega); done) | (exact hlen; done) | (exact hlen'; done) | fail) ?_) | refine aS ?_ | fail)
  by_cases q0 : p = ((a.map rc).length : Int)
  case neg => repeat' ((conv => whnf); first | exact trivial | refine k_call _ (fA) ?_ | refine k_call _ (fB) ?_ | refine now_N0 hN ?_ | refine now_E0 hE ?_ | (refine now_v (rcT n i ls rp) (by first | (exact eltRc (r := ⟨n, i, ls, rp⟩) (by rw [wA]; exact hxa); done) | fail) ?_) | (refine now_v (rcT n' i' ls' rp') (by first | (exact eltRc (r := ⟨n', i', ls', rp'⟩) (by rw [wB]; exact hxb); done) | fail) ?_) | refine k_call _ (hS) ?_ | refine k_call _ (vA) ?_ | refine k_call _ (vB) ?_ | refine now_N0 e0 ?_ | refine now_N0 e1 ?_ | refine now_N1 q0 ?_ | refine k_call _ (t_sanity) ?_ | refine now_T ?_ | refine aE1 ?_ | refine aE0 ?_ | refine aN1 ?_ | refine aN0 ?_ | refine aD1 ?_ | refine aD0 ?_ | refine now_E (fun hq => ?_) (fun hq => ?_) | refine now_N (fun hq => ?_) (fun hq => ?_) | refine now_D (fun hq => ?_) (fun hq => ?_) | refine rb1 ?_ | refine rb0 ?_ | refine rbx ?_ | refine rix ?_ | (refine And.intro (by first | ((simp only [List.length_map]; rw [wrap_id (by omega) (by omega)]; omega); done) | (exact hlen; done) | (exact hlen'; done) | fail) ?_) | refine aS ?_ | fail)
  by_cases q1 : p' = ((b.map rc).length : Int)
  case neg => repeat' ((conv => whnf); first | exact trivial | refine k_call _ (fA) ?_ | refine k_call _ (fB) ?_ | refine now_N0 hN ?_ | refine now_E0 hE ?_ | (refine now_v (rcT n i ls rp) (by first | (exact eltRc (r := ⟨n, i, ls, rp⟩) (by rw [wA]; exact hxa); done) | fail) ?_) | (refine now_v (rcT n' i' ls' rp') (by first | (exact eltRc (r := ⟨n', i', ls', rp'⟩) (by rw [wB]; exact hxb); done) | fail) ?_) | refine k_call _ (hS) ?_ | refine k_call _ (vA) ?_ | refine k_call _ (vB) ?_ | refine now_N0 e0 ?_ | refine now_N0 e1 ?_ | refine now_N0 q0 ?_ | refine now_N1 q1 ?_ | refine k_call _ (t_sanity) ?_ | refine now_T ?_ | refine aE1 ?_ | refine aE0 ?_ | refine aN1 ?_ | refine aN0 ?_ | refine aD1 ?_ | refine aD0 ?_ | refine now_E (fun hq => ?_) (fun hq => ?_) | refine now_N (fun hq => ?_) (fun hq => ?_) | refine now_D (fun hq => ?_) (fun hq => ?_) | refine rb1 ?_ | refine rb0 ?_ | refine rbx ?_ | refine rix ?_ | (refine And.intro (by first | ((simp only [List.length_map]; rw [wrap_id (by omega) (by omega)]; omega); done) | (exact hlen; done) | (exact hlen'; done) | fail) ?_) | refine aS ?_ | fail)
  have cA := cA e0
  have cB := cB e1
  repeat' ((conv => whnf); first | exact trivial | refine k_call _ (fA) ?_ | refine k_call _ (fB) ?_ | refine now_N0 hN ?_ | refine now_E0 hE ?_ | (refine now_v (rcT n i ls rp) (by first | (exact eltRc (r := ⟨n, i, ls, rp⟩) (by rw [wA]; exact hxa); done) | fail) ?_) | (refine now_v (rcT n' i' ls' rp') (by first | (exact eltRc (r := ⟨n', i', ls', rp'⟩) (by rw [wB]; exact hxb); done) | fail) ?_) | refine k_call _ (hS) ?_ | refine k_call _ (vA) ?_ | refine k_call _ (vB) ?_ | refine now_N0 e0 ?_ | refine now_N0 e1 ?_ | refine now_N0 q0 ?_ | refine now_N0 q1 ?_ | refine now_T ?_ | refine aE1 ?_ | refine aE0 ?_ | refine aN1 ?_ | refine aN0 ?_ | refine aD1 ?_ | refine aD0 ?_ | refine now_E (fun hq => ?_) (fun hq => ?_) | refine now_N (fun hq => ?_) (fun hq => ?_) | refine now_D (fun hq => ?_) (fun hq => ?_) | refine rb1 ?_ | refine rb0 ?_ | refine rbx ?_ | refine rix ?_ | (refine And.intro (by first | ((simp only [List.length_map]; rw [wrap_id (by omega) (by omega)]; omega); done) | (exact hlen; done) | (exact hlen'; done) | fail) ?_) | refine aS ?_ | fail)
  refine wpC_loopE 0 (α := Nat) (β := Unit) (fun k => {sl := [(1, .t (rcs a)), (2, .t (rcs b)), (81, .t (I a.length)), (82, .t (I k))], bx := []})
    (fun k => k ≤ a.length ∧ ∀ (j : Nat) r s, j < k → a[j]? = some r → b[j]? = some s → r = s ∨ r.dg ≠ s.dg) (fun k => a.length - k) (fun _ => {sl := [(1, .t (rcs a)), (2, .t (rcs b))], bx := []}) (fun _ => a = b) 0 ⟨by omega, fun j r s h => absurd h (by omega)⟩ ?_ ?_ ?_
  · repeat' (first | ((refine leI ?_; simp; done)) | exact trivial | exact LeV.same _ | exact LeB.same _ | exact rfl | exact fun _ _ _ => trivial | exact lI | exact LeV.nil _ _ _ | exact lB | refine leBd ?_ | refine leOwn ?_ | refine And.intro ?_ ?_)
  · rintro k ⟨hk, ho⟩
    rcases Nat.lt_or_ge k a.length with h2 | h2
    · have h3 : k < b.length := by omega
      have ha1 := ha a[k] (List.getElem_mem h2)
      have hb1 := hb b[k] (List.getElem_mem h3)
      have hxa : a[k]? = some a[k] := List.getElem?_eq_getElem h2
      have hxb : b[k]? = some b[k] := List.getElem?_eq_getElem h3
      generalize a[k] = x at ha1 hxa
      generalize b[k] = y at hb1 hxb
      obtain ⟨n, i, ls, rp⟩ := x
      obtain ⟨n', i', ls', rp'⟩ := y
      have hlen : (rcC n i ls rp).length = 19 := rc_len ha1
      have hlen' : (rcC n' i' ls' rp').length = 19 := rc_len hb1
      have hS := t_Same n i ls rp n' i' ls' rp' ha1.1.l8 hb1.1.l8 (by have := ha1.2; dsimp only at this; omega) ha1.1.hp hb1.1.hp
      have hf : sameB n i ls rp n' i' ls' rp' = samL ⟨n, i, ls, rp⟩ ⟨n', i', ls', rp'⟩ := rfl
      rw [hf] at hS
      have step : ((⟨n, i, ls, rp⟩ : Rc) = ⟨n', i', ls', rp'⟩ ∨ dgR n i ls rp ≠ dgR n' i' ls' rp') → ∀ (j : Nat) r s, j < k + 1 → a[j]? = some r → b[j]? = some s → r = s ∨ r.dg ≠ s.dg := fun h j r s hj h4 h5 => by
        rcases Nat.lt_or_ge j k with h6 | h6
        · exact ho j r s h6 h4 h5
        · have : j = k := by omega
          subst this
          rw [hxa] at h4
          rw [hxb] at h5
          cases h4
          cases h5
          exact h
      cases hs : samL ⟨n, i, ls, rp⟩ ⟨n', i', ls', rp'⟩ with
      | true =>
        rw [hs] at hS
        repeat' ((conv => whnf); first | exact trivial | (refine now_v (rcT n i ls rp) (by first | (exact eltRc (r := ⟨n, i, ls, rp⟩) (by simp only [Int.toNat_natCast]; exact hxa); done) | fail) ?_) | (refine now_v (rcT n' i' ls' rp') (by first | (exact eltRc (r := ⟨n', i', ls', rp'⟩) (by simp only [Int.toNat_natCast]; exact hxb); done) | fail) ?_) | refine k_call _ (hS) ?_ | refine now_T ?_ | refine aE1 ?_ | refine aE0 ?_ | refine aN1 ?_ | refine aN0 ?_ | refine aD1 ?_ | refine aD0 ?_ | refine now_E (fun hq => ?_) (fun hq => ?_) | refine now_N (fun hq => ?_) (fun hq => ?_) | refine now_D (fun hq => ?_) (fun hq => ?_) | refine rb1 ?_ | refine rb0 ?_ | refine rbx ?_ | refine rix ?_ | (refine And.intro (by first | ((simp; omega); done) | (exact hlen; done) | (exact hlen'; done) | fail) ?_) | refine aS ?_ | fail)
        exact ⟨k + 1, ⟨by omega, step (.inl (samL_iff.1 hs))⟩, by omega, by repeat' (first | exact trivial | exact LeV.same _ | exact LeB.same _ | exact rfl | exact fun _ _ _ => trivial | exact lI | exact LeV.nil _ _ _ | exact lB | refine leBd ?_ | refine leOwn ?_ | refine And.intro ?_ ?_)⟩
      | false =>
        rw [hs] at hS
        have dA := t_Digest n i ls rp ha1.1 ha1.2
        have dB := t_Digest n' i' ls' rp' hb1.1 hb1.2
        have lA := dgR_len n i ls rp
        have lB := dgR_len n' i' ls' rp'
        cases hd : decide (dgR n i ls rp = dgR n' i' ls' rp') with
        | true =>
          generalize dgR n i ls rp = d at *
          generalize dgR n' i' ls' rp' = d' at *
          repeat' ((conv => whnf); first | exact trivial | (refine now_v (rcT n i ls rp) (by first | (exact eltRc (r := ⟨n, i, ls, rp⟩) (by simp only [Int.toNat_natCast]; exact hxa); done) | fail) ?_) | (refine now_v (rcT n' i' ls' rp') (by first | (exact eltRc (r := ⟨n', i', ls', rp'⟩) (by simp only [Int.toNat_natCast]; exact hxb); done) | fail) ?_) | refine k_call _ (hS) ?_ | refine k_call _ (dA) ?_ | refine k_call _ (dB) ?_ | refine now_b true (eqY hd) ?_ | refine k_call _ (t_sanity) ?_ | refine now_T ?_ | refine aE1 ?_ | refine aE0 ?_ | refine aN1 ?_ | refine aN0 ?_ | refine aD1 ?_ | refine aD0 ?_ | refine now_E (fun hq => ?_) (fun hq => ?_) | refine now_N (fun hq => ?_) (fun hq => ?_) | refine now_D (fun hq => ?_) (fun hq => ?_) | refine rb1 ?_ | refine rb0 ?_ | refine rbx ?_ | refine rix ?_ | (refine And.intro (by first | ((simp; omega); done) | (exact hlen; done) | (exact hlen'; done) | (exact ⟨fits16 lA, fits16 lB⟩; done) | fail) ?_) | refine aS ?_ | fail)
        | false =>
          have hne := of_decide_eq_false hd
          have step := step (.inr hne)
          generalize dgR n i ls rp = d at dA lA hd
          generalize dgR n' i' ls' rp' = d' at dB lB hd
          repeat' ((conv => whnf); first | exact trivial | (refine now_v (rcT n i ls rp) (by first | (exact eltRc (r := ⟨n, i, ls, rp⟩) (by simp only [Int.toNat_natCast]; exact hxa); done) | fail) ?_) | (refine now_v (rcT n' i' ls' rp') (by first | (exact eltRc (r := ⟨n', i', ls', rp'⟩) (by simp only [Int.toNat_natCast]; exact hxb); done) | fail) ?_) | refine k_call _ (hS) ?_ | refine k_call _ (dA) ?_ | refine k_call _ (dB) ?_ | refine now_b false (eqY hd) ?_ | refine now_T ?_ | refine aE1 ?_ | refine aE0 ?_ | refine aN1 ?_ | refine aN0 ?_ | refine aD1 ?_ | refine aD0 ?_ | refine now_E (fun hq => ?_) (fun hq => ?_) | refine now_N (fun hq => ?_) (fun hq => ?_) | refine now_D (fun hq => ?_) (fun hq => ?_) | refine rb1 ?_ | refine rb0 ?_ | refine rbx ?_ | refine rix ?_ | (refine And.intro (by first | ((simp; omega); done) | (exact hlen; done) | (exact hlen'; done) | (exact ⟨fits16 lA, fits16 lB⟩; done) | fail) ?_) | refine aS ?_ | fail)
          exact ⟨k + 1, ⟨by omega, step⟩, by omega, by repeat' (first | exact trivial | exact LeV.same _ | exact LeB.same _ | exact rfl | exact fun _ _ _ => trivial | exact lI | exact LeV.nil _ _ _ | exact lB | refine leBd ?_ | refine leOwn ?_ | refine And.intro ?_ ?_)⟩
    · have : k = a.length := by omega
      subst this
      repeat' ((conv => whnf); first | exact trivial | refine now_T ?_ | refine aE1 ?_ | refine aE0 ?_ | refine aN1 ?_ | refine aN0 ?_ | refine aD1 ?_ | refine aD0 ?_ | refine now_E (fun hq => ?_) (fun hq => ?_) | refine now_N (fun hq => ?_) (fun hq => ?_) | refine now_D (fun hq => ?_) (fun hq => ?_) | refine rb1 ?_ | refine rb0 ?_ | refine rbx ?_ | refine rix ?_ | refine aS ?_ | fail)
      refine ⟨(), bind cA cB hll (fun r s h4 h5 => by rw [ga r h4, gb s h5, hlast]) fun j r s h4 h5 => ho j r s (List.getElem?_eq_some_iff.1 h4).1 h4 h5, by repeat' (first | exact trivial | exact LeV.same _ | exact LeB.same _ | exact rfl | exact fun _ _ _ => trivial | exact lI | exact LeV.nil _ _ _ | exact lB | refine leBd ?_ | refine leOwn ?_ | refine And.intro ?_ ?_)⟩
  rintro - hr
  subst hr
  have fS := t_SameAll a a la ha ha
  rw [samA_iff.2 rfl] at fS
  repeat' ((conv => whnf); first | exact trivial | refine k_call _ (t_sanity) ?_ | refine k_call _ (fS) ?_ | refine now_T ?_ | refine aE1 ?_ | refine aE0 ?_ | refine aN1 ?_ | refine aN0 ?_ | refine aD1 ?_ | refine aD0 ?_ | refine now_E (fun hq => ?_) (fun hq => ?_) | refine now_N (fun hq => ?_) (fun hq => ?_) | refine now_D (fun hq => ?_) (fun hq => ?_) | refine rb1 ?_ | refine rb0 ?_ | refine rbx ?_ | refine rix ?_ | refine aS ?_ | fail)
end Go.RC
end
