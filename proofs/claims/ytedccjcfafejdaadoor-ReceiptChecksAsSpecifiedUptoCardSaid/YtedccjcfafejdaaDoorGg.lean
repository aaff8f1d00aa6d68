/- Joined by program: parts of a data level over the model, of the program's functions over it, and of the statement's proof. -/
import Derived.Test.YtedccjcfafejdaaDoorGf
import Derived.Test.YtedccjcfafejdaaDoorGd
import Derived.Shelf.SlLaysF0
import Derived.Shelf.SlGeneric
import Derived.Test.YtedccjcfafejdaaDoorProg
import Derived.KernelRfl
section
namespace Go.RC
open Go Go.DL Go.Proofs
set_option maxRecDepth 100000
set_option maxHeartbeats 1000000
abbrev N3 := Int × Int × Int
abbrev linesT (ls : List (List Int)) : T := .slice 8 (ls.map ln)
abbrev rcC (n i : Int) (ls : List (List Int)) (pv : List Int) : List T := I n :: I i :: linesT ls :: pv.map Y
abbrev rcT (n i : Int) (ls : List (List Int)) (pv : List Int) : T := .agg (rcC n i ls pv)
theorem ex8 {x : List Int} (h : x.length = 8) : ∃ a b c d e f g i, x = [a, b, c, d, e, f, g, i] := by
  match x, h with
  | [a, b, c, d, e, f, g, i], _ => exact ⟨a, b, c, d, e, f, g, i, rfl⟩
theorem cells8 {ls : List (List Int)} (hx : ∀ x ∈ ls, x.length = 8) {j : Nat} (h : j < ls.length) : ((ls.map ln)[j]?.getD .nil).cells.length = 8 := by
  rw [List.getElem?_map, List.getElem?_eq_getElem h]
  exact (List.length_map _).trans (hx _ (List.getElem_mem h))
theorem aggLn {ls : List (List Int)} {j : Nat} {x : List Int} (h : ls[j]? = some x) : T.agg (((ls.map ln)[j]?.getD .nil).cells) = ln x := by
  rw [List.getElem?_map, h]; rfl
def nmOf (x : List Int) : N3 := (x.getD 0 0, x.getD 1 0, x.getD 2 0)
def okLn (x : List Int) : Bool := rightN (x.getD 0 0) (x.getD 1 0) (x.getD 2 0) && (decide (1 ≤ x.getD 3 0) && (decide (x.getD 3 0 ≤ 1073741824) && isSb (x.drop 4)))
def okAt (p : Option (List Int)) (x : List Int) : Bool := okLn x && (match p with | none => true | some q => decide (cmpN (nmOf q) (nmOf x) < 0))
def okFrom : Option (List Int) → List (List Int) → Bool
  | _, [] => true
  | p, x :: r => okAt p x && okFrom (some x) r
def prevAt (ls : List (List Int)) : Nat → Option (List Int)
  | 0 => none
  | k + 1 => ls[k]?
def chk (n i : Int) (ls : List (List Int)) : Int := if ls.length > 1000 then 2 else if n < 0 ∨ n ≥ 200 ∨ i < 0 ∨ i > 1048576 then 1 else if okFrom none ls then 0 else 1
theorem okFrom_drop {ls : List (List Int)} {k : Nat} (h : k < ls.length) : okFrom (prevAt ls k) (ls.drop k) = (okAt (prevAt ls k) ls[k] && okFrom (prevAt ls (k + 1)) (ls.drop (k + 1))) := by
  rw [List.drop_eq_getElem_cons h]
  show (okAt _ _ && okFrom (some ls[k]) _) = _
  show _ = (_ && okFrom ls[k]? _)
  rw [List.getElem?_eq_getElem h]
theorem odd_any (e f g i : Int) : ([e, f, g, i].any fun x => decide (x < 0) || decide (x > 4294967295)) = !isSb [e, f, g, i] := by
  have h : ∀ x : Int, (decide (x < 0) || decide (x > 4294967295)) = !(decide (0 ≤ x) && decide (x < M32)) := fun x => by
    unfold M32
    by_cases h1 : x < 0 <;> by_cases h2 : x > 4294967295 <;> simp [h1, h2] <;> omega
  simp only [isSb, List.any_cons, List.all_cons, h, Bool.not_and, List.any_nil, List.all_nil, Bool.or_false, Bool.and_true]
theorem okLn8 (a b c d e f g j : Int) : okLn [a, b, c, d, e, f, g, j] = (rightN a b c && (decide (1 ≤ d) && (decide (d ≤ 1073741824) && isSb [e, f, g, j]))) := rfl
theorem t_Check (n i : Int) (ls : List (List Int)) (pv : List Int) (hl : ls.length < 2 ^ 40) (hx : ∀ x ∈ ls, x.length = 8) (hp : pv.length = 16) : DCalls Tryd.prog 28 [rcT n i ls pv] (I (chk n i ls)) := by
  refine dcalls_low (rs := [.tmp 2]) mixed Tryd.func28 l28 rfl rfl rfl (r := [I _]) (Nat.le_of_ble_eq_true rfl) ?_
  have hlen : (rcC n i ls pv).length = 19 := by simp [hp]
  unfold chk
  by_cases h1 : ls.length > 1000
  · rw [if_pos h1]
    repeat' ((conv => whnf); first | exact trivial | (refine now_D1 (by simp; omega) ?_) | refine nT_ ?_ | refine aE1 ?_ | refine aE0 ?_ | refine aN1 ?_ | refine aN0 ?_ | refine aD1 ?_ | refine aD0 ?_ | refine nE_ (fun hq => ?_) (fun hq => ?_) | refine nN_ (fun hq => ?_) (fun hq => ?_) | refine nD_ (fun hq => ?_) (fun hq => ?_) | refine rb1 ?_ | refine rb0 ?_ | refine rbx ?_ | refine rix ?_ | (refine And.intro (by first | (exact hlen; done) | fail) ?_) | refine aS ?_ | fail)
  rw [if_neg h1]
  by_cases h2 : n < 0 ∨ n ≥ 200 ∨ i < 0 ∨ i > 1048576
  · rw [if_pos h2]
    repeat' ((conv => whnf); first | exact trivial | (refine now_D0 (by simp; omega) ?_) | refine nT_ ?_ | refine aE1 ?_ | refine aE0 ?_ | refine aN1 ?_ | refine aN0 ?_ | refine aD1 ?_ | refine aD0 ?_ | refine nE_ (fun hq => ?_) (fun hq => ?_) | refine nN_ (fun hq => ?_) (fun hq => ?_) | refine nD_ (fun hq => ?_) (fun hq => ?_) | refine rb1 ?_ | refine rb0 ?_ | refine rbx ?_ | refine rix ?_ | (refine And.intro (by first | (exact hlen; done) | fail) ?_) | refine aS ?_ | fail)
    all_goals omega
  rw [if_neg h2]
  repeat' ((conv => whnf); first | exact trivial | (refine now_D0 (by simp; omega) ?_) | refine nT_ ?_ | refine aE1 ?_ | refine aE0 ?_ | refine aN1 ?_ | refine aN0 ?_ | refine aD1 ?_ | refine aD0 ?_ | refine nE_ (fun hq => ?_) (fun hq => ?_) | refine nN_ (fun hq => ?_) (fun hq => ?_) | refine nD_ (fun hq => ?_) (fun hq => ?_) | refine rb1 ?_ | refine rb0 ?_ | refine rbx ?_ | refine rix ?_ | (refine And.intro (by first | (exact hlen; done) | fail) ?_) | refine aS ?_ | fail)
  refine wpC_loopE 0 (α := Nat) (β := Unit) (fun k => {sl := [(1, .ptr 1 0), (3, .t (.clos 48 [])), (29, .t (linesT ls)), (30, .t (I ls.length)), (31, .t (I k))], bx := [(1, .d 19 (rcC n i ls pv))]})
    (fun k => k ≤ ls.length ∧ okFrom (prevAt ls k) (ls.drop k) = okFrom none ls) (fun k => ls.length - k) (fun _ => {sl := [], bx := []}) (fun _ => okFrom none ls = true) 0 ⟨by omega, rfl⟩ ?_ ?_ ?_
  · repeat' (first | ((refine leI ?_; simp; done)) | exact trivial | exact LeV.same _ | exact LeB.same _ | exact rfl | exact fun _ _ _ => trivial | exact lI | exact LeV.nil _ _ _ | exact lB | refine leBd ?_ | refine leOwn ?_ | refine And.intro ?_ ?_)
  · rintro k ⟨hk, ho⟩
    rcases Nat.lt_or_ge k ls.length with h3 | h3
    · rw [okFrom_drop h3] at ho
      have hgo : okAt (prevAt ls k) ls[k] = true → okFrom (prevAt ls (k + 1)) (ls.drop (k + 1)) = okFrom none ls := fun h => by rw [h] at ho; exact ho
      have hno : okAt (prevAt ls k) ls[k] = false → (if okFrom none ls = true then (0 : Int) else 1) = 1 := fun h => by rw [← ho, h]; rfl
      obtain ⟨a, b, c, d, e, f, g, j, hxe⟩ := ex8 (hx ls[k] (List.getElem_mem h3))
      have hC := t_ContainsFunc 48 _ [e, f, g, j] (Nat.le_of_ble_eq_true rfl) (fun x _ => t_odd x)
      rw [odd_any] at hC
      have hR := t_right a b c
      have hO := t_of [a, b, c, d, e, f, g, j] rfl
      rw [hxe] at hgo hno
      have hno : okAt (prevAt ls k) [a, b, c, d, e, f, g, j] = false → (1 : Int) = if okFrom none ls = true then (0 : Int) else 1 := fun h => (hno h).symm
      have hp1 : ∀ h : 0 < k, ∃ p0 p1 p2 p3 p4 p5 p6 p7, ls[k - 1]? = some [p0, p1, p2, p3, p4, p5, p6, p7] ∧ prevAt ls k = some [p0, p1, p2, p3, p4, p5, p6, p7] := fun h => by
        obtain ⟨p0, p1, p2, p3, p4, p5, p6, p7, hp⟩ := ex8 (hx ls[k - 1] (List.getElem_mem (by omega)))
        refine ⟨p0, p1, p2, p3, p4, p5, p6, p7, by rw [← hp]; exact List.getElem?_eq_getElem _, ?_⟩
        obtain ⟨k, rfl⟩ : ∃ j, k = j + 1 := ⟨k - 1, by omega⟩
        rw [← hp]; exact List.getElem?_eq_getElem _
      have hO2 := fun p0 p1 p2 p3 p4 p5 p6 p7 => t_of [p0, p1, p2, p3, p4, p5, p6, p7] rfl
      cases h4 : rightN a b c with
      | false =>
        rw [h4] at hR
        have hf := hno (by unfold okAt; rw [okLn8, h4]; rfl)
        repeat' ((conv => whnf); first | exact trivial | (refine nv_ (ln [a, b, c, d, e, f, g, j]) (by first | ((simp [h3, hxe]); done) | fail) ?_) | refine k_call _ (hO) ?_ | refine k_call _ (hR) ?_ | refine nT_ ?_ | refine aE1 ?_ | refine aE0 ?_ | refine aN1 ?_ | refine aN0 ?_ | refine aD1 ?_ | refine aD0 ?_ | refine nE_ (fun hq => ?_) (fun hq => ?_) | refine nN_ (fun hq => ?_) (fun hq => ?_) | refine nD_ (fun hq => ?_) (fun hq => ?_) | refine rb1 ?_ | refine rb0 ?_ | refine rbx ?_ | refine rix ?_ | (refine And.intro (by first | ((simp; omega); done) | fail) ?_) | refine aS ?_ | (exact ri hf trivial) | fail)
      | true =>
        rw [h4] at hR
        by_cases h5 : 1 ≤ d
        · by_cases h6 : d ≤ 1073741824
          · cases h7 : isSb [e, f, g, j] with
            | false =>
              rw [h7] at hC
              have hf := hno (by unfold okAt; rw [okLn8, h7]; simp)
              repeat' ((conv => whnf); first | exact trivial | (refine nv_ (ln [a, b, c, d, e, f, g, j]) (by first | ((simp [h3, hxe]); done) | fail) ?_) | refine k_call _ (hO) ?_ | refine k_call _ (hR) ?_ | refine k_call _ (hC) ?_ | refine nT_ ?_ | refine aE1 ?_ | refine aE0 ?_ | refine aN1 ?_ | refine aN0 ?_ | refine aD1 ?_ | refine aD0 ?_ | refine nE_ (fun hq => ?_) (fun hq => ?_) | refine nN_ (fun hq => ?_) (fun hq => ?_) | refine nD_ (fun hq => ?_) (fun hq => ?_) | refine rb1 ?_ | refine rb0 ?_ | refine rbx ?_ | refine rix ?_ | (refine And.intro (by first | ((simp; omega); done) | fail) ?_) | refine aS ?_ | (exact ri hf trivial) | fail)
            | true =>
              rw [h7] at hC
              have hok : okLn [a, b, c, d, e, f, g, j] = true := by rw [okLn8, h4, h7]; simp [h5, h6]
              by_cases h8 : 0 < k
              · obtain ⟨p0, p1, p2, p3, p4, p5, p6, p7, hp2, hp3⟩ := hp1 h8
                rw [hp3] at hno hgo
                have hcm := t_compare (p0, p1, p2) (a, b, c)
                have e1 : okAt (some [p0, p1, p2, p3, p4, p5, p6, p7]) [a, b, c, d, e, f, g, j] = decide (cmpN (p0, p1, p2) (a, b, c) < 0) := by unfold okAt; rw [hok]; rfl
                rw [e1] at hno hgo
                have e2 : (IntKind.i64.wrap ((k : Int) - 1)).toNat = k - 1 := by simp (disch := omega) only [wrap_id, w32, w8, w64]; omega
                have e3 : IntKind.i64.wrap ((k : Int) - 1) = k - 1 := by simp (disch := omega) only [wrap_id, w32, w8, w64]
                by_cases h9 : cmpN (p0, p1, p2) (a, b, c) < 0
                · repeat' ((conv => whnf); first | exact trivial | (refine nv_ (ln [a, b, c, d, e, f, g, j]) (by first | ((simp [h3, hxe]; done); done) | fail) ?_) | (refine nv_ (ln [p0, p1, p2, p3, p4, p5, p6, p7]) (by first | ((rw [e2, List.getElem?_map, hp2]; rfl); done) | fail) ?_) | refine k_call _ (hO) ?_ | refine k_call _ (hR) ?_ | refine k_call _ (hC) ?_ | refine k_call _ (hO2 p0 p1 p2 p3 p4 p5 p6 p7) ?_ | refine k_call _ (hcm) ?_ | refine nT_ ?_ | refine aE1 ?_ | refine aE0 ?_ | refine aN1 ?_ | refine aN0 ?_ | refine aD1 ?_ | refine aD0 ?_ | refine nE_ (fun hq => ?_) (fun hq => ?_) | refine nN_ (fun hq => ?_) (fun hq => ?_) | refine nD_ (fun hq => ?_) (fun hq => ?_) | refine rb1 ?_ | refine rb0 ?_ | refine rbx ?_ | refine rix ?_ | (refine And.intro (by first | ((simp; omega); done) | ((rw [e3]; simp; omega); done) | fail) ?_) | refine aS ?_ | fail)
                  exact ⟨k + 1, ⟨by omega, hgo (by simp [h9])⟩, by omega, by repeat' (first | exact trivial | exact LeV.same _ | exact LeB.same _ | exact rfl | exact fun _ _ _ => trivial | exact lI | exact LeV.nil _ _ _ | exact lB | refine leBd ?_ | refine leOwn ?_ | refine And.intro ?_ ?_)⟩
                · have hf := hno (by simp [h9])
                  repeat' ((conv => whnf); first | exact trivial | (refine nv_ (ln [a, b, c, d, e, f, g, j]) (by first | ((simp [h3, hxe]; done); done) | fail) ?_) | (refine nv_ (ln [p0, p1, p2, p3, p4, p5, p6, p7]) (by first | ((rw [e2, List.getElem?_map, hp2]; rfl); done) | fail) ?_) | refine k_call _ (hO) ?_ | refine k_call _ (hR) ?_ | refine k_call _ (hC) ?_ | refine k_call _ (hO2 p0 p1 p2 p3 p4 p5 p6 p7) ?_ | refine k_call _ (hcm) ?_ | refine nT_ ?_ | refine aE1 ?_ | refine aE0 ?_ | refine aN1 ?_ | refine aN0 ?_ | refine aD1 ?_ | refine aD0 ?_ | refine nE_ (fun hq => ?_) (fun hq => ?_) | refine nN_ (fun hq => ?_) (fun hq => ?_) | refine nD_ (fun hq => ?_) (fun hq => ?_) | refine rb1 ?_ | refine rb0 ?_ | refine rbx ?_ | refine rix ?_ | (refine And.intro (by first | ((simp; omega); done) | ((rw [e3]; simp; omega); done) | fail) ?_) | refine aS ?_ | (exact ri hf trivial) | fail)
              · have : k = 0 := by omega
                subst this
                repeat' ((conv => whnf); first | exact trivial | (refine nv_ (ln [a, b, c, d, e, f, g, j]) (by first | ((simp [h3, hxe]; done); done) | fail) ?_) | refine k_call _ (hO) ?_ | refine k_call _ (hR) ?_ | refine k_call _ (hC) ?_ | refine nT_ ?_ | refine aE1 ?_ | refine aE0 ?_ | refine aN1 ?_ | refine aN0 ?_ | refine aD1 ?_ | refine aD0 ?_ | refine nE_ (fun hq => ?_) (fun hq => ?_) | refine nN_ (fun hq => ?_) (fun hq => ?_) | refine nD_ (fun hq => ?_) (fun hq => ?_) | refine rb1 ?_ | refine rb0 ?_ | refine rbx ?_ | refine rix ?_ | (refine And.intro (by first | ((simp; omega); done) | fail) ?_) | refine aS ?_ | fail)
                exact ⟨0 + 1, ⟨by omega, hgo (by unfold okAt; rw [hok]; rfl)⟩, by omega, by repeat' (first | exact trivial | exact LeV.same _ | exact LeB.same _ | exact rfl | exact fun _ _ _ => trivial | exact lI | exact LeV.nil _ _ _ | exact lB | refine leBd ?_ | refine leOwn ?_ | refine And.intro ?_ ?_)⟩
          · have hf := hno (by unfold okAt; rw [okLn8]; simp [h6])
            repeat' ((conv => whnf); first | exact trivial | (refine nv_ (ln [a, b, c, d, e, f, g, j]) (by first | ((simp [h3, hxe]); done) | fail) ?_) | refine k_call _ (hO) ?_ | refine k_call _ (hR) ?_ | refine nT_ ?_ | refine aE1 ?_ | refine aE0 ?_ | refine aN1 ?_ | refine aN0 ?_ | refine aD1 ?_ | refine aD0 ?_ | refine nE_ (fun hq => ?_) (fun hq => ?_) | refine nN_ (fun hq => ?_) (fun hq => ?_) | refine nD_ (fun hq => ?_) (fun hq => ?_) | refine rb1 ?_ | refine rb0 ?_ | refine rbx ?_ | refine rix ?_ | (refine And.intro (by first | ((simp; omega); done) | fail) ?_) | refine aS ?_ | (exact ri hf trivial) | fail)
        · have hf := hno (by unfold okAt; rw [okLn8]; simp [h5])
          repeat' ((conv => whnf); first | exact trivial | (refine nv_ (ln [a, b, c, d, e, f, g, j]) (by first | ((simp [h3, hxe]); done) | fail) ?_) | refine k_call _ (hO) ?_ | refine k_call _ (hR) ?_ | refine nT_ ?_ | refine aE1 ?_ | refine aE0 ?_ | refine aN1 ?_ | refine aN0 ?_ | refine aD1 ?_ | refine aD0 ?_ | refine nE_ (fun hq => ?_) (fun hq => ?_) | refine nN_ (fun hq => ?_) (fun hq => ?_) | refine nD_ (fun hq => ?_) (fun hq => ?_) | refine rb1 ?_ | refine rb0 ?_ | refine rbx ?_ | refine rix ?_ | (refine And.intro (by first | ((simp; omega); done) | fail) ?_) | refine aS ?_ | (exact ri hf trivial) | fail)
    · have : k = ls.length := by omega
      subst this
      rw [List.drop_length] at ho
      repeat' ((conv => whnf); first | exact trivial | refine nT_ ?_ | refine aE1 ?_ | refine aE0 ?_ | refine aN1 ?_ | refine aN0 ?_ | refine aD1 ?_ | refine aD0 ?_ | refine nE_ (fun hq => ?_) (fun hq => ?_) | refine nN_ (fun hq => ?_) (fun hq => ?_) | refine nD_ (fun hq => ?_) (fun hq => ?_) | refine rb1 ?_ | refine rb0 ?_ | refine rbx ?_ | refine rix ?_ | refine aS ?_ | fail)
      exact ⟨(), ho.symm, by repeat' (first | exact trivial | exact LeV.same _ | exact LeB.same _ | exact rfl | exact fun _ _ _ => trivial | exact lI | exact LeV.nil _ _ _ | exact lB | refine leBd ?_ | refine leOwn ?_ | refine And.intro ?_ ?_)⟩
  rintro - hr
  rw [hr]
  repeat' ((conv => whnf); first | exact trivial | refine nT_ ?_ | refine aE1 ?_ | refine aE0 ?_ | refine aN1 ?_ | refine aN0 ?_ | refine aD1 ?_ | refine aD0 ?_ | refine nE_ (fun hq => ?_) (fun hq => ?_) | refine nN_ (fun hq => ?_) (fun hq => ?_) | refine nD_ (fun hq => ?_) (fun hq => ?_) | refine rb1 ?_ | refine rb0 ?_ | refine rbx ?_ | refine rix ?_ | refine aS ?_ | fail)
end Go.RC
end
section
namespace Go.RC
open Go Go.DL Go.Proofs
set_option maxRecDepth 100000
set_option maxHeartbeats 1000000
theorem eqL_map {k : IntKind} : ∀ (a b : List Int), eqL (a.map (T.int k)) (b.map (T.int k)) = decide (a = b)
  | [], [] => rfl
  | [], _ :: _ => rfl
  | _ :: _, [] => rfl
  | x :: a, y :: b => by
    show (x == y && eqL (a.map (T.int k)) (b.map (T.int k))) = _
    rw [eqL_map a b]
    by_cases h : x = y <;> by_cases h2 : a = b <;> simp [h, h2]
theorem fits_map {k : IntKind} : ∀ (a : List Int), fits (List.replicate a.length (.int k)) (a.map (T.int k))
  | [] => trivial
  | x :: a => ⟨rfl, fits_map a⟩
theorem fits8 {a : List Int} (h : a.length = 8) : fits [.int .i64, .int .i64, .int .i64, .int .i64, .int .i64, .int .i64, .int .i64, .int .i64] (a.map I) := by
  have := fits_map (k := .i64) a
  rw [h] at this; exact this
theorem fits4 {a : List Int} (h : a.length = 4) : fits [.int .i64, .int .i64, .int .i64, .int .i64] (a.map I) := by
  have := fits_map (k := .i64) a
  rw [h] at this; exact this
theorem fits16 {a : List Int} (h : a.length = 16) : fits [.int .u8, .int .u8, .int .u8, .int .u8, .int .u8, .int .u8, .int .u8, .int .u8, .int .u8, .int .u8, .int .u8, .int .u8, .int .u8, .int .u8, .int .u8, .int .u8] (a.map Y) := by
  have := fits_map (k := .u8) a
  rw [h] at this; exact this
theorem eqI {a b : List Int} {c : Bool} (h : decide (a = b) = c) : eqL (a.map I) (b.map I) = c := (eqL_map a b).trans h
theorem eqY {a b : List Int} {c : Bool} (h : decide (a = b) = c) : eqL (a.map Y) (b.map Y) = c := (eqL_map a b).trans h
theorem neI {a b : List Int} {c : Bool} (h : decide (a = b) = c) : (!eqL (a.map I) (b.map I)) = !c := congrArg (!·) (eqI h)
theorem neY {a b : List Int} {c : Bool} (h : decide (a = b) = c) : (!eqL (a.map Y) (b.map Y)) = !c := congrArg (!·) (eqY h)
theorem aggPv {n i : Int} {ls : List (List Int)} {pv : List Int} (hp : pv.length = 16) : T.agg (((rcC n i ls pv).drop 3).take 16) = dg16 pv := by
  show T.agg ((pv.map Y).take 16) = _
  rw [List.take_of_length_le (by simp [hp])]
theorem take_eq {α : Type} {a b : List α} {i : Nat} {x : α} (h : a.take i = b.take i) (ha : a[i]? = some x) (hb : b[i]? = some x) : a.take (i + 1) = b.take (i + 1) := by
  rw [List.take_add_one, List.take_add_one, h, ha, hb]
theorem t_EqualLine (a b : List (List Int)) (ha : ∀ x ∈ a, x.length = 8) (hb : ∀ x ∈ b, x.length = 8) (hl : a.length < 2 ^ 60) : DCalls Tryd.prog 47 [linesT a, linesT b] (.bool (decide (a = b))) := by
  refine dcalls_low (rs := [.tmp 4]) mixed Tryd.func47 l47 rfl rfl rfl (r := [.bool _]) (Nat.le_of_ble_eq_true rfl) ?_
  by_cases hll : a.length = b.length
  case neg =>
    have hf : false = decide (a = b) := (decide_eq_false (fun e => hll (by rw [e]))).symm
    repeat' ((conv => whnf); first | exact trivial | (refine now_N1 (by simp; omega) ?_) | refine nT_ ?_ | refine aE1 ?_ | refine aE0 ?_ | refine aN1 ?_ | refine aN0 ?_ | refine aD1 ?_ | refine aD0 ?_ | refine nE_ (fun hq => ?_) (fun hq => ?_) | refine nN_ (fun hq => ?_) (fun hq => ?_) | refine nD_ (fun hq => ?_) (fun hq => ?_) | refine rb1 ?_ | refine rb0 ?_ | refine rbx ?_ | refine rix ?_ | refine aS ?_ | (exact rb hf trivial) | fail)
  repeat' ((conv => whnf); first | exact trivial | refine now_N0 (by simp [hll]) ?_ | refine nT_ ?_ | refine aE1 ?_ | refine aE0 ?_ | refine aN1 ?_ | refine aN0 ?_ | refine aD1 ?_ | refine aD0 ?_ | refine nE_ (fun hq => ?_) (fun hq => ?_) | refine nN_ (fun hq => ?_) (fun hq => ?_) | refine nD_ (fun hq => ?_) (fun hq => ?_) | refine rb1 ?_ | refine rb0 ?_ | refine rbx ?_ | refine rix ?_ | refine aS ?_ | fail)
  refine wpC_loopE 0 (α := Nat) (β := Unit) (fun i => {sl := [(0, .t (linesT a)), (1, .t (linesT b)), (12, .t (I a.length)), (13, .t (I i))], bx := []})
    (fun i => i ≤ a.length ∧ a.take i = b.take i) (fun i => a.length - i) (fun _ => {sl := [], bx := []}) (fun _ => a = b) 0 ⟨by omega, rfl⟩ ?_ ?_ ?_
  · repeat' (first | ((refine leI ?_; simp; done)) | exact trivial | exact LeV.same _ | exact LeB.same _ | exact rfl | exact fun _ _ _ => trivial | exact lI | exact LeV.nil _ _ _ | exact lB | refine leBd ?_ | refine leOwn ?_ | refine And.intro ?_ ?_)
  · rintro i ⟨hi, ho⟩
    rcases Nat.lt_or_ge i a.length with h2 | h2
    · have h3 : i < b.length := by omega
      have hx8 := ha a[i] (List.getElem_mem h2)
      have hy8 := hb b[i] (List.getElem_mem h3)
      have hxa : a[i]? = some a[i] := List.getElem?_eq_getElem h2
      have hyb : b[i]? = some b[i] := List.getElem?_eq_getElem h3
      generalize a[i] = x at hx8 hxa
      generalize b[i] = y at hy8 hyb
      cases hxy : decide (x = y) with
      | true =>
        have := of_decide_eq_true hxy
        subst this
        repeat' ((conv => whnf); first | exact trivial | (refine nv_ (ln x) (by first | (exact aggLn (by simp only [Int.toNat_natCast]; first | exact hxa | exact hyb); done) | fail) ?_) | refine nb_ (!true) (neI hxy) ?_ | refine nT_ ?_ | refine aE1 ?_ | refine aE0 ?_ | refine aN1 ?_ | refine aN0 ?_ | refine aD1 ?_ | refine aD0 ?_ | refine nE_ (fun hq => ?_) (fun hq => ?_) | refine nN_ (fun hq => ?_) (fun hq => ?_) | refine nD_ (fun hq => ?_) (fun hq => ?_) | refine rb1 ?_ | refine rb0 ?_ | refine rbx ?_ | refine rix ?_ | (refine And.intro (by first | ((simp; omega); done) | (exact cells8 ha (by simp only [Int.toNat_natCast]; omega); done) | (exact cells8 hb (by simp only [Int.toNat_natCast]; omega); done) | (exact ⟨fits8 hx8, fits8 hx8⟩; done) | fail) ?_) | refine aS ?_ | fail)
        exact ⟨i + 1, ⟨by omega, take_eq ho hxa hyb⟩, by omega, by repeat' (first | exact trivial | exact LeV.same _ | exact LeB.same _ | exact rfl | exact fun _ _ _ => trivial | exact lI | exact LeV.nil _ _ _ | exact lB | refine leBd ?_ | refine leOwn ?_ | refine And.intro ?_ ?_)⟩
      | false =>
        have hf : false = decide (a = b) := (decide_eq_false (fun e => by subst e; rw [hxa] at hyb; exact of_decide_eq_false hxy (Option.some.inj hyb))).symm
        repeat' ((conv => whnf); first | exact trivial | (refine nv_ (ln x) (by first | (exact aggLn (by simp only [Int.toNat_natCast]; exact hxa); done) | fail) ?_) | (refine nv_ (ln y) (by first | (exact aggLn (by simp only [Int.toNat_natCast]; exact hyb); done) | fail) ?_) | refine nb_ (!false) (neI hxy) ?_ | refine nT_ ?_ | refine aE1 ?_ | refine aE0 ?_ | refine aN1 ?_ | refine aN0 ?_ | refine aD1 ?_ | refine aD0 ?_ | refine nE_ (fun hq => ?_) (fun hq => ?_) | refine nN_ (fun hq => ?_) (fun hq => ?_) | refine nD_ (fun hq => ?_) (fun hq => ?_) | refine rb1 ?_ | refine rb0 ?_ | refine rbx ?_ | refine rix ?_ | (refine And.intro (by first | ((simp; omega); done) | (exact cells8 ha (by simp only [Int.toNat_natCast]; omega); done) | (exact cells8 hb (by simp only [Int.toNat_natCast]; omega); done) | (exact ⟨fits8 hx8, fits8 hy8⟩; done) | fail) ?_) | refine aS ?_ | (exact rb hf trivial) | fail)
    · have : i = a.length := by omega
      subst this
      rw [List.take_length, hll, List.take_length] at ho
      repeat' ((conv => whnf); first | exact trivial | refine nT_ ?_ | refine aE1 ?_ | refine aE0 ?_ | refine aN1 ?_ | refine aN0 ?_ | refine aD1 ?_ | refine aD0 ?_ | refine nE_ (fun hq => ?_) (fun hq => ?_) | refine nN_ (fun hq => ?_) (fun hq => ?_) | refine nD_ (fun hq => ?_) (fun hq => ?_) | refine rb1 ?_ | refine rb0 ?_ | refine rbx ?_ | refine rix ?_ | refine aS ?_ | fail)
      exact ⟨(), ho, by repeat' (first | exact trivial | exact LeV.same _ | exact LeB.same _ | exact rfl | exact fun _ _ _ => trivial | exact lI | exact LeV.nil _ _ _ | exact lB | refine leBd ?_ | refine leOwn ?_ | refine And.intro ?_ ?_)⟩
  rintro - hr
  repeat' ((conv => whnf); first | exact trivial | refine nT_ ?_ | refine aE1 ?_ | refine aE0 ?_ | refine aN1 ?_ | refine aN0 ?_ | refine aD1 ?_ | refine aD0 ?_ | refine nE_ (fun hq => ?_) (fun hq => ?_) | refine nN_ (fun hq => ?_) (fun hq => ?_) | refine nD_ (fun hq => ?_) (fun hq => ?_) | refine rb1 ?_ | refine rb0 ?_ | refine rbx ?_ | refine rix ?_ | refine aS ?_ | (exact rb (decide_eq_true hr).symm trivial) | fail)
def sameB (n i : Int) (ls : List (List Int)) (pv : List Int) (n' i' : Int) (ls' : List (List Int)) (pv' : List Int) : Bool := n == n' && (i == i' && (decide (pv = pv') && decide (ls = ls')))
theorem t_Same (n i : Int) (ls : List (List Int)) (pv : List Int) (n' i' : Int) (ls' : List (List Int)) (pv' : List Int) (hx : ∀ x ∈ ls, x.length = 8) (hx' : ∀ x ∈ ls', x.length = 8) (hl : ls.length < 2 ^ 60) (hp : pv.length = 16) (hp' : pv'.length = 16) :
    DCalls Tryd.prog 23 [rcT n i ls pv, rcT n' i' ls' pv'] (.bool (sameB n i ls pv n' i' ls' pv')) := by
  have hE := t_EqualLine ls ls' hx hx' hl
  have hlen : (rcC n i ls pv).length = 19 := by simp [hp]
  have hlen' : (rcC n' i' ls' pv').length = 19 := by simp [hp']
  refine dcalls_low (rs := [.tmp 4]) mixed Tryd.func23 l23 rfl rfl rfl (r := [.bool _]) (Nat.le_of_ble_eq_true rfl) ?_
  unfold sameB
  cases hpp : decide (pv = pv') with
  | false => repeat' ((conv => whnf); first | exact trivial | (refine nv_ (dg16 pv) (by first | (exact aggPv hp; done) | fail) ?_) | (refine nv_ (dg16 pv') (by first | (exact aggPv hp'; done) | fail) ?_) | refine nb_ false (eqY hpp) ?_ | refine k_call _ (hE) ?_ | refine nT_ ?_ | refine aE1 ?_ | refine aE0 ?_ | refine aN1 ?_ | refine aN0 ?_ | refine aD1 ?_ | refine aD0 ?_ | refine nE_ (fun hq => ?_) (fun hq => ?_) | refine nN_ (fun hq => ?_) (fun hq => ?_) | refine nD_ (fun hq => ?_) (fun hq => ?_) | refine rb1 ?_ | refine rb0 ?_ | refine rbx ?_ | refine rix ?_ | (refine And.intro (by first | (exact hlen; done) | (exact hlen'; done) | (exact ⟨fits16 hp, fits16 hp'⟩; done) | fail) ?_) | refine aS ?_ | fail)
  | true => repeat' ((conv => whnf); first | exact trivial | (refine nv_ (dg16 pv) (by first | (exact aggPv hp; done) | fail) ?_) | (refine nv_ (dg16 pv') (by first | (exact aggPv hp'; done) | fail) ?_) | refine nb_ true (eqY hpp) ?_ | refine k_call _ (hE) ?_ | refine nT_ ?_ | refine aE1 ?_ | refine aE0 ?_ | refine aN1 ?_ | refine aN0 ?_ | refine aD1 ?_ | refine aD0 ?_ | refine nE_ (fun hq => ?_) (fun hq => ?_) | refine nN_ (fun hq => ?_) (fun hq => ?_) | refine nD_ (fun hq => ?_) (fun hq => ?_) | refine rb1 ?_ | refine rb0 ?_ | refine rbx ?_ | refine rix ?_ | (refine And.intro (by first | (exact hlen; done) | (exact hlen'; done) | (exact ⟨fits16 hp, fits16 hp'⟩; done) | fail) ?_) | refine aS ?_ | fail)
theorem t_refSame (n i : Int) (ls : List (List Int)) (pv : List Int) (n' i' : Int) (ls' : List (List Int)) (pv' : List Int) (hx : ∀ x ∈ ls, x.length = 8) (hx' : ∀ x ∈ ls', x.length = 8) (hl : ls.length < 2 ^ 60) (hp : pv.length = 16) (hp' : pv'.length = 16) :
    DCalls Tryd.prog 21 [rcT n i ls pv, rcT n' i' ls' pv'] (.bool (sameB n i ls pv n' i' ls' pv')) := by
  have hlen : (rcC n i ls pv).length = 19 := by simp [hp]
  have hlen' : (rcC n' i' ls' pv').length = 19 := by simp [hp']
  refine dcalls_low (rs := [.tmp 4]) mixed Tryd.func21 l21 rfl rfl rfl (r := [.bool _]) (Nat.le_of_ble_eq_true rfl) ?_
  unfold sameB
  by_cases hn : n = n'
  case neg =>
    repeat' ((conv => whnf); first | exact trivial | refine now_N1 hn ?_ | refine nT_ ?_ | refine aE1 ?_ | refine aE0 ?_ | refine aN1 ?_ | refine aN0 ?_ | refine aD1 ?_ | refine aD0 ?_ | refine nE_ (fun hq => ?_) (fun hq => ?_) | refine nN_ (fun hq => ?_) (fun hq => ?_) | refine nD_ (fun hq => ?_) (fun hq => ?_) | refine rb1 ?_ | refine rb0 ?_ | refine rbx ?_ | refine rix ?_ | (refine And.intro (by first | (exact hlen; done) | (exact hlen'; done) | fail) ?_) | refine aS ?_ | (exact rb (by simp [hn]) trivial) | fail)
  by_cases hi : i = i'
  case neg =>
    repeat' ((conv => whnf); first | exact trivial | refine now_N1 hi ?_ | refine now_N0 hn ?_ | refine nT_ ?_ | refine aE1 ?_ | refine aE0 ?_ | refine aN1 ?_ | refine aN0 ?_ | refine aD1 ?_ | refine aD0 ?_ | refine nE_ (fun hq => ?_) (fun hq => ?_) | refine nN_ (fun hq => ?_) (fun hq => ?_) | refine nD_ (fun hq => ?_) (fun hq => ?_) | refine rb1 ?_ | refine rb0 ?_ | refine rbx ?_ | refine rix ?_ | (refine And.intro (by first | (exact hlen; done) | (exact hlen'; done) | fail) ?_) | refine aS ?_ | (exact rb (by simp [hi]) trivial) | fail)
  subst hn
  subst hi
  cases hpp : decide (pv = pv') with
  | false => repeat' ((conv => whnf); first | exact trivial | (refine nv_ (dg16 pv) (by first | (exact aggPv hp; done) | fail) ?_) | (refine nv_ (dg16 pv') (by first | (exact aggPv hp'; done) | fail) ?_) | refine nb_ (!false) (neY hpp) ?_ | refine nT_ ?_ | refine aE1 ?_ | refine aE0 ?_ | refine aN1 ?_ | refine aN0 ?_ | refine aD1 ?_ | refine aD0 ?_ | refine nE_ (fun hq => ?_) (fun hq => ?_) | refine nN_ (fun hq => ?_) (fun hq => ?_) | refine nD_ (fun hq => ?_) (fun hq => ?_) | refine rb1 ?_ | refine rb0 ?_ | refine rbx ?_ | refine rix ?_ | (refine And.intro (by first | (exact hlen; done) | (exact hlen'; done) | (exact ⟨fits16 hp, fits16 hp'⟩; done) | fail) ?_) | refine aS ?_ | fail)
  | true =>
  by_cases hll : ls.length = ls'.length
  case neg =>
    repeat' ((conv => whnf); first | exact trivial | (refine nv_ (dg16 pv) (by first | (exact aggPv hp; done) | fail) ?_) | (refine nv_ (dg16 pv') (by first | (exact aggPv hp'; done) | fail) ?_) | refine nb_ (!true) (neY hpp) ?_ | (refine now_N1 (by simp; omega) ?_) | refine nT_ ?_ | refine aE1 ?_ | refine aE0 ?_ | refine aN1 ?_ | refine aN0 ?_ | refine aD1 ?_ | refine aD0 ?_ | refine nE_ (fun hq => ?_) (fun hq => ?_) | refine nN_ (fun hq => ?_) (fun hq => ?_) | refine nD_ (fun hq => ?_) (fun hq => ?_) | refine rb1 ?_ | refine rb0 ?_ | refine rbx ?_ | refine rix ?_ | (refine And.intro (by first | (exact hlen; done) | (exact hlen'; done) | (exact ⟨fits16 hp, fits16 hp'⟩; done) | fail) ?_) | refine aS ?_ | (exact rb (by simp; intro e; exact absurd (congrArg List.length e) hll) trivial) | fail)
  repeat' ((conv => whnf); first | exact trivial | (refine nv_ (dg16 pv) (by first | (exact aggPv hp; done) | fail) ?_) | (refine nv_ (dg16 pv') (by first | (exact aggPv hp'; done) | fail) ?_) | refine nb_ (!true) (neY hpp) ?_ | refine now_N0 (by simp [hll]) ?_ | refine nT_ ?_ | refine aE1 ?_ | refine aE0 ?_ | refine aN1 ?_ | refine aN0 ?_ | refine aD1 ?_ | refine aD0 ?_ | refine nE_ (fun hq => ?_) (fun hq => ?_) | refine nN_ (fun hq => ?_) (fun hq => ?_) | refine nD_ (fun hq => ?_) (fun hq => ?_) | refine rb1 ?_ | refine rb0 ?_ | refine rbx ?_ | refine rix ?_ | (refine And.intro (by first | (exact hlen; done) | (exact hlen'; done) | (exact ⟨fits16 hp, fits16 hp'⟩; done) | fail) ?_) | refine aS ?_ | fail)
  refine wpC_loopE 0 (α := Nat) (β := Unit) (fun k => {sl := [(2, .ptr 2 0), (3, .ptr 3 0), (5, .t (I k))], bx := [(2, .d 19 (rcC n i ls pv)), (3, .d 19 (rcC n i ls' pv'))]})
    (fun k => k ≤ ls.length ∧ ls.take k = ls'.take k) (fun k => ls.length - k) (fun _ => {sl := [], bx := []}) (fun _ => ls = ls') 0 ⟨by omega, rfl⟩ ?_ ?_ ?_
  · repeat' (first | exact trivial | exact LeV.same _ | exact LeB.same _ | exact rfl | exact fun _ _ _ => trivial | exact lI | exact LeV.nil _ _ _ | exact lB | refine leBd ?_ | refine leOwn ?_ | refine And.intro ?_ ?_)
  · rintro k ⟨hi, ho⟩
    rcases Nat.lt_or_ge k ls.length with h2 | h2
    · have h3 : k < ls'.length := by omega
      have hx8 := hx ls[k] (List.getElem_mem h2)
      have hy8 := hx' ls'[k] (List.getElem_mem h3)
      have hxa : ls[k]? = some ls[k] := List.getElem?_eq_getElem h2
      have hyb : ls'[k]? = some ls'[k] := List.getElem?_eq_getElem h3
      generalize ls[k] = x at hx8 hxa
      generalize ls'[k] = y at hy8 hyb
      cases hxy : decide (x = y) with
      | true =>
        have := of_decide_eq_true hxy
        subst this
        repeat' ((conv => whnf); first | exact trivial | (refine now_D1 (by simp; omega) ?_) | (refine nv_ (ln x) (by first | (exact aggLn (by simp only [Int.toNat_natCast]; first | exact hxa | exact hyb); done) | fail) ?_) | refine nb_ (!true) (neI hxy) ?_ | refine nT_ ?_ | refine aE1 ?_ | refine aE0 ?_ | refine aN1 ?_ | refine aN0 ?_ | refine aD1 ?_ | refine aD0 ?_ | refine nE_ (fun hq => ?_) (fun hq => ?_) | refine nN_ (fun hq => ?_) (fun hq => ?_) | refine nD_ (fun hq => ?_) (fun hq => ?_) | refine rb1 ?_ | refine rb0 ?_ | refine rbx ?_ | refine rix ?_ | (refine And.intro (by first | ((simp; omega); done) | (exact cells8 hx (by simp only [Int.toNat_natCast]; omega); done) | (exact cells8 hx' (by simp only [Int.toNat_natCast]; omega); done) | (exact ⟨fits8 hx8, fits8 hx8⟩; done) | fail) ?_) | refine aS ?_ | fail)
        exact ⟨k + 1, ⟨by omega, take_eq ho hxa hyb⟩, by omega, by repeat' (first | exact trivial | exact LeV.same _ | exact LeB.same _ | exact rfl | exact fun _ _ _ => trivial | exact lI | exact LeV.nil _ _ _ | exact lB | refine leBd ?_ | refine leOwn ?_ | refine And.intro ?_ ?_)⟩
      | false =>
        have hf : false = (n == n && (i == i && (true && decide (ls = ls')))) := by
          have : decide (ls = ls') = false := decide_eq_false fun e => by subst e; rw [hxa] at hyb; exact of_decide_eq_false hxy (Option.some.inj hyb)
          simp [this]
        repeat' ((conv => whnf); first | exact trivial | (refine now_D1 (by simp; omega) ?_) | (refine nv_ (ln x) (by first | (exact aggLn (by simp only [Int.toNat_natCast]; exact hxa); done) | fail) ?_) | (refine nv_ (ln y) (by first | (exact aggLn (by simp only [Int.toNat_natCast]; exact hyb); done) | fail) ?_) | refine nb_ (!false) (neI hxy) ?_ | refine nT_ ?_ | refine aE1 ?_ | refine aE0 ?_ | refine aN1 ?_ | refine aN0 ?_ | refine aD1 ?_ | refine aD0 ?_ | refine nE_ (fun hq => ?_) (fun hq => ?_) | refine nN_ (fun hq => ?_) (fun hq => ?_) | refine nD_ (fun hq => ?_) (fun hq => ?_) | refine rb1 ?_ | refine rb0 ?_ | refine rbx ?_ | refine rix ?_ | (refine And.intro (by first | ((simp; omega); done) | (exact cells8 hx (by simp only [Int.toNat_natCast]; omega); done) | (exact cells8 hx' (by simp only [Int.toNat_natCast]; omega); done) | (exact ⟨fits8 hx8, fits8 hy8⟩; done) | fail) ?_) | refine aS ?_ | (exact rb hf trivial) | fail)
    · have : k = ls.length := by omega
      subst this
      rw [List.take_length, hll, List.take_length] at ho
      repeat' ((conv => whnf); first | exact trivial | refine now_D0 (by simp) ?_ | refine nT_ ?_ | refine aE1 ?_ | refine aE0 ?_ | refine aN1 ?_ | refine aN0 ?_ | refine aD1 ?_ | refine aD0 ?_ | refine nE_ (fun hq => ?_) (fun hq => ?_) | refine nN_ (fun hq => ?_) (fun hq => ?_) | refine nD_ (fun hq => ?_) (fun hq => ?_) | refine rb1 ?_ | refine rb0 ?_ | refine rbx ?_ | refine rix ?_ | refine aS ?_ | fail)
      exact ⟨(), ho, by repeat' (first | exact trivial | exact LeV.same _ | exact LeB.same _ | exact rfl | exact fun _ _ _ => trivial | exact lI | exact LeV.nil _ _ _ | exact lB | refine leBd ?_ | refine leOwn ?_ | refine And.intro ?_ ?_)⟩
  rintro - hr
  repeat' ((conv => whnf); first | exact trivial | refine nT_ ?_ | refine aE1 ?_ | refine aE0 ?_ | refine aN1 ?_ | refine aN0 ?_ | refine aD1 ?_ | refine aD0 ?_ | refine nE_ (fun hq => ?_) (fun hq => ?_) | refine nN_ (fun hq => ?_) (fun hq => ?_) | refine nD_ (fun hq => ?_) (fun hq => ?_) | refine rb1 ?_ | refine rb0 ?_ | refine rbx ?_ | refine rix ?_ | refine aS ?_ | (exact rb (by simp [hr]) trivial) | fail)
end Go.RC
end
section
namespace Go.RC
open Go Go.DL Go.Proofs
set_option maxRecDepth 100000
set_option maxHeartbeats 1000000
structure okR (n i : Int) (ls : List (List Int)) (pv : List Int) : Prop where
  hn : i64 n
  hi : i64 i
  hx : ∀ x ∈ ls, x.length = 8 ∧ ∀ y ∈ x, i64 y
  hp : pv.length = 16
  hb : areB pv
theorem okR.two {n i : Int} {ls : List (List Int)} {pv : List Int} (h : okR n i ls pv) : ∀ x ∈ [n, i], i64 x := fun x hx => by
  rcases List.mem_cons.1 hx with rfl | hx
  · exact h.hn
  · rw [List.mem_singleton.1 hx]; exact h.hi
theorem okR.l8 {n i : Int} {ls : List (List Int)} {pv : List Int} (h : okR n i ls pv) : ∀ x ∈ ls, x.length = 8 := fun x hx => (h.hx x hx).1
def encL (ls : List (List Int)) : List Int := ls.flatMap vis
def enc0 (n i : Int) (k : Nat) : List Int := vis [n, i] ++ vi k
def enc (n i : Int) (ls : List (List Int)) (pv : List Int) : List Int := (enc0 n i ls.length ++ encL ls) ++ digs [pv]
theorem vis8 {x : List Int} (h : x.length = 8 ∧ ∀ y ∈ x, i64 y) : (vis x).length ≤ 90 := by
  have := vis_len h.2 (by omega)
  omega
theorem encL_len {ls : List (List Int)} (h : ∀ x ∈ ls, x.length = 8 ∧ ∀ y ∈ x, i64 y) : (encL ls).length ≤ 90 * ls.length := flat_le vis 90 (fun x hx => vis8 (h x hx))
theorem enc0_len {n i : Int} {k : Nat} (hn : i64 n) (hi : i64 i) (hk : k < 2 ^ 40) : (enc0 n i k).length ≤ 40 := by
  have h1 := vis_len (l := [n, i]) (fun x hx => by simp at hx; rcases hx with rfl | rfl <;> assumption) (Nat.le_of_ble_eq_true rfl)
  have h2 := vi_len (i64_nat (n := k) (by omega))
  unfold enc0
  rw [List.length_append]
  have : [n, i].length = 2 := rfl
  omega
theorem enc_step {ls : List (List Int)} {k : Nat} (h : k < ls.length) : encL (ls.take (k + 1)) = encL (ls.take k) ++ vis ls[k] := flat_take vis h
theorem encL_take {ls : List (List Int)} (h : ∀ x ∈ ls, x.length = 8 ∧ ∀ y ∈ x, i64 y) (k : Nat) : (encL (ls.take k)).length ≤ 90 * ls.length := by
  have h1 := encL_len (ls := ls.take k) (fun x hx => h x (List.mem_of_mem_take hx))
  rw [List.length_take] at h1
  omega
theorem digs1_len {pv : List Int} (h : pv.length = 16) : (digs [pv]).length ≤ 26 := by
  have := vi_len (i64_nat (n := 1) (by decide))
  unfold digs
  rw [List.length_append]
  simp only [List.length_cons, List.length_nil, List.flatten_cons, List.flatten_nil, List.append_nil, h]
  have h2 : (vi ((0 + 1 : Nat) : Int)).length ≤ 10 := this
  omega
theorem f_Encode (n i : Int) (ls : List (List Int)) (pv : List Int) (h : okR n i ls pv) (hl : ls.length < 2 ^ 20) : FCalls Tryd.prog 34 [rcT n i ls pv] 5 1 ((enc n i ls pv).map Y) [] := by
  have hlen : (rcC n i ls pv).length = 19 := by simp [h.hp]
  have h0 := f_Ints [n, i] (Nat.le_of_ble_eq_true rfl) h.two
  have h1 := (f_Int ls.length (i64_nat (by omega))).dcalls
  have hD := (f_Digests [pv] (Nat.le_of_ble_eq_true rfl) (fun x hx => by rw [List.mem_singleton.1 hx]; exact h.hp)).dcalls
  have hLl : (vis [n, i]).length ≤ 30 := vis_len h.two (Nat.le_of_ble_eq_true rfl)
  have hIl := vi_len (i64_nat (n := ls.length) (by omega))
  have hel := enc0_len (k := ls.length) h.hn h.hi (by omega)
  refine fcalls_low (rs := [.tmp 2]) mixed Tryd.func34 l34 rfl rfl rfl (Nat.le_of_ble_eq_true rfl) ?_
  have e0 : (linesT ls).cells = [linesT ls] := rfl
  repeat' ((conv => whnf); first | exact trivial | refine k_fcall (h0) (fun _ => ?_) | refine k_call _ (by simpa using h1) ?_ | refine nT_ ?_ | refine aE1 ?_ | refine aE0 ?_ | refine aN1 ?_ | refine aN0 ?_ | refine aD1 ?_ | refine aD0 ?_ | refine nE_ (fun hq => ?_) (fun hq => ?_) | refine nN_ (fun hq => ?_) (fun hq => ?_) | refine nD_ (fun hq => ?_) (fun hq => ?_) | refine rb1 ?_ | refine rb0 ?_ | refine rbx ?_ | refine rix ?_ | (refine And.intro (by first | (exact hlen; done) | ((simp only [List.length_map]; omega); done) | fail) ?_) | refine aS ?_ | fail)
  refine wpC_loopE 0 (α := Nat × Nat) (β := Nat) (fun q => {sl := [(1, .ptr 1 0), (3, .own q.1 5 1 ((enc0 n i ls.length ++ encL (ls.take q.2)).map Y)), (18, .t (linesT ls)), (19, .t (I ls.length)), (20, .t (I q.2))], bx := [(1, .d 19 (rcC n i ls pv))]})
    (fun q => q.2 ≤ ls.length ∧ (q.1 = 16 ∨ q.1 = 38)) (fun q => ls.length - q.2) (fun q => {sl := [(1, .ptr 1 0), (3, .own q 5 1 ((enc0 n i ls.length ++ encL ls).map Y))], bx := [(1, .d 19 (rcC n i ls pv))]}) (fun q => q = 16 ∨ q = 38) (16, 0) (by simp) ?_ ?_ ?_
  · repeat' (first | ((refine leI ?_; simp; done)) | exact trivial | exact LeV.same _ | exact LeB.same _ | exact rfl | exact fun _ _ _ => trivial | exact lI | exact LeV.nil _ _ _ | exact lB | refine leBd ?_ | refine leOwn ?_ | refine And.intro ?_ ?_)
    simp [enc0, encL]
  · rintro ⟨q, k⟩ ⟨hk, hq0⟩
    dsimp only at hk hq0
    rcases Nat.lt_or_ge k ls.length with h2 | h2
    · have hx8 := h.hx ls[k] (List.getElem_mem h2)
      have hst := enc_step h2
      generalize hxe : ls[k] = x at hx8 hst
      obtain ⟨a, b, c, d, e, f, g, j, rfl⟩ := ex8 hx8.1
      have hv := (f_Ints [a, b, c, d, e, f, g, j] (Nat.le_of_ble_eq_true rfl) hx8.2).dcalls
      have hvl := vis8 hx8
      have htl := encL_take h.hx k
      repeat' ((conv => whnf); first | exact trivial | (refine nv_ (ln [a, b, c, d, e, f, g, j]) (by first | ((simp [h2, hxe]; done); done) | fail) ?_) | refine k_call _ (hv) ?_ | refine nT_ ?_ | refine aE1 ?_ | refine aE0 ?_ | refine aN1 ?_ | refine aN0 ?_ | refine aD1 ?_ | refine aD0 ?_ | refine nE_ (fun hq => ?_) (fun hq => ?_) | refine nN_ (fun hq => ?_) (fun hq => ?_) | refine nD_ (fun hq => ?_) (fun hq => ?_) | refine rb1 ?_ | refine rb0 ?_ | refine rbx ?_ | refine rix ?_ | (refine And.intro (by first | ((simp; omega); done) | (exact ⟨.inl rfl, Nat.le_of_ble_eq_true rfl⟩; done) | ((simp only [List.length_map, List.length_append]; omega); done) | fail) ?_) | refine aS ?_ | fail)
      refine ⟨(38, k + 1), ⟨by dsimp only; omega, .inr rfl⟩, by dsimp only; omega, ?_⟩
      repeat' (first | exact trivial | exact LeV.same _ | exact LeB.same _ | exact rfl | exact fun _ _ _ => trivial | exact lI | exact LeV.nil _ _ _ | exact lB | refine leBd ?_ | refine leOwn ?_ | refine And.intro ?_ ?_)
      rw [hst]
      simp
    · have : k = ls.length := by omega
      subst this
      repeat' ((conv => whnf); first | exact trivial | refine nT_ ?_ | refine aE1 ?_ | refine aE0 ?_ | refine aN1 ?_ | refine aN0 ?_ | refine aD1 ?_ | refine aD0 ?_ | refine nE_ (fun hq => ?_) (fun hq => ?_) | refine nN_ (fun hq => ?_) (fun hq => ?_) | refine nD_ (fun hq => ?_) (fun hq => ?_) | refine rb1 ?_ | refine rb0 ?_ | refine rbx ?_ | refine rix ?_ | refine aS ?_ | fail)
      exact ⟨q, hq0, by repeat' (first | ((refine leOwn ?_; rw [List.take_length]; done)) | exact trivial | exact LeV.same _ | exact LeB.same _ | exact rfl | exact fun _ _ _ => trivial | exact lI | exact LeV.nil _ _ _ | exact lB | refine leBd ?_ | refine leOwn ?_ | refine And.intro ?_ ?_)⟩
  rintro q hq0
  have hcl := encL_len h.hx
  have hdl := digs1_len h.hp
  rcases hq0 with rfl | rfl
  all_goals repeat' ((conv => whnf); first | exact trivial | (refine nv_ (dg16 pv) (by first | (exact aggPv h.hp; done) | fail) ?_) | refine k_call _ (hD) ?_ | refine nT_ ?_ | refine aE1 ?_ | refine aE0 ?_ | refine aN1 ?_ | refine aN0 ?_ | refine aD1 ?_ | refine aD0 ?_ | refine nE_ (fun hq => ?_) (fun hq => ?_) | refine nN_ (fun hq => ?_) (fun hq => ?_) | refine nD_ (fun hq => ?_) (fun hq => ?_) | refine rb1 ?_ | refine rb0 ?_ | refine rbx ?_ | refine rix ?_ | (refine And.intro (by first | (exact hlen; done) | (exact ⟨trivial, (List.length_map _).trans h.hp⟩; done) | ((simp only [List.length_map, List.length_append]; omega); done) | (exact flY _; done) | fail) ?_) | refine aS ?_ | fail)
  all_goals exact ⟨_, rfl, .inl ⟨_, congrArg (V.own _ _ _) (List.map_append ..).symm⟩⟩
theorem f_refEncode (n i : Int) (ls : List (List Int)) (pv : List Int) (h : okR n i ls pv) (hl : ls.length < 2 ^ 20) : FCalls Tryd.prog 38 [rcT n i ls pv] 5 1 ((enc n i ls pv).map Y) [] := by
  have hlen : (rcC n i ls pv).length = 19 := by simp [h.hp]
  have h0 := f_refInts [n, i] (Nat.le_of_ble_eq_true rfl) h.two
  have h1 := (f_refInt ls.length (i64_nat (by omega))).dcalls
  have hD := (f_refDigests [pv] (Nat.le_of_ble_eq_true rfl) (fun x hx => by rw [List.mem_singleton.1 hx]; exact h.hp)).dcalls
  have hLl : (vis [n, i]).length ≤ 30 := vis_len h.two (Nat.le_of_ble_eq_true rfl)
  have hIl := vi_len (i64_nat (n := ls.length) (by omega))
  have hel := enc0_len (k := ls.length) h.hn h.hi (by omega)
  refine fcalls_low (rs := [.tmp 2]) mixed Tryd.func38 l38 rfl rfl rfl (Nat.le_of_ble_eq_true rfl) ?_
  repeat' ((conv => whnf); first | exact trivial | refine WC_own rfl h0 ?_ | refine k_call _ (by simpa using h1) ?_ | refine nT_ ?_ | refine aE1 ?_ | refine aE0 ?_ | refine aN1 ?_ | refine aN0 ?_ | refine aD1 ?_ | refine aD0 ?_ | refine nE_ (fun hq => ?_) (fun hq => ?_) | refine nN_ (fun hq => ?_) (fun hq => ?_) | refine nD_ (fun hq => ?_) (fun hq => ?_) | refine rb1 ?_ | refine rb0 ?_ | refine rbx ?_ | refine rix ?_ | (refine And.intro (by first | (exact hlen; done) | ((simp only [List.length_map]; omega); done) | fail) ?_) | refine aS ?_ | fail)
  refine wpC_loopE 0 (α := Nat × Nat) (β := Nat) (fun q => {sl := [(1, .ptr 1 0), (3, .own q.1 5 1 ((enc0 n i ls.length ++ encL (ls.take q.2)).map Y)), (4, .t (I q.2))], bx := [(1, .d 19 (rcC n i ls pv))]})
    (fun q => q.2 ≤ ls.length ∧ (q.1 = 17 ∨ q.1 = 53)) (fun q => ls.length - q.2) (fun q => {sl := [(1, .ptr 1 0), (3, .own q 5 1 ((enc0 n i ls.length ++ encL ls).map Y))], bx := [(1, .d 19 (rcC n i ls pv))]}) (fun q => q = 17 ∨ q = 53) (17, 0) (by simp) ?_ ?_ ?_
  · repeat' (first | exact trivial | exact LeV.same _ | exact LeB.same _ | exact rfl | exact fun _ _ _ => trivial | exact lI | exact LeV.nil _ _ _ | exact lB | refine leBd ?_ | refine leOwn ?_ | refine And.intro ?_ ?_)
    simp [enc0, encL]
  · rintro ⟨q, k⟩ ⟨hk, hq0⟩
    dsimp only at hk hq0
    rcases Nat.lt_or_ge k ls.length with h2 | h2
    · have hx8 := h.hx ls[k] (List.getElem_mem h2)
      have hst := enc_step h2
      generalize hxe : ls[k] = x at hx8 hst
      obtain ⟨a, b, c, d, e, f, g, j, rfl⟩ := ex8 hx8.1
      have hv := (f_refInts [a, b, c, d, e, f, g, j] (Nat.le_of_ble_eq_true rfl) hx8.2).dcalls
      have hvl := vis8 hx8
      have htl := encL_take h.hx k
      rcases hq0 with rfl | rfl
      all_goals repeat' ((conv => whnf); first | exact trivial | (refine now_D1 (by simp; omega) ?_) | (refine nv_ (ln [a, b, c, d, e, f, g, j]) (by first | ((simp [h2, hxe]; done); done) | fail) ?_) | refine WC_dc (rd := []) rfl hv (.inl rfl) ?_ | refine nT_ ?_ | refine aE1 ?_ | refine aE0 ?_ | refine aN1 ?_ | refine aN0 ?_ | refine aD1 ?_ | refine aD0 ?_ | refine nE_ (fun hq => ?_) (fun hq => ?_) | refine nN_ (fun hq => ?_) (fun hq => ?_) | refine nD_ (fun hq => ?_) (fun hq => ?_) | refine rb1 ?_ | refine rb0 ?_ | refine rbx ?_ | refine rix ?_ | (refine And.intro (by first | ((simp; omega); done) | (exact ⟨.inl rfl, Nat.le_of_ble_eq_true rfl⟩; done) | ((simp only [List.length_map, List.length_append]; omega); done) | fail) ?_) | refine aS ?_ | fail)
      all_goals refine ⟨(53, k + 1), ⟨by dsimp only; omega, .inr rfl⟩, by dsimp only; omega, ?_⟩
      all_goals repeat' (first | exact trivial | exact LeV.same _ | exact LeB.same _ | exact rfl | exact fun _ _ _ => trivial | exact lI | exact LeV.nil _ _ _ | exact lB | refine leBd ?_ | refine leOwn ?_ | refine And.intro ?_ ?_)
      all_goals rw [hst]
      all_goals simp
    · have : k = ls.length := by omega
      subst this
      repeat' ((conv => whnf); first | exact trivial | refine now_D0 (by simp) ?_ | refine nT_ ?_ | refine aE1 ?_ | refine aE0 ?_ | refine aN1 ?_ | refine aN0 ?_ | refine aD1 ?_ | refine aD0 ?_ | refine nE_ (fun hq => ?_) (fun hq => ?_) | refine nN_ (fun hq => ?_) (fun hq => ?_) | refine nD_ (fun hq => ?_) (fun hq => ?_) | refine rb1 ?_ | refine rb0 ?_ | refine rbx ?_ | refine rix ?_ | refine aS ?_ | fail)
      exact ⟨q, hq0, by repeat' (first | ((refine leOwn ?_; rw [List.take_length]; done)) | exact trivial | exact LeV.same _ | exact LeB.same _ | exact rfl | exact fun _ _ _ => trivial | exact lI | exact LeV.nil _ _ _ | exact lB | refine leBd ?_ | refine leOwn ?_ | refine And.intro ?_ ?_)⟩
  rintro q hq0
  have hcl := encL_len h.hx
  have hdl := digs1_len h.hp
  rcases hq0 with rfl | rfl
  all_goals repeat' ((conv => whnf); first | exact trivial | (refine nv_ (dg16 pv) (by first | (exact aggPv h.hp; done) | fail) ?_) | refine k_call _ (hD) ?_ | refine nT_ ?_ | refine aE1 ?_ | refine aE0 ?_ | refine aN1 ?_ | refine aN0 ?_ | refine aD1 ?_ | refine aD0 ?_ | refine nE_ (fun hq => ?_) (fun hq => ?_) | refine nN_ (fun hq => ?_) (fun hq => ?_) | refine nD_ (fun hq => ?_) (fun hq => ?_) | refine rb1 ?_ | refine rb0 ?_ | refine rbx ?_ | refine rix ?_ | (refine And.intro (by first | (exact hlen; done) | (exact ⟨trivial, (List.length_map _).trans h.hp⟩; done) | ((simp only [List.length_map, List.length_append]; omega); done) | (exact flY _; done) | fail) ?_) | refine aS ?_ | fail)
  all_goals exact ⟨_, rfl, .inl ⟨_, congrArg (V.own _ _ _) (List.map_append ..).symm⟩⟩
theorem enc_areB {n i : Int} {ls : List (List Int)} {pv : List Int} (hb : areB pv) : areB (enc n i ls pv) := fun b h => by
  unfold enc enc0 at h
  simp only [List.mem_append] at h
  rcases h with ((h | h) | h) | h
  · exact vis_areB _ b h
  · exact vi_areB _ b h
  · obtain ⟨x, _, hx⟩ := List.mem_flatMap.1 h
    exact vis_areB x b hx
  · unfold digs at h
    rcases List.mem_append.1 h with h | h
    · exact vi_areB _ b h
    · exact hb b (by simpa using h)
def txR (n i : Int) (ls : List (List Int)) (pv : List Int) : ByteArray := strT ((enc n i ls pv).map Y)
def dgR (n i : Int) (ls : List (List Int)) (pv : List Int) : List Int := H (msg 5 [txR n i ls pv])
theorem dgR_len (n i : Int) (ls : List (List Int)) (pv : List Int) : (dgR n i ls pv).length = 16 := H_len _
theorem dgR_areB (n i : Int) (ls : List (List Int)) (pv : List Int) : areB (dgR n i ls pv) := H_areB _
theorem txR_size {n i : Int} {ls : List (List Int)} {pv : List Int} (h : okR n i ls pv) (hl : ls.length < 2 ^ 20) : (txR n i ls pv).size < 2 ^ 33 := by
  rw [← sB_len, txR, sB_strT _ (enc_areB h.hb)]
  have hcl := encL_len h.hx
  have hdl := digs1_len h.hp
  have hel := enc0_len (k := ls.length) h.hn h.hi (by omega)
  unfold enc
  simp only [List.length_append]
  omega
theorem t_Digest (n i : Int) (ls : List (List Int)) (pv : List Int) (h : okR n i ls pv) (hl : ls.length < 2 ^ 20) : DCalls Tryd.prog 24 [rcT n i ls pv] (dg16 (dgR n i ls pv)) := by
  have hlen : (rcC n i ls pv).length = 19 := by simp [h.hp]
  have hE := (f_Encode n i ls pv h hl).dcalls
  have hsz := txR_size h hl
  have hO := t_Of 5 [txR n i ls pv] (fun s hs => by rw [List.mem_singleton.1 hs]; omega) (Nat.le_of_ble_eq_true rfl)
  have hdl : (dgR n i ls pv).length = 16 := dgR_len ..
  refine dcalls_low (rs := [.cell 2 49]) mixed Tryd.func24 l24 rfl rfl rfl (r := [.agg _]) (Nat.le_of_ble_eq_true rfl) ?_
  unfold dgR at *
  generalize H (msg 5 [txR n i ls pv]) = ds at hO hdl
  unfold txR at hO
  repeat' ((conv => whnf); first | exact trivial | refine k_call _ (hE) ?_ | refine k_call _ (hO) ?_ | refine nT_ ?_ | refine aE1 ?_ | refine aE0 ?_ | refine aN1 ?_ | refine aN0 ?_ | refine aD1 ?_ | refine aD0 ?_ | refine nE_ (fun hq => ?_) (fun hq => ?_) | refine nN_ (fun hq => ?_) (fun hq => ?_) | refine nD_ (fun hq => ?_) (fun hq => ?_) | refine rb1 ?_ | refine rb0 ?_ | refine rbx ?_ | refine rix ?_ | (refine And.intro (by first | (exact hlen; done) | (exact areU8_Y _; done) | (exact ⟨(List.length_map _).trans hdl, by decide⟩; done) | fail) ?_) | refine aS ?_ | refine rt ?_ trivial | fail)
  exact congrArg T.agg (putL_all rfl)
theorem t_refDigest (n i : Int) (ls : List (List Int)) (pv : List Int) (h : okR n i ls pv) (hl : ls.length < 2 ^ 20) : DCalls Tryd.prog 39 [rcT n i ls pv] (dg16 (dgR n i ls pv)) := by
  have hlen : (rcC n i ls pv).length = 19 := by simp [h.hp]
  have hE := (f_refEncode n i ls pv h hl).dcalls
  have hsz := txR_size h hl
  have hO := t_refOf 5 [txR n i ls pv] (fun s hs => by rw [List.mem_singleton.1 hs]; omega) (Nat.le_of_ble_eq_true rfl)
  rw [← H_eq _ (msg_areB _ _)] at hO
  have hdl : (dgR n i ls pv).length = 16 := dgR_len ..
  refine dcalls_low (rs := [.cell 2 49]) mixed Tryd.func39 l39 rfl rfl rfl (r := [.agg _]) (Nat.le_of_ble_eq_true rfl) ?_
  unfold dgR at *
  generalize H (msg 5 [txR n i ls pv]) = ds at hO hdl
  unfold txR at hO
  repeat' ((conv => whnf); first | exact trivial | refine k_call _ (hE) ?_ | refine k_call _ (hO) ?_ | refine nT_ ?_ | refine aE1 ?_ | refine aE0 ?_ | refine aN1 ?_ | refine aN0 ?_ | refine aD1 ?_ | refine aD0 ?_ | refine nE_ (fun hq => ?_) (fun hq => ?_) | refine nN_ (fun hq => ?_) (fun hq => ?_) | refine nD_ (fun hq => ?_) (fun hq => ?_) | refine rb1 ?_ | refine rb0 ?_ | refine rbx ?_ | refine rix ?_ | (refine And.intro (by first | (exact hlen; done) | (exact areU8_Y _; done) | (exact ⟨(List.length_map _).trans hdl, by decide⟩; done) | fail) ?_) | refine aS ?_ | refine rt ?_ trivial | fail)
  exact congrArg T.agg (putL_all rfl)
end Go.RC
end
section
namespace Go.RC
open Go Go.DL Go.Proofs
set_option maxRecDepth 100000
set_option maxHeartbeats 1000000
theorem t_key (s p f : Int) : DCalls Tryd.prog 82 [I s, I p, I f] (.bool (rightN s p f)) := by
  refine dcalls_low (rs := [.tmp 6]) mixed Tryd.func82 l82 rfl rfl rfl (r := [.bool _]) (Nat.le_of_ble_eq_true rfl) ?_
  unfold rightN
  repeat' ((conv => whnf); first | exact trivial | refine nD_ (fun hq => ?_) (fun hq => ?_) | refine nE_ (fun hq => ?_) (fun hq => ?_) | refine nT_ ?_ | refine aE1 ?_ | refine aE0 ?_ | refine aN1 ?_ | refine aN0 ?_ | refine aD1 ?_ | refine aD0 ?_ | refine nE_ (fun hq => ?_) (fun hq => ?_) | refine nN_ (fun hq => ?_) (fun hq => ?_) | refine nD_ (fun hq => ?_) (fun hq => ?_) | refine rb1 ?_ | refine rb0 ?_ | refine rbx ?_ | refine rix ?_ | refine aS ?_ | fail)
  all_goals (refine rb ?_ trivial; simp [*] <;> omega)
theorem t_line (x : List Int) (hx : x.length = 8) : DCalls Tryd.prog 53 [ln x] (.bool (okLn x)) := by
  obtain ⟨a, b, c, d, e, f, g, j, rfl⟩ := ex8 hx
  refine dcalls_low (rs := [.tmp 2]) mixed Tryd.func53 l53 rfl rfl rfl (r := [.bool _]) (Nat.le_of_ble_eq_true rfl) ?_
  have hk := t_key a b c
  have hS := t_IsSum [e, f, g, j] rfl
  rw [okLn8]
  cases h1 : rightN a b c with
  | false =>
    rw [h1] at hk
    repeat' ((conv => whnf); first | exact trivial | refine k_call _ (hk) ?_ | refine k_call _ (hS) ?_ | refine nT_ ?_ | refine aE1 ?_ | refine aE0 ?_ | refine aN1 ?_ | refine aN0 ?_ | refine aD1 ?_ | refine aD0 ?_ | refine nE_ (fun hq => ?_) (fun hq => ?_) | refine nN_ (fun hq => ?_) (fun hq => ?_) | refine nD_ (fun hq => ?_) (fun hq => ?_) | refine rb1 ?_ | refine rb0 ?_ | refine rbx ?_ | refine rix ?_ | refine aS ?_ | fail)
  | true =>
    rw [h1] at hk
    cases h2 : isSb [e, f, g, j] with
    | false =>
      rw [h2] at hS
      repeat' ((conv => whnf); first | exact trivial | refine k_call _ (hk) ?_ | refine k_call _ (hS) ?_ | refine nT_ ?_ | refine aE1 ?_ | refine aE0 ?_ | refine aN1 ?_ | refine aN0 ?_ | refine aD1 ?_ | refine aD0 ?_ | refine nE_ (fun hq => ?_) (fun hq => ?_) | refine nN_ (fun hq => ?_) (fun hq => ?_) | refine nD_ (fun hq => ?_) (fun hq => ?_) | refine rb1 ?_ | refine rb0 ?_ | refine rbx ?_ | refine rix ?_ | refine aS ?_ | fail)
    | true =>
      rw [h2] at hS
      repeat' ((conv => whnf); first | exact trivial | refine k_call _ (hk) ?_ | refine k_call _ (hS) ?_ | refine nD_ (fun hq => ?_) (fun hq => ?_) | refine nT_ ?_ | refine aE1 ?_ | refine aE0 ?_ | refine aN1 ?_ | refine aN0 ?_ | refine aD1 ?_ | refine aD0 ?_ | refine nE_ (fun hq => ?_) (fun hq => ?_) | refine nN_ (fun hq => ?_) (fun hq => ?_) | refine nD_ (fun hq => ?_) (fun hq => ?_) | refine rb1 ?_ | refine rb0 ?_ | refine rbx ?_ | refine rix ?_ | refine aS ?_ | fail)
      all_goals (refine rb ?_ trivial; simp [*] <;> omega)
theorem cmpN_lt (a b : N3) : (cmpN a b < 0) ↔ (a.1 < b.1 ∨ a.1 = b.1 ∧ (a.2.1 < b.2.1 ∨ a.2.1 = b.2.1 ∧ a.2.2 < b.2.2)) := by
  simp only [cmpN, orI, cmpI]
  repeat' split
  all_goals omega
theorem t_before (x y : List Int) (hx : x.length = 8) (hy : y.length = 8) : DCalls Tryd.prog 54 [ln x, ln y] (.bool (decide (cmpN (nmOf x) (nmOf y) < 0))) := by
  obtain ⟨a, b, c, d, e, f, g, j, rfl⟩ := ex8 hx
  obtain ⟨a', b', c', d', e', f', g', j', rfl⟩ := ex8 hy
  refine dcalls_low (rs := [.tmp 4]) mixed Tryd.func54 l54 rfl rfl rfl (r := [.bool _]) (Nat.le_of_ble_eq_true rfl) ?_
  have h0 : decide (cmpN (nmOf [a, b, c, d, e, f, g, j]) (nmOf [a', b', c', d', e', f', g', j']) < 0) = decide (a < a' ∨ a = a' ∧ (b < b' ∨ b = b' ∧ c < c')) := decide_eq_decide.2 (cmpN_lt _ _)
  rw [h0]
  repeat' ((conv => whnf); first | exact trivial | refine nD_ (fun hq => ?_) (fun hq => ?_) | refine nT_ ?_ | refine aE1 ?_ | refine aE0 ?_ | refine aN1 ?_ | refine aN0 ?_ | refine aD1 ?_ | refine aD0 ?_ | refine nE_ (fun hq => ?_) (fun hq => ?_) | refine nN_ (fun hq => ?_) (fun hq => ?_) | refine nD_ (fun hq => ?_) (fun hq => ?_) | refine rb1 ?_ | refine rb0 ?_ | refine rbx ?_ | refine rix ?_ | refine aS ?_ | fail)
  all_goals (refine rb ?_ trivial; simp only [true_eq_decide_iff, false_eq_decide_iff]; omega)
theorem t_refCheck (n i : Int) (ls : List (List Int)) (pv : List Int) (hl : ls.length < 2 ^ 40) (hx : ∀ x ∈ ls, x.length = 8) (hp : pv.length = 16) : DCalls Tryd.prog 29 [rcT n i ls pv] (I (chk n i ls)) := by
  refine dcalls_low (rs := [.tmp 2]) mixed Tryd.func29 l29 rfl rfl rfl (r := [I _]) (Nat.le_of_ble_eq_true rfl) ?_
  have hlen : (rcC n i ls pv).length = 19 := by simp [hp]
  unfold chk
  by_cases h1 : ls.length > 1000
  · rw [if_pos h1]
    repeat' ((conv => whnf); first | exact trivial | (refine now_D1 (by simp; omega) ?_) | refine nT_ ?_ | refine aE1 ?_ | refine aE0 ?_ | refine aN1 ?_ | refine aN0 ?_ | refine aD1 ?_ | refine aD0 ?_ | refine nE_ (fun hq => ?_) (fun hq => ?_) | refine nN_ (fun hq => ?_) (fun hq => ?_) | refine nD_ (fun hq => ?_) (fun hq => ?_) | refine rb1 ?_ | refine rb0 ?_ | refine rbx ?_ | refine rix ?_ | (refine And.intro (by first | (exact hlen; done) | fail) ?_) | refine aS ?_ | fail)
  rw [if_neg h1]
  by_cases h2 : n < 0 ∨ n ≥ 200 ∨ i < 0 ∨ i > 1048576
  · rw [if_pos h2]
    repeat' ((conv => whnf); first | exact trivial | (refine now_D0 (by simp; omega) ?_) | refine nT_ ?_ | refine aE1 ?_ | refine aE0 ?_ | refine aN1 ?_ | refine aN0 ?_ | refine aD1 ?_ | refine aD0 ?_ | refine nE_ (fun hq => ?_) (fun hq => ?_) | refine nN_ (fun hq => ?_) (fun hq => ?_) | refine nD_ (fun hq => ?_) (fun hq => ?_) | refine rb1 ?_ | refine rb0 ?_ | refine rbx ?_ | refine rix ?_ | (refine And.intro (by first | (exact hlen; done) | fail) ?_) | refine aS ?_ | fail)
    all_goals omega
  rw [if_neg h2]
  repeat' ((conv => whnf); first | exact trivial | (refine now_D0 (by simp; omega) ?_) | refine nT_ ?_ | refine aE1 ?_ | refine aE0 ?_ | refine aN1 ?_ | refine aN0 ?_ | refine aD1 ?_ | refine aD0 ?_ | refine nE_ (fun hq => ?_) (fun hq => ?_) | refine nN_ (fun hq => ?_) (fun hq => ?_) | refine nD_ (fun hq => ?_) (fun hq => ?_) | refine rb1 ?_ | refine rb0 ?_ | refine rbx ?_ | refine rix ?_ | (refine And.intro (by first | (exact hlen; done) | fail) ?_) | refine aS ?_ | fail)
  refine wpC_loopE 0 (α := Nat) (β := Unit) (fun k => {sl := [(1, .ptr 1 0), (3, .t (I k))], bx := [(1, .d 19 (rcC n i ls pv))]})
    (fun k => k ≤ ls.length ∧ okFrom (prevAt ls k) (ls.drop k) = okFrom none ls) (fun k => ls.length - k) (fun _ => {sl := [], bx := []}) (fun _ => okFrom none ls = true) 0 ⟨by omega, rfl⟩ ?_ ?_ ?_
  · repeat' (first | exact trivial | exact LeV.same _ | exact LeB.same _ | exact rfl | exact fun _ _ _ => trivial | exact lI | exact LeV.nil _ _ _ | exact lB | refine leBd ?_ | refine leOwn ?_ | refine And.intro ?_ ?_)
  · rintro k ⟨hk, ho⟩
    rcases Nat.lt_or_ge k ls.length with h3 | h3
    · rw [okFrom_drop h3] at ho
      have hgo : okAt (prevAt ls k) ls[k] = true → okFrom (prevAt ls (k + 1)) (ls.drop (k + 1)) = okFrom none ls := fun h => by rw [h] at ho; exact ho
      have hno : okAt (prevAt ls k) ls[k] = false → (1 : Int) = if okFrom none ls = true then (0 : Int) else 1 := fun h => by rw [← ho, h]; rfl
      have hx8 := hx ls[k] (List.getElem_mem h3)
      have hL := t_line ls[k] hx8
      generalize hxe : ls[k] = x at hgo hno hx8 hL
      cases h4 : okLn x with
      | false =>
        rw [h4] at hL
        have hf := hno (by unfold okAt; rw [h4]; rfl)
        repeat' ((conv => whnf); first | exact trivial | (refine now_D1 (by simp; omega) ?_) | (refine nv_ (ln x) (by first | (exact aggLn (by simp [h3, hxe]; done); done) | fail) ?_) | refine k_call _ (hL) ?_ | refine nT_ ?_ | refine aE1 ?_ | refine aE0 ?_ | refine aN1 ?_ | refine aN0 ?_ | refine aD1 ?_ | refine aD0 ?_ | refine nE_ (fun hq => ?_) (fun hq => ?_) | refine nN_ (fun hq => ?_) (fun hq => ?_) | refine nD_ (fun hq => ?_) (fun hq => ?_) | refine rb1 ?_ | refine rb0 ?_ | refine rbx ?_ | refine rix ?_ | (refine And.intro (by first | ((simp; omega); done) | (exact cells8 hx (by simp only [Int.toNat_natCast]; omega); done) | fail) ?_) | refine aS ?_ | (exact ri hf trivial) | fail)
      | true =>
        rw [h4] at hL
        by_cases h8 : 0 < k
        · have hp8 := hx ls[k - 1] (List.getElem_mem (by omega))
          have hB := t_before ls[k - 1] x hp8 hx8
          have hp3 : prevAt ls k = some ls[k - 1] := by
            obtain ⟨k, rfl⟩ : ∃ j, k = j + 1 := ⟨k - 1, by omega⟩
            exact List.getElem?_eq_getElem _
          have e1 : okAt (prevAt ls k) x = decide (cmpN (nmOf ls[k - 1]) (nmOf x) < 0) := by rw [hp3]; unfold okAt; rw [h4]; rfl
          rw [e1] at hno hgo
          generalize hpe : ls[k - 1] = p at hB hno hgo
          have e2 : (IntKind.i64.wrap ((k : Int) - 1)).toNat = k - 1 := by simp (disch := omega) only [wrap_id, w32, w8, w64]; omega
          have e3 : IntKind.i64.wrap ((k : Int) - 1) = k - 1 := by simp (disch := omega) only [wrap_id, w32, w8, w64]
          cases h9 : decide (cmpN (nmOf p) (nmOf x) < 0) with
          | true =>
            rw [h9] at hB
            repeat' ((conv => whnf); first | exact trivial | (refine now_D1 (by simp; omega) ?_) | (refine nv_ (ln x) (by first | (exact aggLn (by simp [h3, hxe]; done); done) | fail) ?_) | (refine nv_ (ln p) (by first | (exact aggLn (by rw [e2]; simp [hpe, show k - 1 < ls.length by omega]; done); done) | fail) ?_) | refine k_call _ (hL) ?_ | refine k_call _ (hB) ?_ | refine nT_ ?_ | refine aE1 ?_ | refine aE0 ?_ | refine aN1 ?_ | refine aN0 ?_ | refine aD1 ?_ | refine aD0 ?_ | refine nE_ (fun hq => ?_) (fun hq => ?_) | refine nN_ (fun hq => ?_) (fun hq => ?_) | refine nD_ (fun hq => ?_) (fun hq => ?_) | refine rb1 ?_ | refine rb0 ?_ | refine rbx ?_ | refine rix ?_ | (refine And.intro (by first | ((simp; omega); done) | ((rw [e3]; simp; omega); done) | (exact cells8 hx (by simp only [Int.toNat_natCast]; omega); done) | (exact cells8 hx (by rw [e2]; omega); done) | fail) ?_) | refine aS ?_ | fail)
            exact ⟨k + 1, ⟨by omega, hgo h9⟩, by omega, by repeat' (first | exact trivial | exact LeV.same _ | exact LeB.same _ | exact rfl | exact fun _ _ _ => trivial | exact lI | exact LeV.nil _ _ _ | exact lB | refine leBd ?_ | refine leOwn ?_ | refine And.intro ?_ ?_)⟩
          | false =>
            rw [h9] at hB
            have hf := hno h9
            repeat' ((conv => whnf); first | exact trivial | (refine now_D1 (by simp; omega) ?_) | (refine nv_ (ln x) (by first | (exact aggLn (by simp [h3, hxe]; done); done) | fail) ?_) | (refine nv_ (ln p) (by first | (exact aggLn (by rw [e2]; simp [hpe, show k - 1 < ls.length by omega]; done); done) | fail) ?_) | refine k_call _ (hL) ?_ | refine k_call _ (hB) ?_ | refine nT_ ?_ | refine aE1 ?_ | refine aE0 ?_ | refine aN1 ?_ | refine aN0 ?_ | refine aD1 ?_ | refine aD0 ?_ | refine nE_ (fun hq => ?_) (fun hq => ?_) | refine nN_ (fun hq => ?_) (fun hq => ?_) | refine nD_ (fun hq => ?_) (fun hq => ?_) | refine rb1 ?_ | refine rb0 ?_ | refine rbx ?_ | refine rix ?_ | (refine And.intro (by first | ((simp; omega); done) | ((rw [e3]; simp; omega); done) | (exact cells8 hx (by simp only [Int.toNat_natCast]; omega); done) | (exact cells8 hx (by rw [e2]; omega); done) | fail) ?_) | refine aS ?_ | (exact ri hf trivial) | fail)
        · have : k = 0 := by omega
          subst this
          repeat' ((conv => whnf); first | exact trivial | (refine now_D1 (by simp; omega) ?_) | (refine nv_ (ln x) (by first | (exact aggLn (by simp [h3, hxe]; done); done) | fail) ?_) | refine k_call _ (hL) ?_ | refine nT_ ?_ | refine aE1 ?_ | refine aE0 ?_ | refine aN1 ?_ | refine aN0 ?_ | refine aD1 ?_ | refine aD0 ?_ | refine nE_ (fun hq => ?_) (fun hq => ?_) | refine nN_ (fun hq => ?_) (fun hq => ?_) | refine nD_ (fun hq => ?_) (fun hq => ?_) | refine rb1 ?_ | refine rb0 ?_ | refine rbx ?_ | refine rix ?_ | (refine And.intro (by first | ((simp; omega); done) | (exact cells8 hx (by simp only [Int.toNat_natCast]; omega); done) | fail) ?_) | refine aS ?_ | fail)
          exact ⟨0 + 1, ⟨by omega, hgo (by unfold okAt; rw [h4]; rfl)⟩, by omega, by repeat' (first | exact trivial | exact LeV.same _ | exact LeB.same _ | exact rfl | exact fun _ _ _ => trivial | exact lI | exact LeV.nil _ _ _ | exact lB | refine leBd ?_ | refine leOwn ?_ | refine And.intro ?_ ?_)⟩
    · have : k = ls.length := by omega
      subst this
      rw [List.drop_length] at ho
      repeat' ((conv => whnf); first | exact trivial | refine now_D0 (by simp) ?_ | refine nT_ ?_ | refine aE1 ?_ | refine aE0 ?_ | refine aN1 ?_ | refine aN0 ?_ | refine aD1 ?_ | refine aD0 ?_ | refine nE_ (fun hq => ?_) (fun hq => ?_) | refine nN_ (fun hq => ?_) (fun hq => ?_) | refine nD_ (fun hq => ?_) (fun hq => ?_) | refine rb1 ?_ | refine rb0 ?_ | refine rbx ?_ | refine rix ?_ | refine aS ?_ | fail)
      exact ⟨(), ho.symm, by repeat' (first | exact trivial | exact LeV.same _ | exact LeB.same _ | exact rfl | exact fun _ _ _ => trivial | exact lI | exact LeV.nil _ _ _ | exact lB | refine leBd ?_ | refine leOwn ?_ | refine And.intro ?_ ?_)⟩
  rintro - hr
  rw [hr]
  repeat' ((conv => whnf); first | exact trivial | refine nT_ ?_ | refine aE1 ?_ | refine aE0 ?_ | refine aN1 ?_ | refine aN0 ?_ | refine aD1 ?_ | refine aD0 ?_ | refine nE_ (fun hq => ?_) (fun hq => ?_) | refine nN_ (fun hq => ?_) (fun hq => ?_) | refine nD_ (fun hq => ?_) (fun hq => ?_) | refine rb1 ?_ | refine rb0 ?_ | refine rbx ?_ | refine rix ?_ | refine aS ?_ | fail)
end Go.RC
end
section
namespace Go.RC
open Go Go.DL Go.Proofs
set_option maxRecDepth 100000
set_option maxHeartbeats 1000000
def isN (s p f : Int) (x : List Int) : Bool := x.getD 0 0 == s && (x.getD 1 0 == p && x.getD 2 0 == f)
theorem ixP_find {α : Type} (p : α → Bool) : ∀ (l : List α) (i : Int), 0 ≤ i → (ixP p l i = -1 ∧ l.find? p = none) ∨ (∃ (k : Nat) (x : α), ixP p l i = i + k ∧ l[k]? = some x ∧ k < l.length ∧ l.find? p = some x)
  | [], _, _ => .inl ⟨rfl, rfl⟩
  | x :: l, i, h => by
    unfold ixP
    rw [List.find?_cons]
    cases hp : p x with
    | true => exact .inr ⟨0, x, by simp, rfl, by simp, rfl⟩
    | false =>
      simp only [Bool.false_eq_true, if_false]
      rcases ixP_find p l (i + 1) (by omega) with ⟨h1, h2⟩ | ⟨k, y, h1, h2, h3, h4⟩
      · exact .inl ⟨h1, h2⟩
      · exact .inr ⟨k + 1, y, by rw [h1]; omega, h2, by simp; omega, h4⟩
theorem t_IndexLine (f : FuncId) (p : List Int → Bool) (c1 c2 c3 : T) (l : List (List Int)) (hl : l.length < 2 ^ 60) (h8 : ∀ x ∈ l, x.length = 8) (hf : ∀ x ∈ l, DCalls Tryd.prog f [ln x, c1, c2, c3] (.bool (p x))) : DCalls Tryd.prog 55 [.slice 8 (l.map ln), .clos f [c1, c2, c3]] (I (ixP p l 0)) := by
  refine dcalls_low (rs := [.tmp 4]) mixed Tryd.func55 l55 rfl rfl rfl (r := [I _]) (Nat.le_of_ble_eq_true rfl) ?_
  repeat' ((conv => whnf); first | exact trivial | refine nT_ ?_ | refine aE1 ?_ | refine aE0 ?_ | refine aN1 ?_ | refine aN0 ?_ | refine aD1 ?_ | refine aD0 ?_ | refine nE_ (fun hq => ?_) (fun hq => ?_) | refine nN_ (fun hq => ?_) (fun hq => ?_) | refine nD_ (fun hq => ?_) (fun hq => ?_) | refine rb1 ?_ | refine rb0 ?_ | refine rbx ?_ | refine rix ?_ | refine aS ?_ | fail)
  refine wpC_loopE 0 (α := Nat) (β := Unit) (fun i => {sl := [(0, .t (.slice 8 (l.map ln))), (1, .t (.clos f [c1, c2, c3])), (7, .t (I l.length)), (8, .t (I i))], bx := []})
    (fun i => i ≤ l.length ∧ ixP p (l.drop i) i = ixP p l 0) (fun i => l.length - i) (fun _ => {sl := [], bx := []}) (fun _ => ixP p l 0 = -1) 0 ⟨by omega, rfl⟩ ?_ ?_ ?_
  · repeat' (first | ((refine leI ?_; simp; done)) | exact trivial | exact LeV.same _ | exact LeB.same _ | exact rfl | exact fun _ _ _ => trivial | exact lI | exact LeV.nil _ _ _ | exact lB | refine leBd ?_ | refine leOwn ?_ | refine And.intro ?_ ?_)
  · rintro i ⟨hi, ho⟩
    rcases Nat.lt_or_ge i l.length with h2 | h2
    · rw [ixP_drop p h2] at ho
      have hc := hf l[i] (List.getElem_mem h2)
      generalize hxe : l[i] = x at ho hc
      cases hp : p x with
      | true =>
        rw [hp, if_pos rfl] at ho
        rw [hp] at hc
        repeat' ((conv => whnf); first | exact trivial | (refine nv_ (ln x) (by first | (exact aggLn (by simp [h2, hxe]; done); done) | fail) ?_) | refine k_call _ (hc) ?_ | refine nT_ ?_ | refine aE1 ?_ | refine aE0 ?_ | refine aN1 ?_ | refine aN0 ?_ | refine aD1 ?_ | refine aD0 ?_ | refine nE_ (fun hq => ?_) (fun hq => ?_) | refine nN_ (fun hq => ?_) (fun hq => ?_) | refine nD_ (fun hq => ?_) (fun hq => ?_) | refine rb1 ?_ | refine rb0 ?_ | refine rbx ?_ | refine rix ?_ | (refine And.intro (by first | ((simp; omega); done) | (exact cells8 h8 (by simp only [Int.toNat_natCast]; omega); done) | fail) ?_) | refine aS ?_ | fail)
      | false =>
        rw [hp, if_neg (by simp)] at ho
        rw [hp] at hc
        repeat' ((conv => whnf); first | exact trivial | (refine nv_ (ln x) (by first | (exact aggLn (by simp [h2, hxe]; done); done) | fail) ?_) | refine k_call _ (hc) ?_ | refine nT_ ?_ | refine aE1 ?_ | refine aE0 ?_ | refine aN1 ?_ | refine aN0 ?_ | refine aD1 ?_ | refine aD0 ?_ | refine nE_ (fun hq => ?_) (fun hq => ?_) | refine nN_ (fun hq => ?_) (fun hq => ?_) | refine nD_ (fun hq => ?_) (fun hq => ?_) | refine rb1 ?_ | refine rb0 ?_ | refine rbx ?_ | refine rix ?_ | (refine And.intro (by first | ((simp; omega); done) | (exact cells8 h8 (by simp only [Int.toNat_natCast]; omega); done) | fail) ?_) | refine aS ?_ | fail)
        exact ⟨i + 1, ⟨by omega, ho⟩, by omega, by repeat' (first | exact trivial | exact LeV.same _ | exact LeB.same _ | exact rfl | exact fun _ _ _ => trivial | exact lI | exact LeV.nil _ _ _ | exact lB | refine leBd ?_ | refine leOwn ?_ | refine And.intro ?_ ?_)⟩
    · have : i = l.length := by omega
      subst this
      rw [List.drop_length] at ho
      repeat' ((conv => whnf); first | exact trivial | refine nT_ ?_ | refine aE1 ?_ | refine aE0 ?_ | refine aN1 ?_ | refine aN0 ?_ | refine aD1 ?_ | refine aD0 ?_ | refine nE_ (fun hq => ?_) (fun hq => ?_) | refine nN_ (fun hq => ?_) (fun hq => ?_) | refine nD_ (fun hq => ?_) (fun hq => ?_) | refine rb1 ?_ | refine rb0 ?_ | refine rbx ?_ | refine rix ?_ | refine aS ?_ | fail)
      exact ⟨(), ho.symm, by repeat' (first | exact trivial | exact LeV.same _ | exact LeB.same _ | exact rfl | exact fun _ _ _ => trivial | exact lI | exact LeV.nil _ _ _ | exact lB | refine leBd ?_ | refine leOwn ?_ | refine And.intro ?_ ?_)⟩
  rintro - hr
  repeat' ((conv => whnf); first | exact trivial | refine nT_ ?_ | refine aE1 ?_ | refine aE0 ?_ | refine aN1 ?_ | refine aN0 ?_ | refine aD1 ?_ | refine aD0 ?_ | refine nE_ (fun hq => ?_) (fun hq => ?_) | refine nN_ (fun hq => ?_) (fun hq => ?_) | refine nD_ (fun hq => ?_) (fun hq => ?_) | refine rb1 ?_ | refine rb0 ?_ | refine rbx ?_ | refine rix ?_ | refine aS ?_ | (exact ri hr.symm trivial) | fail)
abbrev caps3 (s p f : Int) : List T := [.cptr [I s] 0, .cptr [I p] 0, .cptr [I f] 0]
theorem t_Find1 (x : List Int) (hx : x.length = 8) (s p f : Int) : DCalls Tryd.prog 56 (ln x :: caps3 s p f) (.bool (isN s p f x)) := by
  obtain ⟨a, b, c, d, e, f', g, j, rfl⟩ := ex8 hx
  have hO := t_of [a, b, c, d, e, f', g, j] rfl
  refine dcalls_low (rs := [.tmp 5]) mixed Tryd.func56 l56 rfl rfl rfl (r := [.bool _]) (Nat.le_of_ble_eq_true rfl) ?_
  repeat' ((conv => whnf); first | exact trivial | refine k_call _ (hO) ?_ | (refine nb_ (isN s p f [a, b, c, d, e, f', g, j]) (show (a == s && (b == p && (c == f && true))) = _ by rw [Bool.and_true]; rfl) ?_) | refine nT_ ?_ | refine aE1 ?_ | refine aE0 ?_ | refine aN1 ?_ | refine aN0 ?_ | refine aD1 ?_ | refine aD0 ?_ | refine nE_ (fun hq => ?_) (fun hq => ?_) | refine nN_ (fun hq => ?_) (fun hq => ?_) | refine nD_ (fun hq => ?_) (fun hq => ?_) | refine rb1 ?_ | refine rb0 ?_ | refine rbx ?_ | refine rix ?_ | (refine And.intro (by first | (exact ⟨⟨rfl, rfl, rfl, trivial⟩, ⟨rfl, rfl, rfl, trivial⟩⟩; done) | fail) ?_) | refine aS ?_ | fail)
def fnd (ls : List (List Int)) (s p f : Int) : T := match ls.find? (isN s p f) with
  | some x => .tup [ln x, .bool true]
  | none => .tup [ln [0, 0, 0, 0, 0, 0, 0, 0], .bool false]
theorem t_Find (n i : Int) (ls : List (List Int)) (pv : List Int) (s p f : Int) (hl : ls.length < 2 ^ 60) (hx : ∀ x ∈ ls, x.length = 8) (hp : pv.length = 16) : DCalls Tryd.prog 30 [rcT n i ls pv, I s, I p, I f] (fnd ls s p f) := by
  have hI := t_IndexLine 56 (isN s p f) (.cptr [I s] 0) (.cptr [I p] 0) (.cptr [I f] 0) ls hl hx (fun x h => t_Find1 x (hx x h) s p f)
  have hlen : (rcC n i ls pv).length = 19 := by simp [hp]
  unfold fnd
  rcases ixP_find (isN s p f) ls 0 (Int.le_refl 0) with ⟨h1, h2⟩ | ⟨k, x, h1, h2, h3, h4⟩
  · rw [h2]
    rw [h1] at hI
    refine dcalls_low (rs := [.cell 8 36, .tmp 9]) mixed Tryd.func30 l30 rfl rfl rfl (r := [_, _]) (Nat.le_of_ble_eq_true rfl) ?_
    repeat' ((conv => whnf); first | exact trivial | refine k_call _ (hI) ?_ | refine nT_ ?_ | refine aE1 ?_ | refine aE0 ?_ | refine aN1 ?_ | refine aN0 ?_ | refine aD1 ?_ | refine aD0 ?_ | refine nE_ (fun hq => ?_) (fun hq => ?_) | refine nN_ (fun hq => ?_) (fun hq => ?_) | refine nD_ (fun hq => ?_) (fun hq => ?_) | refine rb1 ?_ | refine rb0 ?_ | refine rbx ?_ | refine rix ?_ | (refine And.intro (by first | (exact hlen; done) | fail) ?_) | refine aS ?_ | fail)
  · rw [h4]
    rw [h1, Int.zero_add] at hI
    obtain ⟨a, b, c, d, e, f', g, j, rfl⟩ := ex8 (hx x (List.mem_of_getElem? h2))
    refine dcalls_low (rs := [.cell 8 36, .tmp 9]) mixed Tryd.func30 l30 rfl rfl rfl (r := [_, _]) (Nat.le_of_ble_eq_true rfl) ?_
    repeat' ((conv => whnf); first | exact trivial | refine k_call _ (hI) ?_ | (refine nv_ (ln [a, b, c, d, e, f', g, j]) (by first | ((simp [h2]; done); done) | fail) ?_) | refine nT_ ?_ | refine aE1 ?_ | refine aE0 ?_ | refine aN1 ?_ | refine aN0 ?_ | refine aD1 ?_ | refine aD0 ?_ | refine nE_ (fun hq => ?_) (fun hq => ?_) | refine nN_ (fun hq => ?_) (fun hq => ?_) | refine nD_ (fun hq => ?_) (fun hq => ?_) | refine rb1 ?_ | refine rb0 ?_ | refine rbx ?_ | refine rix ?_ | (refine And.intro (by first | (exact hlen; done) | ((simp; omega); done) | fail) ?_) | refine aS ?_ | fail)
theorem t_at (ls : List (List Int)) (s p f : Int) (hl : ls.length < 2 ^ 60) (hx : ∀ x ∈ ls, x.length = 8) : DCalls Tryd.prog 57 [linesT ls, I s, I p, I f] (I (ixP (isN s p f) ls 0)) := by
  refine dcalls_low (rs := [.tmp 8]) mixed Tryd.func57 l57 rfl rfl rfl (r := [I _]) (Nat.le_of_ble_eq_true rfl) ?_
  repeat' ((conv => whnf); first | exact trivial | refine nT_ ?_ | refine aE1 ?_ | refine aE0 ?_ | refine aN1 ?_ | refine aN0 ?_ | refine aD1 ?_ | refine aD0 ?_ | refine nE_ (fun hq => ?_) (fun hq => ?_) | refine nN_ (fun hq => ?_) (fun hq => ?_) | refine nD_ (fun hq => ?_) (fun hq => ?_) | refine rb1 ?_ | refine rb0 ?_ | refine rbx ?_ | refine rix ?_ | refine aS ?_ | fail)
  refine wpC_loopE 0 (α := Nat) (β := Unit) (fun i => {sl := [(0, .t (linesT ls)), (1, .t (I s)), (2, .t (I p)), (3, .t (I f)), (9, .t (I i))], bx := []})
    (fun i => i ≤ ls.length ∧ ixP (isN s p f) (ls.drop i) i = ixP (isN s p f) ls 0) (fun i => ls.length - i) (fun _ => {sl := [], bx := []}) (fun _ => ixP (isN s p f) ls 0 = -1) 0 ⟨by omega, rfl⟩ ?_ ?_ ?_
  · repeat' (first | exact trivial | exact LeV.same _ | exact LeB.same _ | exact rfl | exact fun _ _ _ => trivial | exact lI | exact LeV.nil _ _ _ | exact lB | refine leBd ?_ | refine leOwn ?_ | refine And.intro ?_ ?_)
  · rintro i ⟨hi, ho⟩
    rcases Nat.lt_or_ge i ls.length with h2 | h2
    · rw [ixP_drop _ h2] at ho
      obtain ⟨a, b, c, d, e, f', g, j, hxe⟩ := ex8 (hx ls[i] (List.getElem_mem h2))
      rw [hxe] at ho
      have hyes : (a = s ∧ b = p ∧ c = f) → (i : Int) = ixP (isN s p f) ls 0 := fun h => by
        rw [if_pos (by simp [isN, h])] at ho; exact ho
      have hno : ¬ (a = s ∧ b = p ∧ c = f) → ixP (isN s p f) (ls.drop (i + 1)) (i + 1 : Nat) = ixP (isN s p f) ls 0 := fun h => by
        rw [if_neg (by simpa [isN] using h)] at ho; exact ho
      repeat' ((conv => whnf); first | exact trivial | (refine now_D1 (by simp; omega) ?_) | (refine nv_ (ln [a, b, c, d, e, f', g, j]) (by first | ((simp [h2, hxe]; done); done) | fail) ?_) | refine nT_ ?_ | refine aE1 ?_ | refine aE0 ?_ | refine aN1 ?_ | refine aN0 ?_ | refine aD1 ?_ | refine aD0 ?_ | refine nE_ (fun hq => ?_) (fun hq => ?_) | refine nN_ (fun hq => ?_) (fun hq => ?_) | refine nD_ (fun hq => ?_) (fun hq => ?_) | refine rb1 ?_ | refine rb0 ?_ | refine rbx ?_ | refine rix ?_ | (refine And.intro (by first | ((simp; omega); done) | fail) ?_) | refine aS ?_ | (exact ri (hyes (by omega)) trivial) | (exact ⟨i + 1, ⟨by omega, hno (by omega)⟩, by omega, by repeat' (first | exact trivial | exact LeV.same _ | exact LeB.same _ | exact rfl | exact fun _ _ _ => trivial | exact lI | exact LeV.nil _ _ _ | exact lB | refine leBd ?_ | refine leOwn ?_ | refine And.intro ?_ ?_)⟩) | fail)
    · have : i = ls.length := by omega
      subst this
      rw [List.drop_length] at ho
      repeat' ((conv => whnf); first | exact trivial | refine now_D0 (by simp) ?_ | refine nT_ ?_ | refine aE1 ?_ | refine aE0 ?_ | refine aN1 ?_ | refine aN0 ?_ | refine aD1 ?_ | refine aD0 ?_ | refine nE_ (fun hq => ?_) (fun hq => ?_) | refine nN_ (fun hq => ?_) (fun hq => ?_) | refine nD_ (fun hq => ?_) (fun hq => ?_) | refine rb1 ?_ | refine rb0 ?_ | refine rbx ?_ | refine rix ?_ | refine aS ?_ | fail)
      exact ⟨(), ho.symm, by repeat' (first | exact trivial | exact LeV.same _ | exact LeB.same _ | exact rfl | exact fun _ _ _ => trivial | exact lI | exact LeV.nil _ _ _ | exact lB | refine leBd ?_ | refine leOwn ?_ | refine And.intro ?_ ?_)⟩
  rintro - hr
  repeat' ((conv => whnf); first | exact trivial | refine nT_ ?_ | refine aE1 ?_ | refine aE0 ?_ | refine aN1 ?_ | refine aN0 ?_ | refine aD1 ?_ | refine aD0 ?_ | refine nE_ (fun hq => ?_) (fun hq => ?_) | refine nN_ (fun hq => ?_) (fun hq => ?_) | refine nD_ (fun hq => ?_) (fun hq => ?_) | refine rb1 ?_ | refine rb0 ?_ | refine rbx ?_ | refine rix ?_ | refine aS ?_ | (exact ri hr.symm trivial) | fail)
theorem t_refFind (n i : Int) (ls : List (List Int)) (pv : List Int) (s p f : Int) (hl : ls.length < 2 ^ 60) (hx : ∀ x ∈ ls, x.length = 8) (hp : pv.length = 16) : DCalls Tryd.prog 31 [rcT n i ls pv, I s, I p, I f] (fnd ls s p f) := by
  have hI := t_at ls s p f hl hx
  have hlen : (rcC n i ls pv).length = 19 := by simp [hp]
  unfold fnd
  rcases ixP_find (isN s p f) ls 0 (Int.le_refl 0) with ⟨h1, h2⟩ | ⟨k, x, h1, h2, h3, h4⟩
  · rw [h2]
    rw [h1] at hI
    refine dcalls_low (rs := [.cell 8 36, .tmp 9]) mixed Tryd.func31 l31 rfl rfl rfl (r := [_, _]) (Nat.le_of_ble_eq_true rfl) ?_
    repeat' ((conv => whnf); first | exact trivial | refine k_call _ (hI) ?_ | refine nT_ ?_ | refine aE1 ?_ | refine aE0 ?_ | refine aN1 ?_ | refine aN0 ?_ | refine aD1 ?_ | refine aD0 ?_ | refine nE_ (fun hq => ?_) (fun hq => ?_) | refine nN_ (fun hq => ?_) (fun hq => ?_) | refine nD_ (fun hq => ?_) (fun hq => ?_) | refine rb1 ?_ | refine rb0 ?_ | refine rbx ?_ | refine rix ?_ | (refine And.intro (by first | (exact hlen; done) | fail) ?_) | refine aS ?_ | fail)
  · rw [h4]
    rw [h1, Int.zero_add] at hI
    obtain ⟨a, b, c, d, e, f', g, j, rfl⟩ := ex8 (hx x (List.mem_of_getElem? h2))
    refine dcalls_low (rs := [.cell 8 36, .tmp 9]) mixed Tryd.func31 l31 rfl rfl rfl (r := [_, _]) (Nat.le_of_ble_eq_true rfl) ?_
    repeat' ((conv => whnf); first | exact trivial | refine k_call _ (hI) ?_ | (refine nv_ (ln [a, b, c, d, e, f', g, j]) (by first | ((simp [h2]; done); done) | fail) ?_) | refine nT_ ?_ | refine aE1 ?_ | refine aE0 ?_ | refine aN1 ?_ | refine aN0 ?_ | refine aD1 ?_ | refine aD0 ?_ | refine nE_ (fun hq => ?_) (fun hq => ?_) | refine nN_ (fun hq => ?_) (fun hq => ?_) | refine nD_ (fun hq => ?_) (fun hq => ?_) | refine rb1 ?_ | refine rb0 ?_ | refine rbx ?_ | refine rix ?_ | (refine And.intro (by first | (exact hlen; done) | ((simp; omega); done) | fail) ?_) | refine aS ?_ | fail)
end Go.RC
end
section
namespace Go.RC
open Go Go.DL Go.Proofs
set_option maxRecDepth 100000
set_option maxHeartbeats 1000000
structure Rc where
  n : Int
  i : Int
  ls : List (List Int)
  pv : List Int
abbrev rc (r : Rc) : T := rcT r.n r.i r.ls r.pv
abbrev Rc.ok (r : Rc) : Prop := okR r.n r.i r.ls r.pv ∧ r.ls.length < 2 ^ 20
abbrev rcs (l : List Rc) : T := .slice 19 (l.map rc)
abbrev Rc.dg (r : Rc) : List Int := dgR r.n r.i r.ls r.pv
def chkR (r : Rc) : Int := chk r.n r.i r.ls
abbrev zero16 : List Int := [0, 0, 0, 0, 0, 0, 0, 0, 0, 0, 0, 0, 0, 0, 0, 0]
theorem rc_len {r : Rc} (h : r.ok) : (rcC r.n r.i r.ls r.pv).length = 19 := by simp [h.1.hp]
theorem eltRc {l : List Rc} {j : Nat} {r : Rc} (h : l[j]? = some r) : ((l.map rc)[j]?.getD .nil) = rc r := by
  rw [List.getElem?_map, h]; rfl
theorem aggPv2 {n i : Int} {ls : List (List Int)} {pv : List Int} {z : List T} (hz : z.length = 19) (hp : pv.length = 16) : T.agg (((putL z 0 19 (rcC n i ls pv)).drop 3).take 16) = dg16 pv := by
  rw [putL_all hz]; exact aggPv hp
abbrev z19 : List T := [I 0, I 0, .nil, Y 0, Y 0, Y 0, Y 0, Y 0, Y 0, Y 0, Y 0, Y 0, Y 0, Y 0, Y 0, Y 0, Y 0, Y 0, Y 0]
theorem with19 {f : FuncId} {n i : Int} {ls : List (List Int)} {pv : List Int} {r : T} (h : DCalls Tryd.prog f [rcT n i ls pv] r) : DCalls Tryd.prog f [.agg (putL z19 0 19 (rcC n i ls pv))] r := by
  rw [putL_all (n := 19) (cs := z19) rfl]; exact h
theorem with19F {f : FuncId} {n i : Int} {ls : List (List Int)} {pv : List Int} {a b c r : T} (h : DCalls Tryd.prog f [rcT n i ls pv, a, b, c] r) : DCalls Tryd.prog f [.agg (putL z19 0 19 (rcC n i ls pv)), a, b, c] r := by
  rw [putL_all (n := 19) (cs := z19) rfl]; exact h
def ver (node : Int) : Nat → List Int → List Rc → Int × Int
  | k, _, [] => (k, 0)
  | k, pv, r :: l => if chkR r ≠ 0 then (k, chkR r) else if r.n ≠ node then (k, 1) else if r.i ≠ k then (k, 25) else if r.pv ≠ pv then (k, 7) else ver node (k + 1) r.dg l
theorem ver_drop {node : Int} {l : List Rc} {k : Nat} {pv : List Int} (h : k < l.length) : ver node k pv (l.drop k) = if chkR l[k] ≠ 0 then ((k : Int), chkR l[k]) else if l[k].n ≠ node then ((k : Int), 1) else if l[k].i ≠ k then ((k : Int), 25) else if l[k].pv ≠ pv then ((k : Int), 7) else ver node (k + 1) l[k].dg (l.drop (k + 1)) := by
  rw [List.drop_eq_getElem_cons h]
  rfl
abbrev verT (x : Int × Int) : T := .tup [I x.1, I x.2]
theorem t_Verify (node : Int) (l : List Rc) (hl : l.length < 2 ^ 40) (hr : ∀ r ∈ l, r.ok) : DCalls Tryd.prog 22 [I node, rcs l] (verT (ver node 0 zero16 l)) := by
  refine dcalls_low (rs := [.tmp 4, .tmp 5]) mixed Tryd.func22 l22 rfl rfl rfl (r := [I _, I _]) (Nat.le_of_ble_eq_true rfl) ?_
  repeat' ((conv => whnf); first | exact trivial | refine nT_ ?_ | refine aE1 ?_ | refine aE0 ?_ | refine aN1 ?_ | refine aN0 ?_ | refine aD1 ?_ | refine aD0 ?_ | refine nE_ (fun hq => ?_) (fun hq => ?_) | refine nN_ (fun hq => ?_) (fun hq => ?_) | refine nD_ (fun hq => ?_) (fun hq => ?_) | refine rb1 ?_ | refine rb0 ?_ | refine rbx ?_ | refine rix ?_ | refine aS ?_ | fail)
  refine wpC_loopE 0 (α := Nat × List Int) (β := Unit) (fun q => {sl := [(0, .t (I node)), (1, .t (rcs l)), (6, .ptr 6 0), (10, .t (rcs l)), (11, .t (I l.length)), (12, .t (I q.1))], bx := [(6, .d 16 (q.2.map Y))]})
    (fun q => q.1 ≤ l.length ∧ q.2.length = 16 ∧ ver node q.1 q.2 (l.drop q.1) = ver node 0 zero16 l) (fun q => l.length - q.1) (fun _ => {sl := [(1, .t (rcs l))], bx := []}) (fun _ => ver node 0 zero16 l = ((l.length : Int), 0)) (0, zero16) ⟨by simp, rfl, rfl⟩ ?_ ?_ ?_
  · repeat' (first | ((refine leI ?_; simp; done)) | exact trivial | exact LeV.same _ | exact LeB.same _ | exact rfl | exact fun _ _ _ => trivial | exact lI | exact LeV.nil _ _ _ | exact lB | refine leBd ?_ | refine leOwn ?_ | refine And.intro ?_ ?_)
  · rintro ⟨k, pv⟩ ⟨hk, hpl, ho⟩
    dsimp only at hk hpl ho
    rcases Nat.lt_or_ge k l.length with h2 | h2
    · rw [ver_drop h2] at ho
      have hok := hr l[k] (List.getElem_mem h2)
      have hxe : l[k]? = some l[k] := List.getElem?_eq_getElem h2
      generalize l[k] = r at ho hok hxe
      obtain ⟨n, i, ls, rp⟩ := r
      have hC := with19 (t_Check n i ls rp (by have := hok.2; dsimp only at this; omega) hok.1.l8 hok.1.hp)
      have hD := with19 (t_Digest n i ls rp hok.1 hok.2)
      have hdl := dgR_len n i ls rp
      have hp1 : rp.length = 16 := hok.1.hp
      have hlen : (rcC n i ls rp).length = 19 := rc_len hok
      have hf : chk n i ls = chkR ⟨n, i, ls, rp⟩ := rfl
      dsimp only at ho
      rw [hf] at hC
      generalize chkR ⟨n, i, ls, rp⟩ = e at *
      by_cases c0 : e = 0
      case neg =>
        rw [if_pos c0] at ho
        repeat' ((conv => whnf); first | exact trivial | (refine nv_ (rcT n i ls rp) (by first | (exact eltRc (r := ⟨n, i, ls, rp⟩) (by simp only [Int.toNat_natCast]; exact hxe); done) | fail) ?_) | refine k_call _ (hC) ?_ | refine now_N1 c0 ?_ | refine nT_ ?_ | refine aE1 ?_ | refine aE0 ?_ | refine aN1 ?_ | refine aN0 ?_ | refine aD1 ?_ | refine aD0 ?_ | refine nE_ (fun hq => ?_) (fun hq => ?_) | refine nN_ (fun hq => ?_) (fun hq => ?_) | refine nD_ (fun hq => ?_) (fun hq => ?_) | refine rb1 ?_ | refine rb0 ?_ | refine rbx ?_ | refine rix ?_ | (refine And.intro (by first | ((simp; omega); done) | (exact hlen; done) | (exact ⟨hlen, Nat.le_of_ble_eq_true rfl⟩; done) | fail) ?_) | refine aS ?_ | (exact ri (by rw [← ho]) (ri (by rw [← ho]) trivial)) | (exact ri (by rw [← ho]) trivial) | fail)
      subst c0
      rw [if_neg (by simp)] at ho
      by_cases c1 : n = node
      case neg =>
        rw [if_pos c1] at ho
        repeat' ((conv => whnf); first | exact trivial | (refine nv_ (rcT n i ls rp) (by first | (exact eltRc (r := ⟨n, i, ls, rp⟩) (by simp only [Int.toNat_natCast]; exact hxe); done) | fail) ?_) | refine k_call _ (hC) ?_ | refine now_N1 c1 ?_ | refine nT_ ?_ | refine aE1 ?_ | refine aE0 ?_ | refine aN1 ?_ | refine aN0 ?_ | refine aD1 ?_ | refine aD0 ?_ | refine nE_ (fun hq => ?_) (fun hq => ?_) | refine nN_ (fun hq => ?_) (fun hq => ?_) | refine nD_ (fun hq => ?_) (fun hq => ?_) | refine rb1 ?_ | refine rb0 ?_ | refine rbx ?_ | refine rix ?_ | (refine And.intro (by first | ((simp; omega); done) | (exact hlen; done) | (exact ⟨hlen, Nat.le_of_ble_eq_true rfl⟩; done) | fail) ?_) | refine aS ?_ | (exact ri (by rw [← ho]) (ri (by rw [← ho]) trivial)) | (exact ri (by rw [← ho]) trivial) | fail)
      rw [if_neg (by simpa using c1)] at ho
      by_cases c2 : i = k
      case neg =>
        rw [if_pos c2] at ho
        repeat' ((conv => whnf); first | exact trivial | (refine nv_ (rcT n i ls rp) (by first | (exact eltRc (r := ⟨n, i, ls, rp⟩) (by simp only [Int.toNat_natCast]; exact hxe); done) | fail) ?_) | refine k_call _ (hC) ?_ | refine now_N0 c1 ?_ | refine now_N1 c2 ?_ | refine nT_ ?_ | refine aE1 ?_ | refine aE0 ?_ | refine aN1 ?_ | refine aN0 ?_ | refine aD1 ?_ | refine aD0 ?_ | refine nE_ (fun hq => ?_) (fun hq => ?_) | refine nN_ (fun hq => ?_) (fun hq => ?_) | refine nD_ (fun hq => ?_) (fun hq => ?_) | refine rb1 ?_ | refine rb0 ?_ | refine rbx ?_ | refine rix ?_ | (refine And.intro (by first | ((simp; omega); done) | (exact hlen; done) | (exact ⟨hlen, Nat.le_of_ble_eq_true rfl⟩; done) | fail) ?_) | refine aS ?_ | (exact ri (by rw [← ho]) (ri (by rw [← ho]) trivial)) | (exact ri (by rw [← ho]) trivial) | fail)
      rw [if_neg (by simpa using c2)] at ho
      by_cases c3 : rp = pv
      case neg =>
        rw [if_pos c3] at ho
        repeat' ((conv => whnf); first | exact trivial | (refine nv_ (rcT n i ls rp) (by first | (exact eltRc (r := ⟨n, i, ls, rp⟩) (by simp only [Int.toNat_natCast]; exact hxe); done) | fail) ?_) | refine k_call _ (hC) ?_ | refine now_N0 c1 ?_ | refine now_N0 c2 ?_ | (refine nv_ (dg16 rp) (by first | (exact aggPv2 rfl hp1; done) | fail) ?_) | refine nb_ (!false) (neY (decide_eq_false c3)) ?_ | refine nT_ ?_ | refine aE1 ?_ | refine aE0 ?_ | refine aN1 ?_ | refine aN0 ?_ | refine aD1 ?_ | refine aD0 ?_ | refine nE_ (fun hq => ?_) (fun hq => ?_) | refine nN_ (fun hq => ?_) (fun hq => ?_) | refine nD_ (fun hq => ?_) (fun hq => ?_) | refine rb1 ?_ | refine rb0 ?_ | refine rbx ?_ | refine rix ?_ | (refine And.intro (by first | ((simp; omega); done) | (exact hlen; done) | (exact ⟨hlen, Nat.le_of_ble_eq_true rfl⟩; done) | (exact ⟨fits16 hp1, fits16 hpl⟩; done) | fail) ?_) | refine aS ?_ | (exact ri (by rw [← ho]) (ri (by rw [← ho]) trivial)) | (exact ri (by rw [← ho]) trivial) | fail)
      rw [if_neg (by simpa using c3)] at ho
      repeat' ((conv => whnf); first | exact trivial | (refine nv_ (rcT n i ls rp) (by first | (exact eltRc (r := ⟨n, i, ls, rp⟩) (by simp only [Int.toNat_natCast]; exact hxe); done) | fail) ?_) | refine k_call _ (hC) ?_ | refine now_N0 c1 ?_ | refine now_N0 c2 ?_ | (refine nv_ (dg16 rp) (by first | (exact aggPv2 rfl hp1; done) | fail) ?_) | refine nb_ (!true) (neY (decide_eq_true c3)) ?_ | refine k_call _ (hD) ?_ | refine nT_ ?_ | refine aE1 ?_ | refine aE0 ?_ | refine aN1 ?_ | refine aN0 ?_ | refine aD1 ?_ | refine aD0 ?_ | refine nE_ (fun hq => ?_) (fun hq => ?_) | refine nN_ (fun hq => ?_) (fun hq => ?_) | refine nD_ (fun hq => ?_) (fun hq => ?_) | refine rb1 ?_ | refine rb0 ?_ | refine rbx ?_ | refine rix ?_ | (refine And.intro (by first | ((simp; omega); done) | (exact hlen; done) | (exact ⟨hlen, Nat.le_of_ble_eq_true rfl⟩; done) | (exact ⟨fits16 hp1, fits16 hpl⟩; done) | (exact ⟨(List.length_map _).trans hdl, Nat.le_of_ble_eq_true rfl⟩; done) | (exact ⟨(List.length_map _).trans hdl, (Nat.le_of_eq ((List.length_map _).trans hpl).symm)⟩; done) | fail) ?_) | refine aS ?_ | fail)
      refine ⟨(k + 1, dgR n i ls rp), ⟨by dsimp only; omega, hdl, ho⟩, by dsimp only; omega, ?_⟩
      repeat' (first | ((refine leBd ?_; exact (putL_all (by simpa using hpl)).symm)) | exact trivial | exact LeV.same _ | exact LeB.same _ | exact rfl | exact fun _ _ _ => trivial | exact lI | exact LeV.nil _ _ _ | exact lB | refine leBd ?_ | refine leOwn ?_ | refine And.intro ?_ ?_)
    · have : k = l.length := by omega
      subst this
      rw [List.drop_length] at ho
      repeat' ((conv => whnf); first | exact trivial | refine nT_ ?_ | refine aE1 ?_ | refine aE0 ?_ | refine aN1 ?_ | refine aN0 ?_ | refine aD1 ?_ | refine aD0 ?_ | refine nE_ (fun hq => ?_) (fun hq => ?_) | refine nN_ (fun hq => ?_) (fun hq => ?_) | refine nD_ (fun hq => ?_) (fun hq => ?_) | refine rb1 ?_ | refine rb0 ?_ | refine rbx ?_ | refine rix ?_ | refine aS ?_ | fail)
      exact ⟨(), ho.symm, by repeat' (first | exact trivial | exact LeV.same _ | exact LeB.same _ | exact rfl | exact fun _ _ _ => trivial | exact lI | exact LeV.nil _ _ _ | exact lB | refine leBd ?_ | refine leOwn ?_ | refine And.intro ?_ ?_)⟩
  rintro - hr
  rw [hr]
  repeat' ((conv => whnf); first | exact trivial | refine nT_ ?_ | refine aE1 ?_ | refine aE0 ?_ | refine aN1 ?_ | refine aN0 ?_ | refine aD1 ?_ | refine aD0 ?_ | refine nE_ (fun hq => ?_) (fun hq => ?_) | refine nN_ (fun hq => ?_) (fun hq => ?_) | refine nD_ (fun hq => ?_) (fun hq => ?_) | refine rb1 ?_ | refine rb0 ?_ | refine rbx ?_ | refine rix ?_ | refine aS ?_ | fail)
theorem t_refVerify (node : Int) (l : List Rc) (hl : l.length < 2 ^ 40) (hr : ∀ r ∈ l, r.ok) : DCalls Tryd.prog 26 [I node, rcs l] (verT (ver node 0 zero16 l)) := by
  refine dcalls_low (rs := [.tmp 4, .tmp 5]) mixed Tryd.func26 l26 rfl rfl rfl (r := [I _, I _]) (Nat.le_of_ble_eq_true rfl) ?_
  repeat' ((conv => whnf); first | exact trivial | refine nT_ ?_ | refine aE1 ?_ | refine aE0 ?_ | refine aN1 ?_ | refine aN0 ?_ | refine aD1 ?_ | refine aD0 ?_ | refine nE_ (fun hq => ?_) (fun hq => ?_) | refine nN_ (fun hq => ?_) (fun hq => ?_) | refine nD_ (fun hq => ?_) (fun hq => ?_) | refine rb1 ?_ | refine rb0 ?_ | refine rbx ?_ | refine rix ?_ | refine aS ?_ | fail)
  refine wpC_loopE 0 (α := Nat × List Int) (β := Unit) (fun q => {sl := [(0, .t (I node)), (1, .t (rcs l)), (6, .ptr 6 0), (7, .t (I q.1))], bx := [(6, .d 16 (q.2.map Y))]})
    (fun q => q.1 ≤ l.length ∧ q.2.length = 16 ∧ ver node q.1 q.2 (l.drop q.1) = ver node 0 zero16 l) (fun q => l.length - q.1) (fun _ => {sl := [(1, .t (rcs l))], bx := []}) (fun _ => ver node 0 zero16 l = ((l.length : Int), 0)) (0, zero16) ⟨by simp, rfl, rfl⟩ ?_ ?_ ?_
  · repeat' (first | exact trivial | exact LeV.same _ | exact LeB.same _ | exact rfl | exact fun _ _ _ => trivial | exact lI | exact LeV.nil _ _ _ | exact lB | refine leBd ?_ | refine leOwn ?_ | refine And.intro ?_ ?_)
  · rintro ⟨k, pv⟩ ⟨hk, hpl, ho⟩
    dsimp only at hk hpl ho
    rcases Nat.lt_or_ge k l.length with h2 | h2
    · rw [ver_drop h2] at ho
      have hok := hr l[k] (List.getElem_mem h2)
      have hxe : l[k]? = some l[k] := List.getElem?_eq_getElem h2
      generalize l[k] = r at ho hok hxe
      obtain ⟨n, i, ls, rp⟩ := r
      have hC := t_refCheck n i ls rp (by have := hok.2; dsimp only at this; omega) hok.1.l8 hok.1.hp
      have hD := t_refDigest n i ls rp hok.1 hok.2
      have hdl := dgR_len n i ls rp
      have hp1 : rp.length = 16 := hok.1.hp
      have hlen : (rcC n i ls rp).length = 19 := rc_len hok
      have hf : chk n i ls = chkR ⟨n, i, ls, rp⟩ := rfl
      dsimp only at ho
      rw [hf] at hC
      generalize chkR ⟨n, i, ls, rp⟩ = e at *
      by_cases c0 : e = 0
      case neg =>
        rw [if_pos c0] at ho
        repeat' ((conv => whnf); first | exact trivial | (refine now_D1 (by simp; omega) ?_) | (refine nv_ (rcT n i ls rp) (by first | (exact eltRc (r := ⟨n, i, ls, rp⟩) (by simp only [Int.toNat_natCast]; exact hxe); done) | fail) ?_) | refine k_call _ (hC) ?_ | refine now_N1 c0 ?_ | refine nT_ ?_ | refine aE1 ?_ | refine aE0 ?_ | refine aN1 ?_ | refine aN0 ?_ | refine aD1 ?_ | refine aD0 ?_ | refine nE_ (fun hq => ?_) (fun hq => ?_) | refine nN_ (fun hq => ?_) (fun hq => ?_) | refine nD_ (fun hq => ?_) (fun hq => ?_) | refine rb1 ?_ | refine rb0 ?_ | refine rbx ?_ | refine rix ?_ | (refine And.intro (by first | ((simp; omega); done) | (exact hlen; done) | (exact Nat.le_of_eq hlen.symm; done) | (exact ⟨hlen, Nat.le_of_ble_eq_true rfl⟩; done) | fail) ?_) | refine aS ?_ | (exact ri (by rw [← ho]) (ri (by rw [← ho]) trivial)) | (exact ri (by rw [← ho]) trivial) | fail)
      subst c0
      rw [if_neg (by simp)] at ho
      by_cases c1 : n = node
      case neg =>
        rw [if_pos c1] at ho
        repeat' ((conv => whnf); first | exact trivial | (refine now_D1 (by simp; omega) ?_) | (refine nv_ (rcT n i ls rp) (by first | (exact eltRc (r := ⟨n, i, ls, rp⟩) (by simp only [Int.toNat_natCast]; exact hxe); done) | fail) ?_) | refine k_call _ (hC) ?_ | refine now_N1 c1 ?_ | refine nT_ ?_ | refine aE1 ?_ | refine aE0 ?_ | refine aN1 ?_ | refine aN0 ?_ | refine aD1 ?_ | refine aD0 ?_ | refine nE_ (fun hq => ?_) (fun hq => ?_) | refine nN_ (fun hq => ?_) (fun hq => ?_) | refine nD_ (fun hq => ?_) (fun hq => ?_) | refine rb1 ?_ | refine rb0 ?_ | refine rbx ?_ | refine rix ?_ | (refine And.intro (by first | ((simp; omega); done) | (exact hlen; done) | (exact Nat.le_of_eq hlen.symm; done) | (exact ⟨hlen, Nat.le_of_ble_eq_true rfl⟩; done) | fail) ?_) | refine aS ?_ | (exact ri (by rw [← ho]) (ri (by rw [← ho]) trivial)) | (exact ri (by rw [← ho]) trivial) | fail)
      rw [if_neg (by simpa using c1)] at ho
      by_cases c2 : i = k
      case neg =>
        rw [if_pos c2] at ho
        repeat' ((conv => whnf); first | exact trivial | (refine now_D1 (by simp; omega) ?_) | (refine nv_ (rcT n i ls rp) (by first | (exact eltRc (r := ⟨n, i, ls, rp⟩) (by simp only [Int.toNat_natCast]; exact hxe); done) | fail) ?_) | refine k_call _ (hC) ?_ | refine now_N0 c1 ?_ | refine now_N1 c2 ?_ | refine nT_ ?_ | refine aE1 ?_ | refine aE0 ?_ | refine aN1 ?_ | refine aN0 ?_ | refine aD1 ?_ | refine aD0 ?_ | refine nE_ (fun hq => ?_) (fun hq => ?_) | refine nN_ (fun hq => ?_) (fun hq => ?_) | refine nD_ (fun hq => ?_) (fun hq => ?_) | refine rb1 ?_ | refine rb0 ?_ | refine rbx ?_ | refine rix ?_ | (refine And.intro (by first | ((simp; omega); done) | (exact hlen; done) | (exact Nat.le_of_eq hlen.symm; done) | (exact ⟨hlen, Nat.le_of_ble_eq_true rfl⟩; done) | fail) ?_) | refine aS ?_ | (exact ri (by rw [← ho]) (ri (by rw [← ho]) trivial)) | (exact ri (by rw [← ho]) trivial) | fail)
      rw [if_neg (by simpa using c2)] at ho
      by_cases c3 : rp = pv
      case neg =>
        rw [if_pos c3] at ho
        repeat' ((conv => whnf); first | exact trivial | (refine now_D1 (by simp; omega) ?_) | (refine nv_ (rcT n i ls rp) (by first | (exact eltRc (r := ⟨n, i, ls, rp⟩) (by simp only [Int.toNat_natCast]; exact hxe); done) | fail) ?_) | refine k_call _ (hC) ?_ | refine now_N0 c1 ?_ | refine now_N0 c2 ?_ | (refine nv_ (dg16 rp) (by first | (exact aggPv hp1; done) | fail) ?_) | refine nb_ (!false) (neY (decide_eq_false c3)) ?_ | refine nT_ ?_ | refine aE1 ?_ | refine aE0 ?_ | refine aN1 ?_ | refine aN0 ?_ | refine aD1 ?_ | refine aD0 ?_ | refine nE_ (fun hq => ?_) (fun hq => ?_) | refine nN_ (fun hq => ?_) (fun hq => ?_) | refine nD_ (fun hq => ?_) (fun hq => ?_) | refine rb1 ?_ | refine rb0 ?_ | refine rbx ?_ | refine rix ?_ | (refine And.intro (by first | ((simp; omega); done) | (exact hlen; done) | (exact Nat.le_of_eq hlen.symm; done) | (exact ⟨hlen, Nat.le_of_ble_eq_true rfl⟩; done) | (exact ⟨fits16 hp1, fits16 hpl⟩; done) | fail) ?_) | refine aS ?_ | (exact ri (by rw [← ho]) (ri (by rw [← ho]) trivial)) | (exact ri (by rw [← ho]) trivial) | fail)
      rw [if_neg (by simpa using c3)] at ho
      repeat' ((conv => whnf); first | exact trivial | (refine now_D1 (by simp; omega) ?_) | (refine nv_ (rcT n i ls rp) (by first | (exact eltRc (r := ⟨n, i, ls, rp⟩) (by simp only [Int.toNat_natCast]; exact hxe); done) | fail) ?_) | refine k_call _ (hC) ?_ | refine now_N0 c1 ?_ | refine now_N0 c2 ?_ | (refine nv_ (dg16 rp) (by first | (exact aggPv hp1; done) | fail) ?_) | refine nb_ (!true) (neY (decide_eq_true c3)) ?_ | refine k_call _ (hD) ?_ | refine nT_ ?_ | refine aE1 ?_ | refine aE0 ?_ | refine aN1 ?_ | refine aN0 ?_ | refine aD1 ?_ | refine aD0 ?_ | refine nE_ (fun hq => ?_) (fun hq => ?_) | refine nN_ (fun hq => ?_) (fun hq => ?_) | refine nD_ (fun hq => ?_) (fun hq => ?_) | refine rb1 ?_ | refine rb0 ?_ | refine rbx ?_ | refine rix ?_ | (refine And.intro (by first | ((simp; omega); done) | (exact hlen; done) | (exact Nat.le_of_eq hlen.symm; done) | (exact ⟨hlen, Nat.le_of_ble_eq_true rfl⟩; done) | (exact ⟨fits16 hp1, fits16 hpl⟩; done) | (exact ⟨(List.length_map _).trans hdl, Nat.le_of_ble_eq_true rfl⟩; done) | (exact ⟨(List.length_map _).trans hdl, (Nat.le_of_eq ((List.length_map _).trans hpl).symm)⟩; done) | fail) ?_) | refine aS ?_ | fail)
      refine ⟨(k + 1, dgR n i ls rp), ⟨by dsimp only; omega, hdl, ho⟩, by dsimp only; omega, ?_⟩
      repeat' (first | ((refine leBd ?_; exact (putL_all (by simpa using hpl)).symm)) | exact trivial | exact LeV.same _ | exact LeB.same _ | exact rfl | exact fun _ _ _ => trivial | exact lI | exact LeV.nil _ _ _ | exact lB | refine leBd ?_ | refine leOwn ?_ | refine And.intro ?_ ?_)
    · have : k = l.length := by omega
      subst this
      rw [List.drop_length] at ho
      repeat' ((conv => whnf); first | exact trivial | refine now_D0 (by simp) ?_ | refine nT_ ?_ | refine aE1 ?_ | refine aE0 ?_ | refine aN1 ?_ | refine aN0 ?_ | refine aD1 ?_ | refine aD0 ?_ | refine nE_ (fun hq => ?_) (fun hq => ?_) | refine nN_ (fun hq => ?_) (fun hq => ?_) | refine nD_ (fun hq => ?_) (fun hq => ?_) | refine rb1 ?_ | refine rb0 ?_ | refine rbx ?_ | refine rix ?_ | refine aS ?_ | fail)
      exact ⟨(), ho.symm, by repeat' (first | exact trivial | exact LeV.same _ | exact LeB.same _ | exact rfl | exact fun _ _ _ => trivial | exact lI | exact LeV.nil _ _ _ | exact lB | refine leBd ?_ | refine leOwn ?_ | refine And.intro ?_ ?_)⟩
  rintro - hr
  rw [hr]
  repeat' ((conv => whnf); first | exact trivial | refine nT_ ?_ | refine aE1 ?_ | refine aE0 ?_ | refine aN1 ?_ | refine aN0 ?_ | refine aD1 ?_ | refine aD0 ?_ | refine nE_ (fun hq => ?_) (fun hq => ?_) | refine nN_ (fun hq => ?_) (fun hq => ?_) | refine nD_ (fun hq => ?_) (fun hq => ?_) | refine rb1 ?_ | refine rb0 ?_ | refine rbx ?_ | refine rix ?_ | refine aS ?_ | fail)
end Go.RC
end
section
namespace Go.RC
open Go Go.DL Go.Proofs Go.RowKit
set_option maxRecDepth 100000
def typesR : List TypeId := [23, 25, 3, 4, 5, 36, 44, 47, 49, 51]
theorem typesR_ok : closedB Tryd.prog typesR = true := by kernel_rfl
theorem cells5 : Tryd.prog.cellsOf 5 = 1 := by kernel_rfl
theorem cells36 : Tryd.prog.cellsOf 36 = 8 := by kernel_rfl
theorem cells47 : Tryd.prog.cellsOf 47 = 1 := by kernel_rfl
theorem cells49 : Tryd.prog.cellsOf 49 = 16 := by kernel_rfl
theorem cells51 : Tryd.prog.cellsOf 51 = 19 := by kernel_rfl
theorem wf64 {n : Int} (h : (Lit.int .i64 n).wf = true) : i64 n := by
  simp only [Lit.wf, Bool.and_eq_true, decide_eq_true_eq] at h
  obtain ⟨h1, h2⟩ := h
  have e1 : IntKind.i64.min = -9223372036854775808 := by decide
  have e2 : IntKind.i64.max = 9223372036854775807 := by decide
  rw [e1] at h1; rw [e2] at h2
  unfold i64; omega
theorem wf8 {n : Int} (h : (Lit.int .u8 n).wf = true) : 0 ≤ n ∧ n < 256 := by
  simp only [Lit.wf, Bool.and_eq_true, decide_eq_true_eq] at h
  obtain ⟨h1, h2⟩ := h
  have e1 : IntKind.u8.min = 0 := by decide
  have e2 : IntKind.u8.max = 255 := by decide
  rw [e1] at h1; rw [e2] at h2
  omega
theorem aIntB {us : List T} (h : HasC Tryd.prog 3 us) : ∃ n, mkT Tryd.prog 3 us = I n ∧ 1 ≤ bulkL us := by
  obtain ⟨n, rfl, _⟩ := hasInt h
  exact ⟨n, by unfold mkT; rw [Tryd.underlying3]; rfl, by simp [bulkL, T.bulk]⟩
theorem hasU8 {us : List T} (h : HasC Tryd.prog 5 us) : ∃ n, us = [Y n] ∧ (Lit.int .u8 n).wf = true := by
  cases h with
  | int h n hw => rw [Tryd.underlying5] at h; cases h; exact ⟨n, rfl, hw⟩
  | bool h | str h | nil h | slice h | struct h | array h => rw [Tryd.underlying5] at h; cases h
theorem hasDig {us : List T} (h : HasC Tryd.prog 49 us) : ∃ x : List Int, us = x.map Y ∧ x.length = 16 ∧ areB x := by
  cases h with
  | array h us hl hf =>
    rw [Tryd.underlying49] at h
    cases h
    rw [cells49] at hl
    have key : ∀ i, i < 16 → ∃ n, us[i]? = some (Y n) ∧ (Lit.int .u8 n).wf = true := fun i hi => by
      obtain ⟨n, e, w⟩ := hasU8 (hf i hi)
      rw [cells5, Nat.mul_one, List.take_one] at e
      refine ⟨n, ?_, w⟩
      have : (us.drop i).head? = us[i]? := by rw [List.head?_drop]
      rw [this] at e
      cases hx : us[i]? with
      | none => rw [hx] at e; cases e
      | some x => rw [hx] at e; cases e; rfl
    refine ⟨us.map fun t => match t with | .int _ n => n | _ => 0, ?_, by simpa using hl, fun n hn => ?_⟩
    · refine List.ext_getElem? fun i => ?_
      rcases Nat.lt_or_ge i 16 with hi | hi
      · obtain ⟨n, e, _⟩ := key i hi
        rw [e]
        simp [e]
      · rw [List.getElem?_eq_none (by omega), List.getElem?_eq_none (by simp; omega)]
    · obtain ⟨t, ht, rfl⟩ := List.mem_map.1 hn
      obtain ⟨i, hi⟩ := List.mem_iff_getElem?.1 ht
      obtain ⟨n, e, w⟩ := key i (by have := (List.getElem?_eq_some_iff.1 hi).1; omega)
      rw [e] at hi
      cases hi
      exact wf8 w
  | int h | bool h | str h | nil h | slice h | struct h => rw [Tryd.underlying49] at h; cases h
theorem hasLine {us : List T} (h : HasC Tryd.prog 36 us) : ∃ x : List Int, us = x.map I ∧ x.length = 8 ∧ ∀ n ∈ x, i64 n := by
  cases h with
  | struct h us hl hf =>
    rw [Tryd.underlying36] at h
    cases h
    rw [cells36] at hl
    match us, hl with
    | [a, b, c, d, e, f, g, j], _ =>
      have f0 := hf ⟨"Side", 3, 0, false, "", "", 0⟩ (by simp)
      have f1 := hf ⟨"Port", 3, 1, false, "", "", 8⟩ (by simp)
      have f2 := hf ⟨"Flow", 3, 2, false, "", "", 16⟩ (by simp)
      have f3 := hf ⟨"Count", 3, 3, false, "", "", 24⟩ (by simp)
      have f4 := hf ⟨"Sum", 25, 4, false, "", "", 32⟩ (by simp)
      simp only [cells3, cells25, List.drop, List.take] at f0 f1 f2 f3 f4
      obtain ⟨n0, e0, w0⟩ := hasInt f0
      obtain ⟨n1, e1, w1⟩ := hasInt f1
      obtain ⟨n2, e2, w2⟩ := hasInt f2
      obtain ⟨n3, e3, w3⟩ := hasInt f3
      obtain ⟨x, ex, hx, wx⟩ := hasInts Tryd.underlying25 cells25 f4
      simp only [List.cons.injEq, and_true] at e0 e1 e2 e3
      subst e0; subst e1; subst e2; subst e3
      refine ⟨n0 :: n1 :: n2 :: n3 :: x, by rw [ex]; rfl, by simp [hx], fun n hn => ?_⟩
      simp only [List.mem_cons] at hn
      rcases hn with rfl | rfl | rfl | rfl | hn
      · exact wf64 w0
      · exact wf64 w1
      · exact wf64 w2
      · exact wf64 w3
      · exact wf64 (wx n hn)
  | int h | bool h | str h | nil h | slice h | array h => rw [Tryd.underlying36] at h; cases h
theorem mk36 (us : List T) : mkT Tryd.prog 36 us = .agg us := by unfold mkT; rw [Tryd.underlying36]
theorem mk51 (us : List T) : mkT Tryd.prog 51 us = .agg us := by unfold mkT; rw [Tryd.underlying51]
theorem aLine {us : List T} (h : HasC Tryd.prog 36 us) : ∃ x : List Int, mkT Tryd.prog 36 us = ln x ∧ x.length = 8 ∧ ∀ n ∈ x, i64 n := by
  obtain ⟨x, rfl, hx, hw⟩ := hasLine h
  exact ⟨x, mk36 _, hx, hw⟩
theorem hasLines {us : List T} (h : HasC Tryd.prog 47 us) : ∃ (t : T) (ls : List (List Int)), us = [t] ∧ Les t (linesT ls) ∧ ls.length ≤ bulkL us ∧ ∀ x ∈ ls, x.length = 8 ∧ ∀ y ∈ x, i64 y := by
  cases h with
  | nil h => exact ⟨.nil, [], rfl, Les.nil 8, by simp, by simp⟩
  | slice h xs hx hl =>
    rw [Tryd.underlying47] at h
    cases h
    rw [cells36]
    have key : ∃ ls : List (List Int), xs.map (mkT Tryd.prog 36) = ls.map ln ∧ ls.length ≤ bulkL (xs.map (mkT Tryd.prog 36)) ∧ ∀ x ∈ ls, x.length = 8 ∧ ∀ y ∈ x, i64 y := by
      clear hl
      induction xs with
      | nil => exact ⟨[], rfl, by simp, by simp⟩
      | cons x xs ih =>
        obtain ⟨y, h1, h2, h3⟩ := aLine (hx x (by simp))
        obtain ⟨l, k2, k3, k4⟩ := ih fun y hy => hx y (by simp [hy])
        refine ⟨y :: l, by simp only [List.map_cons, k2, h1], ?_, fun z hz => ?_⟩
        · simp only [List.map_cons, bulkL, List.length_cons]
          rw [h1]
          obtain ⟨a, b, c, d, e, f, g, j, rfl⟩ := ex8 h2
          simp only [ln, T.bulk, List.map_cons, bulkL]
          omega
        · rcases List.mem_cons.1 hz with rfl | hz
          · exact ⟨h2, h3⟩
          · exact k4 z hz
    obtain ⟨ls, k2, k3, k4⟩ := key
    exact ⟨_, ls, rfl, by rw [k2]; exact Les.refl _, by simp only [bulkL, T.bulk]; omega, k4⟩
  | int h | bool h | str h | array h | struct h => rw [Tryd.underlying47] at h; cases h
theorem lesL_refl : ∀ (us : List T), (∀ u ∈ us, u.one = true) → LesL us us
  | [], _ => .nil
  | u :: us, h => .cons (Les.refl _) (h u (by simp)) (lesL_refl us fun x hx => h x (by simp [hx]))
theorem rd_receipt {us : List T} (h : HasC Tryd.prog 51 us) (hb : bulkL us < 2 ^ 20) : ∃ r : Rc, LesL us (rcC r.n r.i r.ls r.pv) ∧ r.ok ∧ 1 ≤ bulkL us := by
  cases h with
  | struct h us hl hf =>
    rw [Tryd.underlying51] at h
    cases h
    rw [cells51] at hl
    match us, hl with
    | a :: b :: c :: ps, hl =>
      have f0 := hf ⟨"Node", 3, 0, false, "", "", 0⟩ (by simp)
      have f1 := hf ⟨"Interval", 3, 1, false, "", "", 8⟩ (by simp)
      have f2 := hf ⟨"Lines", 47, 2, false, "", "", 16⟩ (by simp)
      have f3 := hf ⟨"Prev", 49, 3, false, "", "", 40⟩ (by simp)
      simp only [cells3, cells47, cells49, List.drop, List.take] at f0 f1 f2 f3
      have hp : ps.length = 16 := by simpa using hl
      rw [List.take_of_length_le (by omega)] at f3
      obtain ⟨n, e0, w0⟩ := hasInt f0
      obtain ⟨i, e1, w1⟩ := hasInt f1
      obtain ⟨t, ls, e2, l1, l2, l3⟩ := hasLines f2
      obtain ⟨pv, e3, p1, p2⟩ := hasDig f3
      simp only [List.cons.injEq, and_true] at e0 e1 e2
      subst e0; subst e1; subst e2; subst e3
      refine ⟨⟨n, i, ls, pv⟩, .cons (Les.refl _) rfl (.cons (Les.refl _) rfl (.cons l1 rfl (lesL_refl _ (mones (fun _ => rfl) pv)))), ⟨⟨wf64 w0, wf64 w1, l3, p1, p2⟩, ?_⟩, by simp only [bulkL, T.bulk]; omega⟩
      simp only [bulkL, T.bulk] at hb l2
      show ls.length < 2 ^ 20
      omega
    | [], hl => simp at hl
    | [_], hl => simp at hl
    | [_, _], hl => simp at hl
  | int h | bool h | str h | nil h | slice h | array h => rw [Tryd.underlying51] at h; cases h
theorem aRc {us : List T} (h : HasC Tryd.prog 51 us) (hb : bulkL us < 2 ^ 20) : ∃ r : Rc, Les (mkT Tryd.prog 51 us) (rc r) ∧ r.ok := by
  obtain ⟨r, h1, h2, _⟩ := rd_receipt h hb
  exact ⟨r, by rw [mk51]; exact Les.agg h1, h2⟩
theorem aRcs {us : List T} (h : HasC Tryd.prog 44 us) (hb : bulkL us < 2 ^ 20) : ∃ l : List Rc, Les (mkT Tryd.prog 44 us) (rcs l) ∧ l.length < 2 ^ 20 ∧ ∀ r ∈ l, r.ok := by
  have e : ∀ t, mkT Tryd.prog 44 [t] = t := fun t => by unfold mkT; rw [Tryd.underlying44]; rfl
  cases h with
  | nil h => exact ⟨[], by rw [e]; exact Les.nil 19, by simp, by simp⟩
  | slice h xs hx hl =>
    rw [Tryd.underlying44] at h
    cases h
    rw [e, cells51]
    have em : xs.map (mkT Tryd.prog 51) = xs.map .agg := List.map_congr_left fun x _ => mk51 x
    rw [em] at hb ⊢
    simp only [bulkL, T.bulk] at hb
    have key : ∃ l : List Rc, l.length = xs.length ∧ l.length ≤ bulkL (xs.map .agg) ∧ (∀ r ∈ l, r.ok) ∧ ∀ (i : Nat) x (r : Rc), xs[i]? = some x → l[i]? = some r → LesL x (rcC r.n r.i r.ls r.pv) := by
      clear hl em
      induction xs with
      | nil => exact ⟨[], rfl, by simp, by simp, by simp⟩
      | cons x xs ih =>
        simp only [List.map_cons, bulkL, T.bulk] at hb
        obtain ⟨r, h1, h2, hp⟩ := rd_receipt (hx x (by simp)) (by omega)
        obtain ⟨l, k1, k2, k3, k4⟩ := ih (fun y hy => hx y (by simp [hy])) (by omega)
        refine ⟨r :: l, by simp [k1], by simp only [List.map_cons, bulkL, T.bulk, List.length_cons]; omega, fun s hs => ?_, fun i y s hy hs => ?_⟩
        · rcases List.mem_cons.1 hs with rfl | hs
          · exact h2
          · exact k3 s hs
        · cases i with
          | zero => simp at hy hs; subst hy; subst hs; exact h1
          | succ i => exact k4 i y s (by simpa using hy) (by simpa using hs)
    obtain ⟨l, k1, k2, k3, k4⟩ := key
    refine ⟨l, Les.slice (by simp [k1]) fun i x y hx hy => ?_, by omega, k3⟩
    rw [List.getElem?_map] at hx hy
    obtain ⟨x', hx', rfl⟩ := Option.map_eq_some_iff.1 hx
    obtain ⟨r', hr', rfl⟩ := Option.map_eq_some_iff.1 hy
    exact ⟨k4 i x' r' hx' hr', rc_len (k3 r' (List.mem_of_getElem? hr'))⟩
  | int h | bool h | str h | array h | struct h => rw [Tryd.underlying44] at h; cases h
end Go.RC
end
section
namespace Go.RC
open Go Go.DL Go.Proofs
set_option maxRecDepth 100000
set_option maxHeartbeats 1000000
abbrev nk (k : N3) : T := nm k.1 k.2.1 k.2.2
abbrev sh3 : List Sh := [.int .i64, .int .i64, .int .i64]
abbrev mpT (ks : List N3) (vs : List T) : T := .mapd true sh3 (ks.map nk) vs
noncomputable def ropsOf (id : Nat) (c : Option Code) : Array Oper := match rg0 id c with
  | .region _ ops _ => ops
  | _ => #[]
noncomputable abbrev fA : Option Code := Tryd.f100.body
noncomputable abbrev fK : Option Code := Tryd.f91.body
theorem bA : fA = some (.seq (.region 0 (ropsOf 0 fA) false) (.seq (.seq (.region 1 (ropsOf 1 fA) false)
    (.block 0 (.rangeFunc (.tmp 6) #[7] (.region 2 (ropsOf 2 fA) false) (.block 1 (.region 3 (ropsOf 3 fA) false))))) (.seq (.region 4 (ropsOf 4 fA) false) .ret))) := by kernel_rfl
abbrev isA2 : List DI := [⟨some 5, .alloc [I 0, I 0, I 0], none, []⟩, ⟨none, .store 3 (.tmp 5) (.tmp 7), none, [0, 0]⟩]
abbrev isA3 : List DI := [⟨some 8, .load 1 false (.tmp 2), none, []⟩, ⟨some 9, .load 3 true (.tmp 5), none, []⟩, ⟨some 10, .buildS 83 3 1 [I 0, I 0, I 0] [(0, .tmp 9)], none, [1]⟩,
  ⟨some 11, .append 112 83 3 24 (.tmp 8) (.tmp 10), none, [0, 2]⟩, ⟨none, .store 1 (.tmp 2) (.tmp 11), none, [3, 3, 0, 1, 2, 3]⟩]
theorem bA_0 : lowIs Tryd.prog 13 [] (ropsOf 0 fA) (ropsOf 0 fA).toList = some [⟨some 2, .box 1 (.tmp 0), none, []⟩, ⟨some 4, .mov (.const .nil), none, []⟩] := by kernel_rfl
theorem bA_1 : lowIs Tryd.prog 13 [] (ropsOf 1 fA) (ropsOf 1 fA).toList = some [⟨some 6, .mov (.tmp 1), none, []⟩] := by kernel_rfl
theorem bA_2 : lowIs Tryd.prog 13 [] (ropsOf 2 fA) (ropsOf 2 fA).toList = some isA2 := by kernel_rfl
theorem bA_3 : lowIs Tryd.prog 13 [] (ropsOf 3 fA) (ropsOf 3 fA).toList = some isA3 := by kernel_rfl
theorem bA_4 : lowIs Tryd.prog 13 [] (ropsOf 4 fA) (ropsOf 4 fA).toList = some [⟨some 12, .load 1 false (.tmp 2), none, []⟩, ⟨some 4, .mov (.tmp 12), none, [0, 0]⟩] := by kernel_rfl
noncomputable abbrev yK : Array Oper := ropsOf 3 fK
theorem bK : rg0 3 fK = .region 3 yK false := by kernel_rfl
theorem bK_1 : lowK Tryd.prog 14 yK [0, 1] = some [⟨some 10, .mov (.tmp 0), none, []⟩, ⟨some 11, .load 3 true (.tmp 3), none, []⟩] := by kernel_rfl
theorem bK_2 : lowK Tryd.prog 14 yK [3] = some [⟨some 13, .not (.tmp 12), none, [2]⟩] := by kernel_rfl
theorem bK_o : ∃ o ats, yK[2]? = some o ∧ o.guard = none ∧ o.op = .call { callee := .value (.tmp 10), args := #[.tmp 11], argTypes := ats } ∧ o.dst = some 12 := by
  refine ⟨((ropsOf 3 fK)[2]?).getD default, (match (((ropsOf 3 fK)[2]?).getD default).op with | .call c => c.argTypes | _ => #[]), by kernel_rfl, by kernel_rfl, by kernel_rfl, by kernel_rfl⟩
noncomputable abbrev itA (l d : Nat) (f : FuncId) (tmps : Array Value) : Base → World → Prop := iterCx l (readyRec f tmps 7 (.region 2 (ropsOf 2 fA) false) (.block 1 (.region 3 (ropsOf 3 fA) false)) d)
end Go.RC
end
section
namespace Go.RC
open Go Go.DL Go.Proofs
set_option maxRecDepth 100000
set_option maxHeartbeats 1000000
def permOf (ks : List N3) (xs : List T) : Prop := ∃ js : List Nat, js.Perm (List.range ks.length) ∧ xs = js.map fun j => nk (ks.getD j (0, 0, 0))
theorem range_perm {ix : List Nat} {n : Nat} (hn : ix.Nodup) (hl : ∀ j ∈ ix, j < n) (ha : ∀ j, j < n → j ∈ ix) : ix.Perm (List.range n) :=
  (List.perm_ext_iff_of_nodup hn List.nodup_range).2 fun j => ⟨fun h => List.mem_range.2 (hl j h), fun h => ha j (List.mem_range.1 h)⟩
abbrev outK (ks : List N3) (ix : List Nat) : List T := ix.map fun j => nk (ks.getD j (0, 0, 0))
abbrev esK (ks : List N3) (vs : List T) : List (T × T) := (ks.map nk).zip vs
theorem esK_get {ks : List N3} {vs : List T} {j : Nat} {e : T × T} (h : (esK ks vs)[j]? = some e) : e.1 = nk (ks.getD j (0, 0, 0)) ∧ j < ks.length := by
  rw [List.getElem?_zip_eq_some] at h
  obtain ⟨h1, _⟩ := h
  rw [List.getElem?_map, Option.map_eq_some_iff] at h1
  obtain ⟨k, hk, hk2⟩ := h1
  refine ⟨?_, (List.getElem?_eq_some_iff.1 hk).1⟩
  rw [List.getD_eq_getElem?_getD, hk, ← hk2]; rfl
theorem ent_last (es : List (T × T)) (ix : List Nat) (j : Nat) (e : T × T) (h : es[j]? = some e) : entT es (ix ++ [j]) = .tup [e.1, e.2] := by
  unfold entT
  rw [List.getLast?_concat]
  simp [h]
abbrev WK (l : Nat) (C : Base → World → Prop) (ks : List N3) (vs : List T) (ix : List Nat) (sl : List (Nat × V)) (bx : List (Nat × BX)) : Wk :=
  { sl := (0, .raw (.func (.yield l) #[] #[])) :: (5, .ptr 2005 0) :: sl, bx := (2, .v [.own 3011 83 3 (outK ks ix)]) :: (2005, .itd (esK ks vs) ix) :: bx, gh := [(0, [(2, .ptr 2 0)])], off := 2000, cx := C }
theorem cK_wp (l d : Nat) (f : FuncId) (tmps : Array Value) (ht : tmps.size = 13) (ks : List N3) (vs : List T) (hvs : vs.length = ks.length) (hl : ks.length < 2 ^ 40) (st0 : St)
    (h0 : st0 = ({sl := [(2, .ptr 2 0), (6, .fn 91 [.t (.cptr [mpT ks vs] 0)])], bx := [(2, .v [.own 3011 83 3 []])]} : Wk).mk') :
    wpC Tryd.prog c91 (st0.iter l (readyRec f tmps 7 (.region 2 (ropsOf 2 fA) false) (.block 1 (.region 3 (ropsOf 3 fA) false)) d) [.t (.cptr [mpT ks vs] 0)] 2000)
      (PostI st0 fun st => st.sl 2 = .ptr 2 0 ∧ (∃ xs, permOf ks xs ∧ st.bx 2 = some (.v [.own 3011 83 3 xs])) ∧ ∀ S w, st.cx S w) := by
  subst h0
  have hes : (esK ks vs).length = ks.length := by simp [hvs]
  repeat' ((conv => whnf); first | exact trivial | refine nT_ ?_ | refine aE1 ?_ | refine aE0 ?_ | refine aN1 ?_ | refine aN0 ?_ | refine aD1 ?_ | refine aD0 ?_ | refine nE_ (fun hq => ?_) (fun hq => ?_) | refine nN_ (fun hq => ?_) (fun hq => ?_) | refine nD_ (fun hq => ?_) (fun hq => ?_) | refine rb1 ?_ | refine rb0 ?_ | refine rbx ?_ | refine rix ?_ | refine aS ?_ | fail)
  refine wpC_loopE 0 (α := List Nat) (β := List Nat) (fun ix => WK l (itA l d f tmps) ks vs ix [] []) (fun ix => ix.Nodup ∧ ∀ j ∈ ix, j < ks.length) (fun ix => ks.length - ix.length)
    (fun ix => WK l (itA l d f tmps) ks vs ix [] []) (fun ix => ix.Perm (List.range ks.length)) [] ⟨List.nodup_nil, by simp⟩ ?_ ?_ ?_
  · exact ⟨⟨.same _, .same _, trivial⟩, ⟨.same _, .same _, trivial⟩, ⟨⟨.same _, trivial⟩, trivial⟩, rfl, fun _ _ h => h, rfl⟩
  · rintro ix ⟨hnd, hix⟩
    refine And.intro (fun j hj => by rw [hes]; exact hix j hj) (And.intro ?_ ?_)
    · intro j e he hj
      obtain ⟨he1, hjl⟩ := esK_get he
      have hent := ent_last _ ix j e he
      have hje : (ix ++ [j]).getLast?.getD 0 < (esK ks vs).length := by rw [List.getLast?_concat, hes]; exact hjl
      obtain ⟨e1, e2⟩ := e
      dsimp only at he1 hent
      subst he1
      have hixl : ix.length ≤ ks.length := by
        have := hnd.length_le_of_subset (l₂ := List.range ks.length) (fun j hj => List.mem_range.2 (hix j hj))
        simpa using this
      have hnd' : (ix ++ [j]).Nodup := by
        rw [List.nodup_append]
        exact ⟨hnd, by simp, fun a ha b hb => by rw [List.mem_singleton.1 hb]; exact fun e => hj (e ▸ ha)⟩
      have hix' : ∀ i ∈ ix ++ [j], i < ks.length := fun i hi => by
        rcases List.mem_append.1 hi with h | h
        · exact hix i h
        · rw [List.mem_singleton.1 h]; exact hjl
      have hixl' : (ix ++ [j]).length ≤ ks.length := by
        have := hnd'.length_le_of_subset (l₂ := List.range ks.length) (fun j hj => List.mem_range.2 (hix' j hj))
        simpa using this
      repeat' ((conv => whnf); first | exact trivial | refine nv_ (.tup [nk (ks.getD j (0, 0, 0)), e2]) hent ?_ | refine nT_ ?_ | refine aE1 ?_ | refine aE0 ?_ | refine aN1 ?_ | refine aN0 ?_ | refine aD1 ?_ | refine aD0 ?_ | refine nE_ (fun hq => ?_) (fun hq => ?_) | refine nN_ (fun hq => ?_) (fun hq => ?_) | refine nD_ (fun hq => ?_) (fun hq => ?_) | refine rb1 ?_ | refine rb0 ?_ | refine rbx ?_ | refine rix ?_ | (refine And.intro (by first | (exact ⟨by simp, hje⟩; done) | fail) ?_) | refine aS ?_ | fail)
      obtain ⟨o, ats, o1, o2, o3, o4⟩ := bK_o
      have hsem : ∀ (st : St) (Q : DExit → St → Prop), SemC Tryd.prog 14 (.region 3 yK false) st Q → SemC Tryd.prog 14 (rg0 3 fK) st Q := fun st Q h => by rw [bK]; exact h
      refine hsem _ _ ?_
      refine yield_sem (P := Tryd.prog) (k1 := [0, 1]) (k := 2) (k2 := [3]) (by kernel_rfl) bK_1 rfl bK_2 rfl o1 o2 o3 o4 (by decide) (p := 7) ht (by decide) bA_2 rfl bA_3 rfl 3000 (l := l) (fn := f) (dd := d) (id1 := 2) (id2 := 3) (bl := 1) ?_
      refine ⟨fun _ _ h => h, rfl, ?_⟩
      repeat' ((conv => whnf); first | exact trivial | refine nT_ ?_ | refine aE1 ?_ | refine aE0 ?_ | refine aN1 ?_ | refine aN0 ?_ | refine aD1 ?_ | refine aD0 ?_ | refine nE_ (fun hq => ?_) (fun hq => ?_) | refine nN_ (fun hq => ?_) (fun hq => ?_) | refine nD_ (fun hq => ?_) (fun hq => ?_) | refine rb1 ?_ | refine rb0 ?_ | refine rbx ?_ | refine rix ?_ | (refine And.intro (by first | (exact fun _ _ => trivial; done) | (exact ⟨rfl, Nat.le_of_ble_eq_true rfl⟩; done) | ((simp; omega); done) | (exact .inl rfl; done) | fail) ?_) | refine aS ?_ | fail)
      refine ⟨ix ++ [j], ⟨hnd', hix'⟩, by rw [List.length_append]; simp at hixl' ⊢; omega, ?_⟩
      refine ⟨⟨.same _, .same _, trivial⟩, ⟨?_, .same _, trivial⟩, ⟨⟨.same _, trivial⟩, trivial⟩, rfl, fun _ _ h => h, rfl⟩
      refine .v _ _ ⟨leOwn ?_, trivial⟩
      simp [outK, putL]
    · intro hall
      repeat' ((conv => whnf); first | exact trivial | refine nT_ ?_ | refine aE1 ?_ | refine aE0 ?_ | refine aN1 ?_ | refine aN0 ?_ | refine aD1 ?_ | refine aD0 ?_ | refine nE_ (fun hq => ?_) (fun hq => ?_) | refine nN_ (fun hq => ?_) (fun hq => ?_) | refine nD_ (fun hq => ?_) (fun hq => ?_) | refine rb1 ?_ | refine rb0 ?_ | refine rbx ?_ | refine rix ?_ | refine aS ?_ | fail)
      refine ⟨ix, range_perm hnd hix (fun j hj => hall j (by rw [hes]; exact hj)), ?_⟩
      exact ⟨⟨.same _, .same _, trivial⟩, ⟨.same _, .same _, trivial⟩, ⟨⟨.same _, trivial⟩, trivial⟩, rfl, fun _ _ h => h, rfl⟩
  rintro ix hp
  repeat' ((conv => whnf); first | exact trivial | refine nT_ ?_ | refine aE1 ?_ | refine aE0 ?_ | refine aN1 ?_ | refine aN0 ?_ | refine aD1 ?_ | refine aD0 ?_ | refine nE_ (fun hq => ?_) (fun hq => ?_) | refine nN_ (fun hq => ?_) (fun hq => ?_) | refine nD_ (fun hq => ?_) (fun hq => ?_) | refine rb1 ?_ | refine rb0 ?_ | refine rbx ?_ | refine rix ?_ | refine aS ?_ | fail)
  exact ⟨⟨_, ⟨ix, hp, rfl⟩, rfl⟩, fun _ _ => trivial⟩
theorem upd_same_id {α : Type} {f : Nat → α} {n : Nat} {v : α} (h : f n = v) : upd f n v = f := by
  funext m
  by_cases e : m = n
  · rw [e, upd_same, h]
  · rw [upd_other _ _ _ _ e]
theorem nk_flat (js : List Nat) (ks : List N3) : ∀ t ∈ (js.map fun j => nk (ks.getD j (0, 0, 0))).flatMap T.cells, t.flat = true := fun t ht => by
  simp only [List.mem_flatMap, List.mem_map] at ht
  obtain ⟨x, ⟨j, _, rfl⟩, hx⟩ := ht
  simp only [T.cells, List.mem_cons, List.not_mem_nil, or_false] at hx
  rcases hx with rfl | rfl | rfl <;> rfl
abbrev keysC (ks : List N3) (vs : List T) : T := .clos 91 [.cptr [mpT ks vs] 0]
theorem f_AppendSeq (ks : List N3) (vs : List T) (hvs : vs.length = ks.length) (hl : ks.length < 2 ^ 40) : FCallsR Tryd.prog 100 [.nil, keysC ks vs] 83 3 (permOf ks) := by
  refine fcallsR_mark Tryd.func100 bA rfl (Nat.le_of_ble_eq_true rfl) ?_
  intro S w a0 hsr hdf
  let K0 : St → Prop := fun st => wpIs Tryd.prog [⟨some 6, .mov (.tmp 1), none, []⟩] st fun st =>
    weak { sl := [(2, .ptr 2 0), (6, .t (keysC ks vs))], bx := [(2, .d 1 [.nil])] } st
  have hK0 : wpIs Tryd.prog [⟨some 2, .box 1 (.tmp 0), none, []⟩, ⟨some 4, .mov (.const .nil), none, []⟩] (initSt [.nil, keysC ks vs]) K0 := by
    repeat' ((conv => whnf); first | exact trivial | refine nT_ ?_ | refine aE1 ?_ | refine aE0 ?_ | refine aN1 ?_ | refine aN0 ?_ | refine aD1 ?_ | refine aD0 ?_ | refine nE_ (fun hq => ?_) (fun hq => ?_) | refine nN_ (fun hq => ?_) (fun hq => ?_) | refine nD_ (fun hq => ?_) (fun hq => ?_) | refine rb1 ?_ | refine rb0 ?_ | refine rbx ?_ | refine rix ?_ | refine aS ?_ | fail)
    exact ⟨⟨.same _, .same _, trivial⟩, ⟨.same _, trivial⟩, trivial, rfl, fun _ _ _ => trivial, rfl⟩
  refine wp_seq (region_wp (X := []) (N := 13) hsr bA_0 (fun a1 w1 h1 => ?_) hK0)
  obtain ⟨E1, s1, rfl, k1, k2, k3⟩ := h1
  refine wp_seq (wp_seq (region_wp (X := []) k1 bA_1 (fun a2 w2 h2 => ?_) k3))
  obtain ⟨E2, s2, rfl, k4, k5, k6⟩ := h2
  obtain ⟨E3, e3, k7⟩ := k4.weak k6
  rw [← e3]
  have k8 := k7.reread (k := 6) (k7.sl 6).clos_fn
  obtain ⟨E4, e4, k10⟩ := SR.weak (a := a2) (s := {sl := [(2, .ptr 2 0), (6, .fn 91 [.t (.cptr [mpT ks vs] 0)])], bx := [(2, .v [.own 3011 83 3 []])]}) k8 ⟨⟨.same _, .same _, trivial⟩, ⟨.dv _ _ _ ⟨.nil _ _ _, trivial⟩, trivial⟩, trivial, rfl, fun _ _ _ => trivial, rfl⟩
  rw [← e4]
  refine wp_block ?_
  refine range_wp mixed k10 (fun _ _ => trivial) (y := .tmp 6) rfl (gf := 91) (caps := [.t (.cptr [mpT ks vs] 0)]) rfl Tryd.func91 l91 rfl rfl rfl (Nat.le_of_ble_eq_true rfl) 2000
    (K := fun st => st.sl 2 = .ptr 2 0 ∧ (∃ xs, permOf ks xs ∧ st.bx 2 = some (.v [.own 3011 83 3 xs])) ∧ ∀ S w, st.cx S w) (fun l d f tmps ht => ?_) (fun a5 w5 h5 => ?_)
  · exact cK_wp l d f tmps ht ks vs hvs hl _ rfl
  · obtain ⟨S0', E5, s5, D, rfl, q1, q2, q3, q4, q5, q6, r1, ⟨xs, hxs, r2⟩, r3⟩ := h5
    have q6' : a5.defers = [{ target := .collected D, args := #[] }] := by rw [q6, k5, k2, hdf]
    show Code.wp _ _ _ _ _
    refine wp_seq (region_wp (X := []) q1 bA_4 (K := fun st => (∀ S w, st.cx S w) ∧ st.sl 4 = .own 3011 83 3 xs) (fun a6 w6 h6 => ?_) ?_)
    · obtain ⟨E6, s6, rfl, p1, p2, p3, p4⟩ := h6
      obtain ⟨js, hjs, rfl⟩ := hxs
      refine wp_ret ⟨.inr rfl, S0', E6, s6, D, rfl, p1, q2, q3, q4, q5, by rw [p2, q6'], p3, _, _, ⟨js, hjs, rfl⟩, nk_flat js ks, ?_, .inl ⟨3011, rfl⟩⟩
      have : resV s6 Tryd.f100.results.toList = some [s6.sl 4] := by
        rw [show Tryd.f100.results.toList = [.tmp 4] from rfl]; rfl
      rw [this, p4]
    · obtain ⟨sl5, bx5, gh5, off5, cx5⟩ := s5
      dsimp only at r1 r2 r3
      obtain ⟨g, rfl⟩ : ∃ g, sl5 = upd g 2 (.ptr 2 0) := ⟨sl5, (upd_same_id r1).symm⟩
      obtain ⟨b, rfl⟩ : ∃ b, bx5 = upd b 2 (some (.v [.own 3011 83 3 xs])) := ⟨bx5, (upd_same_id r2).symm⟩
      exact ⟨r3, rfl⟩
theorem f_Collect (ks : List N3) (vs : List T) (hvs : vs.length = ks.length) (hl : ks.length < 2 ^ 40) : FCallsR Tryd.prog 89 [keysC ks vs] 83 3 (permOf ks) := by
  refine fcallsR_low (rs := [.tmp 2]) mixed Tryd.func89 l89 rfl rfl rfl (Nat.le_of_ble_eq_true rfl) ?_
  repeat' ((conv => whnf); first | exact trivial | refine WC_ownR (ts := [.nil, keysC ks vs]) rfl (f_AppendSeq ks vs hvs hl) (fun xs hx => ?_) | refine nT_ ?_ | refine aE1 ?_ | refine aE0 ?_ | refine aN1 ?_ | refine aN0 ?_ | refine aD1 ?_ | refine aD0 ?_ | refine nE_ (fun hq => ?_) (fun hq => ?_) | refine nN_ (fun hq => ?_) (fun hq => ?_) | refine nD_ (fun hq => ?_) (fun hq => ?_) | refine rb1 ?_ | refine rb0 ?_ | refine rbx ?_ | refine rix ?_ | refine aS ?_ | fail)
  obtain ⟨js, hjs, rfl⟩ := hx
  exact ⟨_, _, ⟨js, hjs, rfl⟩, nk_flat js ks, rfl, .inl ⟨_, rfl⟩⟩
end Go.RC
end
section
namespace Go.Proofs
open Go.Shelf
end Go.Proofs
end
section
namespace Go.RC
open Go Go.DL Go.Proofs
set_option maxRecDepth 100000
set_option maxHeartbeats 1000000
theorem sortsN : SortsK Tryd.prog 90 3 :=
  SortsK.of Tryd.laysSort90 3 (fun w => Tryd.isAgg83 w) (fun w => Tryd.sizeOf83 w) (callable_of Tryd.func90 rfl rfl)
theorem WC_sort_nil {P : Program} {f : FuncId} {k : Nat} {u : V} {d : Option Nat} {st : St} {K : St → Prop} (hs : SortsK P f k) (hk : K (st.set d (.t (.tup [])))) : WC P f [.t .nil, u] d st K := by
  refine ⟨hs.callable, fun N w0 S0 E a vs h hvl hv hd => ?_⟩
  have hsz : vs.size = 2 := hvl
  have hv0 := (hv 0 vs[0] _ (by simp [hsz]) rfl).inv_t
  have hvs : vs = #[vs[0], vs[1]] := by
    apply Array.ext
    · simp [hsz]
    · intro i h1 h2
      match i, h1 with
      | 0, _ => rfl
      | 1, _ => rfl
      | i + 2, h1 => omega
  have hsl : vs[0] = .slice none 0 0 := by
    generalize vs[0] = v at hv0
    cases hv0; rfl
  have hcall := hs.none_ none 0 vs[1] E.w
  rw [← hsl, ← hvs] at hcall
  refine hcall.mono ?_
  rintro e' w' ⟨rfl, rfl⟩
  exact ⟨_, rfl, _, _, rfl, hk, set_put h hd (.t _ _ (.tup #[] [] rfl fun i x t hx => by simp at hx))⟩
def cfN : T → T → Int
  | .agg [.int _ a, .int _ b, .int _ c], .agg [.int _ a', .int _ b', .int _ c'] => cmpN (a, b, c) (a', b', c')
  | _, _ => 0
def unk : T → N3
  | .agg [.int _ a, .int _ b, .int _ c] => (a, b, c)
  | _ => (0, 0, 0)
theorem cmpN_irr (a : N3) : ¬ cmpN a a < 0 := by rw [cmpN_lt]; omega
theorem cmpN_tr {a b c : N3} (h : cmpN a b < 0) (k : cmpN b c < 0) : cmpN a c < 0 := by rw [cmpN_lt] at *; omega
theorem cmpN_ntr {a b c : N3} (h : ¬ cmpN a b < 0) (k : ¬ cmpN b c < 0) : ¬ cmpN a c < 0 := by rw [cmpN_lt] at *; omega
theorem cmpN_anti {a b : N3} (h : ¬ cmpN a b < 0) (k : ¬ cmpN b a < 0) : a = b := by
  obtain ⟨a1, a2, a3⟩ := a
  obtain ⟨b1, b2, b3⟩ := b
  rw [cmpN_lt] at *
  simp only at h k
  simp only [Prod.mk.injEq]
  omega
def srt (ks : List N3) : List N3 := ks.mergeSort fun a b => !decide (cmpN b a < 0)
theorem srt_perm (ks : List N3) : (srt ks).Perm ks := List.mergeSort_perm _ _
theorem srt_sorted (ks : List N3) : (srt ks).Pairwise fun a b => ¬ cmpN b a < 0 := by
  have := List.pairwise_mergeSort (le := fun a b : N3 => !decide (cmpN b a < 0)) (fun a b c h k => by
    simp only [Bool.not_eq_true', decide_eq_false_iff_not] at *
    exact cmpN_ntr k h) (fun a b => by
    simp only [Bool.or_eq_true, Bool.not_eq_true', decide_eq_false_iff_not]
    rw [cmpN_lt, cmpN_lt]; omega) ks
  exact this.imp (fun h => by simpa using h)
theorem srt_eq {ks zs : List N3} (hp : zs.Perm ks) (hs : zs.Pairwise fun a b => ¬ cmpN b a < 0) : zs = srt ks :=
  List.Perm.eq_of_pairwise (fun a b _ _ h k => cmpN_anti k h) hs (srt_sorted ks) (hp.trans (srt_perm ks).symm)
theorem permOf_zs {ks : List N3} {xs : List T} (h : permOf ks xs) : ∃ zs : List N3, zs.Perm ks ∧ xs = zs.map nk := by
  obtain ⟨js, hp, rfl⟩ := h
  refine ⟨js.map fun j => ks.getD j (0, 0, 0), ?_, by simp⟩
  have h1 : ((List.range ks.length).map fun j => ks.getD j (0, 0, 0)) = ks := by
    apply List.ext_getElem?
    intro i
    rw [List.getElem?_map]
    by_cases h : i < ks.length
    · simp [h]
    · simp [h]
  have := hp.map (fun j => ks.getD j (0, 0, 0))
  rwa [h1] at this
theorem perm_nk {zs : List N3} {ys : List T} (h : ys.Perm (zs.map nk)) : ∃ zs' : List N3, zs'.Perm zs ∧ ys = zs'.map nk := by
  refine ⟨ys.map unk, ?_, ?_⟩
  · have := h.map unk
    rw [List.map_map] at this
    rwa [show unk ∘ nk = id from rfl, List.map_id] at this
  · rw [List.map_map]
    have : ys.map (nk ∘ unk) = ys.map id := List.map_congr_left fun y hy => by
      obtain ⟨z, _, rfl⟩ := List.mem_map.1 (h.mem_iff.1 hy)
      rfl
    rw [this, List.map_id]
theorem chunk_nk : ∀ (zs : List N3) (n : Nat), zs.length = n → chunk 3 n ((zs.map nk).flatMap T.cells) = zs.map nk
  | [], 0, _ => rfl
  | z :: zs, n + 1, h => by
    show nk z :: chunk 3 n ((zs.map nk).flatMap T.cells) = _
    rw [chunk_nk zs n (by simpa using h)]
    rfl
  | z :: zs, 0, h => by simp at h
  | [], n + 1, h => by simp at h
theorem flat_nk : ∀ (zs : List N3), ((zs.map nk).flatMap T.cells).length = zs.length * 3
  | [] => rfl
  | z :: zs => by
    rw [List.map_cons, List.flatMap_cons, List.length_append, flat_nk zs, List.length_cons]
    show 3 + _ = _
    omega
theorem isnew_srt_nil {bx : Nat → Option BX} : IsNew bx (.t .nil) (.slice 3 ((srt []).map nk)) := by
  rw [show srt [] = [] by simp [srt]]
  exact .nil 3
theorem n_Sorted (ks : List N3) (vs : List T) (hvs : vs.length = ks.length) (hl : ks.length < 2 ^ 40) : NCalls Tryd.prog 70 [keysC ks vs, .clos 52 []] (.slice 3 ((srt ks).map nk)) := by
  refine ncalls_low (rs := [.tmp 4]) mixed Tryd.func70 l70 rfl rfl rfl (Nat.le_of_ble_eq_true rfl) ?_
  repeat' ((conv => whnf); first | exact trivial | refine WC_viewR (ts := [keysC ks vs]) rfl (f_Collect ks vs hvs hl) rfl (fun h0 => ?_) (fun xs hx hc => ?_) | refine nT_ ?_ | refine aE1 ?_ | refine aE0 ?_ | refine aN1 ?_ | refine aN0 ?_ | refine aD1 ?_ | refine aD0 ?_ | refine nE_ (fun hq => ?_) (fun hq => ?_) | refine nN_ (fun hq => ?_) (fun hq => ?_) | refine nD_ (fun hq => ?_) (fun hq => ?_) | refine rb1 ?_ | refine rb0 ?_ | refine rbx ?_ | refine rix ?_ | refine aS ?_ | fail)
  · obtain ⟨zs, hp, h0⟩ := permOf_zs h0
    have : zs = [] := by
      cases zs with
      | nil => rfl
      | cons z zs => cases h0
    subst this
    have : ks = [] := List.nil_perm.1 hp
    subst this
    repeat' ((conv => whnf); first | exact trivial | refine WC_sort_nil sortsN ?_ | refine nT_ ?_ | refine aE1 ?_ | refine aE0 ?_ | refine aN1 ?_ | refine aN0 ?_ | refine aD1 ?_ | refine aD0 ?_ | refine nE_ (fun hq => ?_) (fun hq => ?_) | refine nN_ (fun hq => ?_) (fun hq => ?_) | refine nD_ (fun hq => ?_) (fun hq => ?_) | refine rb1 ?_ | refine rb0 ?_ | refine rbx ?_ | refine rix ?_ | refine aS ?_ | fail)
    exact ⟨.t .nil, rfl, isnew_srt_nil⟩
  · obtain ⟨zs, hp, rfl⟩ := permOf_zs hx
    have hzl : zs.length < 2 ^ 40 := by rw [hp.length_eq]; exact hl
    have hch : chunk 3 (zs.map nk).length (((zs.map nk).flatMap T.cells).drop 0) = zs.map nk := chunk_nk zs _ (by simp)
    repeat' ((conv => whnf); first | exact trivial | (refine WC_sort (n := 7) (off := 0) (len := (zs.map nk).length) (k := 3) (m := (zs.map nk).length * 3) (ts := (zs.map nk).flatMap T.cells) sortsN rfl (by omega) (by decide) (by simp; omega) (.inl rfl) (callable_of Tryd.func52 rfl rfl) cfN ?_ ?_ ?_ ?_ (fun ys hy hps => ?_)) | refine nT_ ?_ | refine aE1 ?_ | refine aE0 ?_ | refine aN1 ?_ | refine aN0 ?_ | refine aD1 ?_ | refine aD0 ?_ | refine nE_ (fun hq => ?_) (fun hq => ?_) | refine nN_ (fun hq => ?_) (fun hq => ?_) | refine nD_ (fun hq => ?_) (fun hq => ?_) | refine rb1 ?_ | refine rb0 ?_ | refine rbx ?_ | refine rix ?_ | refine aS ?_ | fail)
    · rw [hch]
      intro x hx y hy
      obtain ⟨a, _, rfl⟩ := List.mem_map.1 hx
      obtain ⟨b, _, rfl⟩ := List.mem_map.1 hy
      exact t_compare a b
    · rw [hch]
      intro x hx
      obtain ⟨a, _, rfl⟩ := List.mem_map.1 hx
      exact cmpN_irr a
    · rw [hch]
      intro x hx y hy z hz
      obtain ⟨a, _, rfl⟩ := List.mem_map.1 hx
      obtain ⟨b, _, rfl⟩ := List.mem_map.1 hy
      obtain ⟨c, _, rfl⟩ := List.mem_map.1 hz
      exact cmpN_tr
    · rw [hch]
      intro x hx y hy z hz
      obtain ⟨a, _, rfl⟩ := List.mem_map.1 hx
      obtain ⟨b, _, rfl⟩ := List.mem_map.1 hy
      obtain ⟨c, _, rfl⟩ := List.mem_map.1 hz
      exact cmpN_ntr
    · rw [hch] at hy
      obtain ⟨us, hu, rfl⟩ := perm_nk hy
      have hus : us = srt ks := srt_eq (hu.trans hp) ((List.pairwise_map.1 hps).imp fun h => h)
      subst hus
      have hul : (srt ks).length = zs.length := hu.length_eq
      repeat' ((conv => whnf); first | exact trivial | refine nT_ ?_ | refine aE1 ?_ | refine aE0 ?_ | refine aN1 ?_ | refine aN0 ?_ | refine aD1 ?_ | refine aD0 ?_ | refine nE_ (fun hq => ?_) (fun hq => ?_) | refine nN_ (fun hq => ?_) (fun hq => ?_) | refine nD_ (fun hq => ?_) (fun hq => ?_) | refine rb1 ?_ | refine rb0 ?_ | refine rbx ?_ | refine rix ?_ | refine aS ?_ | fail)
      have hln : (zs.map nk).length = (srt ks).length := by rw [List.length_map]; exact hul.symm
      have hpu : putL ((zs.map nk).flatMap T.cells) 0 ((zs.map nk).length * 3) (((srt ks).map nk).flatMap T.cells) = ((srt ks).map nk).flatMap T.cells := putL_all (by rw [flat_nk, List.length_map])
      refine ⟨.view 7 0 (zs.map nk).length 3, rfl, .view 7 0 (zs.map nk).length 3 ((zs.map nk).length * 3) (putL ((zs.map nk).flatMap T.cells) 0 ((zs.map nk).length * 3) (((srt ks).map nk).flatMap T.cells)) _ [7] rfl ?_ ?_⟩
      · rw [hpu]
        intro t ht
        simp only [List.mem_flatMap, List.mem_map] at ht
        obtain ⟨x, ⟨z, _, rfl⟩, hx⟩ := ht
        simp only [T.cells, List.mem_cons, List.not_mem_nil, or_false] at hx
        rcases hx with rfl | rfl | rfl <;> rfl
      · show (cond (Nat.blt 0 3 && Nat.ble (0 + (zs.map nk).length * 3) ((zs.map nk).length * 3)) (some (T.slice 3 (chunk 3 (zs.map nk).length ((putL ((zs.map nk).flatMap T.cells) 0 ((zs.map nk).length * 3) (((srt ks).map nk).flatMap T.cells)).drop 0)), [7])) none) = _
        rw [hpu, Nat.zero_add, List.drop_zero, hln, chunk_nk _ _ rfl]
        have : Nat.ble ((srt ks).length * 3) ((srt ks).length * 3) = true := Nat.ble_eq_true_of_le (Nat.le_refl _)
        rw [this]
        rfl
end Go.RC
end
section
namespace Go.RC
open Go Go.DL Go.Proofs
set_option maxRecDepth 100000
set_option maxHeartbeats 1000000
def cmpL (c d : Int) (s t : List Int) : Int × Int := if c < d ∨ (c = d ∧ s ≠ t) then (0, 26) else (c - d, 0)
theorem t_Compare (x y : List Int) (hx : x.length = 8) (hy : y.length = 8) (hxi : ∀ a ∈ x, i64 a) (hyi : ∀ a ∈ y, i64 a) (hx0 : 0 ≤ x.getD 3 0) (hy0 : 0 ≤ y.getD 3 0) : DCalls Tryd.prog 19 [ln x, ln y] (verT (cmpL (x.getD 3 0) (y.getD 3 0) (x.drop 4) (y.drop 4))) := by
  obtain ⟨a, b, c, d, e, f, g, j, rfl⟩ := ex8 hx
  obtain ⟨a', b', c', d', e', f', g', j', rfl⟩ := ex8 hy
  have hd := hxi d (by simp)
  have hd' := hyi d' (by simp)
  have hx0 : 0 ≤ d := hx0
  have hy0 : 0 ≤ d' := hy0
  obtain ⟨q1, q2⟩ := hd
  obtain ⟨q3, q4⟩ := hd'
  have hw : IntKind.i64.wrap (d - d') = d - d' := wrap_id (by omega) (by omega)
  refine dcalls_low (rs := [.tmp 4, .tmp 5]) mixed Tryd.func19 l19 rfl rfl rfl (r := [I _, I _]) (Nat.le_of_ble_eq_true rfl) ?_
  show wpC _ _ _ (Post _ _ [I (cmpL d d' [e, f, g, j] [e', f', g', j']).1, I (cmpL d d' [e, f, g, j] [e', f', g', j']).2])
  unfold cmpL
  by_cases h1 : d < d'
  · rw [if_pos (.inl h1)]
    repeat' ((conv => whnf); first | exact trivial | (refine now_D1 (by rw [hw]; omega) ?_) | refine nT_ ?_ | refine aE1 ?_ | refine aE0 ?_ | refine aN1 ?_ | refine aN0 ?_ | refine aD1 ?_ | refine aD0 ?_ | refine nE_ (fun hq => ?_) (fun hq => ?_) | refine nN_ (fun hq => ?_) (fun hq => ?_) | refine nD_ (fun hq => ?_) (fun hq => ?_) | refine rb1 ?_ | refine rb0 ?_ | refine rbx ?_ | refine rix ?_ | refine aS ?_ | fail)
  by_cases h2 : d = d'
  · by_cases h3 : [e, f, g, j] = [e', f', g', j']
    · rw [if_neg (fun h => h.elim h1 fun h => h.2 h3)]
      repeat' ((conv => whnf); first | exact trivial | (refine now_D0 (by rw [hw]; omega) ?_) | (refine now_E1 (by rw [hw]; omega) ?_) | refine nb_ (!true) (neI (a := [e, f, g, j]) (b := [e', f', g', j']) (decide_eq_true h3)) ?_ | refine nT_ ?_ | refine aE1 ?_ | refine aE0 ?_ | refine aN1 ?_ | refine aN0 ?_ | refine aD1 ?_ | refine aD0 ?_ | refine nE_ (fun hq => ?_) (fun hq => ?_) | refine nN_ (fun hq => ?_) (fun hq => ?_) | refine nD_ (fun hq => ?_) (fun hq => ?_) | refine rb1 ?_ | refine rb0 ?_ | refine rbx ?_ | refine rix ?_ | (refine And.intro (by first | (exact ⟨fits4 (a := [e, f, g, j]) rfl, fits4 (a := [e', f', g', j']) rfl⟩; done) | fail) ?_) | refine aS ?_ | (exact ri hw (ri rfl trivial)) | fail)
    · rw [if_pos (.inr ⟨h2, h3⟩)]
      repeat' ((conv => whnf); first | exact trivial | (refine now_D0 (by rw [hw]; omega) ?_) | (refine now_E1 (by rw [hw]; omega) ?_) | refine nb_ (!false) (neI (a := [e, f, g, j]) (b := [e', f', g', j']) (decide_eq_false h3)) ?_ | refine nT_ ?_ | refine aE1 ?_ | refine aE0 ?_ | refine aN1 ?_ | refine aN0 ?_ | refine aD1 ?_ | refine aD0 ?_ | refine nE_ (fun hq => ?_) (fun hq => ?_) | refine nN_ (fun hq => ?_) (fun hq => ?_) | refine nD_ (fun hq => ?_) (fun hq => ?_) | refine rb1 ?_ | refine rb0 ?_ | refine rbx ?_ | refine rix ?_ | (refine And.intro (by first | (exact ⟨fits4 (a := [e, f, g, j]) rfl, fits4 (a := [e', f', g', j']) rfl⟩; done) | fail) ?_) | refine aS ?_ | fail)
  · rw [if_neg (fun h => h.elim h1 fun h => h2 h.1)]
    repeat' ((conv => whnf); first | exact trivial | (refine now_D0 (by rw [hw]; omega) ?_) | (refine now_E0 (by rw [hw]; omega) ?_) | refine nT_ ?_ | refine aE1 ?_ | refine aE0 ?_ | refine aN1 ?_ | refine aN0 ?_ | refine aD1 ?_ | refine aD0 ?_ | refine nE_ (fun hq => ?_) (fun hq => ?_) | refine nN_ (fun hq => ?_) (fun hq => ?_) | refine nD_ (fun hq => ?_) (fun hq => ?_) | refine rb1 ?_ | refine rb0 ?_ | refine rbx ?_ | refine rix ?_ | refine aS ?_ | (exact ri hw (ri rfl trivial)) | fail)
theorem t_refCompare (x y : List Int) (hx : x.length = 8) (hy : y.length = 8) (hxi : ∀ a ∈ x, i64 a) (hyi : ∀ a ∈ y, i64 a) (hx0 : 0 ≤ x.getD 3 0) (hy0 : 0 ≤ y.getD 3 0) : DCalls Tryd.prog 27 [ln x, ln y] (verT (cmpL (x.getD 3 0) (y.getD 3 0) (x.drop 4) (y.drop 4))) := by
  obtain ⟨a, b, c, d, e, f, g, j, rfl⟩ := ex8 hx
  obtain ⟨a', b', c', d', e', f', g', j', rfl⟩ := ex8 hy
  have hd := hxi d (by simp)
  have hd' := hyi d' (by simp)
  have hx0 : 0 ≤ d := hx0
  have hy0 : 0 ≤ d' := hy0
  obtain ⟨q1, q2⟩ := hd
  obtain ⟨q3, q4⟩ := hd'
  have hw : IntKind.i64.wrap (d - d') = d - d' := wrap_id (by omega) (by omega)
  refine dcalls_low (rs := [.tmp 4, .tmp 5]) mixed Tryd.func27 l27 rfl rfl rfl (r := [I _, I _]) (Nat.le_of_ble_eq_true rfl) ?_
  show wpC _ _ _ (Post _ _ [I (cmpL d d' [e, f, g, j] [e', f', g', j']).1, I (cmpL d d' [e, f, g, j] [e', f', g', j']).2])
  unfold cmpL
  by_cases h1 : d < d'
  · rw [if_pos (.inl h1)]
    repeat' ((conv => whnf); first | exact trivial | refine nT_ ?_ | refine aE1 ?_ | refine aE0 ?_ | refine aN1 ?_ | refine aN0 ?_ | refine aD1 ?_ | refine aD0 ?_ | refine nE_ (fun hq => ?_) (fun hq => ?_) | refine nN_ (fun hq => ?_) (fun hq => ?_) | refine nD_ (fun hq => ?_) (fun hq => ?_) | refine rb1 ?_ | refine rb0 ?_ | refine rbx ?_ | refine rix ?_ | refine aS ?_ | fail)
  by_cases h2 : d = d'
  · by_cases h3 : [e, f, g, j] = [e', f', g', j']
    · rw [if_neg (fun h => h.elim h1 fun h => h.2 h3)]
      repeat' ((conv => whnf); first | exact trivial | refine nb_ (!true) (neI (a := [e', f', g', j']) (b := [e, f, g, j]) (decide_eq_true h3.symm)) ?_ | refine nT_ ?_ | refine aE1 ?_ | refine aE0 ?_ | refine aN1 ?_ | refine aN0 ?_ | refine aD1 ?_ | refine aD0 ?_ | refine nE_ (fun hq => ?_) (fun hq => ?_) | refine nN_ (fun hq => ?_) (fun hq => ?_) | refine nD_ (fun hq => ?_) (fun hq => ?_) | refine rb1 ?_ | refine rb0 ?_ | refine rbx ?_ | refine rix ?_ | (refine And.intro (by first | (exact ⟨fits4 (a := [e', f', g', j']) rfl, fits4 (a := [e, f, g, j]) rfl⟩; done) | fail) ?_) | refine aS ?_ | (exact ri hw (ri rfl trivial)) | fail)
    · rw [if_pos (.inr ⟨h2, h3⟩)]
      repeat' ((conv => whnf); first | exact trivial | refine nb_ (!false) (neI (a := [e', f', g', j']) (b := [e, f, g, j]) (decide_eq_false (fun h => h3 h.symm))) ?_ | refine nT_ ?_ | refine aE1 ?_ | refine aE0 ?_ | refine aN1 ?_ | refine aN0 ?_ | refine aD1 ?_ | refine aD0 ?_ | refine nE_ (fun hq => ?_) (fun hq => ?_) | refine nN_ (fun hq => ?_) (fun hq => ?_) | refine nD_ (fun hq => ?_) (fun hq => ?_) | refine rb1 ?_ | refine rb0 ?_ | refine rbx ?_ | refine rix ?_ | (refine And.intro (by first | (exact ⟨fits4 (a := [e', f', g', j']) rfl, fits4 (a := [e, f, g, j]) rfl⟩; done) | fail) ?_) | refine aS ?_ | fail)
  · rw [if_neg (fun h => h.elim h1 fun h => h2 h.1)]
    repeat' ((conv => whnf); first | exact trivial | refine nT_ ?_ | refine aE1 ?_ | refine aE0 ?_ | refine aN1 ?_ | refine aN0 ?_ | refine aD1 ?_ | refine aD0 ?_ | refine nE_ (fun hq => ?_) (fun hq => ?_) | refine nN_ (fun hq => ?_) (fun hq => ?_) | refine nD_ (fun hq => ?_) (fun hq => ?_) | refine rb1 ?_ | refine rb0 ?_ | refine rbx ?_ | refine rix ?_ | refine aS ?_ | (exact ri hw (ri rfl trivial)) | fail)
def few (l : List Rc) (most : Int) : Bool := l.all (fun r => decide (r.ls.length ≤ 12)) && decide ((l.length : Int) ≤ most)
theorem t_Few (l : List Rc) (most : Int) (hl : l.length < 2 ^ 40) : DCalls Tryd.prog 20 [rcs l, I most] (.bool (few l most)) := by
  refine dcalls_low (rs := [.tmp 4]) mixed Tryd.func20 l20 rfl rfl rfl (r := [.bool _]) (Nat.le_of_ble_eq_true rfl) ?_
  repeat' ((conv => whnf); first | exact trivial | refine nT_ ?_ | refine aE1 ?_ | refine aE0 ?_ | refine aN1 ?_ | refine aN0 ?_ | refine aD1 ?_ | refine aD0 ?_ | refine nE_ (fun hq => ?_) (fun hq => ?_) | refine nN_ (fun hq => ?_) (fun hq => ?_) | refine nD_ (fun hq => ?_) (fun hq => ?_) | refine rb1 ?_ | refine rb0 ?_ | refine rbx ?_ | refine rix ?_ | refine aS ?_ | fail)
  refine wpC_loopE 0 (α := Nat) (β := Unit) (fun k => {sl := [(0, .t (rcs l)), (1, .t (I most)), (5, .t (I k))], bx := []})
    (fun k => k ≤ l.length ∧ (l.take k).all (fun r => decide (r.ls.length ≤ 12)) = true) (fun k => l.length - k) (fun _ => {sl := [(0, .t (rcs l)), (1, .t (I most))], bx := []}) (fun _ => l.all (fun r => decide (r.ls.length ≤ 12)) = true) 0 ⟨by omega, rfl⟩ ?_ ?_ ?_
  · repeat' (first | exact trivial | exact LeV.same _ | exact LeB.same _ | exact rfl | exact fun _ _ _ => trivial | exact lI | exact LeV.nil _ _ _ | exact lB | refine leBd ?_ | refine leOwn ?_ | refine And.intro ?_ ?_)
  · rintro k ⟨hk, ha⟩
    rcases Nat.lt_or_ge k l.length with h2 | h2
    · have hno := all_no (p := fun r : Rc => decide (r.ls.length ≤ 12)) (l := l) (i := k) h2
      have hye := all_take (p := fun r : Rc => decide (r.ls.length ≤ 12)) (l := l) (i := k) h2 ha
      have hxe : l[k]? = some l[k] := List.getElem?_eq_getElem h2
      generalize l[k] = r at hno hye hxe
      obtain ⟨n, i, ls, rp⟩ := r
      by_cases h3 : ls.length ≤ 12
      · repeat' ((conv => whnf); first | exact trivial | (refine now_D1 (by simp; omega) ?_) | (refine nv_ (rcT n i ls rp) (by first | (exact eltRc (r := ⟨n, i, ls, rp⟩) (by simp only [Int.toNat_natCast]; exact hxe); done) | fail) ?_) | (refine now_D0 (by simp; omega) ?_) | refine nT_ ?_ | refine aE1 ?_ | refine aE0 ?_ | refine aN1 ?_ | refine aN0 ?_ | refine aD1 ?_ | refine aD0 ?_ | refine nE_ (fun hq => ?_) (fun hq => ?_) | refine nN_ (fun hq => ?_) (fun hq => ?_) | refine nD_ (fun hq => ?_) (fun hq => ?_) | refine rb1 ?_ | refine rb0 ?_ | refine rbx ?_ | refine rix ?_ | (refine And.intro (by first | ((simp; omega); done) | fail) ?_) | refine aS ?_ | fail)
        exact ⟨k + 1, ⟨by omega, hye (by simpa using h3)⟩, by omega, by repeat' (first | exact trivial | exact LeV.same _ | exact LeB.same _ | exact rfl | exact fun _ _ _ => trivial | exact lI | exact LeV.nil _ _ _ | exact lB | refine leBd ?_ | refine leOwn ?_ | refine And.intro ?_ ?_)⟩
      · have hf : false = few l most := by unfold few; rw [hno (by simpa using h3)]; rfl
        repeat' ((conv => whnf); first | exact trivial | (refine now_D1 (by simp; omega) ?_) | (refine nv_ (rcT n i ls rp) (by first | (exact eltRc (r := ⟨n, i, ls, rp⟩) (by simp only [Int.toNat_natCast]; exact hxe); done) | fail) ?_) | refine nT_ ?_ | refine aE1 ?_ | refine aE0 ?_ | refine aN1 ?_ | refine aN0 ?_ | refine aD1 ?_ | refine aD0 ?_ | refine nE_ (fun hq => ?_) (fun hq => ?_) | refine nN_ (fun hq => ?_) (fun hq => ?_) | refine nD_ (fun hq => ?_) (fun hq => ?_) | refine rb1 ?_ | refine rb0 ?_ | refine rbx ?_ | refine rix ?_ | (refine And.intro (by first | ((simp; omega); done) | fail) ?_) | refine aS ?_ | (exact rb hf trivial) | fail)
    · have : k = l.length := by omega
      subst this
      rw [List.take_length] at ha
      repeat' ((conv => whnf); first | exact trivial | refine now_D0 (by simp) ?_ | refine nT_ ?_ | refine aE1 ?_ | refine aE0 ?_ | refine aN1 ?_ | refine aN0 ?_ | refine aD1 ?_ | refine aD0 ?_ | refine nE_ (fun hq => ?_) (fun hq => ?_) | refine nN_ (fun hq => ?_) (fun hq => ?_) | refine nD_ (fun hq => ?_) (fun hq => ?_) | refine rb1 ?_ | refine rb0 ?_ | refine rbx ?_ | refine rix ?_ | refine aS ?_ | fail)
      exact ⟨(), ha, by repeat' (first | exact trivial | exact LeV.same _ | exact LeB.same _ | exact rfl | exact fun _ _ _ => trivial | exact lI | exact LeV.nil _ _ _ | exact lB | refine leBd ?_ | refine leOwn ?_ | refine And.intro ?_ ?_)⟩
  rintro - hr
  unfold few
  rw [hr]
  repeat' ((conv => whnf); first | exact trivial | refine nD_ (fun hq => ?_) (fun hq => ?_) | refine nT_ ?_ | refine aE1 ?_ | refine aE0 ?_ | refine aN1 ?_ | refine aN0 ?_ | refine aD1 ?_ | refine aD0 ?_ | refine nE_ (fun hq => ?_) (fun hq => ?_) | refine nN_ (fun hq => ?_) (fun hq => ?_) | refine nD_ (fun hq => ?_) (fun hq => ?_) | refine rb1 ?_ | refine rb0 ?_ | refine rbx ?_ | refine rix ?_ | refine aS ?_ | fail)
  all_goals (refine rb ?_ trivial; simpa using hq)
def totS (s p f : Int) : List Rc → Int × List Int → Int × List Int
  | [], a => a
  | r :: l, a => totS s p f l (match r.ls.find? (isN s p f) with
    | some x => (a.1 + x.getD 3 0, sAdd a.2 (x.drop 4))
    | none => a)
def totL (s p f : Int) (l : List Rc) : List Int := let a := totS s p f l (0, [0, 0, 0, 0]); [s, p, f, a.1] ++ a.2
def sumsOk (l : List Rc) : Prop := ∀ r ∈ l, ∀ x ∈ r.ls, 0 ≤ x.getD 3 0 ∧ x.getD 3 0 ≤ 1073741824 ∧ isS (x.drop 4)
theorem totS_drop {s p f : Int} {l : List Rc} {k : Nat} {a : Int × List Int} (h : k < l.length) : totS s p f (l.drop k) a = totS s p f (l.drop (k + 1)) (match l[k].ls.find? (isN s p f) with
    | some x => (a.1 + x.getD 3 0, sAdd a.2 (x.drop 4))
    | none => a) := by
  rw [List.drop_eq_getElem_cons h]
  rfl
theorem t_Total (s p f : Int) (l : List Rc) (hl : l.length < 2 ^ 20) (hr : ∀ r ∈ l, r.ok) (hs : sumsOk l) : DCalls Tryd.prog 32 [rcs l, I s, I p, I f] (ln (totL s p f l)) := by
  refine dcalls_low (rs := [.cell 8 36]) mixed Tryd.func32 l32 rfl rfl rfl (r := [.agg _]) (Nat.le_of_ble_eq_true rfl) ?_
  repeat' ((conv => whnf); first | exact trivial | refine nT_ ?_ | refine aE1 ?_ | refine aE0 ?_ | refine aN1 ?_ | refine aN0 ?_ | refine aD1 ?_ | refine aD0 ?_ | refine nE_ (fun hq => ?_) (fun hq => ?_) | refine nN_ (fun hq => ?_) (fun hq => ?_) | refine nD_ (fun hq => ?_) (fun hq => ?_) | refine rb1 ?_ | refine rb0 ?_ | refine rbx ?_ | refine rix ?_ | refine aS ?_ | fail)
  refine wpC_loopE 0 (α := Nat × Int × List Int) (β := Unit) (fun q => {sl := [(0, .t (rcs l)), (1, .t (I s)), (2, .t (I p)), (3, .t (I f)), (8, .ptr 8 0), (9, .ptr 9 0), (18, .t (rcs l)), (19, .t (I l.length)), (20, .t (I q.1))], bx := [(8, .d 8 [I 0, I 0, I 0, I 0, I 0, I 0, I 0, I 0]), (9, .d 8 (I s :: I p :: I f :: I q.2.1 :: q.2.2.map I))]})
    (fun q => q.1 ≤ l.length ∧ isS q.2.2 ∧ 0 ≤ q.2.1 ∧ q.2.1 ≤ 1073741824 * q.1 ∧ totS s p f (l.drop q.1) q.2 = totS s p f l (0, [0, 0, 0, 0])) (fun q => l.length - q.1)
    (fun _ => {sl := [(8, .ptr 8 0), (9, .ptr 9 0)], bx := [(8, .d 8 [I 0, I 0, I 0, I 0, I 0, I 0, I 0, I 0]), (9, .d 8 ((totL s p f l).map I))]}) (fun _ => isS (totS s p f l (0, [0, 0, 0, 0])).2) (0, 0, [0, 0, 0, 0]) ⟨by simp, ⟨rfl, by simp [M32]⟩, by simp, by simp, rfl⟩ ?_ ?_ ?_
  · repeat' (first | ((refine leI ?_; simp; done)) | exact trivial | exact LeV.same _ | exact LeB.same _ | exact rfl | exact fun _ _ _ => trivial | exact lI | exact LeV.nil _ _ _ | exact lB | refine leBd ?_ | refine leOwn ?_ | refine And.intro ?_ ?_)
  · rintro ⟨k, c, t⟩ ⟨hk, ht, hc0, hc1, ho⟩
    dsimp only at hk ht hc0 hc1 ho
    rcases Nat.lt_or_ge k l.length with h2 | h2
    · rw [totS_drop h2] at ho
      have hok := hr l[k] (List.getElem_mem h2)
      have hso := hs l[k] (List.getElem_mem h2)
      have hxe : l[k]? = some l[k] := List.getElem?_eq_getElem h2
      generalize l[k] = r at ho hok hxe hso
      obtain ⟨n, i, ls, rp⟩ := r
      have hlen : (rcC n i ls rp).length = 19 := rc_len hok
      have hF := with19F (t_Find n i ls rp s p f (by have := hok.2; dsimp only at this; omega) hok.1.l8 hok.1.hp)
      dsimp only at ho hso
      unfold fnd at hF
      cases hfd : ls.find? (isN s p f) with
      | none =>
        rw [hfd] at ho hF
        repeat' ((conv => whnf); first | exact trivial | (refine nv_ (rcT n i ls rp) (by first | (exact eltRc (r := ⟨n, i, ls, rp⟩) (by simp only [Int.toNat_natCast]; exact hxe); done) | fail) ?_) | refine k_call _ (hF) ?_ | refine nT_ ?_ | refine aE1 ?_ | refine aE0 ?_ | refine aN1 ?_ | refine aN0 ?_ | refine aD1 ?_ | refine aD0 ?_ | refine nE_ (fun hq => ?_) (fun hq => ?_) | refine nN_ (fun hq => ?_) (fun hq => ?_) | refine nD_ (fun hq => ?_) (fun hq => ?_) | refine rb1 ?_ | refine rb0 ?_ | refine rbx ?_ | refine rix ?_ | (refine And.intro (by first | ((simp; omega); done) | (exact hlen; done) | (exact ⟨hlen, Nat.le_of_ble_eq_true rfl⟩; done) | fail) ?_) | refine aS ?_ | fail)
        refine ⟨(k + 1, c, t), ⟨by dsimp only; omega, ht, hc0, by dsimp only; omega, ho⟩, by dsimp only; omega, ?_⟩
        repeat' (first | exact trivial | exact LeV.same _ | exact LeB.same _ | exact rfl | exact fun _ _ _ => trivial | exact lI | exact LeV.nil _ _ _ | exact lB | refine leBd ?_ | refine leOwn ?_ | refine And.intro ?_ ?_)
      | some x =>
        rw [hfd] at ho hF
        have hxm := List.mem_of_find?_eq_some hfd
        obtain ⟨x0, x1, x2⟩ := hso x hxm
        obtain ⟨a, b, c', d, e, f', g, j, rfl⟩ := ex8 (hok.1.l8 x hxm)
        have x2 : isS [e, f', g, j] := x2
        have x0 : 0 ≤ d := x0
        have x1 : d ≤ 1073741824 := x1
        obtain ⟨t0, t1, t2, t3, rfl⟩ : ∃ t0 t1 t2 t3, t = [t0, t1, t2, t3] := by
          match t, ht.1 with
          | [a, b, c, d], _ => exact ⟨a, b, c, d, rfl⟩
        have hA := t_sAdd [t0, t1, t2, t3] [e, f', g, j] ht x2
        have hAi := isS_add ht x2
        have ho : totS s p f (l.drop (k + 1)) (c + d, sAdd [t0, t1, t2, t3] [e, f', g, j]) = totS s p f l (0, [0, 0, 0, 0]) := ho
        repeat' ((conv => whnf); first | exact trivial | (refine nv_ (rcT n i ls rp) (by first | (exact eltRc (r := ⟨n, i, ls, rp⟩) (by simp only [Int.toNat_natCast]; exact hxe); done) | fail) ?_) | refine k_call _ (hF) ?_ | refine k_call _ (hA) ?_ | refine nT_ ?_ | refine aE1 ?_ | refine aE0 ?_ | refine aN1 ?_ | refine aN0 ?_ | refine aD1 ?_ | refine aD0 ?_ | refine nE_ (fun hq => ?_) (fun hq => ?_) | refine nN_ (fun hq => ?_) (fun hq => ?_) | refine nD_ (fun hq => ?_) (fun hq => ?_) | refine rb1 ?_ | refine rb0 ?_ | refine rbx ?_ | refine rix ?_ | (refine And.intro (by first | ((simp; omega); done) | (exact hlen; done) | (exact ⟨hlen, Nat.le_of_ble_eq_true rfl⟩; done) | fail) ?_) | refine aS ?_ | fail)
        refine ⟨(k + 1, c + d, sAdd [t0, t1, t2, t3] [e, f', g, j]), ⟨by dsimp only; omega, hAi, by dsimp only; omega, by dsimp only; omega, ho⟩, by dsimp only; omega, ?_⟩
        have hw : IntKind.i64.wrap (c + d) = c + d := wrap_id (by omega) (by omega)
        repeat' (first | exact trivial | exact LeV.same _ | exact LeB.same _ | exact rfl | exact fun _ _ _ => trivial | exact lI | exact LeV.nil _ _ _ | exact lB | refine leBd ?_ | refine leOwn ?_ | refine And.intro ?_ ?_)
        dsimp only
        rw [hw]
        rfl
    · have : k = l.length := by omega
      subst this
      rw [List.drop_length] at ho
      repeat' ((conv => whnf); first | exact trivial | refine nT_ ?_ | refine aE1 ?_ | refine aE0 ?_ | refine aN1 ?_ | refine aN0 ?_ | refine aD1 ?_ | refine aD0 ?_ | refine nE_ (fun hq => ?_) (fun hq => ?_) | refine nN_ (fun hq => ?_) (fun hq => ?_) | refine nD_ (fun hq => ?_) (fun hq => ?_) | refine rb1 ?_ | refine rb0 ?_ | refine rbx ?_ | refine rix ?_ | refine aS ?_ | fail)
      refine ⟨(), by rw [← ho]; exact ht, by repeat' (first | ((refine leBd ?_; unfold totL; rw [← ho]; rfl)) | exact trivial | exact LeV.same _ | exact LeB.same _ | exact rfl | exact fun _ _ _ => trivial | exact lI | exact LeV.nil _ _ _ | exact lB | refine leBd ?_ | refine leOwn ?_ | refine And.intro ?_ ?_)⟩
  rintro - hS
  have htl : (totL s p f l).length = 8 := by
    unfold totL
    simp [hS.1]
  repeat' ((conv => whnf); first | exact trivial | refine nT_ ?_ | refine aE1 ?_ | refine aE0 ?_ | refine aN1 ?_ | refine aN0 ?_ | refine aD1 ?_ | refine aD0 ?_ | refine nE_ (fun hq => ?_) (fun hq => ?_) | refine nN_ (fun hq => ?_) (fun hq => ?_) | refine nD_ (fun hq => ?_) (fun hq => ?_) | refine rb1 ?_ | refine rb0 ?_ | refine rbx ?_ | refine rix ?_ | (refine And.intro (by first | (exact ⟨(List.length_map _).trans htl, by decide⟩; done) | fail) ?_) | refine aS ?_ | refine rt ?_ trivial | fail)
  exact congrArg T.agg (putL_all rfl)
theorem t_refTotal (s p f : Int) (l : List Rc) (hl : l.length < 2 ^ 20) (hr : ∀ r ∈ l, r.ok) (hs : sumsOk l) : DCalls Tryd.prog 33 [rcs l, I s, I p, I f] (ln (totL s p f l)) := by
  refine dcalls_low (rs := [.cell 8 36]) mixed Tryd.func33 l33 rfl rfl rfl (r := [.agg _]) (Nat.le_of_ble_eq_true rfl) ?_
  repeat' ((conv => whnf); first | exact trivial | refine nT_ ?_ | refine aE1 ?_ | refine aE0 ?_ | refine aN1 ?_ | refine aN0 ?_ | refine aD1 ?_ | refine aD0 ?_ | refine nE_ (fun hq => ?_) (fun hq => ?_) | refine nN_ (fun hq => ?_) (fun hq => ?_) | refine nD_ (fun hq => ?_) (fun hq => ?_) | refine rb1 ?_ | refine rb0 ?_ | refine rbx ?_ | refine rix ?_ | refine aS ?_ | fail)
  refine wpC_loopE 0 (α := Nat × Int × List Int) (β := Unit) (fun q => {sl := [(0, .t (rcs l)), (1, .t (I s)), (2, .t (I p)), (3, .t (I f)), (8, .ptr 8 0), (9, .ptr 9 0), (10, .t (I q.1))], bx := [(8, .d 8 [I 0, I 0, I 0, I 0, I 0, I 0, I 0, I 0]), (9, .d 8 (I s :: I p :: I f :: I q.2.1 :: q.2.2.map I))]})
    (fun q => q.1 ≤ l.length ∧ isS q.2.2 ∧ 0 ≤ q.2.1 ∧ q.2.1 ≤ 1073741824 * q.1 ∧ totS s p f (l.drop q.1) q.2 = totS s p f l (0, [0, 0, 0, 0])) (fun q => l.length - q.1)
    (fun _ => {sl := [(8, .ptr 8 0), (9, .ptr 9 0)], bx := [(8, .d 8 [I 0, I 0, I 0, I 0, I 0, I 0, I 0, I 0]), (9, .d 8 ((totL s p f l).map I))]}) (fun _ => isS (totS s p f l (0, [0, 0, 0, 0])).2) (0, 0, [0, 0, 0, 0]) ⟨by simp, ⟨rfl, by simp [M32]⟩, by simp, by simp, rfl⟩ ?_ ?_ ?_
  · repeat' (first | exact trivial | exact LeV.same _ | exact LeB.same _ | exact rfl | exact fun _ _ _ => trivial | exact lI | exact LeV.nil _ _ _ | exact lB | refine leBd ?_ | refine leOwn ?_ | refine And.intro ?_ ?_)
  · rintro ⟨k, c, t⟩ ⟨hk, ht, hc0, hc1, ho⟩
    dsimp only at hk ht hc0 hc1 ho
    rcases Nat.lt_or_ge k l.length with h2 | h2
    · rw [totS_drop h2] at ho
      have hok := hr l[k] (List.getElem_mem h2)
      have hso := hs l[k] (List.getElem_mem h2)
      have hxe : l[k]? = some l[k] := List.getElem?_eq_getElem h2
      generalize l[k] = r at ho hok hxe hso
      obtain ⟨n, i, ls, rp⟩ := r
      have hlen : (rcC n i ls rp).length = 19 := rc_len hok
      have hF := t_refFind n i ls rp s p f (by have := hok.2; dsimp only at this; omega) hok.1.l8 hok.1.hp
      dsimp only at ho hso
      unfold fnd at hF
      cases hfd : ls.find? (isN s p f) with
      | none =>
        rw [hfd] at ho hF
        repeat' ((conv => whnf); first | exact trivial | (refine now_D1 (by simp; omega) ?_) | (refine nv_ (rcT n i ls rp) (by first | (exact eltRc (r := ⟨n, i, ls, rp⟩) (by simp only [Int.toNat_natCast]; exact hxe); done) | fail) ?_) | refine k_call _ (hF) ?_ | refine nT_ ?_ | refine aE1 ?_ | refine aE0 ?_ | refine aN1 ?_ | refine aN0 ?_ | refine aD1 ?_ | refine aD0 ?_ | refine nE_ (fun hq => ?_) (fun hq => ?_) | refine nN_ (fun hq => ?_) (fun hq => ?_) | refine nD_ (fun hq => ?_) (fun hq => ?_) | refine rb1 ?_ | refine rb0 ?_ | refine rbx ?_ | refine rix ?_ | (refine And.intro (by first | ((simp; omega); done) | (exact hlen; done) | (exact ⟨hlen, Nat.le_of_ble_eq_true rfl⟩; done) | fail) ?_) | refine aS ?_ | fail)
        refine ⟨(k + 1, c, t), ⟨by dsimp only; omega, ht, hc0, by dsimp only; omega, ho⟩, by dsimp only; omega, ?_⟩
        repeat' (first | exact trivial | exact LeV.same _ | exact LeB.same _ | exact rfl | exact fun _ _ _ => trivial | exact lI | exact LeV.nil _ _ _ | exact lB | refine leBd ?_ | refine leOwn ?_ | refine And.intro ?_ ?_)
      | some x =>
        rw [hfd] at ho hF
        have hxm := List.mem_of_find?_eq_some hfd
        obtain ⟨x0, x1, x2⟩ := hso x hxm
        obtain ⟨a, b, c', d, e, f', g, j, rfl⟩ := ex8 (hok.1.l8 x hxm)
        have x2 : isS [e, f', g, j] := x2
        have x0 : 0 ≤ d := x0
        have x1 : d ≤ 1073741824 := x1
        obtain ⟨t0, t1, t2, t3, rfl⟩ : ∃ t0 t1 t2 t3, t = [t0, t1, t2, t3] := by
          match t, ht.1 with
          | [a, b, c, d], _ => exact ⟨a, b, c, d, rfl⟩
        have hA := t_refAdd [t0, t1, t2, t3] [e, f', g, j] ht x2
        have hAi := isS_add ht x2
        have ho : totS s p f (l.drop (k + 1)) (c + d, sAdd [t0, t1, t2, t3] [e, f', g, j]) = totS s p f l (0, [0, 0, 0, 0]) := ho
        repeat' ((conv => whnf); first | exact trivial | (refine now_D1 (by simp; omega) ?_) | (refine nv_ (rcT n i ls rp) (by first | (exact eltRc (r := ⟨n, i, ls, rp⟩) (by simp only [Int.toNat_natCast]; exact hxe); done) | fail) ?_) | refine k_call _ (hF) ?_ | refine k_call _ (hA) ?_ | refine nT_ ?_ | refine aE1 ?_ | refine aE0 ?_ | refine aN1 ?_ | refine aN0 ?_ | refine aD1 ?_ | refine aD0 ?_ | refine nE_ (fun hq => ?_) (fun hq => ?_) | refine nN_ (fun hq => ?_) (fun hq => ?_) | refine nD_ (fun hq => ?_) (fun hq => ?_) | refine rb1 ?_ | refine rb0 ?_ | refine rbx ?_ | refine rix ?_ | (refine And.intro (by first | ((simp; omega); done) | (exact hlen; done) | (exact ⟨hlen, Nat.le_of_ble_eq_true rfl⟩; done) | fail) ?_) | refine aS ?_ | fail)
        refine ⟨(k + 1, c + d, sAdd [t0, t1, t2, t3] [e, f', g, j]), ⟨by dsimp only; omega, hAi, by dsimp only; omega, by dsimp only; omega, ho⟩, by dsimp only; omega, ?_⟩
        have hw : IntKind.i64.wrap (c + d) = c + d := wrap_id (by omega) (by omega)
        repeat' (first | exact trivial | exact LeV.same _ | exact LeB.same _ | exact rfl | exact fun _ _ _ => trivial | exact lI | exact LeV.nil _ _ _ | exact lB | refine leBd ?_ | refine leOwn ?_ | refine And.intro ?_ ?_)
        dsimp only
        rw [hw]
        rfl
    · have : k = l.length := by omega
      subst this
      rw [List.drop_length] at ho
      repeat' ((conv => whnf); first | exact trivial | refine now_D0 (by simp) ?_ | refine nT_ ?_ | refine aE1 ?_ | refine aE0 ?_ | refine aN1 ?_ | refine aN0 ?_ | refine aD1 ?_ | refine aD0 ?_ | refine nE_ (fun hq => ?_) (fun hq => ?_) | refine nN_ (fun hq => ?_) (fun hq => ?_) | refine nD_ (fun hq => ?_) (fun hq => ?_) | refine rb1 ?_ | refine rb0 ?_ | refine rbx ?_ | refine rix ?_ | refine aS ?_ | fail)
      refine ⟨(), by rw [← ho]; exact ht, by repeat' (first | ((refine leBd ?_; unfold totL; rw [← ho]; rfl)) | exact trivial | exact LeV.same _ | exact LeB.same _ | exact rfl | exact fun _ _ _ => trivial | exact lI | exact LeV.nil _ _ _ | exact lB | refine leBd ?_ | refine leOwn ?_ | refine And.intro ?_ ?_)⟩
  rintro - hS
  have htl : (totL s p f l).length = 8 := by
    unfold totL
    simp [hS.1]
  repeat' ((conv => whnf); first | exact trivial | refine nT_ ?_ | refine aE1 ?_ | refine aE0 ?_ | refine aN1 ?_ | refine aN0 ?_ | refine aD1 ?_ | refine aD0 ?_ | refine nE_ (fun hq => ?_) (fun hq => ?_) | refine nN_ (fun hq => ?_) (fun hq => ?_) | refine nD_ (fun hq => ?_) (fun hq => ?_) | refine rb1 ?_ | refine rb0 ?_ | refine rbx ?_ | refine rix ?_ | (refine And.intro (by first | (exact ⟨(List.length_map _).trans htl, by decide⟩; done) | fail) ?_) | refine aS ?_ | refine rt ?_ trivial | fail)
  exact congrArg T.agg (putL_all rfl)
end Go.RC
end
section
namespace Go.RC
open Go Go.DL Go.Proofs
set_option maxRecDepth 100000
noncomputable def c11 : DCode := (.seq (.region [⟨some 0, .mov (.const (.bool false)), none, []⟩] []) (.seq (.region [⟨some 1, .mov (.const (.int .i64 4294967295)), none, []⟩] []) (.seq (.seq (.region [⟨some 27, .mov (.tmp 1), none, []⟩,
  ⟨some 28, .build [(.int .i64 0), (.int .i64 0), (.int .i64 0), (.int .i64 0)] [(0, 1, (.tmp 27)), (1, 1, (.const (.int .i64 0))), (2, 1, (.const (.int .i64 0))), (3, 1, (.const (.int .i64 5)))], none, []⟩,
  ⟨some 29, .build [(.int .i64 0), (.int .i64 0), (.int .i64 0), (.int .i64 0)] [(0, 1, (.const (.int .i64 1))), (1, 1, (.const (.int .i64 2))), (2, 1, (.const (.int .i64 0))), (3, 1, (.const (.int .i64 5)))], none, []⟩,
  ⟨some 30, .call 14 [(.tmp 28), (.tmp 29)], none, []⟩,
  ⟨some 31, .build [(.int .i64 0), (.int .i64 0), (.int .i64 0), (.int .i64 0)] [(0, 1, (.const (.int .i64 0))), (1, 1, (.const (.int .i64 2))), (2, 1, (.const (.int .i64 0))), (3, 1, (.const (.int .i64 10)))], none, []⟩,
  ⟨some 32, .eqv true [.int .i64, .int .i64, .int .i64, .int .i64] (.tmp 30) (.tmp 31), none, []⟩,
  ⟨some 33, .mov (.tmp 32), none, []⟩,
  ⟨some 34, .build [(.int .i64 0), (.int .i64 0), (.int .i64 0), (.int .i64 0)] [], some (33, false), []⟩,
  ⟨some 35, .build [(.int .i64 0), (.int .i64 0), (.int .i64 0), (.int .i64 0)] [(0, 1, (.const (.int .i64 1)))], some (33, false), []⟩,
  ⟨some 36, .call 16 [(.tmp 34), (.tmp 35)], some (33, false), []⟩,
  ⟨some 37, .mov (.tmp 1), some (33, false), []⟩,
  ⟨some 38, .build [(.int .i64 0), (.int .i64 0), (.int .i64 0), (.int .i64 0)] [(0, 1, (.tmp 37)), (1, 1, (.const (.int .i64 0))), (2, 1, (.const (.int .i64 0))), (3, 1, (.const (.int .i64 0)))], some (33, false), []⟩,
  ⟨some 39, .eqv true [.int .i64, .int .i64, .int .i64, .int .i64] (.tmp 36) (.tmp 38), some (33, false), []⟩,
  ⟨some 40, .pick (.tmp 33) (.const (.bool true)) (.tmp 39), none, []⟩] []) (.cond (.tmp 40) (.seq (.region [⟨some 0, .mov (.const (.bool false)), none, []⟩] []) .ret) .skip)) (.seq (.region [⟨some 42, .inl 40 [(.const (.int .i64 3))], none, []⟩,
  ⟨some 41, .mov (.tmp 42), none, []⟩,
  ⟨some 43, .ext (.tmp 41) 0, none, []⟩,
  ⟨some 44, .ext (.tmp 41) 1, none, []⟩,
  ⟨some 2, .mov (.tmp 43), none, []⟩,
  ⟨some 3, .mov (.tmp 44), none, []⟩] []) (.seq (.region [⟨some 46, .inl 40 [(.const (.int .i64 200))], none, []⟩,
  ⟨some 45, .mov (.tmp 46), none, []⟩,
  ⟨some 47, .ext (.tmp 45) 0, none, []⟩,
  ⟨some 48, .ext (.tmp 45) 1, none, []⟩,
  ⟨some 4, .mov (.tmp 47), none, []⟩,
  ⟨some 5, .mov (.tmp 48), none, []⟩] []) (.seq (.seq (.region [⟨some 49, .mov (.tmp 3), none, []⟩,
  ⟨some 50, .bin .neq (.tmp 49) (.const (.int .i64 0)), none, []⟩,
  ⟨some 51, .mov (.tmp 50), none, []⟩,
  ⟨some 52, .mov (.tmp 5), some (51, false), []⟩,
  ⟨some 53, .bin .neq (.tmp 52) (.const (.int .i64 1)), some (51, false), []⟩,
  ⟨some 54, .pick (.tmp 51) (.const (.bool true)) (.tmp 53), none, []⟩,
  ⟨some 55, .mov (.tmp 54), none, []⟩,
  ⟨some 56, .mov (.tmp 2), some (55, false), []⟩,
  ⟨some 57, .isnil 0 false (.tmp 56), some (55, false), []⟩,
  ⟨some 58, .pick (.tmp 55) (.const (.bool true)) (.tmp 57), none, []⟩] []) (.cond (.tmp 58) (.seq (.region [⟨some 0, .mov (.const (.bool false)), none, []⟩] []) .ret) .skip)) (.seq (.region [⟨some 59, .build [(.int .i64 0), (.int .i64 0), (.int .i64 0), (.int .i64 0), (.int .i64 0), (.int .i64 0), (.int .i64 0), (.int .i64 0), (.int .i64 0), (.int .i64 0)] [(0, 1, (.const (.int .i64 7))), (1, 1, (.const (.int .i64 5)))], none, []⟩,
  ⟨some 60, .build [(.int .i64 0), (.int .i64 0), (.int .i64 0), (.int .i64 0), (.int .i64 0), (.int .i64 0), (.int .i64 0), (.int .i64 0), (.int .i64 0), (.int .i64 0)] [(0, 1, (.const (.int .i64 7))), (1, 1, (.const (.int .i64 6)))], none, []⟩,
  ⟨some 6, .alloc [(.int .i64 0), (.int .i64 0), (.int .i64 0), (.int .i64 0), (.int .i64 0), (.int .i64 0), (.int .i64 0), (.int .i64 0), (.int .i64 0), (.int .i64 0)], none, []⟩,
  ⟨some 7, .alloc [(.int .i64 0), (.int .i64 0), (.int .i64 0), (.int .i64 0), (.int .i64 0), (.int .i64 0), (.int .i64 0), (.int .i64 0), (.int .i64 0), (.int .i64 0)], none, []⟩,
  ⟨none, .store 10 (.tmp 6) (.tmp 59), none, []⟩,
  ⟨none, .store 10 (.tmp 7) (.tmp 60), none, []⟩] []) (.seq (.seq (.region [⟨some 61, .mov (.tmp 2), none, []⟩,
  ⟨some 62, .load 10 true (.tmp 6), none, []⟩,
  ⟨some 63, .mcall [1013, 1011] 41 [(.tmp 61), (.const (.int .i64 2)), (.const (.int .i64 7)), (.const (.int .i64 1)), (.tmp 62)], none, []⟩,
  ⟨some 64, .mov (.tmp 2), none, []⟩,
  ⟨some 65, .load 10 true (.tmp 6), none, []⟩,
  ⟨some 66, .mcall [1013, 1011] 41 [(.tmp 64), (.const (.int .i64 1)), (.const (.int .i64 2)), (.const (.int .i64 1)), (.tmp 65)], none, []⟩,
  ⟨some 67, .mov (.tmp 2), none, []⟩,
  ⟨some 68, .load 10 true (.tmp 7), none, []⟩,
  ⟨some 69, .mcall [1013, 1011] 41 [(.tmp 67), (.const (.int .i64 2)), (.const (.int .i64 7)), (.const (.int .i64 1)), (.tmp 68)], none, []⟩,
  ⟨some 70, .buildT 1 3 [(.int .i64 0)] [(0, (.tmp 63)), (1, (.tmp 66)), (2, (.tmp 69))], none, []⟩,
  ⟨some 71, .len (.tmp 70), none, []⟩,
  ⟨some 72, .mov (.const (.int .i64 0)), none, []⟩] [[], [], [], [], [2], [], [], [2, 5], [], [], [], []]) (.block 0 (.loop (.seq (.region [⟨some 73, .bin .lss (.tmp 72) (.tmp 71), none, []⟩] []) (.seq (.cond (.tmp 73) .skip (.exit 0)) (.seq (.block 1 (.seq (.region [⟨some 74, .idxL 1 (.tmp 70) (.tmp 72), none, []⟩,
  ⟨some 75, .load 1 false (.tmp 74), none, []⟩,
  ⟨some 9, .mov (.tmp 75), none, []⟩] []) (.seq (.region [⟨some 76, .mov (.tmp 9), none, []⟩,
  ⟨some 77, .bin .neq (.tmp 76) (.const (.int .i64 0)), none, []⟩] []) (.cond (.tmp 77) (.seq (.region [⟨some 0, .mov (.const (.bool false)), none, []⟩] []) .ret) .skip)))) (.region [⟨some 78, .bin .add (.tmp 72) (.const (.int .i64 1)), none, []⟩,
  ⟨some 72, .mov (.tmp 78), none, []⟩] []))))))) (.seq (.cut (.region [⟨some 80, .mov (.tmp 2), none, []⟩,
  ⟨some 81, .inl 42 [(.tmp 80)], none, []⟩,
  ⟨some 79, .mov (.tmp 81), none, []⟩,
  ⟨some 82, .ext (.tmp 79) 0, none, []⟩,
  ⟨some 83, .ext (.tmp 79) 1, none, []⟩,
  ⟨some 10, .alloc [(.int .i64 0), (.int .i64 0), .nil, (.int .u8 0), (.int .u8 0), (.int .u8 0), (.int .u8 0), (.int .u8 0), (.int .u8 0), (.int .u8 0), (.int .u8 0), (.int .u8 0), (.int .u8 0), (.int .u8 0), (.int .u8 0), (.int .u8 0), (.int .u8 0), (.int .u8 0), (.int .u8 0)], none, []⟩,
  ⟨none, .store 19 (.tmp 10) (.tmp 82), none, []⟩,
  ⟨some 11, .mov (.tmp 83), none, []⟩] [])) (.seq (.cut (.region [⟨some 85, .mov (.tmp 2), none, []⟩,
  ⟨some 86, .inl 42 [(.tmp 85)], none, []⟩,
  ⟨some 84, .mov (.tmp 86), none, []⟩,
  ⟨some 87, .ext (.tmp 84) 0, none, []⟩,
  ⟨some 88, .ext (.tmp 84) 1, none, []⟩,
  ⟨some 12, .alloc [(.int .i64 0), (.int .i64 0), .nil, (.int .u8 0), (.int .u8 0), (.int .u8 0), (.int .u8 0), (.int .u8 0), (.int .u8 0), (.int .u8 0), (.int .u8 0), (.int .u8 0), (.int .u8 0), (.int .u8 0), (.int .u8 0), (.int .u8 0), (.int .u8 0), (.int .u8 0), (.int .u8 0)], none, []⟩,
  ⟨none, .store 19 (.tmp 12) (.tmp 87), none, []⟩,
  ⟨some 13, .mov (.tmp 88), none, []⟩] [])) (.seq (.cut (.region [⟨some 90, .load 19 true (.tmp 10), none, []⟩,
  ⟨some 91, .load 19 true (.tmp 12), none, []⟩,
  ⟨some 92, .buildS 51 19 2 [(.int .i64 0), (.int .i64 0), .nil, (.int .u8 0), (.int .u8 0), (.int .u8 0), (.int .u8 0), (.int .u8 0), (.int .u8 0), (.int .u8 0), (.int .u8 0), (.int .u8 0), (.int .u8 0), (.int .u8 0), (.int .u8 0), (.int .u8 0), (.int .u8 0), (.int .u8 0), (.int .u8 0)] [(0, (.tmp 90)), (1, (.tmp 91))], none, []⟩,
  ⟨some 93, .call 22 [(.const (.int .i64 3)), (.tmp 92)], none, []⟩,
  ⟨some 89, .mov (.tmp 93), none, []⟩,
  ⟨some 94, .ext (.tmp 89) 0, none, []⟩,
  ⟨some 95, .ext (.tmp 89) 1, none, []⟩,
  ⟨some 14, .mov (.tmp 94), none, []⟩,
  ⟨some 15, .mov (.tmp 95), none, []⟩] [])) (.seq (.cut (.region [⟨some 97, .load 19 true (.tmp 12), none, []⟩,
  ⟨some 98, .buildS 51 19 1 [(.int .i64 0), (.int .i64 0), .nil, (.int .u8 0), (.int .u8 0), (.int .u8 0), (.int .u8 0), (.int .u8 0), (.int .u8 0), (.int .u8 0), (.int .u8 0), (.int .u8 0), (.int .u8 0), (.int .u8 0), (.int .u8 0), (.int .u8 0), (.int .u8 0), (.int .u8 0), (.int .u8 0)] [(0, (.tmp 97))], none, []⟩,
  ⟨some 99, .call 22 [(.const (.int .i64 3)), (.tmp 98)], none, []⟩,
  ⟨some 96, .mov (.tmp 99), none, []⟩,
  ⟨some 100, .ext (.tmp 96) 0, none, []⟩,
  ⟨some 101, .ext (.tmp 96) 1, none, []⟩,
  ⟨some 16, .mov (.tmp 100), none, []⟩,
  ⟨some 17, .mov (.tmp 101), none, []⟩] [])) (.seq (.cut (.region [⟨some 103, .load 19 true (.tmp 10), none, []⟩,
  ⟨some 104, .call 30 [(.tmp 103), (.const (.int .i64 2)), (.const (.int .i64 7)), (.const (.int .i64 1))], none, []⟩,
  ⟨some 102, .mov (.tmp 104), none, []⟩,
  ⟨some 105, .ext (.tmp 102) 0, none, []⟩,
  ⟨some 106, .ext (.tmp 102) 1, none, []⟩,
  ⟨some 18, .alloc [(.int .i64 0), (.int .i64 0), (.int .i64 0), (.int .i64 0), (.int .i64 0), (.int .i64 0), (.int .i64 0), (.int .i64 0)], none, []⟩,
  ⟨none, .store 8 (.tmp 18) (.tmp 105), none, []⟩,
  ⟨some 19, .mov (.tmp 106), none, []⟩] [])) (.seq (.region [⟨some 108, .build [(.int .i64 0), (.int .i64 0), (.int .i64 0), (.int .i64 0), (.int .i64 0), (.int .i64 0), (.int .i64 0), (.int .i64 0)] [(3, 1, (.const (.int .i64 5)))], none, []⟩,
  ⟨some 109, .build [(.int .i64 0), (.int .i64 0), (.int .i64 0), (.int .i64 0), (.int .i64 0), (.int .i64 0), (.int .i64 0), (.int .i64 0)] [(3, 1, (.const (.int .i64 3)))], none, []⟩,
  ⟨some 110, .call 19 [(.tmp 108), (.tmp 109)], none, []⟩,
  ⟨some 107, .mov (.tmp 110), none, []⟩,
  ⟨some 111, .ext (.tmp 107) 0, none, []⟩,
  ⟨some 112, .ext (.tmp 107) 1, none, []⟩,
  ⟨some 20, .mov (.tmp 111), none, []⟩,
  ⟨some 21, .mov (.tmp 112), none, []⟩] []) (.seq (.region [⟨some 114, .build [(.int .i64 0), (.int .i64 0), (.int .i64 0), (.int .i64 0), (.int .i64 0), (.int .i64 0), (.int .i64 0), (.int .i64 0)] [(3, 1, (.const (.int .i64 3)))], none, []⟩,
  ⟨some 115, .build [(.int .i64 0), (.int .i64 0), (.int .i64 0), (.int .i64 0), (.int .i64 0), (.int .i64 0), (.int .i64 0), (.int .i64 0)] [(3, 1, (.const (.int .i64 5)))], none, []⟩,
  ⟨some 116, .call 19 [(.tmp 114), (.tmp 115)], none, []⟩,
  ⟨some 113, .mov (.tmp 116), none, []⟩,
  ⟨some 117, .ext (.tmp 113) 0, none, []⟩,
  ⟨some 118, .ext (.tmp 113) 1, none, []⟩,
  ⟨some 22, .mov (.tmp 117), none, []⟩,
  ⟨some 23, .mov (.tmp 118), none, []⟩] []) (.seq (.cut (.region [⟨some 120, .build [(.int .i64 0), (.int .i64 0), (.int .i64 0), (.int .i64 0)] [(0, 1, (.const (.int .i64 1)))], none, []⟩,
  ⟨some 121, .build [(.int .i64 0), (.int .i64 0), (.int .i64 0), (.int .i64 0), (.int .i64 0), (.int .i64 0), (.int .i64 0), (.int .i64 0)] [(3, 1, (.const (.int .i64 5))), (4, 4, (.tmp 120))], none, []⟩,
  ⟨some 122, .build [(.int .i64 0), (.int .i64 0), (.int .i64 0), (.int .i64 0), (.int .i64 0), (.int .i64 0), (.int .i64 0), (.int .i64 0)] [(3, 1, (.const (.int .i64 5)))], none, []⟩,
  ⟨some 123, .call 19 [(.tmp 121), (.tmp 122)], none, []⟩,
  ⟨some 119, .mov (.tmp 123), none, []⟩,
  ⟨some 124, .ext (.tmp 119) 0, none, []⟩,
  ⟨some 125, .ext (.tmp 119) 1, none, []⟩,
  ⟨some 24, .mov (.tmp 124), none, []⟩,
  ⟨some 25, .mov (.tmp 125), none, []⟩] [])) (.seq (.cut (.region [⟨some 126, .mov (.tmp 11), none, []⟩,
  ⟨some 127, .bin .eql (.tmp 126) (.const (.int .i64 0)), none, []⟩,
  ⟨some 128, .mov (.tmp 127), none, []⟩,
  ⟨some 129, .mov (.tmp 13), some (128, true), []⟩,
  ⟨some 130, .bin .eql (.tmp 129) (.const (.int .i64 0)), some (128, true), []⟩,
  ⟨some 131, .pick (.tmp 128) (.tmp 130) (.const (.bool false)), none, []⟩,
  ⟨some 132, .mov (.tmp 131), none, []⟩,
  ⟨some 133, .offA 2 (.tmp 10), some (132, true), []⟩,
  ⟨some 134, .load 1 false (.tmp 133), some (132, true), []⟩,
  ⟨some 135, .len (.tmp 134), some (132, true), []⟩,
  ⟨some 136, .bin .eql (.tmp 135) (.const (.int .i64 2)), some (132, true), []⟩,
  ⟨some 137, .pick (.tmp 132) (.tmp 136) (.const (.bool false)), none, []⟩,
  ⟨some 138, .mov (.tmp 137), none, []⟩,
  ⟨some 139, .offA 2 (.tmp 10), some (138, true), []⟩,
  ⟨some 140, .load 1 false (.tmp 139), some (138, true), []⟩,
  ⟨some 141, .idxL 8 (.tmp 140) (.const (.int .i64 0)), some (138, true), []⟩,
  ⟨some 142, .offA 0 (.tmp 141), some (138, true), []⟩,
  ⟨some 143, .load 1 false (.tmp 142), some (138, true), []⟩,
  ⟨some 144, .bin .eql (.tmp 143) (.const (.int .i64 1)), some (138, true), []⟩,
  ⟨some 145, .pick (.tmp 138) (.tmp 144) (.const (.bool false)), none, []⟩,
  ⟨some 146, .mov (.tmp 145), none, []⟩,
  ⟨some 147, .offA 2 (.tmp 10), some (146, true), []⟩,
  ⟨some 148, .load 1 false (.tmp 147), some (146, true), []⟩,
  ⟨some 149, .idxL 8 (.tmp 148) (.const (.int .i64 0)), some (146, true), []⟩,
  ⟨some 150, .offA 3 (.tmp 149), some (146, true), []⟩,
  ⟨some 151, .load 1 false (.tmp 150), some (146, true), []⟩,
  ⟨some 152, .bin .eql (.tmp 151) (.const (.int .i64 1)), some (146, true), []⟩,
  ⟨some 153, .pick (.tmp 146) (.tmp 152) (.const (.bool false)), none, []⟩,
  ⟨some 154, .mov (.tmp 153), none, []⟩,
  ⟨some 155, .offA 1 (.tmp 10), some (154, true), []⟩,
  ⟨some 156, .load 1 false (.tmp 155), some (154, true), []⟩,
  ⟨some 157, .bin .eql (.tmp 156) (.const (.int .i64 0)), some (154, true), []⟩,
  ⟨some 158, .pick (.tmp 154) (.tmp 157) (.const (.bool false)), none, []⟩,
  ⟨some 159, .mov (.tmp 158), none, []⟩,
  ⟨some 160, .offA 1 (.tmp 12), some (159, true), []⟩,
  ⟨some 161, .load 1 false (.tmp 160), some (159, true), []⟩,
  ⟨some 162, .bin .eql (.tmp 161) (.const (.int .i64 1)), some (159, true), []⟩,
  ⟨some 163, .pick (.tmp 159) (.tmp 162) (.const (.bool false)), none, []⟩,
  ⟨some 164, .mov (.tmp 163), none, []⟩,
  ⟨some 165, .offA 2 (.tmp 12), some (164, true), []⟩,
  ⟨some 166, .load 1 false (.tmp 165), some (164, true), []⟩,
  ⟨some 167, .len (.tmp 166), some (164, true), []⟩,
  ⟨some 168, .bin .eql (.tmp 167) (.const (.int .i64 0)), some (164, true), []⟩,
  ⟨some 169, .pick (.tmp 164) (.tmp 168) (.const (.bool false)), none, []⟩,
  ⟨some 170, .mov (.tmp 169), none, []⟩,
  ⟨some 171, .offA 3 (.tmp 12), some (170, true), []⟩,
  ⟨some 172, .load 16 true (.tmp 171), some (170, true), []⟩,
  ⟨some 173, .load 19 true (.tmp 10), some (170, true), []⟩,
  ⟨some 174, .call 24 [(.tmp 173)], some (170, true), []⟩,
  ⟨some 175, .eqv false [.int .u8, .int .u8, .int .u8, .int .u8, .int .u8, .int .u8, .int .u8, .int .u8, .int .u8, .int .u8, .int .u8, .int .u8, .int .u8, .int .u8, .int .u8, .int .u8] (.tmp 172) (.tmp 174), some (170, true), []⟩,
  ⟨some 176, .pick (.tmp 170) (.tmp 175) (.const (.bool false)), none, []⟩,
  ⟨some 177, .mov (.tmp 176), none, []⟩,
  ⟨some 178, .load 19 true (.tmp 10), some (177, true), []⟩,
  ⟨some 179, .call 28 [(.tmp 178)], some (177, true), []⟩,
  ⟨some 180, .bin .eql (.tmp 179) (.const (.int .i64 0)), some (177, true), []⟩,
  ⟨some 181, .pick (.tmp 177) (.tmp 180) (.const (.bool false)), none, []⟩,
  ⟨some 26, .mov (.tmp 181), none, []⟩] [])) (.seq (.region [⟨some 182, .mov (.tmp 26), none, []⟩,
  ⟨some 183, .mov (.tmp 182), none, []⟩,
  ⟨some 184, .mov (.tmp 14), some (183, true), []⟩,
  ⟨some 185, .bin .eql (.tmp 184) (.const (.int .i64 2)), some (183, true), []⟩,
  ⟨some 186, .pick (.tmp 183) (.tmp 185) (.const (.bool false)), none, []⟩,
  ⟨some 187, .mov (.tmp 186), none, []⟩,
  ⟨some 188, .mov (.tmp 15), some (187, true), []⟩,
  ⟨some 189, .bin .eql (.tmp 188) (.const (.int .i64 0)), some (187, true), []⟩,
  ⟨some 190, .pick (.tmp 187) (.tmp 189) (.const (.bool false)), none, []⟩,
  ⟨some 191, .mov (.tmp 190), none, []⟩,
  ⟨some 192, .mov (.tmp 16), some (191, true), []⟩,
  ⟨some 193, .bin .eql (.tmp 192) (.const (.int .i64 0)), some (191, true), []⟩,
  ⟨some 194, .pick (.tmp 191) (.tmp 193) (.const (.bool false)), none, []⟩,
  ⟨some 195, .mov (.tmp 194), none, []⟩,
  ⟨some 196, .mov (.tmp 17), some (195, true), []⟩,
  ⟨some 197, .bin .eql (.tmp 196) (.const (.int .i64 25)), some (195, true), []⟩,
  ⟨some 198, .pick (.tmp 195) (.tmp 197) (.const (.bool false)), none, []⟩,
  ⟨some 199, .mov (.tmp 198), none, []⟩,
  ⟨some 200, .mov (.tmp 19), some (199, true), []⟩,
  ⟨some 201, .pick (.tmp 199) (.tmp 200) (.const (.bool false)), none, []⟩,
  ⟨some 202, .mov (.tmp 201), none, []⟩,
  ⟨some 203, .offA 3 (.tmp 18), some (202, true), []⟩,
  ⟨some 204, .load 1 false (.tmp 203), some (202, true), []⟩,
  ⟨some 205, .bin .eql (.tmp 204) (.const (.int .i64 2)), some (202, true), []⟩,
  ⟨some 206, .pick (.tmp 202) (.tmp 205) (.const (.bool false)), none, []⟩,
  ⟨some 207, .mov (.tmp 206), none, []⟩,
  ⟨some 208, .offA 4 (.tmp 18), some (207, true), []⟩,
  ⟨some 209, .load 4 true (.tmp 208), some (207, true), []⟩,
  ⟨some 210, .load 10 true (.tmp 6), some (207, true), []⟩,
  ⟨some 211, .call 12 [(.tmp 210)], some (207, true), []⟩,
  ⟨some 212, .load 10 true (.tmp 7), some (207, true), []⟩,
  ⟨some 213, .call 12 [(.tmp 212)], some (207, true), []⟩,
  ⟨some 214, .call 14 [(.tmp 211), (.tmp 213)], some (207, true), []⟩,
  ⟨some 215, .eqv false [.int .i64, .int .i64, .int .i64, .int .i64] (.tmp 209) (.tmp 214), some (207, true), []⟩,
  ⟨some 216, .pick (.tmp 207) (.tmp 215) (.const (.bool false)), none, []⟩,
  ⟨some 217, .mov (.tmp 216), none, []⟩,
  ⟨some 218, .mov (.tmp 20), some (217, true), []⟩,
  ⟨some 219, .bin .eql (.tmp 218) (.const (.int .i64 2)), some (217, true), []⟩,
  ⟨some 220, .pick (.tmp 217) (.tmp 219) (.const (.bool false)), none, []⟩,
  ⟨some 221, .mov (.tmp 220), none, []⟩,
  ⟨some 222, .mov (.tmp 21), some (221, true), []⟩,
  ⟨some 223, .bin .eql (.tmp 222) (.const (.int .i64 0)), some (221, true), []⟩,
  ⟨some 224, .pick (.tmp 221) (.tmp 223) (.const (.bool false)), none, []⟩,
  ⟨some 225, .mov (.tmp 224), none, []⟩,
  ⟨some 226, .mov (.tmp 23), some (225, true), []⟩,
  ⟨some 227, .bin .eql (.tmp 226) (.const (.int .i64 26)), some (225, true), []⟩,
  ⟨some 228, .pick (.tmp 225) (.tmp 227) (.const (.bool false)), none, []⟩,
  ⟨some 229, .mov (.tmp 228), none, []⟩,
  ⟨some 230, .mov (.tmp 25), some (229, true), []⟩,
  ⟨some 231, .bin .eql (.tmp 230) (.const (.int .i64 26)), some (229, true), []⟩,
  ⟨some 232, .pick (.tmp 229) (.tmp 231) (.const (.bool false)), none, []⟩,
  ⟨some 0, .mov (.tmp 232), none, []⟩] []) .ret))))))))))))))))))
theorem l11 : (Tryd.f11.body.bind (lowC Tryd.prog 233 [40, 42, 6000015, 6000016, 6000017, 6000018, 6000019, 6000022, 6000023, 1000063001013, 1000063001011, 1000066001013, 1000066001011, 1000069001013, 1000069001011])) = some c11 := by kernel_rfl
noncomputable def c3 : DCode := (.seq (.region [⟨some 4, .box 10 (.tmp 0), none, []⟩,
  ⟨some 5, .box 4 (.tmp 1), none, []⟩,
  ⟨some 6, .box 4 (.tmp 2), none, []⟩,
  ⟨some 7, .box 4 (.tmp 3), none, []⟩,
  ⟨some 8, .mov (.const (.bool false)), none, []⟩] []) (.seq (.seq (.region [⟨some 11, .load 10 true (.tmp 4), none, []⟩,
  ⟨some 12, .call 9 [(.tmp 11)], none, []⟩,
  ⟨some 13, .not (.tmp 12), none, []⟩,
  ⟨some 14, .mov (.tmp 13), none, []⟩,
  ⟨some 15, .load 4 true (.tmp 5), some (14, false), []⟩,
  ⟨some 16, .call 10 [(.tmp 15)], some (14, false), []⟩,
  ⟨some 17, .not (.tmp 16), some (14, false), []⟩,
  ⟨some 18, .pick (.tmp 14) (.const (.bool true)) (.tmp 17), none, []⟩,
  ⟨some 19, .mov (.tmp 18), none, []⟩,
  ⟨some 20, .load 4 true (.tmp 6), some (19, false), []⟩,
  ⟨some 21, .call 10 [(.tmp 20)], some (19, false), []⟩,
  ⟨some 22, .not (.tmp 21), some (19, false), []⟩,
  ⟨some 23, .pick (.tmp 19) (.const (.bool true)) (.tmp 22), none, []⟩,
  ⟨some 24, .mov (.tmp 23), none, []⟩,
  ⟨some 25, .load 4 true (.tmp 7), some (24, false), []⟩,
  ⟨some 26, .call 10 [(.tmp 25)], some (24, false), []⟩,
  ⟨some 27, .not (.tmp 26), some (24, false), []⟩,
  ⟨some 28, .pick (.tmp 24) (.const (.bool true)) (.tmp 27), none, []⟩] []) (.cond (.tmp 28) (.seq (.region [⟨some 29, .call 11 [], none, []⟩,
  ⟨some 8, .mov (.tmp 29), none, []⟩] []) .ret) .skip)) (.seq (.seq (.region [⟨some 30, .load 10 true (.tmp 4), none, []⟩,
  ⟨some 31, .call 12 [(.tmp 30)], none, []⟩,
  ⟨some 32, .load 10 true (.tmp 4), none, []⟩,
  ⟨some 33, .call 13 [(.tmp 32)], none, []⟩,
  ⟨some 34, .eqv true [.int .i64, .int .i64, .int .i64, .int .i64] (.tmp 31) (.tmp 33), none, []⟩,
  ⟨some 35, .mov (.tmp 34), none, []⟩,
  ⟨some 36, .load 4 true (.tmp 5), some (35, false), []⟩,
  ⟨some 37, .load 4 true (.tmp 6), some (35, false), []⟩,
  ⟨some 38, .call 14 [(.tmp 36), (.tmp 37)], some (35, false), []⟩,
  ⟨some 39, .load 4 true (.tmp 5), some (35, false), []⟩,
  ⟨some 40, .load 4 true (.tmp 6), some (35, false), []⟩,
  ⟨some 41, .call 15 [(.tmp 39), (.tmp 40)], some (35, false), []⟩,
  ⟨some 42, .eqv true [.int .i64, .int .i64, .int .i64, .int .i64] (.tmp 38) (.tmp 41), some (35, false), []⟩,
  ⟨some 43, .pick (.tmp 35) (.const (.bool true)) (.tmp 42), none, []⟩,
  ⟨some 44, .mov (.tmp 43), none, []⟩,
  ⟨some 45, .load 4 true (.tmp 5), some (44, false), []⟩,
  ⟨some 46, .load 4 true (.tmp 6), some (44, false), []⟩,
  ⟨some 47, .call 16 [(.tmp 45), (.tmp 46)], some (44, false), []⟩,
  ⟨some 48, .load 4 true (.tmp 5), some (44, false), []⟩,
  ⟨some 49, .load 4 true (.tmp 6), some (44, false), []⟩,
  ⟨some 50, .call 17 [(.tmp 48), (.tmp 49)], some (44, false), []⟩,
  ⟨some 51, .eqv true [.int .i64, .int .i64, .int .i64, .int .i64] (.tmp 47) (.tmp 50), some (44, false), []⟩,
  ⟨some 52, .pick (.tmp 44) (.const (.bool true)) (.tmp 51), none, []⟩,
  ⟨some 53, .mov (.tmp 52), none, []⟩,
  ⟨some 54, .load 10 true (.tmp 4), some (53, false), []⟩,
  ⟨some 55, .call 12 [(.tmp 54)], some (53, false), []⟩,
  ⟨some 56, .call 10 [(.tmp 55)], some (53, false), []⟩,
  ⟨some 57, .not (.tmp 56), some (53, false), []⟩,
  ⟨some 58, .pick (.tmp 53) (.const (.bool true)) (.tmp 57), none, []⟩] []) (.cond (.tmp 58) (.seq (.region [⟨some 8, .mov (.const (.bool false)), none, []⟩] []) .ret) .skip)) (.seq (.region [⟨some 59, .load 4 true (.tmp 5), none, []⟩,
  ⟨some 60, .load 4 true (.tmp 6), none, []⟩,
  ⟨some 61, .call 14 [(.tmp 59), (.tmp 60)], none, []⟩,
  ⟨some 62, .load 4 true (.tmp 7), none, []⟩,
  ⟨some 63, .call 14 [(.tmp 61), (.tmp 62)], none, []⟩,
  ⟨some 64, .load 4 true (.tmp 5), none, []⟩,
  ⟨some 65, .load 4 true (.tmp 6), none, []⟩,
  ⟨some 66, .load 4 true (.tmp 7), none, []⟩,
  ⟨some 67, .call 14 [(.tmp 65), (.tmp 66)], none, []⟩,
  ⟨some 68, .call 14 [(.tmp 64), (.tmp 67)], none, []⟩,
  ⟨some 9, .alloc [(.int .i64 0), (.int .i64 0), (.int .i64 0), (.int .i64 0)], none, []⟩,
  ⟨some 10, .alloc [(.int .i64 0), (.int .i64 0), (.int .i64 0), (.int .i64 0)], none, []⟩,
  ⟨none, .store 4 (.tmp 9) (.tmp 63), none, []⟩,
  ⟨none, .store 4 (.tmp 10) (.tmp 68), none, []⟩] []) (.seq (.region [⟨some 69, .call 11 [], none, []⟩,
  ⟨some 70, .mov (.tmp 69), none, []⟩,
  ⟨some 71, .load 4 true (.tmp 5), some (70, true), []⟩,
  ⟨some 72, .load 4 true (.tmp 6), some (70, true), []⟩,
  ⟨some 73, .call 14 [(.tmp 71), (.tmp 72)], some (70, true), []⟩,
  ⟨some 74, .load 4 true (.tmp 6), some (70, true), []⟩,
  ⟨some 75, .load 4 true (.tmp 5), some (70, true), []⟩,
  ⟨some 76, .call 14 [(.tmp 74), (.tmp 75)], some (70, true), []⟩,
  ⟨some 77, .eqv false [.int .i64, .int .i64, .int .i64, .int .i64] (.tmp 73) (.tmp 76), some (70, true), []⟩,
  ⟨some 78, .pick (.tmp 70) (.tmp 77) (.const (.bool false)), none, []⟩,
  ⟨some 79, .mov (.tmp 78), none, []⟩,
  ⟨some 80, .load 4 true (.tmp 9), some (79, true), []⟩,
  ⟨some 81, .load 4 true (.tmp 10), some (79, true), []⟩,
  ⟨some 82, .eqv false [.int .i64, .int .i64, .int .i64, .int .i64] (.tmp 80) (.tmp 81), some (79, true), []⟩,
  ⟨some 83, .pick (.tmp 79) (.tmp 82) (.const (.bool false)), none, []⟩,
  ⟨some 84, .mov (.tmp 83), none, []⟩,
  ⟨some 85, .load 4 true (.tmp 5), some (84, true), []⟩,
  ⟨some 86, .load 4 true (.tmp 6), some (84, true), []⟩,
  ⟨some 87, .call 14 [(.tmp 85), (.tmp 86)], some (84, true), []⟩,
  ⟨some 88, .load 4 true (.tmp 6), some (84, true), []⟩,
  ⟨some 89, .call 16 [(.tmp 87), (.tmp 88)], some (84, true), []⟩,
  ⟨some 90, .load 4 true (.tmp 5), some (84, true), []⟩,
  ⟨some 91, .eqv false [.int .i64, .int .i64, .int .i64, .int .i64] (.tmp 89) (.tmp 90), some (84, true), []⟩,
  ⟨some 92, .pick (.tmp 84) (.tmp 91) (.const (.bool false)), none, []⟩,
  ⟨some 93, .mov (.tmp 92), none, []⟩,
  ⟨some 94, .load 4 true (.tmp 5), some (93, true), []⟩,
  ⟨some 95, .build [(.int .i64 0), (.int .i64 0), (.int .i64 0), (.int .i64 0)] [], some (93, true), []⟩,
  ⟨some 96, .call 14 [(.tmp 94), (.tmp 95)], some (93, true), []⟩,
  ⟨some 97, .load 4 true (.tmp 5), some (93, true), []⟩,
  ⟨some 98, .eqv false [.int .i64, .int .i64, .int .i64, .int .i64] (.tmp 96) (.tmp 97), some (93, true), []⟩,
  ⟨some 99, .pick (.tmp 93) (.tmp 98) (.const (.bool false)), none, []⟩,
  ⟨some 8, .mov (.tmp 99), none, []⟩] []) .ret)))))
theorem l3 : (Tryd.f3.body.bind (lowC Tryd.prog 100 [])) = some c3 := by kernel_rfl
noncomputable def c6 : DCode := (.seq (.region [⟨some 6, .mov (.const (.bool false)), none, []⟩] []) (.seq (.seq (.region [⟨some 12, .mov (.tmp 1), none, []⟩,
  ⟨some 13, .call 20 [(.tmp 12), (.const (.int .i64 12))], none, []⟩,
  ⟨some 14, .not (.tmp 13), none, []⟩,
  ⟨some 15, .mov (.tmp 14), none, []⟩,
  ⟨some 16, .mov (.tmp 2), some (15, false), []⟩,
  ⟨some 17, .call 20 [(.tmp 16), (.const (.int .i64 12))], some (15, false), []⟩,
  ⟨some 18, .not (.tmp 17), some (15, false), []⟩,
  ⟨some 19, .pick (.tmp 15) (.const (.bool true)) (.tmp 18), none, []⟩,
  ⟨some 20, .mov (.tmp 19), none, []⟩,
  ⟨some 21, .mov (.tmp 1), some (20, false), []⟩,
  ⟨some 22, .len (.tmp 21), some (20, false), []⟩,
  ⟨some 23, .mov (.tmp 2), some (20, false), []⟩,
  ⟨some 24, .len (.tmp 23), some (20, false), []⟩,
  ⟨some 25, .bin .neq (.tmp 22) (.tmp 24), some (20, false), []⟩,
  ⟨some 26, .pick (.tmp 20) (.const (.bool true)) (.tmp 25), none, []⟩,
  ⟨some 27, .mov (.tmp 26), none, []⟩,
  ⟨some 28, .mov (.tmp 1), some (27, false), []⟩,
  ⟨some 29, .len (.tmp 28), some (27, false), []⟩,
  ⟨some 30, .bin .eql (.tmp 29) (.const (.int .i64 0)), some (27, false), []⟩,
  ⟨some 31, .pick (.tmp 27) (.const (.bool true)) (.tmp 30), none, []⟩,
  ⟨some 32, .mov (.tmp 31), none, []⟩,
  ⟨some 33, .mov (.tmp 1), some (32, false), []⟩,
  ⟨some 34, .mov (.tmp 1), some (32, false), []⟩,
  ⟨some 35, .len (.tmp 34), some (32, false), []⟩,
  ⟨some 36, .bin .sub (.tmp 35) (.const (.int .i64 1)), some (32, false), []⟩,
  ⟨some 37, .idxL 19 (.tmp 33) (.tmp 36), some (32, false), []⟩,
  ⟨some 38, .load 19 true (.tmp 37), some (32, false), []⟩,
  ⟨some 39, .mov (.tmp 2), some (32, false), []⟩,
  ⟨some 40, .mov (.tmp 2), some (32, false), []⟩,
  ⟨some 41, .len (.tmp 40), some (32, false), []⟩,
  ⟨some 42, .bin .sub (.tmp 41) (.const (.int .i64 1)), some (32, false), []⟩,
  ⟨some 43, .idxL 19 (.tmp 39) (.tmp 42), some (32, false), []⟩,
  ⟨some 44, .load 19 true (.tmp 43), some (32, false), []⟩,
  ⟨some 45, .call 21 [(.tmp 38), (.tmp 44)], some (32, false), []⟩,
  ⟨some 46, .not (.tmp 45), some (32, false), []⟩,
  ⟨some 47, .pick (.tmp 32) (.const (.bool true)) (.tmp 46), none, []⟩] []) (.cond (.tmp 47) (.seq (.region [⟨some 48, .call 11 [], none, []⟩,
  ⟨some 6, .mov (.tmp 48), none, []⟩] []) .ret) .skip)) (.seq (.region [⟨some 50, .mov (.tmp 0), none, []⟩,
  ⟨some 51, .mov (.tmp 1), none, []⟩,
  ⟨some 52, .call 22 [(.tmp 50), (.tmp 51)], none, []⟩,
  ⟨some 49, .mov (.tmp 52), none, []⟩,
  ⟨some 53, .ext (.tmp 49) 0, none, []⟩,
  ⟨some 54, .ext (.tmp 49) 1, none, []⟩,
  ⟨some 7, .mov (.tmp 53), none, []⟩,
  ⟨some 8, .mov (.tmp 54), none, []⟩] []) (.seq (.region [⟨some 56, .mov (.tmp 0), none, []⟩,
  ⟨some 57, .mov (.tmp 2), none, []⟩,
  ⟨some 58, .call 22 [(.tmp 56), (.tmp 57)], none, []⟩,
  ⟨some 55, .mov (.tmp 58), none, []⟩,
  ⟨some 59, .ext (.tmp 55) 0, none, []⟩,
  ⟨some 60, .ext (.tmp 55) 1, none, []⟩,
  ⟨some 9, .mov (.tmp 59), none, []⟩,
  ⟨some 10, .mov (.tmp 60), none, []⟩] []) (.seq (.seq (.region [⟨some 61, .mov (.tmp 8), none, []⟩,
  ⟨some 62, .bin .neq (.tmp 61) (.const (.int .i64 0)), none, []⟩,
  ⟨some 63, .mov (.tmp 62), none, []⟩,
  ⟨some 64, .mov (.tmp 10), some (63, false), []⟩,
  ⟨some 65, .bin .neq (.tmp 64) (.const (.int .i64 0)), some (63, false), []⟩,
  ⟨some 66, .pick (.tmp 63) (.const (.bool true)) (.tmp 65), none, []⟩,
  ⟨some 67, .mov (.tmp 66), none, []⟩,
  ⟨some 68, .mov (.tmp 7), some (67, false), []⟩,
  ⟨some 69, .mov (.tmp 1), some (67, false), []⟩,
  ⟨some 70, .len (.tmp 69), some (67, false), []⟩,
  ⟨some 71, .bin .neq (.tmp 68) (.tmp 70), some (67, false), []⟩,
  ⟨some 72, .pick (.tmp 67) (.const (.bool true)) (.tmp 71), none, []⟩,
  ⟨some 73, .mov (.tmp 72), none, []⟩,
  ⟨some 74, .mov (.tmp 9), some (73, false), []⟩,
  ⟨some 75, .mov (.tmp 2), some (73, false), []⟩,
  ⟨some 76, .len (.tmp 75), some (73, false), []⟩,
  ⟨some 77, .bin .neq (.tmp 74) (.tmp 76), some (73, false), []⟩,
  ⟨some 78, .pick (.tmp 73) (.const (.bool true)) (.tmp 77), none, []⟩] []) (.cond (.tmp 78) (.seq (.region [⟨some 79, .call 11 [], none, []⟩,
  ⟨some 6, .mov (.tmp 79), none, []⟩] []) .ret) .skip)) (.seq (.seq (.region [⟨some 80, .mov (.tmp 1), none, []⟩,
  ⟨some 81, .len (.tmp 80), none, []⟩,
  ⟨some 82, .mov (.const (.int .i64 0)), none, []⟩] []) (.block 0 (.loop (.seq (.region [⟨some 83, .bin .lss (.tmp 82) (.tmp 81), none, []⟩] []) (.seq (.cond (.tmp 83) .skip (.exit 0)) (.seq (.block 1 (.seq (.region [⟨some 84, .mov (.tmp 82), none, []⟩,
  ⟨some 11, .mov (.tmp 84), none, []⟩] []) (.seq (.region [⟨some 85, .mov (.tmp 1), none, []⟩,
  ⟨some 86, .mov (.tmp 11), none, []⟩,
  ⟨some 87, .idxL 19 (.tmp 85) (.tmp 86), none, []⟩,
  ⟨some 88, .load 19 true (.tmp 87), none, []⟩,
  ⟨some 89, .mov (.tmp 2), none, []⟩,
  ⟨some 90, .mov (.tmp 11), none, []⟩,
  ⟨some 91, .idxL 19 (.tmp 89) (.tmp 90), none, []⟩,
  ⟨some 92, .load 19 true (.tmp 91), none, []⟩,
  ⟨some 93, .call 23 [(.tmp 88), (.tmp 92)], none, []⟩,
  ⟨some 94, .not (.tmp 93), none, []⟩,
  ⟨some 95, .mov (.tmp 94), none, []⟩,
  ⟨some 96, .mov (.tmp 1), some (95, true), []⟩,
  ⟨some 97, .mov (.tmp 11), some (95, true), []⟩,
  ⟨some 98, .idxL 19 (.tmp 96) (.tmp 97), some (95, true), []⟩,
  ⟨some 99, .load 19 true (.tmp 98), some (95, true), []⟩,
  ⟨some 100, .call 24 [(.tmp 99)], some (95, true), []⟩,
  ⟨some 101, .mov (.tmp 2), some (95, true), []⟩,
  ⟨some 102, .mov (.tmp 11), some (95, true), []⟩,
  ⟨some 103, .idxL 19 (.tmp 101) (.tmp 102), some (95, true), []⟩,
  ⟨some 104, .load 19 true (.tmp 103), some (95, true), []⟩,
  ⟨some 105, .call 24 [(.tmp 104)], some (95, true), []⟩,
  ⟨some 106, .eqv false [.int .u8, .int .u8, .int .u8, .int .u8, .int .u8, .int .u8, .int .u8, .int .u8, .int .u8, .int .u8, .int .u8, .int .u8, .int .u8, .int .u8, .int .u8, .int .u8] (.tmp 100) (.tmp 105), some (95, true), []⟩,
  ⟨some 107, .pick (.tmp 95) (.tmp 106) (.const (.bool false)), none, []⟩] []) (.cond (.tmp 107) (.seq (.region [⟨some 108, .call 11 [], none, []⟩,
  ⟨some 6, .mov (.tmp 108), none, []⟩] []) .ret) .skip)))) (.region [⟨some 109, .bin .add (.tmp 82) (.const (.int .i64 1)), none, []⟩,
  ⟨some 82, .mov (.tmp 109), none, []⟩] []))))))) (.seq (.region [⟨some 110, .call 11 [], none, []⟩,
  ⟨some 111, .mov (.tmp 110), none, []⟩,
  ⟨some 112, .mov (.tmp 1), some (111, true), []⟩,
  ⟨some 113, .mov (.tmp 2), some (111, true), []⟩,
  ⟨some 114, .call 25 [(.tmp 112), (.tmp 113)], some (111, true), []⟩,
  ⟨some 115, .pick (.tmp 111) (.tmp 114) (.const (.bool false)), none, []⟩,
  ⟨some 6, .mov (.tmp 115), none, []⟩] []) .ret)))))))
noncomputable def c7 : DCode := (.seq (.region [⟨some 9, .box 19 (.tmp 1), none, []⟩,
  ⟨some 14, .box 8 (.tmp 6), none, []⟩,
  ⟨some 15, .box 8 (.tmp 7), none, []⟩,
  ⟨some 16, .mov (.const (.bool false)), none, []⟩] []) (.seq (.seq (.region [⟨some 32, .mov (.tmp 0), none, []⟩,
  ⟨some 33, .call 20 [(.tmp 32), (.const (.int .i64 20))], none, []⟩,
  ⟨some 34, .not (.tmp 33), none, []⟩,
  ⟨some 35, .mov (.tmp 34), none, []⟩,
  ⟨some 36, .offA 2 (.tmp 9), some (35, false), []⟩,
  ⟨some 37, .load 1 false (.tmp 36), some (35, false), []⟩,
  ⟨some 38, .len (.tmp 37), some (35, false), []⟩,
  ⟨some 39, .bin .gtr (.tmp 38) (.const (.int .i64 1010)), some (35, false), []⟩,
  ⟨some 40, .pick (.tmp 35) (.const (.bool true)) (.tmp 39), none, []⟩,
  ⟨some 41, .mov (.tmp 40), none, []⟩,
  ⟨some 42, .offA 3 (.tmp 14), some (41, false), []⟩,
  ⟨some 43, .load 1 false (.tmp 42), some (41, false), []⟩,
  ⟨some 44, .bin .lss (.tmp 43) (.const (.int .i64 0)), some (41, false), []⟩,
  ⟨some 45, .pick (.tmp 41) (.const (.bool true)) (.tmp 44), none, []⟩,
  ⟨some 46, .mov (.tmp 45), none, []⟩,
  ⟨some 47, .offA 3 (.tmp 15), some (46, false), []⟩,
  ⟨some 48, .load 1 false (.tmp 47), some (46, false), []⟩,
  ⟨some 49, .bin .lss (.tmp 48) (.const (.int .i64 0)), some (46, false), []⟩,
  ⟨some 50, .pick (.tmp 46) (.const (.bool true)) (.tmp 49), none, []⟩] []) (.cond (.tmp 50) (.seq (.region [⟨some 51, .call 11 [], none, []⟩,
  ⟨some 16, .mov (.tmp 51), none, []⟩] []) .ret) .skip)) (.seq (.region [⟨some 53, .mov (.tmp 2), none, []⟩,
  ⟨some 54, .mov (.tmp 0), none, []⟩,
  ⟨some 55, .call 22 [(.tmp 53), (.tmp 54)], none, []⟩,
  ⟨some 52, .mov (.tmp 55), none, []⟩,
  ⟨some 56, .ext (.tmp 52) 0, none, []⟩,
  ⟨some 57, .ext (.tmp 52) 1, none, []⟩,
  ⟨some 17, .mov (.tmp 56), none, []⟩,
  ⟨some 18, .mov (.tmp 57), none, []⟩] []) (.seq (.region [⟨some 59, .mov (.tmp 2), none, []⟩,
  ⟨some 60, .mov (.tmp 0), none, []⟩,
  ⟨some 61, .call 26 [(.tmp 59), (.tmp 60)], none, []⟩,
  ⟨some 58, .mov (.tmp 61), none, []⟩,
  ⟨some 62, .ext (.tmp 58) 0, none, []⟩,
  ⟨some 63, .ext (.tmp 58) 1, none, []⟩,
  ⟨some 19, .mov (.tmp 62), none, []⟩,
  ⟨some 20, .mov (.tmp 63), none, []⟩] []) (.seq (.region [⟨some 65, .load 8 true (.tmp 14), none, []⟩,
  ⟨some 66, .load 8 true (.tmp 15), none, []⟩,
  ⟨some 67, .call 19 [(.tmp 65), (.tmp 66)], none, []⟩,
  ⟨some 64, .mov (.tmp 67), none, []⟩,
  ⟨some 68, .ext (.tmp 64) 0, none, []⟩,
  ⟨some 69, .ext (.tmp 64) 1, none, []⟩,
  ⟨some 21, .mov (.tmp 68), none, []⟩,
  ⟨some 22, .mov (.tmp 69), none, []⟩] []) (.seq (.region [⟨some 71, .load 8 true (.tmp 14), none, []⟩,
  ⟨some 72, .load 8 true (.tmp 15), none, []⟩,
  ⟨some 73, .call 27 [(.tmp 71), (.tmp 72)], none, []⟩,
  ⟨some 70, .mov (.tmp 73), none, []⟩,
  ⟨some 74, .ext (.tmp 70) 0, none, []⟩,
  ⟨some 75, .ext (.tmp 70) 1, none, []⟩,
  ⟨some 23, .mov (.tmp 74), none, []⟩,
  ⟨some 24, .mov (.tmp 75), none, []⟩] []) (.seq (.seq (.region [⟨some 76, .mov (.tmp 17), none, []⟩,
  ⟨some 77, .mov (.tmp 19), none, []⟩,
  ⟨some 78, .bin .neq (.tmp 76) (.tmp 77), none, []⟩,
  ⟨some 79, .mov (.tmp 78), none, []⟩,
  ⟨some 80, .mov (.tmp 18), some (79, false), []⟩,
  ⟨some 81, .mov (.tmp 20), some (79, false), []⟩,
  ⟨some 82, .bin .neq (.tmp 80) (.tmp 81), some (79, false), []⟩,
  ⟨some 83, .pick (.tmp 79) (.const (.bool true)) (.tmp 82), none, []⟩,
  ⟨some 84, .mov (.tmp 83), none, []⟩,
  ⟨some 85, .mov (.tmp 21), some (84, false), []⟩,
  ⟨some 86, .mov (.tmp 23), some (84, false), []⟩,
  ⟨some 87, .bin .neq (.tmp 85) (.tmp 86), some (84, false), []⟩,
  ⟨some 88, .pick (.tmp 84) (.const (.bool true)) (.tmp 87), none, []⟩,
  ⟨some 89, .mov (.tmp 88), none, []⟩,
  ⟨some 90, .mov (.tmp 22), some (89, false), []⟩,
  ⟨some 91, .mov (.tmp 24), some (89, false), []⟩,
  ⟨some 92, .bin .neq (.tmp 90) (.tmp 91), some (89, false), []⟩,
  ⟨some 93, .pick (.tmp 89) (.const (.bool true)) (.tmp 92), none, []⟩,
  ⟨some 94, .mov (.tmp 93), none, []⟩,
  ⟨some 95, .load 19 true (.tmp 9), some (94, false), []⟩,
  ⟨some 96, .call 28 [(.tmp 95)], some (94, false), []⟩,
  ⟨some 97, .load 19 true (.tmp 9), some (94, false), []⟩,
  ⟨some 98, .call 29 [(.tmp 97)], some (94, false), []⟩,
  ⟨some 99, .bin .neq (.tmp 96) (.tmp 98), some (94, false), []⟩,
  ⟨some 100, .pick (.tmp 94) (.const (.bool true)) (.tmp 99), none, []⟩] []) (.cond (.tmp 100) (.seq (.region [⟨some 16, .mov (.const (.bool false)), none, []⟩] []) .ret) .skip)) (.seq (.region [⟨some 25, .mov (.const (.bool true)), none, []⟩] []) (.seq (.seq (.region [⟨some 101, .mov (.tmp 0), none, []⟩,
  ⟨some 102, .len (.tmp 101), none, []⟩,
  ⟨some 103, .mov (.const (.int .i64 0)), none, []⟩] []) (.block 0 (.loop (.seq (.region [⟨some 104, .bin .lss (.tmp 103) (.tmp 102), none, []⟩] []) (.seq (.cond (.tmp 104) .skip (.exit 0)) (.seq (.block 1 (.seq (.region [⟨some 105, .mov (.tmp 103), none, []⟩,
  ⟨some 106, .idxL 19 (.tmp 101) (.tmp 103), none, []⟩,
  ⟨some 107, .load 19 true (.tmp 106), none, []⟩,
  ⟨some 27, .alloc [(.int .i64 0), (.int .i64 0), .nil, (.int .u8 0), (.int .u8 0), (.int .u8 0), (.int .u8 0), (.int .u8 0), (.int .u8 0), (.int .u8 0), (.int .u8 0), (.int .u8 0), (.int .u8 0), (.int .u8 0), (.int .u8 0), (.int .u8 0), (.int .u8 0), (.int .u8 0), (.int .u8 0)], none, []⟩,
  ⟨some 26, .mov (.tmp 105), none, []⟩,
  ⟨none, .store 19 (.tmp 27) (.tmp 107), none, []⟩] []) (.seq (.region [⟨some 109, .load 19 true (.tmp 27), none, []⟩,
  ⟨some 110, .mov (.tmp 3), none, []⟩,
  ⟨some 111, .mov (.tmp 4), none, []⟩,
  ⟨some 112, .mov (.tmp 5), none, []⟩,
  ⟨some 113, .call 30 [(.tmp 109), (.tmp 110), (.tmp 111), (.tmp 112)], none, []⟩,
  ⟨some 108, .mov (.tmp 113), none, []⟩,
  ⟨some 114, .ext (.tmp 108) 0, none, []⟩,
  ⟨some 115, .ext (.tmp 108) 1, none, []⟩,
  ⟨some 28, .alloc [(.int .i64 0), (.int .i64 0), (.int .i64 0), (.int .i64 0), (.int .i64 0), (.int .i64 0), (.int .i64 0), (.int .i64 0)], none, []⟩,
  ⟨none, .store 8 (.tmp 28) (.tmp 114), none, []⟩,
  ⟨some 29, .mov (.tmp 115), none, []⟩] []) (.seq (.region [⟨some 117, .load 19 true (.tmp 27), none, []⟩,
  ⟨some 118, .mov (.tmp 3), none, []⟩,
  ⟨some 119, .mov (.tmp 4), none, []⟩,
  ⟨some 120, .mov (.tmp 5), none, []⟩,
  ⟨some 121, .call 31 [(.tmp 117), (.tmp 118), (.tmp 119), (.tmp 120)], none, []⟩,
  ⟨some 116, .mov (.tmp 121), none, []⟩,
  ⟨some 122, .ext (.tmp 116) 0, none, []⟩,
  ⟨some 123, .ext (.tmp 116) 1, none, []⟩,
  ⟨some 30, .alloc [(.int .i64 0), (.int .i64 0), (.int .i64 0), (.int .i64 0), (.int .i64 0), (.int .i64 0), (.int .i64 0), (.int .i64 0)], none, []⟩,
  ⟨none, .store 8 (.tmp 30) (.tmp 122), none, []⟩,
  ⟨some 31, .mov (.tmp 123), none, []⟩] []) (.seq (.seq (.region [⟨some 124, .load 8 true (.tmp 28), none, []⟩,
  ⟨some 125, .load 8 true (.tmp 30), none, []⟩,
  ⟨some 126, .eqv true [.int .i64, .int .i64, .int .i64, .int .i64, .int .i64, .int .i64, .int .i64, .int .i64] (.tmp 124) (.tmp 125), none, []⟩,
  ⟨some 127, .mov (.tmp 126), none, []⟩,
  ⟨some 128, .mov (.tmp 29), some (127, false), []⟩,
  ⟨some 129, .mov (.tmp 31), some (127, false), []⟩,
  ⟨some 130, .eqB true (.tmp 128) (.tmp 129), some (127, false), []⟩,
  ⟨some 131, .pick (.tmp 127) (.const (.bool true)) (.tmp 130), none, []⟩,
  ⟨some 132, .mov (.tmp 131), none, []⟩,
  ⟨some 133, .load 19 true (.tmp 27), some (132, false), []⟩,
  ⟨some 134, .call 28 [(.tmp 133)], some (132, false), []⟩,
  ⟨some 135, .load 19 true (.tmp 27), some (132, false), []⟩,
  ⟨some 136, .call 29 [(.tmp 135)], some (132, false), []⟩,
  ⟨some 137, .bin .neq (.tmp 134) (.tmp 136), some (132, false), []⟩,
  ⟨some 138, .pick (.tmp 132) (.const (.bool true)) (.tmp 137), none, []⟩,
  ⟨some 139, .mov (.tmp 138), none, []⟩,
  ⟨some 140, .load 19 true (.tmp 27), some (139, false), []⟩,
  ⟨some 141, .mov (.tmp 0), some (139, false), []⟩,
  ⟨some 142, .idxL 19 (.tmp 141) (.const (.int .i64 0)), some (139, false), []⟩,
  ⟨some 143, .load 19 true (.tmp 142), some (139, false), []⟩,
  ⟨some 144, .call 23 [(.tmp 140), (.tmp 143)], some (139, false), []⟩,
  ⟨some 145, .load 19 true (.tmp 27), some (139, false), []⟩,
  ⟨some 146, .mov (.tmp 0), some (139, false), []⟩,
  ⟨some 147, .idxL 19 (.tmp 146) (.const (.int .i64 0)), some (139, false), []⟩,
  ⟨some 148, .load 19 true (.tmp 147), some (139, false), []⟩,
  ⟨some 149, .call 21 [(.tmp 145), (.tmp 148)], some (139, false), []⟩,
  ⟨some 150, .eqB true (.tmp 144) (.tmp 149), some (139, false), []⟩,
  ⟨some 151, .pick (.tmp 139) (.const (.bool true)) (.tmp 150), none, []⟩,
  ⟨some 152, .mov (.tmp 151), none, []⟩,
  ⟨some 153, .load 19 true (.tmp 27), some (152, false), []⟩,
  ⟨some 154, .mov (.tmp 0), some (152, false), []⟩,
  ⟨some 155, .mov (.tmp 26), some (152, false), []⟩,
  ⟨some 156, .idxL 19 (.tmp 154) (.tmp 155), some (152, false), []⟩,
  ⟨some 157, .load 19 true (.tmp 156), some (152, false), []⟩,
  ⟨some 158, .call 23 [(.tmp 153), (.tmp 157)], some (152, false), []⟩,
  ⟨some 159, .not (.tmp 158), some (152, false), []⟩,
  ⟨some 160, .pick (.tmp 152) (.const (.bool true)) (.tmp 159), none, []⟩] []) (.cond (.tmp 160) (.seq (.region [⟨some 16, .mov (.const (.bool false)), none, []⟩] []) .ret) .skip)) (.region [⟨some 161, .mov (.tmp 25), none, []⟩,
  ⟨some 162, .mov (.tmp 161), none, []⟩,
  ⟨some 163, .load 19 true (.tmp 27), some (162, true), []⟩,
  ⟨some 164, .call 29 [(.tmp 163)], some (162, true), []⟩,
  ⟨some 165, .bin .eql (.tmp 164) (.const (.int .i64 0)), some (162, true), []⟩,
  ⟨some 166, .pick (.tmp 162) (.tmp 165) (.const (.bool false)), none, []⟩,
  ⟨some 25, .mov (.tmp 166), none, []⟩] [])))))) (.region [⟨some 167, .bin .add (.tmp 103) (.const (.int .i64 1)), none, []⟩,
  ⟨some 103, .mov (.tmp 167), none, []⟩] []))))))) (.seq (.region [⟨some 168, .call 11 [], none, []⟩,
  ⟨some 169, .mov (.tmp 168), none, []⟩,
  ⟨some 170, .mov (.tmp 25), some (169, true), []⟩,
  ⟨some 171, .not (.tmp 170), some (169, true), []⟩,
  ⟨some 172, .mov (.tmp 171), some (169, true), []⟩,
  ⟨some 173, .mov (.tmp 0), some (172, false), []⟩,
  ⟨some 174, .mov (.tmp 3), some (172, false), []⟩,
  ⟨some 175, .mov (.tmp 4), some (172, false), []⟩,
  ⟨some 176, .mov (.tmp 5), some (172, false), []⟩,
  ⟨some 177, .call 32 [(.tmp 173), (.tmp 174), (.tmp 175), (.tmp 176)], some (172, false), []⟩,
  ⟨some 178, .mov (.tmp 0), some (172, false), []⟩,
  ⟨some 179, .mov (.tmp 3), some (172, false), []⟩,
  ⟨some 180, .mov (.tmp 4), some (172, false), []⟩,
  ⟨some 181, .mov (.tmp 5), some (172, false), []⟩,
  ⟨some 182, .call 33 [(.tmp 178), (.tmp 179), (.tmp 180), (.tmp 181)], some (172, false), []⟩,
  ⟨some 183, .eqv false [.int .i64, .int .i64, .int .i64, .int .i64, .int .i64, .int .i64, .int .i64, .int .i64] (.tmp 177) (.tmp 182), some (172, false), []⟩,
  ⟨some 184, .pick (.tmp 172) (.const (.bool true)) (.tmp 183), some (169, true), []⟩,
  ⟨some 185, .pick (.tmp 169) (.tmp 184) (.const (.bool false)), none, []⟩,
  ⟨some 16, .mov (.tmp 185), none, []⟩] []) .ret))))))))))
theorem l7 : (Tryd.f7.body.bind (lowC Tryd.prog 186 [])) = some c7 := by kernel_rfl
end Go.RC
end
section
namespace Go.DL
open Go.RowKit
section
variable [Glb] {P : Program} {X : List FuncId} {N : Nat} {w0 : World} {S0 : Base} {a : Act} {E : Env} {st : St}
def resVP (sz : TypeId → Option (Nat × Bool)) (st : St) : List ResultVar → List V → Prop
  | [], [] => True
  | .tmp t :: rs, u :: us => st.sl t = u ∧ resVP sz st rs us
  | .cell c ty :: rs, .t x :: us => resP sz st [.cell c ty] [x] ∧ resVP sz st rs us
  | _, _ => False
theorem resVP_run (h : SR N w0 S0 E st a.tmps) : ∀ {rs : List ResultVar} {us : List V}, resVP (sizesOf P) st rs us → ∃ vs : List Value, (rs.mapM (readRes a.tmps)).run P E.w = .ok vs E.w ∧ vs.length = us.length ∧ ∀ (i : Nat) (v : Value) (u : V), vs[i]? = some v → us[i]? = some u → VR E v u
  | [], [], _ => ⟨[], by simp, rfl, fun i v x hv => by simp at hv⟩
  | .tmp t :: rs, u :: us, hr => by
    obtain ⟨hu, hr'⟩ := hr
    obtain ⟨vs, h1, h2, h3⟩ := resVP_run h hr'
    refine ⟨a.tmps.getD t undef :: vs, ?_, by simp [h2], fun i v y hv hy => ?_⟩
    · rw [List.mapM_cons, Sem.run_bind]
      have : (readRes a.tmps (.tmp t)).run P E.w = .ok (a.tmps.getD t undef) E.w := rfl
      rw [this]
      simp [h1]
    · cases i with
      | zero => simp only [List.getElem?_cons_zero, Option.some.injEq] at hv hy; subst hv; subst hy; rw [← hu]; exact h.sl t
      | succ i => simp at hv hy; exact h3 i v y hv hy
  | .cell c ty :: rs, .t x :: us, hr => by
    obtain ⟨⟨hp1, _⟩, hr'⟩ := hr
    obtain ⟨vs, h1, h2, h3⟩ := resVP_run h hr'
    have key : ∃ v, (readRes a.tmps (.cell c ty)).run P E.w = .ok v E.w ∧ Rep E.S E.w v x := by
      have hs := h.sl c
      split at hp1
      · rename_i b off n agg hb hz
        rw [hb] at hs
        obtain ⟨hv, hl⟩ := hs.inv_ptr
        unfold sizesOf at hz
        split at hz
        · rename_i d i hu hi
          simp only [cond_eq_ite] at hz
          split at hz
          · simp only [Option.some.injEq, Prod.mk.injEq] at hz
            obtain ⟨rfl, rfl⟩ := hz
            split at hp1
            · rename_i cs hcs
              obtain ⟨v, k1, k2⟩ := load_res h hu hi (off := off) hcs (x := x) hp1
              refine ⟨v, ?_, k2⟩
              show (asAddr (a.tmps.getD c undef) >>= fun d => loadVar ty d).run P E.w = _
              rw [hv]
              simp [asAddr, k1]
            · exact hp1.elim
          · cases hz
        · cases hz
      · exact hp1.elim
    obtain ⟨v0, k1, k2⟩ := key
    refine ⟨v0 :: vs, ?_, by simp [h2], fun i v y hv hy => ?_⟩
    · rw [List.mapM_cons, Sem.run_bind, k1]
      simp [h1]
    · cases i with
      | zero => simp only [List.getElem?_cons_zero, Option.some.injEq] at hv hy; subst hv; subst hy; exact .t _ _ k2
      | succ i => simp at hv hy; exact h3 i v y hv hy
theorem resultsVP_run (h : SR N w0 S0 E st a.tmps) {fn : Func} {us : List V} (hr : resVP (sizesOf P) st fn.results.toList us) : ∃ v, (results fn a.tmps).run P E.w = .ok v E.w ∧ VR E v (oneV us) := by
  obtain ⟨vs, h1, h2, h3⟩ := resVP_run (P := P) h hr
  have hr : (results fn a.tmps).run P E.w = .ok (if h : vs.toArray.size = 1 then vs.toArray[0] else .tuple vs.toArray) E.w := by
    have : results fn a.tmps = (do let vs ← fn.results.mapM (readRes a.tmps); pure (if h : vs.size = 1 then vs[0] else .tuple vs)) := rfl
    rw [this, Array.mapM_eq_mapM_toList]
    rw [Sem.run_bind]
    have h2 : (List.toArray <$> fn.results.toList.mapM (readRes a.tmps)).run P E.w = .ok vs.toArray E.w := by
      rw [map_eq_pure_bind, Sem.run_bind, h1]; rfl
    rw [h2]; rfl
  refine ⟨_, hr, ?_⟩
  match vs, us, h2, h3 with
  | [v], [x], _, h3 => exact h3 0 v x rfl rfl
  | [], [], _, h3 => exact .tup _ _ rfl fun i x t hx ht => by simp at ht
  | v :: u :: vs, x :: y :: xs, h2, h3 =>
    have hne : ¬ (v :: u :: vs).toArray.size = 1 := by simp
    rw [dif_neg hne]
    exact .tup _ _ (by simpa using h2) fun i z t hz ht => h3 i z t (by simpa using hz) ht
def PostVP (sz : TypeId → Option (Nat × Bool)) (rs : List ResultVar) (st : St) (d : Option Nat) (K : St → Prop) : DExit → St → Prop
  | .normal, st2 => ∃ us, resVP sz st2 rs us ∧ K ((st2.back st).set d (oneV us))
  | .ret, st2 => ∃ us, resVP sz st2 rs us ∧ K ((st2.back st).set d (oneV us))
  | .exit _, _ => False
theorem WC_inlP (hm : P.follows .mixedOrders = true) {f : FuncId} {fn : Func} {dc : DCode} {N' : Nat} {rs : List ResultVar} (hf : P.funcs[f]? = some fn) (hl : (fn.body.bind (lowC P N' X)) = some dc) (hN : fn.ntmps = N') (hn : (fn.name == "runtime.NumGoroutine") = false)
    (hr : fn.results.toList = rs) {us : List V} (off : Nat) (ha : us.length ≤ N') {d : Option Nat} {K : St → Prop} (hw : wpC P dc (st.enter us off) (PostVP (sizesOf P) rs st d K)) : WC P f us d st K := by
  cases hb : fn.body with
  | none => rw [hb] at hl; cases hl
  | some c =>
    rw [hb] at hl
    subst hN; subst hr
    refine ⟨callable_of hf (by rw [hb]; rfl) hn, fun N w0 S0 E a vs h hlen hv hd => calls_of_wp hf hb ?_⟩
    have hsr : SR fn.ntmps w0 { S0 with vals := pushB (fun m => a.getD m undef) S0.vals } E (st.enter us off) (vs ++ Array.replicate (fn.ntmps - vs.size) undef) := by
      refine ⟨by simp; omega, h.base, h.glob, fun m => ?_, fun k m => ?_, h.bx, h.live, h.inj, h.rows, h.rinj, h.lt, h.below, h.s0, h.s1, h.obj, ⟨S0.vals, h.cx⟩⟩
      · show VR _ _ (us[m]?.getD .top)
        cases ht : us[m]? with
        | none => exact .top _
        | some t =>
          have hlt : m < vs.size := by rw [hlen]; exact (List.getElem?_eq_some_iff.1 ht).1
          have hv := hv m vs[m] t (Array.getElem?_eq_getElem hlt) ht
          have : (vs ++ Array.replicate (fn.ntmps - vs.size) undef).getD m undef = vs[m] := by
            rw [Array.getD_eq_getD_getElem?, Array.getElem?_append_left hlt]
            simp [hlt]
          rw [this]
          exact hv
      · cases k with
        | zero => exact h.sl m
        | succ k => exact h.gh k m
    refine wp_mono (wpC_wp hm hl (a := { tmps := vs ++ Array.replicate (fn.ntmps - vs.size) undef, defers := [] }) hsr hw) ?_
    have fin : ∀ {a' : Act} {w' : World}, EndIs fn.ntmps w0 { S0 with vals := pushB (fun m => a.getD m undef) S0.vals } [] (fun st2 => ∃ us, resVP (sizesOf P) st2 fn.results.toList us ∧ K ((st2.back st).set d (oneV us))) a' w' → a'.defers = [] ∧ ∃ v, (results fn a'.tmps).run P w' = .ok v w' ∧
        ∃ v', Ending.returned v = .returned v' ∧ ∃ (E' : Env) (st' : St), E'.w = w' ∧ K st' ∧ SR N w0 S0 E' st' (putA a d v') := by
      rintro a' w' ⟨E', st2, rfl, hsr', hdf, us', hus, hk⟩
      obtain ⟨v, h1, h2⟩ := resultsVP_run (P := P) hsr' hus
      have hback : SR N w0 S0 E' (st2.back st) a := by
        refine ⟨h.size, hsr'.base, hsr'.glob, fun m => hsr'.gh 0 m, fun k m => hsr'.gh (k + 1) m, hsr'.bx, hsr'.live, hsr'.inj, hsr'.rows, hsr'.rinj, hsr'.lt, hsr'.below, hsr'.s0, hsr'.s1, hsr'.obj, h.cx⟩
      exact ⟨hdf, v, h1, v, rfl, E', _, rfl, hk, set_put hback hd h2⟩
    intro e a' w' hh
    cases e with
    | normal => exact fin hh
    | ret => exact fin hh
    | exit id =>
      obtain ⟨_, _, _, _, _, hk⟩ := hh
      exact hk.elim
    | goto l => exact hh.elim
    | panic ch => exact hh.elim
    | outgrown => exact hh.elim
end
end Go.DL
end
section
namespace Go.RC
open Go Go.DL Go.Proofs
set_option maxRecDepth 100000
set_option maxHeartbeats 2000000
abbrev Ent := N3 × Int × List Int
abbrev tly (c : Int) (s : List Int) : T := .agg (I c :: s.map I)
abbrev esM (es : List Ent) : List (T × T) := es.map fun e => (nk e.1, tly e.2.1 e.2.2)
def getM (k : N3) : List Ent → Option (Int × List Int)
  | [] => none
  | e :: es => if k = e.1 then some e.2 else getM k es
def putM (k : N3) (v : Int × List Int) : List Ent → List Ent
  | [] => [(k, v)]
  | e :: es => if k = e.1 then (k, v) :: es else e :: putM k v es
theorem getM_cons (k : N3) (e : Ent) (es : List Ent) : getM k (e :: es) = if k = e.1 then some e.2 else getM k es := rfl
theorem putM_cons (k : N3) (v : Int × List Int) (e : Ent) (es : List Ent) : putM k v (e :: es) = if k = e.1 then (k, v) :: es else e :: putM k v es := rfl
theorem eqL_nk (k k' : N3) : eqL (nk k).cells (nk k').cells = decide (k = k') := by
  obtain ⟨a, b, c⟩ := k
  obtain ⟨a', b', c'⟩ := k'
  show (a == a' && (b == b' && (c == c' && true))) = _
  by_cases h1 : a = a' <;> by_cases h2 : b = b' <;> by_cases h3 : c = c' <;> simp [h1, h2, h3]
theorem mfind_esM (k : N3) : ∀ es : List Ent, mfind (nk k).cells (esM es) = (getM k es).map fun v => tly v.1 v.2
  | [] => rfl
  | e :: es => by
    show cond (eqL (nk k).cells (nk e.1).cells) (some (tly e.2.1 e.2.2)) (mfind (nk k).cells (esM es)) = _
    rw [eqL_nk, mfind_esM k es, getM_cons]
    by_cases h : k = e.1
    · simp [h]
    · simp [h]
theorem mput_esM (k : N3) (v : Int × List Int) : ∀ es : List Ent, mput (nk k) (tly v.1 v.2) (esM es) = esM (putM k v es)
  | [] => rfl
  | e :: es => by
    show cond (eqL (nk k).cells (nk e.1).cells) ((nk k, tly v.1 v.2) :: esM es) ((nk e.1, tly e.2.1 e.2.2) :: mput (nk k) (tly v.1 v.2) (esM es)) = _
    rw [eqL_nk, mput_esM k v es, putM_cons]
    by_cases h : k = e.1
    · simp [h]
    · simp [h]
def noteM (k : N3) (h : List Int) (es : List Ent) : Int × List Ent :=
  if rightN k.1 k.2.1 k.2.2 && rightH h then match getM k es with
    | none => if es.length ≥ 1000 then (2, es) else (0, putM k (1, sAdd [0, 0, 0, 0] (ofH h)) es)
    | some v => if v.1 ≥ 1073741824 then (2, es) else (0, putM k (v.1 + 1, sAdd v.2 (ofH h)) es)
  else (1, es)
def okE (es : List Ent) : Prop := ∀ e ∈ es, isS e.2.2 ∧ 0 ≤ e.2.1 ∧ e.2.1 ≤ 1073741824
theorem getM_mem {k : N3} {v : Int × List Int} : ∀ {es : List Ent}, getM k es = some v → (k, v) ∈ es
  | [], h => by cases h
  | e :: es, h => by
    rw [getM_cons] at h
    split at h
    · rename_i hk
      cases h
      rw [hk]; simp
    · exact List.mem_cons_of_mem _ (getM_mem h)
abbrev lgC (a b : V) (rest : List V) : List V := a :: b :: .mp 1011 :: rest
theorem mc_Note (a b : V) (rest : List V) (es : List Ent) (he : okE es) (hel : es.length < 2 ^ 40) (s p f : Int) (h : List Int) (hl : h.length = 10) :
    MC Tryd.prog 41 [.ptr 1013 0, .t (I s), .t (I p), .t (I f), .t (hd h)] [(1013, .v (lgC a b rest)), (1011, .m true sh3 (esM es) none)] [5009, 5011, 5012] 1011 (.m true sh3 (esM (noteM (s, p, f) h es).2) none) (I (noteM (s, p, f) h es).1) := by
  refine MC_of mixed Tryd.func41 l41 rfl rfl (rs := [.tmp 10]) rfl 5000 (Nat.le_of_ble_eq_true rfl) (fun _ => trivial) (by decide) ?_
  intro st d hneed hfr
  obtain ⟨sl, bx, gh, o, cx⟩ := st
  have e1 : bx 1013 = some (.v (lgC a b rest)) := hneed (1013, _) (by simp)
  have e2 : bx 1011 = some (.m true sh3 (esM es) none) := hneed (1011, _) (by simp)
  have e3 : bx 5009 = none := hfr 5009 (by simp)
  have e4 : bx 5011 = none := hfr 5011 (by simp)
  have e5 : bx 5012 = none := hfr 5012 (by simp)
  clear hneed hfr
  obtain ⟨g, hg⟩ : ∃ g, bx = upd (upd (upd (upd (upd g 5009 none) 5011 none) 5012 none) 1013 (some (.v (lgC a b rest)))) 1011 (some (.m true sh3 (esM es) none)) :=
    ⟨bx, by rw [upd_same_id e3, upd_same_id e4, upd_same_id e5, upd_same_id e1, upd_same_id e2]⟩
  subst hg
  clear e1 e2 e3 e4 e5
  have hR := t_right s p f
  have hO := fun (hh : okH h) => t_OfH h hh
  have hC := t_ContainsFunc 69 _ h (by rw [hl]; decide) (fun x _ => t_wide x)
  have hci : (h.any fun x => decide (x < 0) || decide (x > 65535)) = !rightH h := by
    unfold rightH
    rw [List.not_all_eq_any_not]
    congr 1
    funext x
    by_cases h1 : x < 0 <;> by_cases h2 : x > 65535 <;> simp [h1, h2] <;> omega
  rw [hci] at hC
  rw [← chunk1 (f := I) h 10 hl] at hC
  unfold noteM
  cases h1 : rightN s p f with
  | false =>
    rw [h1] at hR
    repeat' ((conv => whnf); first | exact trivial | refine k_call _ (hR) ?_ | refine nT_ ?_ | refine aE1 ?_ | refine aE0 ?_ | refine aN1 ?_ | refine aN0 ?_ | refine aD1 ?_ | refine aD0 ?_ | refine nE_ (fun hq => ?_) (fun hq => ?_) | refine nN_ (fun hq => ?_) (fun hq => ?_) | refine nD_ (fun hq => ?_) (fun hq => ?_) | refine rb1 ?_ | refine rb0 ?_ | refine rbx ?_ | refine rix ?_ | (refine And.intro (by first | (exact (List.length_map _).trans hl; done) | fail) ?_) | refine aS ?_ | fail)
    refine ⟨[.t (I 1)], rfl, ?_⟩
    cases d <;> refine ⟨rfl, rfl, rfl, rfl, rfl, fun n h1 h2 => ?_⟩
    all_goals
      simp only [List.mem_cons, List.not_mem_nil, or_false, not_or] at h2
      show upd (upd (upd _ 5009 _) 5011 _) 5011 _ n = _
      rw [upd_other _ _ _ _ h2.2.1, upd_other _ _ _ _ h2.2.1, upd_other _ _ _ _ h2.1]
      rfl
  | true =>
    rw [h1] at hR
    cases h2 : rightH h with
    | false =>
      rw [h2] at hC
      repeat' ((conv => whnf); first | exact trivial | refine k_call _ (hR) ?_ | refine k_call _ (hC) ?_ | refine nT_ ?_ | refine aE1 ?_ | refine aE0 ?_ | refine aN1 ?_ | refine aN0 ?_ | refine aD1 ?_ | refine aD0 ?_ | refine nE_ (fun hq => ?_) (fun hq => ?_) | refine nN_ (fun hq => ?_) (fun hq => ?_) | refine nD_ (fun hq => ?_) (fun hq => ?_) | refine rb1 ?_ | refine rb0 ?_ | refine rbx ?_ | refine rix ?_ | (refine And.intro (by first | (exact (List.length_map _).trans hl; done) | fail) ?_) | refine aS ?_ | fail)
      refine ⟨[.t (I 1)], rfl, ?_⟩
      cases d <;> refine ⟨rfl, rfl, rfl, rfl, rfl, fun n h1 h2 => ?_⟩
      all_goals
        simp only [List.mem_cons, List.not_mem_nil, or_false, not_or] at h2
        show upd (upd (upd _ 5009 _) 5011 _) 5011 _ n = _
        rw [upd_other _ _ _ _ h2.2.1, upd_other _ _ _ _ h2.2.1, upd_other _ _ _ _ h2.1]
        rfl
    | true =>
      rw [h2] at hC
      have hok := (rightH_ok hl).1 h2
      have hOf := hO hok
      have hofS := ofH_isS h
      generalize ofH h = oh at hOf hofS
      have hkey : keyOk true sh3 (nk (s, p, f)) := ⟨rfl, rfl, rfl, rfl, trivial⟩
      have hmf := mfind_esM (s, p, f) es
      rw [if_pos (show (true && true) = true from rfl)]
      cases h3 : getM (s, p, f) es with
      | none =>
        rw [h3] at hmf
        have hz : isS [0, 0, 0, 0] := ⟨rfl, by simp [M32]⟩
        have hA := t_sAdd [0, 0, 0, 0] oh hz hofS
        have hpu := mput_esM (s, p, f) (1, sAdd [0, 0, 0, 0] oh) es
        have hAl := (isS_add hz hofS).1
        show wpC _ _ _ (PostV _ _ _ (Ended _ _ _ _ (.m true sh3 (esM (if es.length ≥ 1000 then ((2 : Int), es) else (0, putM (s, p, f) (1, sAdd [0, 0, 0, 0] oh) es)).2) none) (I (if es.length ≥ 1000 then ((2 : Int), es) else (0, putM (s, p, f) (1, sAdd [0, 0, 0, 0] oh) es)).1)))
        generalize sAdd [0, 0, 0, 0] oh = sa at *
        obtain ⟨a0, a1, a2, a3, rfl⟩ : ∃ a b c d, sa = [a, b, c, d] := by
          match sa, hAl with
          | [a, b, c, d], _ => exact ⟨a, b, c, d, rfl⟩
        by_cases h4 : es.length ≥ 1000
        · rw [if_pos h4]
          repeat' ((conv => whnf); first | exact trivial | refine k_call _ (hR) ?_ | refine k_call _ (hC) ?_ | (refine nv_ (.tup [.agg [I 0, I 0, I 0, I 0, I 0], .bool false]) (by show mres _ _ (mfind (nk (s, p, f)).cells (esM es)) = _; rw [hmf]; rfl) ?_) | (refine now_D1 (by simp; omega) ?_) | refine nT_ ?_ | refine aE1 ?_ | refine aE0 ?_ | refine aN1 ?_ | refine aN0 ?_ | refine aD1 ?_ | refine aD0 ?_ | refine nE_ (fun hq => ?_) (fun hq => ?_) | refine nN_ (fun hq => ?_) (fun hq => ?_) | refine nD_ (fun hq => ?_) (fun hq => ?_) | refine rb1 ?_ | refine rb0 ?_ | refine rbx ?_ | refine rix ?_ | (refine And.intro (by first | (exact (List.length_map _).trans hl; done) | (exact hkey; done) | fail) ?_) | refine aS ?_ | fail)
          refine ⟨[.t (I 2)], rfl, ?_⟩
          cases d <;> refine ⟨rfl, rfl, rfl, rfl, rfl, fun n h1 h2 => ?_⟩
          all_goals
            simp only [List.mem_cons, List.not_mem_nil, or_false, not_or] at h2
            show upd (upd (upd (upd (upd _ 5009 _) 5011 _) 5011 _) 5012 _) 5012 _ n = _
            rw [upd_other _ _ _ _ h2.2.2, upd_other _ _ _ _ h2.2.2, upd_other _ _ _ _ h2.2.1, upd_other _ _ _ _ h2.2.1, upd_other _ _ _ _ h2.1]
            rfl
        · rw [if_neg h4]
          repeat' ((conv => whnf); first | exact trivial | refine k_call _ (hR) ?_ | refine k_call _ (hC) ?_ | (refine nv_ (.tup [.agg [I 0, I 0, I 0, I 0, I 0], .bool false]) (by show mres _ _ (mfind (nk (s, p, f)).cells (esM es)) = _; rw [hmf]; rfl) ?_) | (refine now_D0 (by simp; omega) ?_) | refine k_call _ (hOf) ?_ | refine k_call _ (hA) ?_ | refine nT_ ?_ | refine aE1 ?_ | refine aE0 ?_ | refine aN1 ?_ | refine aN0 ?_ | refine aD1 ?_ | refine aD0 ?_ | refine nE_ (fun hq => ?_) (fun hq => ?_) | refine nN_ (fun hq => ?_) (fun hq => ?_) | refine nD_ (fun hq => ?_) (fun hq => ?_) | refine rb1 ?_ | refine rb0 ?_ | refine rbx ?_ | refine rix ?_ | (refine And.intro (by first | (exact (List.length_map _).trans hl; done) | (exact hkey; done) | fail) ?_) | refine aS ?_ | fail)
          refine ⟨[.t (I 0)], rfl, ?_⟩
          cases d <;> refine ⟨rfl, rfl, rfl, rfl, congrArg (fun es => some (BX.m true sh3 es none)) hpu, fun n h1 h2 => ?_⟩
          all_goals
            simp only [List.mem_cons, List.not_mem_nil, or_false, not_or] at h2
            show upd (upd (upd (upd (upd (upd _ 5009 _) 5011 _) 5011 _) 5012 _) 5012 _) 1011 _ n = _
            rw [upd_other _ _ _ _ h1, upd_other _ _ _ _ h2.2.2, upd_other _ _ _ _ h2.2.2, upd_other _ _ _ _ h2.2.1, upd_other _ _ _ _ h2.2.1, upd_other _ _ _ _ h2.1]
            rfl
      | some v =>
        obtain ⟨c, t⟩ := v
        rw [h3] at hmf
        obtain ⟨hts, hc0, hc1⟩ := he _ (getM_mem h3)
        dsimp only at hts hc0 hc1
        have hA := t_sAdd t oh hts hofS
        have hpu := mput_esM (s, p, f) (c + 1, sAdd t oh) es
        have hAl := (isS_add hts hofS).1
        show wpC _ _ _ (PostV _ _ _ (Ended _ _ _ _ (.m true sh3 (esM (if c ≥ 1073741824 then ((2 : Int), es) else (0, putM (s, p, f) (c + 1, sAdd t oh) es)).2) none) (I (if c ≥ 1073741824 then ((2 : Int), es) else (0, putM (s, p, f) (c + 1, sAdd t oh) es)).1)))
        generalize sAdd t oh = sa at *
        obtain ⟨a0, a1, a2, a3, rfl⟩ : ∃ a b c d, sa = [a, b, c, d] := by
          match sa, hAl with
          | [a, b, c, d], _ => exact ⟨a, b, c, d, rfl⟩
        obtain ⟨t0, t1, t2, t3, rfl⟩ : ∃ a b c d, t = [a, b, c, d] := by
          match t, hts.1 with
          | [a, b, c, d], _ => exact ⟨a, b, c, d, rfl⟩
        have hw : IntKind.i64.wrap (c + 1) = c + 1 := wrap_id (by omega) (by omega)
        by_cases h4 : c ≥ 1073741824
        · rw [if_pos h4]
          repeat' ((conv => whnf); first | exact trivial | refine k_call _ (hR) ?_ | refine k_call _ (hC) ?_ | (refine nv_ (.tup [tly c [t0, t1, t2, t3], .bool true]) (by show mres _ _ (mfind (nk (s, p, f)).cells (esM es)) = _; rw [hmf]; rfl) ?_) | refine nT_ ?_ | refine aE1 ?_ | refine aE0 ?_ | refine aN1 ?_ | refine aN0 ?_ | refine aD1 ?_ | refine aD0 ?_ | refine nE_ (fun hq => ?_) (fun hq => ?_) | refine nN_ (fun hq => ?_) (fun hq => ?_) | refine nD_ (fun hq => ?_) (fun hq => ?_) | refine rb1 ?_ | refine rb0 ?_ | refine rbx ?_ | refine rix ?_ | (refine And.intro (by first | (exact (List.length_map _).trans hl; done) | (exact hkey; done) | fail) ?_) | refine aS ?_ | fail)
          refine ⟨[.t (I 2)], rfl, ?_⟩
          cases d <;> refine ⟨rfl, rfl, rfl, rfl, rfl, fun n h1 h2 => ?_⟩
          all_goals
            simp only [List.mem_cons, List.not_mem_nil, or_false, not_or] at h2
            show upd (upd (upd (upd (upd _ 5009 _) 5011 _) 5011 _) 5012 _) 5012 _ n = _
            rw [upd_other _ _ _ _ h2.2.2, upd_other _ _ _ _ h2.2.2, upd_other _ _ _ _ h2.2.1, upd_other _ _ _ _ h2.2.1, upd_other _ _ _ _ h2.1]
            rfl
        · rw [if_neg h4]
          repeat' ((conv => whnf); first | exact trivial | refine k_call _ (hR) ?_ | refine k_call _ (hC) ?_ | (refine nv_ (.tup [tly c [t0, t1, t2, t3], .bool true]) (by show mres _ _ (mfind (nk (s, p, f)).cells (esM es)) = _; rw [hmf]; rfl) ?_) | refine k_call _ (hOf) ?_ | refine k_call _ (hA) ?_ | refine nT_ ?_ | refine aE1 ?_ | refine aE0 ?_ | refine aN1 ?_ | refine aN0 ?_ | refine aD1 ?_ | refine aD0 ?_ | refine nE_ (fun hq => ?_) (fun hq => ?_) | refine nN_ (fun hq => ?_) (fun hq => ?_) | refine nD_ (fun hq => ?_) (fun hq => ?_) | refine rb1 ?_ | refine rb0 ?_ | refine rbx ?_ | refine rix ?_ | (refine And.intro (by first | (exact (List.length_map _).trans hl; done) | (exact hkey; done) | fail) ?_) | refine aS ?_ | fail)
          refine ⟨[.t (I 0)], rfl, ?_⟩
          cases d <;> refine ⟨rfl, rfl, rfl, rfl, (congrArg (fun c => some (BX.m true sh3 (mput (nk (s, p, f)) (tly c [a0, a1, a2, a3]) (esM es)) none)) hw).trans (congrArg (fun es => some (BX.m true sh3 es none)) hpu), fun n h1 h2 => ?_⟩
          all_goals
            simp only [List.mem_cons, List.not_mem_nil, or_false, not_or] at h2
            show upd (upd (upd (upd (upd (upd _ 5009 _) 5011 _) 5011 _) 5012 _) 5012 _) 1011 _ n = _
            rw [upd_other _ _ _ _ h1, upd_other _ _ _ _ h2.2.2, upd_other _ _ _ _ h2.2.2, upd_other _ _ _ _ h2.2.1, upd_other _ _ _ _ h2.2.1, upd_other _ _ _ _ h2.1]
            rfl
end Go.RC
end
