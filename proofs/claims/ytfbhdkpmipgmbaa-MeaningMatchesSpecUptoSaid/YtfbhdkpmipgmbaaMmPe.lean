/- A data level over the model, and the program's functions over it: joined by program. No statement here. -/
import Derived.Test.YtfbhdkpmipgmbaaMmPd
section
/- Steps of a proof over lowered code, goal by goal in weak head normal form. -/
namespace Go.DL
open Go

theorem now_T {t : T} {K : T → Prop} (hk : K t) : ∀ t', t = t' → K t' := fun _ e => e ▸ hk
theorem now_v {t : T} {K : T → Prop} (t0 : T) (h : t = t0) (hk : K t0) : ∀ t', t = t' → K t' := fun _ e => by rw [← e, h]; exact hk
theorem now_B {b : Bool} {K : Bool → Prop} (h1 : b = true → K true) (h0 : b = false → K false) : ∀ b', b = b' → K b' := fun b' e => match b', e with | true, e => h1 e | false, e => h0 e
theorem now_b {b : Bool} {K : Bool → Prop} (b0 : Bool) (h : b = b0) (hk : K b0) : ∀ b', b = b' → K b' := fun _ e => by rw [← e, h]; exact hk
theorem now_1 {b : Bool} {K : Bool → Prop} (h : b = true) (hk : K true) : ∀ b', b = b' → K b' := fun _ e => by rw [← e, h]; exact hk
theorem now_0 {b : Bool} {K : Bool → Prop} (h : b = false) (hk : K false) : ∀ b', b = b' → K b' := fun _ e => by rw [← e, h]; exact hk
theorem now_D {p : Prop} [Decidable p] {K : Bool → Prop} (h1 : p → K true) (h0 : ¬ p → K false) : ∀ b', decide p = b' → K b' := fun b' e => match b', e with | true, e => h1 (of_decide_eq_true e) | false, e => h0 (of_decide_eq_false e)
theorem now_D1 {p : Prop} [Decidable p] {K : Bool → Prop} (h : p) (hk : K true) : ∀ b', decide p = b' → K b' := fun b' e => by rw [← e, decide_eq_true h]; exact hk
theorem now_D0 {p : Prop} [Decidable p] {K : Bool → Prop} (h : ¬ p) (hk : K false) : ∀ b', decide p = b' → K b' := fun b' e => by rw [← e, decide_eq_false h]; exact hk
theorem now_E {x y : Int} {K : Bool → Prop} (h1 : x = y → K true) (h0 : x ≠ y → K false) : ∀ b', (x == y) = b' → K b' := fun b' e => match b', e with | true, e => h1 (eq_of_beq e) | false, e => h0 (by simpa using e)
theorem now_E1 {x y : Int} {K : Bool → Prop} (h : x = y) (hk : K true) : ∀ b', (x == y) = b' → K b' := fun b' e => by rw [← e, h, beq_self_eq_true]; exact hk
theorem now_E0 {x y : Int} {K : Bool → Prop} (h : x ≠ y) (hk : K false) : ∀ b', (x == y) = b' → K b' := fun b' e => by rw [← e, beq_false_of_ne h]; exact hk
theorem now_N {x y : Int} {K : Bool → Prop} (h1 : x ≠ y → K true) (h0 : x = y → K false) : ∀ b', (x != y) = b' → K b' := fun b' e => match b', e with | true, e => h1 (by simpa using e) | false, e => h0 (by simpa using e)
theorem now_N1 {x y : Int} {K : Bool → Prop} (h : x ≠ y) (hk : K true) : ∀ b', (x != y) = b' → K b' := fun b' e => by rw [← e, show (x != y) = true by simpa using h]; exact hk
theorem now_N0 {x y : Int} {K : Bool → Prop} (h : x = y) (hk : K false) : ∀ b', (x != y) = b' → K b' := fun b' e => by rw [← e, h, bne_self_eq_false]; exact hk

theorem leB {ks : List Nat} {bx : Nat → Option BX} {x y : Bool} (h : x = y) : LeV ks bx (.t (.bool x)) (.t (.bool y)) := by rw [h]; exact .same _
theorem rb {x b : Bool} {c : Prop} (h : x = b) (hc : c) : some (T.bool x) = some (T.bool b) ∧ c := ⟨congrArg _ (congrArg _ h), hc⟩
theorem ri {k : IntKind} {n m : Int} {c : Prop} (h : n = m) (hc : c) : some (T.int k n) = some (T.int k m) ∧ c := ⟨congrArg _ (congrArg _ h), hc⟩
theorem rt {t u : T} {c : Prop} (h : t = u) (hc : c) : some t = some u ∧ c := ⟨congrArg _ h, hc⟩

end Go.DL
end
section
/- Meaning: predicates and policies as they are read; their sizes. -/
namespace Go.MM
open Go Go.DL Go.Proofs
set_option maxRecDepth 100000
set_option maxHeartbeats 4000000

/-- A predicate as it is read. -/
inductive RP where
  | mk (kind : Int) (field : ByteArray) (n m : Int) (args : List RP)

namespace RP
def kind : RP → Int | .mk k _ _ _ _ => k
def field : RP → ByteArray | .mk _ f _ _ _ => f
def n : RP → Int | .mk _ _ n _ _ => n
def m : RP → Int | .mk _ _ _ m _ => m
def args : RP → List RP | .mk _ _ _ _ a => a
end RP

mutual
def encR : RP → T
  | .mk k f n m a => .agg [I k, .str f, I n, I m, .slice 5 (encRs a)]
def encRs : List RP → List T
  | [] => []
  | r :: rs => encR r :: encRs rs
end
theorem encRs_eq : ∀ l : List RP, encRs l = l.map encR
  | [] => rfl
  | r :: rs => congrArg (encR r :: ·) (encRs_eq rs)

/-- The cells of a predicate. -/
def cellsR : RP → List T
  | .mk k f n m a => [I k, .str f, I n, I m, .slice 5 (a.map encR)]
theorem encR_cells (r : RP) : encR r = .agg (cellsR r) := by
  cases r; simp only [encR, cellsR, encRs_eq]
theorem cellsR_len (r : RP) : (cellsR r).length = 5 := by cases r; rfl

/-- A policy as it is read. -/
inductive RO where
  | mk (kind : Int) (pred : RP) (field : ByteArray) (n : Int) (args : List RO)

namespace RO
def kind : RO → Int | .mk k _ _ _ _ => k
def pred : RO → RP | .mk _ p _ _ _ => p
def field : RO → ByteArray | .mk _ _ f _ _ => f
def n : RO → Int | .mk _ _ _ n _ => n
def args : RO → List RO | .mk _ _ _ _ a => a
end RO

mutual
def encS : RO → T
  | .mk k p f n a => .agg (I k :: (cellsR p ++ [.str f, I n, .slice 9 (encSs a)]))
def encSs : List RO → List T
  | [] => []
  | r :: rs => encS r :: encSs rs
end
theorem encSs_eq : ∀ l : List RO, encSs l = l.map encS
  | [] => rfl
  | r :: rs => congrArg (encS r :: ·) (encSs_eq rs)
def cellsS : RO → List T
  | .mk k p f n a => I k :: (cellsR p ++ [.str f, I n, .slice 9 (a.map encS)])
theorem encS_cells (r : RO) : encS r = .agg (cellsS r) := by
  cases r; simp only [encS, cellsS, encSs_eq]
theorem cellsS_len (r : RO) : (cellsS r).length = 9 := by cases r; simp [cellsS, cellsR_len]

/-! ### sizes -/
mutual
def RP.nodes : RP → Nat
  | .mk _ _ _ _ a => 1 + nodesPs a
def nodesPs : List RP → Nat
  | [] => 0
  | r :: rs => r.nodes + nodesPs rs
end
mutual
def RP.depth : RP → Nat
  | .mk _ _ _ _ a => 1 + depthPs a
def depthPs : List RP → Nat
  | [] => 0
  | r :: rs => max r.depth (depthPs rs)
end
mutual
theorem RP.depth_le : ∀ r : RP, r.depth ≤ r.nodes
  | .mk _ _ _ _ a => by have := depthPs_le a; simp only [RP.depth, RP.nodes]; omega
theorem depthPs_le : ∀ l : List RP, depthPs l ≤ nodesPs l
  | [] => Nat.le_refl _
  | r :: rs => by have := RP.depth_le r; have := depthPs_le rs; simp only [depthPs, nodesPs]; omega
end
theorem nodesPs_take : ∀ {l : List RP} {j : Nat} (h : j < l.length), nodesPs (l.take (j + 1)) = nodesPs (l.take j) + l[j].nodes
  | r :: rs, 0, h => by simp [nodesPs]
  | r :: rs, j + 1, h => by
    have := nodesPs_take (l := rs) (j := j) (by simpa using h)
    simp only [List.take_succ_cons, nodesPs, List.getElem_cons_succ]
    omega
theorem depthPs_take : ∀ {l : List RP} {j : Nat} (h : j < l.length), depthPs (l.take (j + 1)) = max (depthPs (l.take j)) l[j].depth
  | r :: rs, 0, h => by simp [depthPs]
  | r :: rs, j + 1, h => by
    have := depthPs_take (l := rs) (j := j) (by simpa using h)
    simp only [List.take_succ_cons, depthPs, List.getElem_cons_succ]
    omega
theorem nodesPs_mono : ∀ {l : List RP} {j : Nat}, nodesPs (l.take j) ≤ nodesPs l
  | [], j => by simp
  | r :: rs, 0 => by simp [nodesPs]
  | r :: rs, j + 1 => by
    have := nodesPs_mono (l := rs) (j := j)
    simp only [List.take_succ_cons, nodesPs]
    omega
theorem RP.nodes_pos (r : RP) : 1 ≤ r.nodes := by cases r; simp only [RP.nodes]; omega
theorem nodesPs_len : ∀ l : List RP, l.length ≤ nodesPs l
  | [] => Nat.le_refl _
  | r :: rs => by have := nodesPs_len rs; have := r.nodes_pos; simp only [nodesPs, List.length_cons]; omega

def sz (n d : Nat) : T := .agg [I n, I d]

theorem t102 (a b c d : Nat) (h1 : a + c < 2 ^ 62) (h2 : b < 2 ^ 62) (h3 : d < 2 ^ 62) : DCalls Try.prog 102 [sz a b, sz c d] (sz (a + c) (max b (d + 1))) := by
  refine dcalls_low (rs := [.cell 4 123]) mixed Try.func102 l102 rfl rfl rfl (r := [sz (a + c) (max b (d + 1))]) (Nat.le_of_ble_eq_true rfl) ?_
  repeat' ((conv => whnf); first | (exact trivial) | (refine now_T ?_) | (refine now_E1 (by first | omega | (simp; done) | (simp; omega) | fail) ?_) | (refine now_E0 (by first | omega | (simp; done) | (simp; omega) | fail) ?_) | (refine now_N1 (by first | omega | (simp; done) | (simp; omega) | fail) ?_) | (refine now_N0 (by first | omega | (simp; done) | (simp; omega) | fail) ?_) | (refine now_D1 (by first | omega | (simp; done) | (simp; omega) | fail) ?_) | (refine now_D0 (by first | omega | (simp; done) | (simp; omega) | fail) ?_) | (refine now_E (fun hq => ?_) (fun hq => ?_)) | (refine now_N (fun hq => ?_) (fun hq => ?_)) | (refine now_D (fun hq => ?_) (fun hq => ?_)) | (refine rb (x := true) (by first | rfl | (simp; done) | (simp; omega) | (simp [*]; done) | (simp [*]; omega) | fail) ?_) | (refine rb (x := false) (by first | rfl | (simp; done) | (simp; omega) | (simp [*]; done) | (simp [*]; omega) | fail) ?_) | (refine rb (by first | rfl | (simp; done) | (simp; omega) | (simp [*]; done) | (simp [*]; omega) | fail) ?_) | (refine ri (by first | rfl | omega | (rw [wrap_id] <;> omega) | (simp; omega) | (simp [*]; done) | fail) ?_) | (refine And.intro (by first | exact trivial | rfl | decide | exact Nat.le_of_ble_eq_true rfl | assumption | exact ⟨rfl, Nat.le_of_ble_eq_true rfl⟩ | exact ⟨trivial, rfl⟩ | exact ⟨⟨trivial, rfl⟩, rfl⟩ | omega | (simp; done) | (simp; omega) | (simp [*]; done) | fail) ?_) | (fail))
  refine And.intro (congrArg some ?_) trivial
  simp (disch := omega) only [wrap_id, putL, List.take, List.drop, List.append, List.nil_append, List.cons_append]
  unfold sz I
  have e : (if (d : Int) + 1 > (b : Int) then (d : Int) + 1 else (b : Int)) = ((max b (d + 1) : Nat) : Int) := by split <;> omega
  rw [e, Int.natCast_add]

theorem t103 (N : Nat) : ∀ r : RP, r.nodes ≤ N → N < 2 ^ 60 → DCalls Try.prog 103 [.agg (cellsR r)] (sz r.nodes r.depth) := by
  induction N with
  | zero => intro r h; have := r.nodes_pos; omega
  | succ N ih =>
    rintro ⟨k, f, n, m, l⟩ hr hN
    refine dcalls_low (rs := [.cell 2 123]) mixed Try.func103 l103 rfl rfl rfl (r := [sz _ _]) (Nat.le_of_ble_eq_true rfl) ?_
    simp only [RP.nodes, RP.depth] at hr ⊢
    repeat' ((conv => whnf); first | (exact trivial) | (refine now_T ?_) | (refine now_E1 (by first | omega | (simp; done) | (simp; omega) | fail) ?_) | (refine now_E0 (by first | omega | (simp; done) | (simp; omega) | fail) ?_) | (refine now_N1 (by first | omega | (simp; done) | (simp; omega) | fail) ?_) | (refine now_N0 (by first | omega | (simp; done) | (simp; omega) | fail) ?_) | (refine now_D1 (by first | omega | (simp; done) | (simp; omega) | fail) ?_) | (refine now_D0 (by first | omega | (simp; done) | (simp; omega) | fail) ?_) | (refine now_E (fun hq => ?_) (fun hq => ?_)) | (refine now_N (fun hq => ?_) (fun hq => ?_)) | (refine now_D (fun hq => ?_) (fun hq => ?_)) | (refine rb (x := true) (by first | rfl | (simp; done) | (simp; omega) | (simp [*]; done) | (simp [*]; omega) | fail) ?_) | (refine rb (x := false) (by first | rfl | (simp; done) | (simp; omega) | (simp [*]; done) | (simp [*]; omega) | fail) ?_) | (refine rb (by first | rfl | (simp; done) | (simp; omega) | (simp [*]; done) | (simp [*]; omega) | fail) ?_) | (refine ri (by first | rfl | omega | (rw [wrap_id] <;> omega) | (simp; omega) | (simp [*]; done) | fail) ?_) | (refine And.intro (by first | exact trivial | rfl | decide | exact Nat.le_of_ble_eq_true rfl | assumption | exact ⟨rfl, Nat.le_of_ble_eq_true rfl⟩ | exact ⟨trivial, rfl⟩ | exact ⟨⟨trivial, rfl⟩, rfl⟩ | omega | (simp; done) | (simp; omega) | (simp [*]; done) | fail) ?_) | (fail))
    refine wpC_loop (α := Nat) (fun i => {sl := [(1, .ptr 1 0), (2, .ptr 2 0), (3, .ptr 3 0), (4, .t (I i))], bx := [(1, .d 5 (cellsR (.mk k f n m l))), (2, .d 2 [I 0, I 0]), (3, .d 2 [I (1 + nodesPs (l.take i) : Nat), I (1 + depthPs (l.take i) : Nat)])]})
      (fun i => i ≤ l.length) (fun i => l.length - i) 0 (by omega) ?_ ?_
    · repeat' (first | (exact trivial) | (exact LeV.same _) | (exact LeB.same _) | (exact rfl) | (exact fun _ _ _ => trivial) | (exact leI (by first | omega | (rw [wrap_id] <;> omega) | (simp; omega) | (simp [*]; done) | fail)) | (exact LeV.nil _ _ _) | (exact leB (by first | rfl | (simp; done) | (simp [*]; done) | (simp [*]; omega) | fail)) | (refine leBd ?_) | (refine leOwn ?_) | (refine And.intro ?_ ?_))
    rintro i hi
    rcases Nat.lt_or_ge i l.length with h | h
    · have hn := nodesPs_take h
      have hd := depthPs_take h
      have hm := nodesPs_mono (l := l) (j := i + 1)
      have hp := l[i].nodes_pos
      have hl := nodesPs_len l
      have hdn := l[i].depth_le
      have hd1 := depthPs_le (l.take i)
      repeat' ((conv => whnf); first | (exact trivial) | (refine now_v (.agg (cellsR l[i])) (by first | (simp [h, encR_cells]; done) | fail) ?_) | (refine k_call _ (ih l[i] (by omega) (by omega)) ?_) | (refine k_call _ (t102 _ _ _ _ (by omega) (by omega) (by omega)) ?_) | (refine now_T ?_) | (refine now_E1 (by first | omega | (simp; done) | (simp; omega) | fail) ?_) | (refine now_E0 (by first | omega | (simp; done) | (simp; omega) | fail) ?_) | (refine now_N1 (by first | omega | (simp; done) | (simp; omega) | fail) ?_) | (refine now_N0 (by first | omega | (simp; done) | (simp; omega) | fail) ?_) | (refine now_D1 (by first | omega | (simp; done) | (simp; omega) | fail) ?_) | (refine now_D0 (by first | omega | (simp; done) | (simp; omega) | fail) ?_) | (refine now_E (fun hq => ?_) (fun hq => ?_)) | (refine now_N (fun hq => ?_) (fun hq => ?_)) | (refine now_D (fun hq => ?_) (fun hq => ?_)) | (refine rb (x := true) (by first | rfl | (simp; done) | (simp; omega) | (simp [*]; done) | (simp [*]; omega) | fail) ?_) | (refine rb (x := false) (by first | rfl | (simp; done) | (simp; omega) | (simp [*]; done) | (simp [*]; omega) | fail) ?_) | (refine rb (by first | rfl | (simp; done) | (simp; omega) | (simp [*]; done) | (simp [*]; omega) | fail) ?_) | (refine ri (by first | rfl | omega | (rw [wrap_id] <;> omega) | (simp; omega) | (simp [*]; done) | fail) ?_) | (refine And.intro (by first | (exact cellsR_len _; done) | exact trivial | rfl | decide | exact Nat.le_of_ble_eq_true rfl | assumption | exact ⟨rfl, Nat.le_of_ble_eq_true rfl⟩ | exact ⟨trivial, rfl⟩ | exact ⟨⟨trivial, rfl⟩, rfl⟩ | omega | (simp; done) | (simp; omega) | (simp [*]; done) | fail) ?_) | (fail))
      refine ⟨i + 1, by omega, by omega, ?_⟩
      repeat' (first | (exact trivial) | (exact LeV.same _) | (exact LeB.same _) | (exact rfl) | (exact fun _ _ _ => trivial) | (exact leI (by first | omega | (rw [wrap_id] <;> omega) | (simp; omega) | (simp [*]; done) | fail)) | (exact LeV.nil _ _ _) | (exact leB (by first | rfl | (simp; done) | (simp [*]; done) | (simp [*]; omega) | fail)) | (refine leBd ?_) | (refine leOwn ?_) | (refine And.intro ?_ ?_))
      rw [hn, hd, show 1 + (nodesPs (l.take i) + l[i].nodes) = 1 + nodesPs (l.take i) + l[i].nodes by omega, show 1 + max (depthPs (l.take i)) l[i].depth = max (1 + depthPs (l.take i)) (l[i].depth + 1) by omega]
      rfl
    · have : i = l.length := by omega
      subst this
      rw [List.take_length]
      repeat' ((conv => whnf); first | (exact trivial) | (refine now_T ?_) | (refine now_E1 (by first | omega | (simp; done) | (simp; omega) | fail) ?_) | (refine now_E0 (by first | omega | (simp; done) | (simp; omega) | fail) ?_) | (refine now_N1 (by first | omega | (simp; done) | (simp; omega) | fail) ?_) | (refine now_N0 (by first | omega | (simp; done) | (simp; omega) | fail) ?_) | (refine now_D1 (by first | omega | (simp; done) | (simp; omega) | fail) ?_) | (refine now_D0 (by first | omega | (simp; done) | (simp; omega) | fail) ?_) | (refine now_E (fun hq => ?_) (fun hq => ?_)) | (refine now_N (fun hq => ?_) (fun hq => ?_)) | (refine now_D (fun hq => ?_) (fun hq => ?_)) | (refine rb (x := true) (by first | rfl | (simp; done) | (simp; omega) | (simp [*]; done) | (simp [*]; omega) | fail) ?_) | (refine rb (x := false) (by first | rfl | (simp; done) | (simp; omega) | (simp [*]; done) | (simp [*]; omega) | fail) ?_) | (refine rb (by first | rfl | (simp; done) | (simp; omega) | (simp [*]; done) | (simp [*]; omega) | fail) ?_) | (refine ri (by first | rfl | omega | (rw [wrap_id] <;> omega) | (simp; omega) | (simp [*]; done) | fail) ?_) | (refine And.intro (by first | exact trivial | rfl | decide | exact Nat.le_of_ble_eq_true rfl | assumption | exact ⟨rfl, Nat.le_of_ble_eq_true rfl⟩ | exact ⟨trivial, rfl⟩ | exact ⟨⟨trivial, rfl⟩, rfl⟩ | omega | (simp; done) | (simp; omega) | (simp [*]; done) | fail) ?_) | (fail))
end Go.MM
end
section
/- Meaning: names. -/
namespace Go.MM
open Go Go.DL Go.Proofs
set_option maxRecDepth 100000
set_option maxHeartbeats 4000000

/-- The words that are no names. -/
def wordsL : List ByteArray := [⟨#[97, 110, 100]⟩,
  ⟨#[97, 110, 121]⟩,
  ⟨#[97, 116]⟩,
  ⟨#[98, 97, 99, 107]⟩,
  ⟨#[98, 111, 120]⟩,
  ⟨#[98, 117, 114, 115, 116]⟩,
  ⟨#[98, 121]⟩,
  ⟨#[99, 97, 112, 97, 99, 105, 116, 121]⟩,
  ⟨#[99, 101, 105, 108, 105, 110, 103]⟩,
  ⟨#[99, 104, 101, 99, 107]⟩,
  ⟨#[99, 111, 110, 116, 114, 97, 99, 116]⟩,
  ⟨#[99, 111, 117, 110, 116]⟩,
  ⟨#[100, 101, 109, 97, 110, 100]⟩,
  ⟨#[100, 114, 111, 112]⟩,
  ⟨#[101, 97, 99, 104]⟩,
  ⟨#[101, 100, 103, 101]⟩,
  ⟨#[101, 110, 116, 114, 105, 101, 115]⟩,
  ⟨#[102, 97, 108, 115, 101]⟩,
  ⟨#[102, 105, 101, 108, 100]⟩,
  ⟨#[102, 108, 111, 111, 114]⟩,
  ⟨#[102, 114, 111, 109]⟩,
  ⟨#[105, 100]⟩,
  ⟨#[105, 110]⟩,
  ⟨#[105, 110, 110, 101, 114]⟩,
  ⟨#[105, 110, 116, 111]⟩,
  ⟨#[108, 105, 110, 107]⟩,
  ⟨#[110, 101, 116, 119, 111, 114, 107]⟩,
  ⟨#[110, 111, 100, 101]⟩,
  ⟨#[110, 111, 116]⟩,
  ⟨#[111, 112, 101, 110]⟩,
  ⟨#[111, 114]⟩,
  ⟨#[112, 97, 116, 104]⟩,
  ⟨#[112, 111, 114, 116]⟩,
  ⟨#[112, 114, 105, 99, 101]⟩,
  ⟨#[114, 111, 117, 116, 101]⟩,
  ⟨#[114, 117, 108, 101, 115]⟩,
  ⟨#[115, 116, 97, 103, 101]⟩,
  ⟨#[116, 97, 107, 101]⟩,
  ⟨#[116, 101, 110, 97, 110, 116]⟩,
  ⟨#[116, 104, 101, 110]⟩,
  ⟨#[116, 105, 109, 101]⟩,
  ⟨#[116, 111]⟩,
  ⟨#[116, 111, 107, 101, 110]⟩,
  ⟨#[116, 114, 97, 110, 115, 108, 97, 116, 101]⟩,
  ⟨#[116, 114, 117, 101]⟩,
  ⟨#[118, 105, 97]⟩,
  ⟨#[119, 105, 100, 116, 104]⟩,
  ⟨#[119, 105, 114, 101]⟩,
  ⟨#[119, 105, 116, 104, 105, 110]⟩]

def letterB (c : Int) : Bool := decide (97 ≤ c) && decide (c ≤ 122)
def digitB (c : Int) : Bool := decide (48 ≤ c) && decide (c ≤ 57)
def wordB (c : Int) : Bool := letterB c || digitB c || c == 95
/-- Byte i, as a number. -/
def byteI (s : ByteArray) (i : Nat) : Int := ((s.toList[i]?.getD 0).toNat : Int)
abbrev U (n : Int) : T := .int .u8 n

theorem t110 (c : Int) : DCalls Try.prog 110 [U c] (.bool (letterB c)) := by
  refine dcalls_low (rs := [.tmp 2]) mixed Try.func110 l110 rfl rfl rfl (r := [.bool _]) (Nat.le_of_ble_eq_true rfl) ?_
  unfold letterB
  repeat' ((conv => whnf); first | (exact trivial) | (refine now_T ?_) | (refine now_E1 (by first | omega | (simp; done) | (simp; omega) | fail) ?_) | (refine now_E0 (by first | omega | (simp; done) | (simp; omega) | fail) ?_) | (refine now_N1 (by first | omega | (simp; done) | (simp; omega) | fail) ?_) | (refine now_N0 (by first | omega | (simp; done) | (simp; omega) | fail) ?_) | (refine now_D1 (by first | omega | (simp; done) | (simp; omega) | fail) ?_) | (refine now_D0 (by first | omega | (simp; done) | (simp; omega) | fail) ?_) | (refine now_E (fun hq => ?_) (fun hq => ?_)) | (refine now_N (fun hq => ?_) (fun hq => ?_)) | (refine now_D (fun hq => ?_) (fun hq => ?_)) | (refine rb (x := true) (by first | rfl | (simp; done) | (simp; omega) | (simp [*]; done) | (simp [*]; omega) | fail) ?_) | (refine rb (x := false) (by first | rfl | (simp; done) | (simp; omega) | (simp [*]; done) | (simp [*]; omega) | fail) ?_) | (refine rb (by first | rfl | (simp; done) | (simp; omega) | (simp [*]; done) | (simp [*]; omega) | fail) ?_) | (refine ri (by first | rfl | omega | (rw [wrap_id] <;> omega) | (simp; omega) | (simp [*]; done) | fail) ?_) | (refine And.intro (by first | exact trivial | rfl | decide | exact Nat.le_of_ble_eq_true rfl | assumption | exact ⟨rfl, Nat.le_of_ble_eq_true rfl⟩ | exact ⟨trivial, rfl⟩ | exact ⟨⟨trivial, rfl⟩, rfl⟩ | omega | (simp; done) | (simp; omega) | (simp [*]; done) | fail) ?_) | (fail))

theorem t115 (c : Int) : DCalls Try.prog 115 [U c] (.bool (digitB c)) := by
  refine dcalls_low (rs := [.tmp 2]) mixed Try.func115 l115 rfl rfl rfl (r := [.bool _]) (Nat.le_of_ble_eq_true rfl) ?_
  unfold digitB
  repeat' ((conv => whnf); first | (exact trivial) | (refine now_T ?_) | (refine now_E1 (by first | omega | (simp; done) | (simp; omega) | fail) ?_) | (refine now_E0 (by first | omega | (simp; done) | (simp; omega) | fail) ?_) | (refine now_N1 (by first | omega | (simp; done) | (simp; omega) | fail) ?_) | (refine now_N0 (by first | omega | (simp; done) | (simp; omega) | fail) ?_) | (refine now_D1 (by first | omega | (simp; done) | (simp; omega) | fail) ?_) | (refine now_D0 (by first | omega | (simp; done) | (simp; omega) | fail) ?_) | (refine now_E (fun hq => ?_) (fun hq => ?_)) | (refine now_N (fun hq => ?_) (fun hq => ?_)) | (refine now_D (fun hq => ?_) (fun hq => ?_)) | (refine rb (x := true) (by first | rfl | (simp; done) | (simp; omega) | (simp [*]; done) | (simp [*]; omega) | fail) ?_) | (refine rb (x := false) (by first | rfl | (simp; done) | (simp; omega) | (simp [*]; done) | (simp [*]; omega) | fail) ?_) | (refine rb (by first | rfl | (simp; done) | (simp; omega) | (simp [*]; done) | (simp [*]; omega) | fail) ?_) | (refine ri (by first | rfl | omega | (rw [wrap_id] <;> omega) | (simp; omega) | (simp [*]; done) | fail) ?_) | (refine And.intro (by first | exact trivial | rfl | decide | exact Nat.le_of_ble_eq_true rfl | assumption | exact ⟨rfl, Nat.le_of_ble_eq_true rfl⟩ | exact ⟨trivial, rfl⟩ | exact ⟨⟨trivial, rfl⟩, rfl⟩ | omega | (simp; done) | (simp; omega) | (simp [*]; done) | fail) ?_) | (fail))

theorem t114 (c : Int) : DCalls Try.prog 114 [U c] (.bool (wordB c)) := by
  refine dcalls_low (rs := [.tmp 2]) mixed Try.func114 l114 rfl rfl rfl (r := [.bool _]) (Nat.le_of_ble_eq_true rfl) ?_
  unfold wordB
  have h1 := t110 c
  have h2 := t115 c
  generalize letterB c = a at *
  generalize digitB c = b at *
  cases a <;> cases b
  all_goals repeat' ((conv => whnf); first | (exact trivial) | (refine k_call _ (h1) ?_) | (refine k_call _ (h2) ?_) | (refine now_T ?_) | (refine now_E1 (by first | omega | (simp; done) | (simp; omega) | fail) ?_) | (refine now_E0 (by first | omega | (simp; done) | (simp; omega) | fail) ?_) | (refine now_N1 (by first | omega | (simp; done) | (simp; omega) | fail) ?_) | (refine now_N0 (by first | omega | (simp; done) | (simp; omega) | fail) ?_) | (refine now_D1 (by first | omega | (simp; done) | (simp; omega) | fail) ?_) | (refine now_D0 (by first | omega | (simp; done) | (simp; omega) | fail) ?_) | (refine now_E (fun hq => ?_) (fun hq => ?_)) | (refine now_N (fun hq => ?_) (fun hq => ?_)) | (refine now_D (fun hq => ?_) (fun hq => ?_)) | (refine rb (x := true) (by first | rfl | (simp; done) | (simp; omega) | (simp [*]; done) | (simp [*]; omega) | fail) ?_) | (refine rb (x := false) (by first | rfl | (simp; done) | (simp; omega) | (simp [*]; done) | (simp [*]; omega) | fail) ?_) | (refine rb (by first | rfl | (simp; done) | (simp; omega) | (simp [*]; done) | (simp [*]; omega) | fail) ?_) | (refine ri (by first | rfl | omega | (rw [wrap_id] <;> omega) | (simp; omega) | (simp [*]; done) | fail) ?_) | (refine And.intro (by first | exact trivial | rfl | decide | exact Nat.le_of_ble_eq_true rfl | assumption | exact ⟨rfl, Nat.le_of_ble_eq_true rfl⟩ | exact ⟨trivial, rfl⟩ | exact ⟨⟨trivial, rfl⟩, rfl⟩ | omega | (simp; done) | (simp; omega) | (simp [*]; done) | fail) ?_) | (fail))

theorem t113 : DCalls Try.prog 113 [] (.slice 1 (wordsL.map .str)) := by
  refine dcalls_low (rs := [.tmp 0]) mixed Try.func113 l113 rfl rfl rfl (r := [.slice 1 (wordsL.map .str)]) (Nat.le_of_ble_eq_true rfl) ?_
  repeat' ((conv => whnf); first | (exact trivial) | (refine now_T ?_) | (refine now_E1 (by first | omega | (simp; done) | (simp; omega) | fail) ?_) | (refine now_E0 (by first | omega | (simp; done) | (simp; omega) | fail) ?_) | (refine now_N1 (by first | omega | (simp; done) | (simp; omega) | fail) ?_) | (refine now_N0 (by first | omega | (simp; done) | (simp; omega) | fail) ?_) | (refine now_D1 (by first | omega | (simp; done) | (simp; omega) | fail) ?_) | (refine now_D0 (by first | omega | (simp; done) | (simp; omega) | fail) ?_) | (refine now_E (fun hq => ?_) (fun hq => ?_)) | (refine now_N (fun hq => ?_) (fun hq => ?_)) | (refine now_D (fun hq => ?_) (fun hq => ?_)) | (refine rb (x := true) (by first | rfl | (simp; done) | (simp; omega) | (simp [*]; done) | (simp [*]; omega) | fail) ?_) | (refine rb (x := false) (by first | rfl | (simp; done) | (simp; omega) | (simp [*]; done) | (simp [*]; omega) | fail) ?_) | (refine rb (by first | rfl | (simp; done) | (simp; omega) | (simp [*]; done) | (simp [*]; omega) | fail) ?_) | (refine ri (by first | rfl | omega | (rw [wrap_id] <;> omega) | (simp; omega) | (simp [*]; done) | fail) ?_) | (refine And.intro (by first | exact trivial | rfl | decide | exact Nat.le_of_ble_eq_true rfl | assumption | exact ⟨rfl, Nat.le_of_ble_eq_true rfl⟩ | exact ⟨trivial, rfl⟩ | exact ⟨⟨trivial, rfl⟩, rfl⟩ | omega | (simp; done) | (simp; omega) | (simp [*]; done) | fail) ?_) | (fail))

def isWordB (s : ByteArray) : Bool := wordsL.any fun w => sameN w s
theorem t111 (s : ByteArray) : DCalls Try.prog 111 [.str s] (.bool (isWordB s)) := by
  refine dcalls_low (rs := [.tmp 2]) mixed Try.func111 l111 rfl rfl rfl (r := [.bool _]) (Nat.le_of_ble_eq_true rfl) ?_
  unfold isWordB
  have hw : wordsL.length = 49 := rfl
  have h0 := t113
  generalize wordsL = ws at *
  repeat' ((conv => whnf); first | (exact trivial) | (refine k_call _ (h0) ?_) | (refine now_T ?_) | (refine now_E1 (by first | omega | (simp; done) | (simp; omega) | fail) ?_) | (refine now_E0 (by first | omega | (simp; done) | (simp; omega) | fail) ?_) | (refine now_N1 (by first | omega | (simp; done) | (simp; omega) | fail) ?_) | (refine now_N0 (by first | omega | (simp; done) | (simp; omega) | fail) ?_) | (refine now_D1 (by first | omega | (simp; done) | (simp; omega) | fail) ?_) | (refine now_D0 (by first | omega | (simp; done) | (simp; omega) | fail) ?_) | (refine now_E (fun hq => ?_) (fun hq => ?_)) | (refine now_N (fun hq => ?_) (fun hq => ?_)) | (refine now_D (fun hq => ?_) (fun hq => ?_)) | (refine rb (x := true) (by first | rfl | (simp; done) | (simp; omega) | (simp [*]; done) | (simp [*]; omega) | fail) ?_) | (refine rb (x := false) (by first | rfl | (simp; done) | (simp; omega) | (simp [*]; done) | (simp [*]; omega) | fail) ?_) | (refine rb (by first | rfl | (simp; done) | (simp; omega) | (simp [*]; done) | (simp [*]; omega) | fail) ?_) | (refine ri (by first | rfl | omega | (rw [wrap_id] <;> omega) | (simp; omega) | (simp [*]; done) | fail) ?_) | (refine And.intro (by first | exact trivial | rfl | decide | exact Nat.le_of_ble_eq_true rfl | assumption | exact ⟨rfl, Nat.le_of_ble_eq_true rfl⟩ | exact ⟨trivial, rfl⟩ | exact ⟨⟨trivial, rfl⟩, rfl⟩ | omega | (simp; done) | (simp; omega) | (simp [*]; done) | fail) ?_) | (fail))
  refine wpC_loop (α := Nat) (fun i => {sl := [(0, .t (.str s)), (3, .t (.slice 1 (ws.map .str))), (4, .t (I i))], bx := []})
    (fun i => i ≤ ws.length ∧ ∀ j (h : j < ws.length), j < i → sameN ws[j] s = false) (fun i => ws.length - i) 0 (by simp) ?_ ?_
  · repeat' (first | (exact trivial) | (exact LeV.same _) | (exact LeB.same _) | (exact rfl) | (exact fun _ _ _ => trivial) | (exact leI (by first | omega | (rw [wrap_id] <;> omega) | (simp; omega) | (simp [*]; done) | fail)) | (exact LeV.nil _ _ _) | (exact leB (by first | rfl | (simp; done) | (simp [*]; done) | (simp [*]; omega) | fail)) | (refine leBd ?_) | (refine leOwn ?_) | (refine And.intro ?_ ?_))
  rintro i ⟨hi, hp⟩
  rcases Nat.lt_or_ge i ws.length with h | h
  · cases hb : sameN ws[i] s with
    | true =>
      have e : (ws.any fun w => sameN w s) = true := List.any_eq_true.2 ⟨_, List.getElem_mem h, hb⟩
      rw [e]
      repeat' ((conv => whnf); first | (exact trivial) | (refine now_v (.str ws[i]) (by first | (simp [h]; done) | fail) ?_) | (refine now_b true ((sameN_eq _ _).trans hb) ?_) | (refine now_T ?_) | (refine now_E1 (by first | omega | (simp; done) | (simp; omega) | fail) ?_) | (refine now_E0 (by first | omega | (simp; done) | (simp; omega) | fail) ?_) | (refine now_N1 (by first | omega | (simp; done) | (simp; omega) | fail) ?_) | (refine now_N0 (by first | omega | (simp; done) | (simp; omega) | fail) ?_) | (refine now_D1 (by first | omega | (simp; done) | (simp; omega) | fail) ?_) | (refine now_D0 (by first | omega | (simp; done) | (simp; omega) | fail) ?_) | (refine now_E (fun hq => ?_) (fun hq => ?_)) | (refine now_N (fun hq => ?_) (fun hq => ?_)) | (refine now_D (fun hq => ?_) (fun hq => ?_)) | (refine rb (x := true) (by first | rfl | (simp; done) | (simp; omega) | (simp [*]; done) | (simp [*]; omega) | fail) ?_) | (refine rb (x := false) (by first | rfl | (simp; done) | (simp; omega) | (simp [*]; done) | (simp [*]; omega) | fail) ?_) | (refine rb (by first | rfl | (simp; done) | (simp; omega) | (simp [*]; done) | (simp [*]; omega) | fail) ?_) | (refine ri (by first | rfl | omega | (rw [wrap_id] <;> omega) | (simp; omega) | (simp [*]; done) | fail) ?_) | (refine And.intro (by first | exact trivial | rfl | decide | exact Nat.le_of_ble_eq_true rfl | assumption | exact ⟨rfl, Nat.le_of_ble_eq_true rfl⟩ | exact ⟨trivial, rfl⟩ | exact ⟨⟨trivial, rfl⟩, rfl⟩ | omega | (simp; done) | (simp; omega) | (simp [*]; done) | fail) ?_) | (fail))
    | false =>
      repeat' ((conv => whnf); first | (exact trivial) | (refine now_v (.str ws[i]) (by first | (simp [h]; done) | fail) ?_) | (refine now_b false ((sameN_eq _ _).trans hb) ?_) | (refine now_T ?_) | (refine now_E1 (by first | omega | (simp; done) | (simp; omega) | fail) ?_) | (refine now_E0 (by first | omega | (simp; done) | (simp; omega) | fail) ?_) | (refine now_N1 (by first | omega | (simp; done) | (simp; omega) | fail) ?_) | (refine now_N0 (by first | omega | (simp; done) | (simp; omega) | fail) ?_) | (refine now_D1 (by first | omega | (simp; done) | (simp; omega) | fail) ?_) | (refine now_D0 (by first | omega | (simp; done) | (simp; omega) | fail) ?_) | (refine now_E (fun hq => ?_) (fun hq => ?_)) | (refine now_N (fun hq => ?_) (fun hq => ?_)) | (refine now_D (fun hq => ?_) (fun hq => ?_)) | (refine rb (x := true) (by first | rfl | (simp; done) | (simp; omega) | (simp [*]; done) | (simp [*]; omega) | fail) ?_) | (refine rb (x := false) (by first | rfl | (simp; done) | (simp; omega) | (simp [*]; done) | (simp [*]; omega) | fail) ?_) | (refine rb (by first | rfl | (simp; done) | (simp; omega) | (simp [*]; done) | (simp [*]; omega) | fail) ?_) | (refine ri (by first | rfl | omega | (rw [wrap_id] <;> omega) | (simp; omega) | (simp [*]; done) | fail) ?_) | (refine And.intro (by first | exact trivial | rfl | decide | exact Nat.le_of_ble_eq_true rfl | assumption | exact ⟨rfl, Nat.le_of_ble_eq_true rfl⟩ | exact ⟨trivial, rfl⟩ | exact ⟨⟨trivial, rfl⟩, rfl⟩ | omega | (simp; done) | (simp; omega) | (simp [*]; done) | fail) ?_) | (fail))
      refine ⟨i + 1, ⟨h, fun j hj hlt => ?_⟩, by omega, ?_⟩
      · rcases Nat.lt_or_ge j i with h4 | h4
        · exact hp j hj h4
        · obtain rfl : j = i := by omega
          exact hb
      · repeat' (first | (exact trivial) | (exact LeV.same _) | (exact LeB.same _) | (exact rfl) | (exact fun _ _ _ => trivial) | (exact leI (by first | omega | (rw [wrap_id] <;> omega) | (simp; omega) | (simp [*]; done) | fail)) | (exact LeV.nil _ _ _) | (exact leB (by first | rfl | (simp; done) | (simp [*]; done) | (simp [*]; omega) | fail)) | (refine leBd ?_) | (refine leOwn ?_) | (refine And.intro ?_ ?_))
  · have e : (ws.any fun w => sameN w s) = false := by
      rw [List.any_eq_false]
      intro w hw
      obtain ⟨j, hj, rfl⟩ := List.getElem_of_mem hw
      simp [hp j hj (by omega)]
    rw [e]
    repeat' ((conv => whnf); first | (exact trivial) | (refine now_T ?_) | (refine now_E1 (by first | omega | (simp; done) | (simp; omega) | fail) ?_) | (refine now_E0 (by first | omega | (simp; done) | (simp; omega) | fail) ?_) | (refine now_N1 (by first | omega | (simp; done) | (simp; omega) | fail) ?_) | (refine now_N0 (by first | omega | (simp; done) | (simp; omega) | fail) ?_) | (refine now_D1 (by first | omega | (simp; done) | (simp; omega) | fail) ?_) | (refine now_D0 (by first | omega | (simp; done) | (simp; omega) | fail) ?_) | (refine now_E (fun hq => ?_) (fun hq => ?_)) | (refine now_N (fun hq => ?_) (fun hq => ?_)) | (refine now_D (fun hq => ?_) (fun hq => ?_)) | (refine rb (x := true) (by first | rfl | (simp; done) | (simp; omega) | (simp [*]; done) | (simp [*]; omega) | fail) ?_) | (refine rb (x := false) (by first | rfl | (simp; done) | (simp; omega) | (simp [*]; done) | (simp [*]; omega) | fail) ?_) | (refine rb (by first | rfl | (simp; done) | (simp; omega) | (simp [*]; done) | (simp [*]; omega) | fail) ?_) | (refine ri (by first | rfl | omega | (rw [wrap_id] <;> omega) | (simp; omega) | (simp [*]; done) | fail) ?_) | (refine And.intro (by first | exact trivial | rfl | decide | exact Nat.le_of_ble_eq_true rfl | assumption | exact ⟨rfl, Nat.le_of_ble_eq_true rfl⟩ | exact ⟨trivial, rfl⟩ | exact ⟨⟨trivial, rfl⟩, rfl⟩ | omega | (simp; done) | (simp; omega) | (simp [*]; done) | fail) ?_) | (fail))

/-- How many bytes of a word stand at the beginning. -/
def runL : List UInt8 → Nat
  | [] => 0
  | b :: bs => if wordB (b.toNat : Int) then 1 + runL bs else 0
theorem runL_spec : ∀ {l : List UInt8} {n : Nat}, n ≤ l.length → (∀ j, j < n → wordB ((l[j]?.getD 0).toNat : Int) = true) → (n = l.length ∨ wordB ((l[n]?.getD 0).toNat : Int) = false) → runL l = n
  | [], n, hn, _, _ => by simp at hn; simp [runL, hn]
  | b :: bs, 0, hn, _, h => by
    rcases h with h | h
    · simp at h
    · simp at h; simp [runL, h]
  | b :: bs, n + 1, hn, hp, h => by
    have h0 := hp 0 (by omega)
    simp at h0
    have := runL_spec (l := bs) (n := n) (by simpa using hn) (fun j hj => by simpa using hp (j + 1) (by omega)) (by simpa using h)
    simp [runL, h0, this]; omega
theorem size_toList (s : ByteArray) : s.toList.length = s.size := by rw [ByteArray.toList_eq]; rfl

theorem t112 (s : ByteArray) (hs : s.size < 2 ^ 62) : DCalls Try.prog 112 [.str s] (I (runL s.toList)) := by
  refine dcalls_low (rs := [.tmp 2]) mixed Try.func112 l112 rfl rfl rfl (r := [.int _ _]) (Nat.le_of_ble_eq_true rfl) ?_
  have hl := size_toList s
  repeat' ((conv => whnf); first | (exact trivial) | (refine now_T ?_) | (refine now_E1 (by first | omega | (simp; done) | (simp; omega) | fail) ?_) | (refine now_E0 (by first | omega | (simp; done) | (simp; omega) | fail) ?_) | (refine now_N1 (by first | omega | (simp; done) | (simp; omega) | fail) ?_) | (refine now_N0 (by first | omega | (simp; done) | (simp; omega) | fail) ?_) | (refine now_D1 (by first | omega | (simp; done) | (simp; omega) | fail) ?_) | (refine now_D0 (by first | omega | (simp; done) | (simp; omega) | fail) ?_) | (refine now_E (fun hq => ?_) (fun hq => ?_)) | (refine now_N (fun hq => ?_) (fun hq => ?_)) | (refine now_D (fun hq => ?_) (fun hq => ?_)) | (refine rb (x := true) (by first | rfl | (simp; done) | (simp; omega) | (simp [*]; done) | (simp [*]; omega) | fail) ?_) | (refine rb (x := false) (by first | rfl | (simp; done) | (simp; omega) | (simp [*]; done) | (simp [*]; omega) | fail) ?_) | (refine rb (by first | rfl | (simp; done) | (simp; omega) | (simp [*]; done) | (simp [*]; omega) | fail) ?_) | (refine ri (by first | rfl | omega | (rw [wrap_id] <;> omega) | (simp; omega) | (simp [*]; done) | fail) ?_) | (refine And.intro (by first | exact trivial | rfl | decide | exact Nat.le_of_ble_eq_true rfl | assumption | exact ⟨rfl, Nat.le_of_ble_eq_true rfl⟩ | exact ⟨trivial, rfl⟩ | exact ⟨⟨trivial, rfl⟩, rfl⟩ | omega | (simp; done) | (simp; omega) | (simp [*]; done) | fail) ?_) | (fail))
  refine wpC_loop (α := Nat) (fun i => {sl := [(0, .t (.str s)), (3, .t (I i))], bx := []})
    (fun i => i ≤ s.size ∧ ∀ j, j < i → wordB (byteI s j) = true) (fun i => s.size - i) 0 (by simp) ?_ ?_
  · repeat' (first | (exact trivial) | (exact LeV.same _) | (exact LeB.same _) | (exact rfl) | (exact fun _ _ _ => trivial) | (exact leI (by first | omega | (rw [wrap_id] <;> omega) | (simp; omega) | (simp [*]; done) | fail)) | (exact LeV.nil _ _ _) | (exact leB (by first | rfl | (simp; done) | (simp [*]; done) | (simp [*]; omega) | fail)) | (refine leBd ?_) | (refine leOwn ?_) | (refine And.intro ?_ ?_))
  rintro i ⟨hi, hp⟩
  rcases Nat.lt_or_ge i s.size with h | h
  · have h0 := t114 (byteI s i)
    cases hb : wordB (byteI s i) with
    | true =>
      rw [hb] at h0
      repeat' ((conv => whnf); first | (exact trivial) | (refine now_v (U (byteI s i)) (by first | (simp; done) | (simp [*]; done) | fail) ?_) | (refine k_call _ (h0) ?_) | (refine now_T ?_) | (refine now_E1 (by first | omega | (simp; done) | (simp; omega) | fail) ?_) | (refine now_E0 (by first | omega | (simp; done) | (simp; omega) | fail) ?_) | (refine now_N1 (by first | omega | (simp; done) | (simp; omega) | fail) ?_) | (refine now_N0 (by first | omega | (simp; done) | (simp; omega) | fail) ?_) | (refine now_D1 (by first | omega | (simp; done) | (simp; omega) | fail) ?_) | (refine now_D0 (by first | omega | (simp; done) | (simp; omega) | fail) ?_) | (refine now_E (fun hq => ?_) (fun hq => ?_)) | (refine now_N (fun hq => ?_) (fun hq => ?_)) | (refine now_D (fun hq => ?_) (fun hq => ?_)) | (refine rb (x := true) (by first | rfl | (simp; done) | (simp; omega) | (simp [*]; done) | (simp [*]; omega) | fail) ?_) | (refine rb (x := false) (by first | rfl | (simp; done) | (simp; omega) | (simp [*]; done) | (simp [*]; omega) | fail) ?_) | (refine rb (by first | rfl | (simp; done) | (simp; omega) | (simp [*]; done) | (simp [*]; omega) | fail) ?_) | (refine ri (by first | rfl | omega | (rw [wrap_id] <;> omega) | (simp; omega) | (simp [*]; done) | fail) ?_) | (refine And.intro (by first | exact trivial | rfl | decide | exact Nat.le_of_ble_eq_true rfl | assumption | exact ⟨rfl, Nat.le_of_ble_eq_true rfl⟩ | exact ⟨trivial, rfl⟩ | exact ⟨⟨trivial, rfl⟩, rfl⟩ | omega | (simp; done) | (simp; omega) | (simp [*]; done) | fail) ?_) | (fail))
      refine ⟨i + 1, ⟨h, fun j hj => ?_⟩, by omega, ?_⟩
      · rcases Nat.lt_or_ge j i with h4 | h4
        · exact hp j h4
        · obtain rfl : j = i := by omega
          exact hb
      · repeat' (first | (exact trivial) | (exact LeV.same _) | (exact LeB.same _) | (exact rfl) | (exact fun _ _ _ => trivial) | (exact leI (by first | omega | (rw [wrap_id] <;> omega) | (simp; omega) | (simp [*]; done) | fail)) | (exact LeV.nil _ _ _) | (exact leB (by first | rfl | (simp; done) | (simp [*]; done) | (simp [*]; omega) | fail)) | (refine leBd ?_) | (refine leOwn ?_) | (refine And.intro ?_ ?_))
    | false =>
      rw [hb] at h0
      have e : runL s.toList = i := runL_spec (by omega) hp (.inr hb)
      rw [e]
      repeat' ((conv => whnf); first | (exact trivial) | (refine now_v (U (byteI s i)) (by first | (simp; done) | (simp [*]; done) | fail) ?_) | (refine k_call _ (h0) ?_) | (refine now_T ?_) | (refine now_E1 (by first | omega | (simp; done) | (simp; omega) | fail) ?_) | (refine now_E0 (by first | omega | (simp; done) | (simp; omega) | fail) ?_) | (refine now_N1 (by first | omega | (simp; done) | (simp; omega) | fail) ?_) | (refine now_N0 (by first | omega | (simp; done) | (simp; omega) | fail) ?_) | (refine now_D1 (by first | omega | (simp; done) | (simp; omega) | fail) ?_) | (refine now_D0 (by first | omega | (simp; done) | (simp; omega) | fail) ?_) | (refine now_E (fun hq => ?_) (fun hq => ?_)) | (refine now_N (fun hq => ?_) (fun hq => ?_)) | (refine now_D (fun hq => ?_) (fun hq => ?_)) | (refine rb (x := true) (by first | rfl | (simp; done) | (simp; omega) | (simp [*]; done) | (simp [*]; omega) | fail) ?_) | (refine rb (x := false) (by first | rfl | (simp; done) | (simp; omega) | (simp [*]; done) | (simp [*]; omega) | fail) ?_) | (refine rb (by first | rfl | (simp; done) | (simp; omega) | (simp [*]; done) | (simp [*]; omega) | fail) ?_) | (refine ri (by first | rfl | omega | (rw [wrap_id] <;> omega) | (simp; omega) | (simp [*]; done) | fail) ?_) | (refine And.intro (by first | exact trivial | rfl | decide | exact Nat.le_of_ble_eq_true rfl | assumption | exact ⟨rfl, Nat.le_of_ble_eq_true rfl⟩ | exact ⟨trivial, rfl⟩ | exact ⟨⟨trivial, rfl⟩, rfl⟩ | omega | (simp; done) | (simp; omega) | (simp [*]; done) | fail) ?_) | (fail))
  · have e : runL s.toList = i := runL_spec (by omega) hp (.inl (by omega))
    rw [e]
    repeat' ((conv => whnf); first | (exact trivial) | (refine now_T ?_) | (refine now_E1 (by first | omega | (simp; done) | (simp; omega) | fail) ?_) | (refine now_E0 (by first | omega | (simp; done) | (simp; omega) | fail) ?_) | (refine now_N1 (by first | omega | (simp; done) | (simp; omega) | fail) ?_) | (refine now_N0 (by first | omega | (simp; done) | (simp; omega) | fail) ?_) | (refine now_D1 (by first | omega | (simp; done) | (simp; omega) | fail) ?_) | (refine now_D0 (by first | omega | (simp; done) | (simp; omega) | fail) ?_) | (refine now_E (fun hq => ?_) (fun hq => ?_)) | (refine now_N (fun hq => ?_) (fun hq => ?_)) | (refine now_D (fun hq => ?_) (fun hq => ?_)) | (refine rb (x := true) (by first | rfl | (simp; done) | (simp; omega) | (simp [*]; done) | (simp [*]; omega) | fail) ?_) | (refine rb (x := false) (by first | rfl | (simp; done) | (simp; omega) | (simp [*]; done) | (simp [*]; omega) | fail) ?_) | (refine rb (by first | rfl | (simp; done) | (simp; omega) | (simp [*]; done) | (simp [*]; omega) | fail) ?_) | (refine ri (by first | rfl | omega | (rw [wrap_id] <;> omega) | (simp; omega) | (simp [*]; done) | fail) ?_) | (refine And.intro (by first | exact trivial | rfl | decide | exact Nat.le_of_ble_eq_true rfl | assumption | exact ⟨rfl, Nat.le_of_ble_eq_true rfl⟩ | exact ⟨trivial, rfl⟩ | exact ⟨⟨trivial, rfl⟩, rfl⟩ | omega | (simp; done) | (simp; omega) | (simp [*]; done) | fail) ?_) | (fail))

def plainB (s : ByteArray) : Bool := decide (0 < s.size) && decide (s.size ≤ 24) && letterB (byteI s 0) && (runL s.toList == s.size) && !isWordB s
theorem t109 (s : ByteArray) (hs : s.size < 2 ^ 62) : DCalls Try.prog 109 [.str s] (.bool (plainB s)) := by
  refine dcalls_low (rs := [.tmp 2]) mixed Try.func109 l109 rfl rfl rfl (r := [.bool _]) (Nat.le_of_ble_eq_true rfl) ?_
  unfold plainB
  have h1 := t110 (byteI s 0)
  have h2 := t111 s
  have h3 := t112 s hs
  generalize letterB (byteI s 0) = a at *
  generalize isWordB s = w at *
  generalize runL s.toList = n at *
  by_cases hz : s.size = 0
  · simp [hz]
    repeat' ((conv => whnf); first | (exact trivial) | (refine now_T ?_) | (refine now_E1 (by first | omega | (simp; done) | (simp; omega) | fail) ?_) | (refine now_E0 (by first | omega | (simp; done) | (simp; omega) | fail) ?_) | (refine now_N1 (by first | omega | (simp; done) | (simp; omega) | fail) ?_) | (refine now_N0 (by first | omega | (simp; done) | (simp; omega) | fail) ?_) | (refine now_D1 (by first | omega | (simp; done) | (simp; omega) | fail) ?_) | (refine now_D0 (by first | omega | (simp; done) | (simp; omega) | fail) ?_) | (refine now_E (fun hq => ?_) (fun hq => ?_)) | (refine now_N (fun hq => ?_) (fun hq => ?_)) | (refine now_D (fun hq => ?_) (fun hq => ?_)) | (refine rb (x := true) (by first | rfl | (simp; done) | (simp; omega) | (simp [*]; done) | (simp [*]; omega) | fail) ?_) | (refine rb (x := false) (by first | rfl | (simp; done) | (simp; omega) | (simp [*]; done) | (simp [*]; omega) | fail) ?_) | (refine rb (by first | rfl | (simp; done) | (simp; omega) | (simp [*]; done) | (simp [*]; omega) | fail) ?_) | (refine ri (by first | rfl | omega | (rw [wrap_id] <;> omega) | (simp; omega) | (simp [*]; done) | fail) ?_) | (refine And.intro (by first | exact trivial | rfl | decide | exact Nat.le_of_ble_eq_true rfl | assumption | exact ⟨rfl, Nat.le_of_ble_eq_true rfl⟩ | exact ⟨trivial, rfl⟩ | exact ⟨⟨trivial, rfl⟩, rfl⟩ | omega | (simp; done) | (simp; omega) | (simp [*]; done) | fail) ?_) | (fail))
  · by_cases h24 : s.size ≤ 24
    · simp [h24, show 0 < s.size by omega]
      cases a <;> cases w <;> repeat' ((conv => whnf); first | (exact trivial) | (refine now_v (U (byteI s 0)) (by first | (simp; done) | (simp [*]; done) | fail) ?_) | (refine k_call _ (h1) ?_) | (refine k_call _ (h2) ?_) | (refine k_call _ (h3) ?_) | (refine now_T ?_) | (refine now_E1 (by first | omega | (simp; done) | (simp; omega) | fail) ?_) | (refine now_E0 (by first | omega | (simp; done) | (simp; omega) | fail) ?_) | (refine now_N1 (by first | omega | (simp; done) | (simp; omega) | fail) ?_) | (refine now_N0 (by first | omega | (simp; done) | (simp; omega) | fail) ?_) | (refine now_D1 (by first | omega | (simp; done) | (simp; omega) | fail) ?_) | (refine now_D0 (by first | omega | (simp; done) | (simp; omega) | fail) ?_) | (refine now_E (fun hq => ?_) (fun hq => ?_)) | (refine now_N (fun hq => ?_) (fun hq => ?_)) | (refine now_D (fun hq => ?_) (fun hq => ?_)) | (refine rb (x := true) (by first | rfl | (simp; done) | (simp; omega) | (simp [*]; done) | (simp [*]; omega) | fail) ?_) | (refine rb (x := false) (by first | rfl | (simp; done) | (simp; omega) | (simp [*]; done) | (simp [*]; omega) | fail) ?_) | (refine rb (by first | rfl | (simp; done) | (simp; omega) | (simp [*]; done) | (simp [*]; omega) | fail) ?_) | (refine ri (by first | rfl | omega | (rw [wrap_id] <;> omega) | (simp; omega) | (simp [*]; done) | fail) ?_) | (refine And.intro (by first | exact trivial | rfl | decide | exact Nat.le_of_ble_eq_true rfl | assumption | exact ⟨rfl, Nat.le_of_ble_eq_true rfl⟩ | exact ⟨trivial, rfl⟩ | exact ⟨⟨trivial, rfl⟩, rfl⟩ | omega | (simp; done) | (simp; omega) | (simp [*]; done) | fail) ?_) | (fail))
    · simp [h24]
      repeat' ((conv => whnf); first | (exact trivial) | (refine now_T ?_) | (refine now_E1 (by first | omega | (simp; done) | (simp; omega) | fail) ?_) | (refine now_E0 (by first | omega | (simp; done) | (simp; omega) | fail) ?_) | (refine now_N1 (by first | omega | (simp; done) | (simp; omega) | fail) ?_) | (refine now_N0 (by first | omega | (simp; done) | (simp; omega) | fail) ?_) | (refine now_D1 (by first | omega | (simp; done) | (simp; omega) | fail) ?_) | (refine now_D0 (by first | omega | (simp; done) | (simp; omega) | fail) ?_) | (refine now_E (fun hq => ?_) (fun hq => ?_)) | (refine now_N (fun hq => ?_) (fun hq => ?_)) | (refine now_D (fun hq => ?_) (fun hq => ?_)) | (refine rb (x := true) (by first | rfl | (simp; done) | (simp; omega) | (simp [*]; done) | (simp [*]; omega) | fail) ?_) | (refine rb (x := false) (by first | rfl | (simp; done) | (simp; omega) | (simp [*]; done) | (simp [*]; omega) | fail) ?_) | (refine rb (by first | rfl | (simp; done) | (simp; omega) | (simp [*]; done) | (simp [*]; omega) | fail) ?_) | (refine ri (by first | rfl | omega | (rw [wrap_id] <;> omega) | (simp; omega) | (simp [*]; done) | fail) ?_) | (refine And.intro (by first | exact trivial | rfl | decide | exact Nat.le_of_ble_eq_true rfl | assumption | exact ⟨rfl, Nat.le_of_ble_eq_true rfl⟩ | exact ⟨trivial, rfl⟩ | exact ⟨⟨trivial, rfl⟩, rfl⟩ | omega | (simp; done) | (simp; omega) | (simp [*]; done) | fail) ?_) | (fail))

theorem t108 (s : ByteArray) (hs : s.size < 2 ^ 62) : DCalls Try.prog 108 [.str s] (.bool (plainB s)) := by
  refine dcalls_low (rs := [.tmp 2]) mixed Try.func108 l108 rfl rfl rfl (r := [.bool _]) (Nat.le_of_ble_eq_true rfl) ?_
  have h1 := t109 s hs
  repeat' ((conv => whnf); first | (exact trivial) | (refine k_call _ (h1) ?_) | (refine now_T ?_) | (refine now_E1 (by first | omega | (simp; done) | (simp; omega) | fail) ?_) | (refine now_E0 (by first | omega | (simp; done) | (simp; omega) | fail) ?_) | (refine now_N1 (by first | omega | (simp; done) | (simp; omega) | fail) ?_) | (refine now_N0 (by first | omega | (simp; done) | (simp; omega) | fail) ?_) | (refine now_D1 (by first | omega | (simp; done) | (simp; omega) | fail) ?_) | (refine now_D0 (by first | omega | (simp; done) | (simp; omega) | fail) ?_) | (refine now_E (fun hq => ?_) (fun hq => ?_)) | (refine now_N (fun hq => ?_) (fun hq => ?_)) | (refine now_D (fun hq => ?_) (fun hq => ?_)) | (refine rb (x := true) (by first | rfl | (simp; done) | (simp; omega) | (simp [*]; done) | (simp [*]; omega) | fail) ?_) | (refine rb (x := false) (by first | rfl | (simp; done) | (simp; omega) | (simp [*]; done) | (simp [*]; omega) | fail) ?_) | (refine rb (by first | rfl | (simp; done) | (simp; omega) | (simp [*]; done) | (simp [*]; omega) | fail) ?_) | (refine ri (by first | rfl | omega | (rw [wrap_id] <;> omega) | (simp; omega) | (simp [*]; done) | fail) ?_) | (refine And.intro (by first | exact trivial | rfl | decide | exact Nat.le_of_ble_eq_true rfl | assumption | exact ⟨rfl, Nat.le_of_ble_eq_true rfl⟩ | exact ⟨trivial, rfl⟩ | exact ⟨⟨trivial, rfl⟩, rfl⟩ | omega | (simp; done) | (simp; omega) | (simp [*]; done) | fail) ?_) | (fail))

def namedB (s : ByteArray) : Bool := plainB s || sameN s portN
theorem t104 (s : ByteArray) (hs : s.size < 2 ^ 62) : DCalls Try.prog 104 [.str s] (.bool (namedB s)) := by
  refine dcalls_low (rs := [.tmp 2]) mixed Try.func104 l104 rfl rfl rfl (r := [.bool _]) (Nat.le_of_ble_eq_true rfl) ?_
  have h1 := t108 s hs
  unfold namedB
  have h2 := sameN_eq s portN
  generalize plainB s = a at *
  generalize sameN s portN = b at *
  cases a <;> cases b <;> repeat' ((conv => whnf); first | (exact trivial) | (refine k_call _ (h1) ?_) | (refine now_b _ h2 ?_) | (refine now_T ?_) | (refine now_E1 (by first | omega | (simp; done) | (simp; omega) | fail) ?_) | (refine now_E0 (by first | omega | (simp; done) | (simp; omega) | fail) ?_) | (refine now_N1 (by first | omega | (simp; done) | (simp; omega) | fail) ?_) | (refine now_N0 (by first | omega | (simp; done) | (simp; omega) | fail) ?_) | (refine now_D1 (by first | omega | (simp; done) | (simp; omega) | fail) ?_) | (refine now_D0 (by first | omega | (simp; done) | (simp; omega) | fail) ?_) | (refine now_E (fun hq => ?_) (fun hq => ?_)) | (refine now_N (fun hq => ?_) (fun hq => ?_)) | (refine now_D (fun hq => ?_) (fun hq => ?_)) | (refine rb (x := true) (by first | rfl | (simp; done) | (simp; omega) | (simp [*]; done) | (simp [*]; omega) | fail) ?_) | (refine rb (x := false) (by first | rfl | (simp; done) | (simp; omega) | (simp [*]; done) | (simp [*]; omega) | fail) ?_) | (refine rb (by first | rfl | (simp; done) | (simp; omega) | (simp [*]; done) | (simp [*]; omega) | fail) ?_) | (refine ri (by first | rfl | omega | (rw [wrap_id] <;> omega) | (simp; omega) | (simp [*]; done) | fail) ?_) | (refine And.intro (by first | exact trivial | rfl | decide | exact Nat.le_of_ble_eq_true rfl | assumption | exact ⟨rfl, Nat.le_of_ble_eq_true rfl⟩ | exact ⟨trivial, rfl⟩ | exact ⟨⟨trivial, rfl⟩, rfl⟩ | omega | (simp; done) | (simp; omega) | (simp [*]; done) | fail) ?_) | (fail))
end Go.MM
end
section
/- Meaning: what is formed. -/
namespace Go.MM
open Go Go.DL Go.Proofs
set_option maxRecDepth 100000
set_option maxHeartbeats 8000000

abbrev e0 : ByteArray := ⟨#[]⟩
def emptyP : RP → Bool
  | .mk k f n m a => (k == 0) && sameN f e0 && (n == 0) && (m == 0) && (a.length == 0)

theorem t105 (r : RP) : DCalls Try.prog 105 [.agg (cellsR r), .agg [I 0, .str e0, I 0, I 0, .nil]] (.bool (emptyP r)) := by
  obtain ⟨k, f, n, m, l⟩ := r
  refine dcalls_low (rs := [.tmp 4]) mixed Try.func105 l105 rfl rfl rfl (r := [.bool _]) (Nat.le_of_ble_eq_true rfl) ?_
  simp only [emptyP]
  have h2 := sameN_eq f e0
  generalize sameN f e0 = b at *
  cases l <;> repeat' ((conv => whnf); first | (exact trivial) | (refine now_b (!b) (congrArg _ h2) ?_) | (refine now_T ?_) | (refine now_E1 (by first | omega | (simp; done) | (simp; omega) | fail) ?_) | (refine now_E0 (by first | omega | (simp; done) | (simp; omega) | fail) ?_) | (refine now_N1 (by first | omega | (simp; done) | (simp; omega) | fail) ?_) | (refine now_N0 (by first | omega | (simp; done) | (simp; omega) | fail) ?_) | (refine now_D1 (by first | omega | (simp; done) | (simp; omega) | fail) ?_) | (refine now_D0 (by first | omega | (simp; done) | (simp; omega) | fail) ?_) | (refine now_E (fun hq => ?_) (fun hq => ?_)) | (refine now_N (fun hq => ?_) (fun hq => ?_)) | (refine now_D (fun hq => ?_) (fun hq => ?_)) | (refine rb (x := true) (by first | rfl | (simp; done) | (simp; omega) | (simp [*]; done) | (simp [*]; omega) | fail) ?_) | (refine rb (x := false) (by first | rfl | (simp; done) | (simp; omega) | (simp [*]; done) | (simp [*]; omega) | fail) ?_) | (refine rb (by first | rfl | (simp; done) | (simp; omega) | (simp [*]; done) | (simp [*]; omega) | fail) ?_) | (refine ri (by first | rfl | omega | (rw [wrap_id] <;> omega) | (simp; omega) | (simp [*]; done) | fail) ?_) | (refine And.intro (by first | exact trivial | rfl | decide | exact Nat.le_of_ble_eq_true rfl | assumption | exact ⟨rfl, Nat.le_of_ble_eq_true rfl⟩ | exact ⟨trivial, rfl⟩ | exact ⟨⟨trivial, rfl⟩, rfl⟩ | omega | (simp; done) | (simp; omega) | (simp [*]; done) | fail) ?_) | (cases b) | (fail))
  refine wpC_loop (α := Unit) (fun _ => {sl := [(2, .ptr 2 0), (3, .ptr 3 0), (5, .t (I 0))], bx := [(2, .d 5 (cellsR (.mk k f n m []))), (3, .d 5 [I 0, .str e0, I 0, I 0, .nil])]}) (fun _ => True) (fun _ => 0) () trivial ?_ ?_
  · repeat' (first | (exact trivial) | (exact LeV.same _) | (exact LeB.same _) | (exact rfl) | (exact fun _ _ _ => trivial) | (exact leI (by first | omega | (rw [wrap_id] <;> omega) | (simp; omega) | (simp [*]; done) | fail)) | (exact LeV.nil _ _ _) | (exact leB (by first | rfl | (simp; done) | (simp [*]; done) | (simp [*]; omega) | fail)) | (refine leBd ?_) | (refine leOwn ?_) | (refine And.intro ?_ ?_))
  rintro _ _
  repeat' ((conv => whnf); first | (exact trivial) | (refine now_T ?_) | (refine now_E1 (by first | omega | (simp; done) | (simp; omega) | fail) ?_) | (refine now_E0 (by first | omega | (simp; done) | (simp; omega) | fail) ?_) | (refine now_N1 (by first | omega | (simp; done) | (simp; omega) | fail) ?_) | (refine now_N0 (by first | omega | (simp; done) | (simp; omega) | fail) ?_) | (refine now_D1 (by first | omega | (simp; done) | (simp; omega) | fail) ?_) | (refine now_D0 (by first | omega | (simp; done) | (simp; omega) | fail) ?_) | (refine now_E (fun hq => ?_) (fun hq => ?_)) | (refine now_N (fun hq => ?_) (fun hq => ?_)) | (refine now_D (fun hq => ?_) (fun hq => ?_)) | (refine rb (x := true) (by first | rfl | (simp; done) | (simp; omega) | (simp [*]; done) | (simp [*]; omega) | fail) ?_) | (refine rb (x := false) (by first | rfl | (simp; done) | (simp; omega) | (simp [*]; done) | (simp [*]; omega) | fail) ?_) | (refine rb (by first | rfl | (simp; done) | (simp; omega) | (simp [*]; done) | (simp [*]; omega) | fail) ?_) | (refine ri (by first | rfl | omega | (rw [wrap_id] <;> omega) | (simp; omega) | (simp [*]; done) | fail) ?_) | (refine And.intro (by first | exact trivial | rfl | decide | exact Nat.le_of_ble_eq_true rfl | assumption | exact ⟨rfl, Nat.le_of_ble_eq_true rfl⟩ | exact ⟨trivial, rfl⟩ | exact ⟨⟨trivial, rfl⟩, rfl⟩ | omega | (simp; done) | (simp; omega) | (simp [*]; done) | fail) ?_) | (fail))

def oneB (n : Int) : Bool := decide (0 ≤ n) && decide (n ≤ 65535)
def noneB (f : ByteArray) (n m : Int) : Bool := sameN f e0 && (n == 0) && (m == 0)
def argsP (k : Int) : Nat := if k = 6 then 1 else if k = 7 ∨ k = 8 then 2 else 0
def okP (k : Int) (f : ByteArray) (n m : Int) : Bool :=
  if k = 1 ∨ k = 2 then noneB f n m
  else if k = 3 then namedB f && oneB n && (m == 0)
  else if k = 4 then namedB f && oneB n && decide (0 ≤ m) && decide (m ≤ 16)
  else if k = 5 then namedB f && decide (0 ≤ n) && decide (n ≤ m) && decide (m ≤ 65535)
  else if k = 6 ∨ k = 7 ∨ k = 8 then noneB f n m
  else if k = 9 then sameN f e0 && decide (0 ≤ n) && decide (n < m) && decide (m ≤ 1073741824)
  else false

mutual
def formedP : RP → Bool
  | .mk k f n m a => okP k f n m && (a.length == argsP k) && formedPs a
def formedPs : List RP → Bool
  | [] => true
  | r :: rs => formedP r && formedPs rs
end
theorem formedPs_get : ∀ {l : List RP}, formedPs l = true ↔ ∀ (i : Nat) (h : i < l.length), formedP l[i] = true
  | [] => by simp [formedPs]
  | r :: rs => by
    simp only [formedPs, Bool.and_eq_true, formedPs_get (l := rs)]
    constructor
    · rintro ⟨h0, h⟩ i hi
      cases i with
      | zero => exact h0
      | succ i => simpa using h i (by simpa using hi)
    · intro h
      exact ⟨h 0 (by simp), fun i hi => h (i + 1) (by simpa using hi)⟩

mutual
/-- All names are short. -/
def namesP : RP → Prop
  | .mk _ f _ _ a => f.size < 2 ^ 62 ∧ namesPs a
def namesPs : List RP → Prop
  | [] => True
  | r :: rs => namesP r ∧ namesPs rs
end
theorem namesPs_get : ∀ {l : List RP}, namesPs l → ∀ (i : Nat) (h : i < l.length), namesP l[i]
  | [], _, i, h => by simp at h
  | r :: rs, h, i, hi => by
    cases i with
    | zero => exact h.1
    | succ i => simpa using namesPs_get h.2 i (by simpa using hi)

theorem t106 (N : Nat) : ∀ r : RP, r.nodes ≤ N → N < 2 ^ 60 → namesP r → DCalls Try.prog 106 [.agg (cellsR r)] (.bool (formedP r)) := by
  induction N with
  | zero => intro r h; have := r.nodes_pos; omega
  | succ N ih =>
    rintro ⟨k, f, n, m, l⟩ hr hN hnm
    refine dcalls_low (rs := [.tmp 2]) mixed Try.func106 l106 rfl rfl rfl (r := [.bool _]) (Nat.le_of_ble_eq_true rfl) ?_
    simp only [RP.nodes, formedP] at hr ⊢
    have h104 := t104 f hnm.1
    repeat' ((conv => whnf); first | (exact trivial) | (refine k_call _ (h104) ?_) | (refine now_T ?_) | (refine now_E1 (by first | omega | (simp; done) | (simp; omega) | fail) ?_) | (refine now_E0 (by first | omega | (simp; done) | (simp; omega) | fail) ?_) | (refine now_N1 (by first | omega | (simp; done) | (simp; omega) | fail) ?_) | (refine now_N0 (by first | omega | (simp; done) | (simp; omega) | fail) ?_) | (refine now_D1 (by first | omega | (simp; done) | (simp; omega) | fail) ?_) | (refine now_D0 (by first | omega | (simp; done) | (simp; omega) | fail) ?_) | (refine now_E (fun hq => ?_) (fun hq => ?_)) | (refine now_N (fun hq => ?_) (fun hq => ?_)) | (refine now_D (fun hq => ?_) (fun hq => ?_)) | (refine rb (x := true) (by first | rfl | (simp; done) | (simp; omega) | (simp [*]; done) | (simp [*]; omega) | fail) ?_) | (refine rb (x := false) (by first | rfl | (simp; done) | (simp; omega) | (simp [*]; done) | (simp [*]; omega) | fail) ?_) | (refine rb (by first | rfl | (simp; done) | (simp; omega) | (simp [*]; done) | (simp [*]; omega) | fail) ?_) | (refine ri (by first | rfl | omega | (rw [wrap_id] <;> omega) | (simp; omega) | (simp [*]; done) | fail) ?_) | (refine And.intro (by first | exact trivial | rfl | decide | exact Nat.le_of_ble_eq_true rfl | assumption | exact ⟨rfl, Nat.le_of_ble_eq_true rfl⟩ | exact ⟨trivial, rfl⟩ | exact ⟨⟨trivial, rfl⟩, rfl⟩ | omega | (simp; done) | (simp; omega) | (simp [*]; done) | fail) ?_) | (fail))
    refine wpC_cut (β := Unit) (fun _ => {sl := [(1, .ptr 1 0), (3, .t (.bool (namedB f))), (4, .t (.bool (oneB n)))], bx := [(1, .d 5 (cellsR (.mk k f n m l)))]}) (fun _ => True) ?_ ?_
    · repeat' ((conv => whnf); first | (exact trivial) | (refine now_T ?_) | (refine now_E1 (by first | omega | (simp; done) | (simp; omega) | fail) ?_) | (refine now_E0 (by first | omega | (simp; done) | (simp; omega) | fail) ?_) | (refine now_N1 (by first | omega | (simp; done) | (simp; omega) | fail) ?_) | (refine now_N0 (by first | omega | (simp; done) | (simp; omega) | fail) ?_) | (refine now_D1 (by first | omega | (simp; done) | (simp; omega) | fail) ?_) | (refine now_D0 (by first | omega | (simp; done) | (simp; omega) | fail) ?_) | (refine now_E (fun hq => ?_) (fun hq => ?_)) | (refine now_N (fun hq => ?_) (fun hq => ?_)) | (refine now_D (fun hq => ?_) (fun hq => ?_)) | (refine rb (x := true) (by first | rfl | (simp; done) | (simp; omega) | (simp [*]; done) | (simp [*]; omega) | fail) ?_) | (refine rb (x := false) (by first | rfl | (simp; done) | (simp; omega) | (simp [*]; done) | (simp [*]; omega) | fail) ?_) | (refine rb (by first | rfl | (simp; done) | (simp; omega) | (simp [*]; done) | (simp [*]; omega) | fail) ?_) | (refine ri (by first | rfl | omega | (rw [wrap_id] <;> omega) | (simp; omega) | (simp [*]; done) | fail) ?_) | (refine And.intro (by first | exact trivial | rfl | decide | exact Nat.le_of_ble_eq_true rfl | assumption | exact ⟨rfl, Nat.le_of_ble_eq_true rfl⟩ | exact ⟨trivial, rfl⟩ | exact ⟨⟨trivial, rfl⟩, rfl⟩ | omega | (simp; done) | (simp; omega) | (simp [*]; done) | fail) ?_) | (fail))
      all_goals refine ⟨(), trivial, ?_⟩
      all_goals unfold oneB
      all_goals repeat' (first | (exact trivial) | (exact LeV.same _) | (exact LeB.same _) | (exact rfl) | (exact fun _ _ _ => trivial) | (exact leI (by first | omega | (rw [wrap_id] <;> omega) | (simp; omega) | (simp [*]; done) | fail)) | (exact LeV.nil _ _ _) | (exact leB (by first | rfl | (simp; done) | (simp [*]; done) | (simp [*]; omega) | fail)) | (refine leBd ?_) | (refine leOwn ?_) | (refine And.intro ?_ ?_))
    rintro _ _
    repeat' ((conv => whnf); first | (exact trivial) | (refine now_T ?_) | (refine now_E1 (by first | omega | (simp; done) | (simp; omega) | fail) ?_) | (refine now_E0 (by first | omega | (simp; done) | (simp; omega) | fail) ?_) | (refine now_N1 (by first | omega | (simp; done) | (simp; omega) | fail) ?_) | (refine now_N0 (by first | omega | (simp; done) | (simp; omega) | fail) ?_) | (refine now_D1 (by first | omega | (simp; done) | (simp; omega) | fail) ?_) | (refine now_D0 (by first | omega | (simp; done) | (simp; omega) | fail) ?_) | (refine now_E (fun hq => ?_) (fun hq => ?_)) | (refine now_N (fun hq => ?_) (fun hq => ?_)) | (refine now_D (fun hq => ?_) (fun hq => ?_)) | (refine rb (x := true) (by first | rfl | (simp; done) | (simp; omega) | (simp [*]; done) | (simp [*]; omega) | fail) ?_) | (refine rb (x := false) (by first | rfl | (simp; done) | (simp; omega) | (simp [*]; done) | (simp [*]; omega) | fail) ?_) | (refine rb (by first | rfl | (simp; done) | (simp; omega) | (simp [*]; done) | (simp [*]; omega) | fail) ?_) | (refine ri (by first | rfl | omega | (rw [wrap_id] <;> omega) | (simp; omega) | (simp [*]; done) | fail) ?_) | (refine And.intro (by first | exact trivial | rfl | decide | exact Nat.le_of_ble_eq_true rfl | assumption | exact ⟨rfl, Nat.le_of_ble_eq_true rfl⟩ | exact ⟨trivial, rfl⟩ | exact ⟨⟨trivial, rfl⟩, rfl⟩ | omega | (simp; done) | (simp; omega) | (simp [*]; done) | fail) ?_) | (fail))
    refine wpC_cut (β := Unit) (fun _ => {sl := [(1, .ptr 1 0), (3, .t (.bool (namedB f))), (4, .t (.bool (oneB n))), (5, .t (.bool (noneB f n m)))], bx := [(1, .d 5 (cellsR (.mk k f n m l)))]}) (fun _ => True) ?_ ?_
    · unfold noneB
      have h2 := sameN_eq f e0
      generalize sameN f e0 = b at *
      repeat' ((conv => whnf); first | (exact trivial) | (refine now_b b h2 ?_) | (exact ⟨(), trivial, by (repeat' (first | (exact trivial) | (exact LeV.same _) | (exact LeB.same _) | (exact rfl) | (exact fun _ _ _ => trivial) | (exact leI (by first | omega | (rw [wrap_id] <;> omega) | (simp; omega) | (simp [*]; done) | fail)) | (exact LeV.nil _ _ _) | (exact leB (by first | rfl | (simp; done) | (simp [*]; done) | (simp [*]; omega) | fail)) | (refine leBd ?_) | (refine leOwn ?_) | (refine And.intro ?_ ?_))); done⟩) | (refine now_T ?_) | (refine now_E1 (by first | omega | (simp; done) | (simp; omega) | fail) ?_) | (refine now_E0 (by first | omega | (simp; done) | (simp; omega) | fail) ?_) | (refine now_N1 (by first | omega | (simp; done) | (simp; omega) | fail) ?_) | (refine now_N0 (by first | omega | (simp; done) | (simp; omega) | fail) ?_) | (refine now_D1 (by first | omega | (simp; done) | (simp; omega) | fail) ?_) | (refine now_D0 (by first | omega | (simp; done) | (simp; omega) | fail) ?_) | (refine now_E (fun hq => ?_) (fun hq => ?_)) | (refine now_N (fun hq => ?_) (fun hq => ?_)) | (refine now_D (fun hq => ?_) (fun hq => ?_)) | (refine rb (x := true) (by first | rfl | (simp; done) | (simp; omega) | (simp [*]; done) | (simp [*]; omega) | fail) ?_) | (refine rb (x := false) (by first | rfl | (simp; done) | (simp; omega) | (simp [*]; done) | (simp [*]; omega) | fail) ?_) | (refine rb (by first | rfl | (simp; done) | (simp; omega) | (simp [*]; done) | (simp [*]; omega) | fail) ?_) | (refine ri (by first | rfl | omega | (rw [wrap_id] <;> omega) | (simp; omega) | (simp [*]; done) | fail) ?_) | (refine And.intro (by first | exact trivial | rfl | decide | exact Nat.le_of_ble_eq_true rfl | assumption | exact ⟨rfl, Nat.le_of_ble_eq_true rfl⟩ | exact ⟨trivial, rfl⟩ | exact ⟨⟨trivial, rfl⟩, rfl⟩ | omega | (simp; done) | (simp; omega) | (simp [*]; done) | fail) ?_) | (cases b) | (fail))
    rintro _ _
    repeat' ((conv => whnf); first | (exact trivial) | (refine now_T ?_) | (refine now_E1 (by first | omega | (simp; done) | (simp; omega) | fail) ?_) | (refine now_E0 (by first | omega | (simp; done) | (simp; omega) | fail) ?_) | (refine now_N1 (by first | omega | (simp; done) | (simp; omega) | fail) ?_) | (refine now_N0 (by first | omega | (simp; done) | (simp; omega) | fail) ?_) | (refine now_D1 (by first | omega | (simp; done) | (simp; omega) | fail) ?_) | (refine now_D0 (by first | omega | (simp; done) | (simp; omega) | fail) ?_) | (refine now_E (fun hq => ?_) (fun hq => ?_)) | (refine now_N (fun hq => ?_) (fun hq => ?_)) | (refine now_D (fun hq => ?_) (fun hq => ?_)) | (refine rb (x := true) (by first | rfl | (simp; done) | (simp; omega) | (simp [*]; done) | (simp [*]; omega) | fail) ?_) | (refine rb (x := false) (by first | rfl | (simp; done) | (simp; omega) | (simp [*]; done) | (simp [*]; omega) | fail) ?_) | (refine rb (by first | rfl | (simp; done) | (simp; omega) | (simp [*]; done) | (simp [*]; omega) | fail) ?_) | (refine ri (by first | rfl | omega | (rw [wrap_id] <;> omega) | (simp; omega) | (simp [*]; done) | fail) ?_) | (refine And.intro (by first | exact trivial | rfl | decide | exact Nat.le_of_ble_eq_true rfl | assumption | exact ⟨rfl, Nat.le_of_ble_eq_true rfl⟩ | exact ⟨trivial, rfl⟩ | exact ⟨⟨trivial, rfl⟩, rfl⟩ | omega | (simp; done) | (simp; omega) | (simp [*]; done) | fail) ?_) | (fail))
    refine wpC_cut (β := Unit) (fun _ => {sl := [(1, .ptr 1 0), (6, .t (I (argsP k))), (7, .t (.bool (okP k f n m)))], bx := [(1, .d 5 (cellsR (.mk k f n m l)))]}) (fun _ => True) ?_ ?_
    · have h2 := sameN_eq f e0
      unfold okP argsP
      generalize namedB f = a at *
      generalize oneB n = b at *
      generalize noneB f n m = c at *
      generalize sameN f e0 = d at *
      repeat' ((conv => whnf); first | (exact trivial) | (refine now_b d h2 ?_) | (exact ⟨(), trivial, by (repeat' (first | (exact trivial) | (exact LeV.same _) | (exact LeB.same _) | (exact rfl) | (exact fun _ _ _ => trivial) | (exact leI (by first | omega | (rw [wrap_id] <;> omega) | (simp; omega) | (simp [*]; done) | fail)) | (exact LeV.nil _ _ _) | (exact leB (by first | rfl | (simp; done) | (simp [*]; done) | (simp [*]; omega) | fail)) | (refine leBd ?_) | (refine leOwn ?_) | (refine And.intro ?_ ?_))); done⟩) | (refine now_T ?_) | (refine now_E1 (by first | omega | (simp; done) | (simp; omega) | fail) ?_) | (refine now_E0 (by first | omega | (simp; done) | (simp; omega) | fail) ?_) | (refine now_N1 (by first | omega | (simp; done) | (simp; omega) | fail) ?_) | (refine now_N0 (by first | omega | (simp; done) | (simp; omega) | fail) ?_) | (refine now_D1 (by first | omega | (simp; done) | (simp; omega) | fail) ?_) | (refine now_D0 (by first | omega | (simp; done) | (simp; omega) | fail) ?_) | (refine now_E (fun hq => ?_) (fun hq => ?_)) | (refine now_N (fun hq => ?_) (fun hq => ?_)) | (refine now_D (fun hq => ?_) (fun hq => ?_)) | (refine rb (x := true) (by first | rfl | (simp; done) | (simp; omega) | (simp [*]; done) | (simp [*]; omega) | fail) ?_) | (refine rb (x := false) (by first | rfl | (simp; done) | (simp; omega) | (simp [*]; done) | (simp [*]; omega) | fail) ?_) | (refine rb (by first | rfl | (simp; done) | (simp; omega) | (simp [*]; done) | (simp [*]; omega) | fail) ?_) | (refine ri (by first | rfl | omega | (rw [wrap_id] <;> omega) | (simp; omega) | (simp [*]; done) | fail) ?_) | (refine And.intro (by first | exact trivial | rfl | decide | exact Nat.le_of_ble_eq_true rfl | assumption | exact ⟨rfl, Nat.le_of_ble_eq_true rfl⟩ | exact ⟨trivial, rfl⟩ | exact ⟨⟨trivial, rfl⟩, rfl⟩ | omega | (simp; done) | (simp; omega) | (simp [*]; done) | fail) ?_) | (cases a) | (cases b) | (cases d) | (fail))
    rintro _ _
    generalize okP k f n m = ok at *
    cases ok with
    | false => repeat' ((conv => whnf); first | (exact trivial) | (refine now_T ?_) | (refine now_E1 (by first | omega | (simp; done) | (simp; omega) | fail) ?_) | (refine now_E0 (by first | omega | (simp; done) | (simp; omega) | fail) ?_) | (refine now_N1 (by first | omega | (simp; done) | (simp; omega) | fail) ?_) | (refine now_N0 (by first | omega | (simp; done) | (simp; omega) | fail) ?_) | (refine now_D1 (by first | omega | (simp; done) | (simp; omega) | fail) ?_) | (refine now_D0 (by first | omega | (simp; done) | (simp; omega) | fail) ?_) | (refine now_E (fun hq => ?_) (fun hq => ?_)) | (refine now_N (fun hq => ?_) (fun hq => ?_)) | (refine now_D (fun hq => ?_) (fun hq => ?_)) | (refine rb (x := true) (by first | rfl | (simp; done) | (simp; omega) | (simp [*]; done) | (simp [*]; omega) | fail) ?_) | (refine rb (x := false) (by first | rfl | (simp; done) | (simp; omega) | (simp [*]; done) | (simp [*]; omega) | fail) ?_) | (refine rb (by first | rfl | (simp; done) | (simp; omega) | (simp [*]; done) | (simp [*]; omega) | fail) ?_) | (refine ri (by first | rfl | omega | (rw [wrap_id] <;> omega) | (simp; omega) | (simp [*]; done) | fail) ?_) | (refine And.intro (by first | exact trivial | rfl | decide | exact Nat.le_of_ble_eq_true rfl | assumption | exact ⟨rfl, Nat.le_of_ble_eq_true rfl⟩ | exact ⟨trivial, rfl⟩ | exact ⟨⟨trivial, rfl⟩, rfl⟩ | omega | (simp; done) | (simp; omega) | (simp [*]; done) | fail) ?_) | (fail))
    | true =>
    by_cases hlen : l.length = argsP k
    · have e : (true && (l.length == argsP k) && formedPs l) = formedPs l := by simp [hlen]
      rw [e, ← hlen]
      have hnp := nodesPs_len l
      repeat' ((conv => whnf); first | (exact trivial) | (refine now_T ?_) | (refine now_E1 (by first | omega | (simp; done) | (simp; omega) | fail) ?_) | (refine now_E0 (by first | omega | (simp; done) | (simp; omega) | fail) ?_) | (refine now_N1 (by first | omega | (simp; done) | (simp; omega) | fail) ?_) | (refine now_N0 (by first | omega | (simp; done) | (simp; omega) | fail) ?_) | (refine now_D1 (by first | omega | (simp; done) | (simp; omega) | fail) ?_) | (refine now_D0 (by first | omega | (simp; done) | (simp; omega) | fail) ?_) | (refine now_E (fun hq => ?_) (fun hq => ?_)) | (refine now_N (fun hq => ?_) (fun hq => ?_)) | (refine now_D (fun hq => ?_) (fun hq => ?_)) | (refine rb (x := true) (by first | rfl | (simp; done) | (simp; omega) | (simp [*]; done) | (simp [*]; omega) | fail) ?_) | (refine rb (x := false) (by first | rfl | (simp; done) | (simp; omega) | (simp [*]; done) | (simp [*]; omega) | fail) ?_) | (refine rb (by first | rfl | (simp; done) | (simp; omega) | (simp [*]; done) | (simp [*]; omega) | fail) ?_) | (refine ri (by first | rfl | omega | (rw [wrap_id] <;> omega) | (simp; omega) | (simp [*]; done) | fail) ?_) | (refine And.intro (by first | exact trivial | rfl | decide | exact Nat.le_of_ble_eq_true rfl | assumption | exact ⟨rfl, Nat.le_of_ble_eq_true rfl⟩ | exact ⟨trivial, rfl⟩ | exact ⟨⟨trivial, rfl⟩, rfl⟩ | omega | (simp; done) | (simp; omega) | (simp [*]; done) | fail) ?_) | (fail))
      refine wpC_loop (α := Nat) (fun i => {sl := [(1, .ptr 1 0), (6, .t (I l.length)), (8, .t (I i))], bx := [(1, .d 5 (cellsR (.mk k f n m l)))]})
        (fun i => i ≤ l.length ∧ ∀ j (h : j < l.length), j < i → formedP l[j] = true) (fun i => l.length - i) 0 (by simp) ?_ ?_
      · repeat' (first | (exact trivial) | (exact LeV.same _) | (exact LeB.same _) | (exact rfl) | (exact fun _ _ _ => trivial) | (exact leI (by first | omega | (rw [wrap_id] <;> omega) | (simp; omega) | (simp [*]; done) | fail)) | (exact LeV.nil _ _ _) | (exact leB (by first | rfl | (simp; done) | (simp [*]; done) | (simp [*]; omega) | fail)) | (refine leBd ?_) | (refine leOwn ?_) | (refine And.intro ?_ ?_))
      rintro i ⟨hi, hp⟩
      rcases Nat.lt_or_ge i l.length with h | h
      · have hn := nodesPs_take h
        have hm := nodesPs_mono (l := l) (j := i + 1)
        have hc := ih l[i] (by omega) (by omega) (namesPs_get hnm.2 i h)
        cases hb : formedP l[i] with
        | true =>
          rw [hb] at hc
          repeat' ((conv => whnf); first | (exact trivial) | (refine now_v (.agg (cellsR l[i])) (by first | (simp [h, encR_cells]; done) | fail) ?_) | (refine k_call _ (hc) ?_) | (refine now_T ?_) | (refine now_E1 (by first | omega | (simp; done) | (simp; omega) | fail) ?_) | (refine now_E0 (by first | omega | (simp; done) | (simp; omega) | fail) ?_) | (refine now_N1 (by first | omega | (simp; done) | (simp; omega) | fail) ?_) | (refine now_N0 (by first | omega | (simp; done) | (simp; omega) | fail) ?_) | (refine now_D1 (by first | omega | (simp; done) | (simp; omega) | fail) ?_) | (refine now_D0 (by first | omega | (simp; done) | (simp; omega) | fail) ?_) | (refine now_E (fun hq => ?_) (fun hq => ?_)) | (refine now_N (fun hq => ?_) (fun hq => ?_)) | (refine now_D (fun hq => ?_) (fun hq => ?_)) | (refine rb (x := true) (by first | rfl | (simp; done) | (simp; omega) | (simp [*]; done) | (simp [*]; omega) | fail) ?_) | (refine rb (x := false) (by first | rfl | (simp; done) | (simp; omega) | (simp [*]; done) | (simp [*]; omega) | fail) ?_) | (refine rb (by first | rfl | (simp; done) | (simp; omega) | (simp [*]; done) | (simp [*]; omega) | fail) ?_) | (refine ri (by first | rfl | omega | (rw [wrap_id] <;> omega) | (simp; omega) | (simp [*]; done) | fail) ?_) | (refine And.intro (by first | (exact cellsR_len _; done) | exact trivial | rfl | decide | exact Nat.le_of_ble_eq_true rfl | assumption | exact ⟨rfl, Nat.le_of_ble_eq_true rfl⟩ | exact ⟨trivial, rfl⟩ | exact ⟨⟨trivial, rfl⟩, rfl⟩ | omega | (simp; done) | (simp; omega) | (simp [*]; done) | fail) ?_) | (fail))
          refine ⟨i + 1, ⟨h, fun j hj hlt => ?_⟩, by omega, ?_⟩
          · rcases Nat.lt_or_ge j i with h4 | h4
            · exact hp j hj h4
            · obtain rfl : j = i := by omega
              exact hb
          · repeat' (first | (exact trivial) | (exact LeV.same _) | (exact LeB.same _) | (exact rfl) | (exact fun _ _ _ => trivial) | (exact leI (by first | omega | (rw [wrap_id] <;> omega) | (simp; omega) | (simp [*]; done) | fail)) | (exact LeV.nil _ _ _) | (exact leB (by first | rfl | (simp; done) | (simp [*]; done) | (simp [*]; omega) | fail)) | (refine leBd ?_) | (refine leOwn ?_) | (refine And.intro ?_ ?_))
        | false =>
          rw [hb] at hc
          have e2 : formedPs l = false := by
            cases hx : formedPs l with
            | false => rfl
            | true => rw [formedPs_get.1 hx i h] at hb; cases hb
          rw [e2]
          repeat' ((conv => whnf); first | (exact trivial) | (refine now_v (.agg (cellsR l[i])) (by first | (simp [h, encR_cells]; done) | fail) ?_) | (refine k_call _ (hc) ?_) | (refine now_T ?_) | (refine now_E1 (by first | omega | (simp; done) | (simp; omega) | fail) ?_) | (refine now_E0 (by first | omega | (simp; done) | (simp; omega) | fail) ?_) | (refine now_N1 (by first | omega | (simp; done) | (simp; omega) | fail) ?_) | (refine now_N0 (by first | omega | (simp; done) | (simp; omega) | fail) ?_) | (refine now_D1 (by first | omega | (simp; done) | (simp; omega) | fail) ?_) | (refine now_D0 (by first | omega | (simp; done) | (simp; omega) | fail) ?_) | (refine now_E (fun hq => ?_) (fun hq => ?_)) | (refine now_N (fun hq => ?_) (fun hq => ?_)) | (refine now_D (fun hq => ?_) (fun hq => ?_)) | (refine rb (x := true) (by first | rfl | (simp; done) | (simp; omega) | (simp [*]; done) | (simp [*]; omega) | fail) ?_) | (refine rb (x := false) (by first | rfl | (simp; done) | (simp; omega) | (simp [*]; done) | (simp [*]; omega) | fail) ?_) | (refine rb (by first | rfl | (simp; done) | (simp; omega) | (simp [*]; done) | (simp [*]; omega) | fail) ?_) | (refine ri (by first | rfl | omega | (rw [wrap_id] <;> omega) | (simp; omega) | (simp [*]; done) | fail) ?_) | (refine And.intro (by first | (exact cellsR_len _; done) | exact trivial | rfl | decide | exact Nat.le_of_ble_eq_true rfl | assumption | exact ⟨rfl, Nat.le_of_ble_eq_true rfl⟩ | exact ⟨trivial, rfl⟩ | exact ⟨⟨trivial, rfl⟩, rfl⟩ | omega | (simp; done) | (simp; omega) | (simp [*]; done) | fail) ?_) | (fail))
      · have e2 : formedPs l = true := formedPs_get.2 fun j hj => hp j hj (by omega)
        rw [e2]
        repeat' ((conv => whnf); first | (exact trivial) | (refine now_T ?_) | (refine now_E1 (by first | omega | (simp; done) | (simp; omega) | fail) ?_) | (refine now_E0 (by first | omega | (simp; done) | (simp; omega) | fail) ?_) | (refine now_N1 (by first | omega | (simp; done) | (simp; omega) | fail) ?_) | (refine now_N0 (by first | omega | (simp; done) | (simp; omega) | fail) ?_) | (refine now_D1 (by first | omega | (simp; done) | (simp; omega) | fail) ?_) | (refine now_D0 (by first | omega | (simp; done) | (simp; omega) | fail) ?_) | (refine now_E (fun hq => ?_) (fun hq => ?_)) | (refine now_N (fun hq => ?_) (fun hq => ?_)) | (refine now_D (fun hq => ?_) (fun hq => ?_)) | (refine rb (x := true) (by first | rfl | (simp; done) | (simp; omega) | (simp [*]; done) | (simp [*]; omega) | fail) ?_) | (refine rb (x := false) (by first | rfl | (simp; done) | (simp; omega) | (simp [*]; done) | (simp [*]; omega) | fail) ?_) | (refine rb (by first | rfl | (simp; done) | (simp; omega) | (simp [*]; done) | (simp [*]; omega) | fail) ?_) | (refine ri (by first | rfl | omega | (rw [wrap_id] <;> omega) | (simp; omega) | (simp [*]; done) | fail) ?_) | (refine And.intro (by first | exact trivial | rfl | decide | exact Nat.le_of_ble_eq_true rfl | assumption | exact ⟨rfl, Nat.le_of_ble_eq_true rfl⟩ | exact ⟨trivial, rfl⟩ | exact ⟨⟨trivial, rfl⟩, rfl⟩ | omega | (simp; done) | (simp; omega) | (simp [*]; done) | fail) ?_) | (fail))
    · have e : (true && (l.length == argsP k) && formedPs l) = false := by simp [hlen]
      rw [e]
      repeat' ((conv => whnf); first | (exact trivial) | (refine now_T ?_) | (refine now_E1 (by first | omega | (simp; done) | (simp; omega) | fail) ?_) | (refine now_E0 (by first | omega | (simp; done) | (simp; omega) | fail) ?_) | (refine now_N1 (by first | omega | (simp; done) | (simp; omega) | fail) ?_) | (refine now_N0 (by first | omega | (simp; done) | (simp; omega) | fail) ?_) | (refine now_D1 (by first | omega | (simp; done) | (simp; omega) | fail) ?_) | (refine now_D0 (by first | omega | (simp; done) | (simp; omega) | fail) ?_) | (refine now_E (fun hq => ?_) (fun hq => ?_)) | (refine now_N (fun hq => ?_) (fun hq => ?_)) | (refine now_D (fun hq => ?_) (fun hq => ?_)) | (refine rb (x := true) (by first | rfl | (simp; done) | (simp; omega) | (simp [*]; done) | (simp [*]; omega) | fail) ?_) | (refine rb (x := false) (by first | rfl | (simp; done) | (simp; omega) | (simp [*]; done) | (simp [*]; omega) | fail) ?_) | (refine rb (by first | rfl | (simp; done) | (simp; omega) | (simp [*]; done) | (simp [*]; omega) | fail) ?_) | (refine ri (by first | rfl | omega | (rw [wrap_id] <;> omega) | (simp; omega) | (simp [*]; done) | fail) ?_) | (refine And.intro (by first | exact trivial | rfl | decide | exact Nat.le_of_ble_eq_true rfl | assumption | exact ⟨rfl, Nat.le_of_ble_eq_true rfl⟩ | exact ⟨trivial, rfl⟩ | exact ⟨⟨trivial, rfl⟩, rfl⟩ | omega | (simp; done) | (simp; omega) | (simp [*]; done) | fail) ?_) | (fail))
end Go.MM
end
section
/- Meaning: sizes and forms of policies. -/
namespace Go.MM
open Go Go.DL Go.Proofs
set_option maxRecDepth 100000
set_option maxHeartbeats 8000000

mutual
/-- All nodes, those of predicates too. -/
def RO.wt : RO → Nat
  | .mk _ p _ _ a => 1 + p.nodes + wtSs a
def wtSs : List RO → Nat
  | [] => 0
  | r :: rs => r.wt + wtSs rs
end
mutual
def RO.size : RO → Nat
  | .mk k p _ _ a => 1 + (if k = 1 then p.nodes else 0) + sizeSs a
def sizeSs : List RO → Nat
  | [] => 0
  | r :: rs => r.size + sizeSs rs
end
mutual
def RO.deep : RO → Nat
  | .mk k p _ _ a => 1 + max (if k = 1 then p.depth else 0) (deepSs a)
def deepSs : List RO → Nat
  | [] => 0
  | r :: rs => max r.deep (deepSs rs)
end
mutual
theorem RO.size_le : ∀ r : RO, r.size ≤ r.wt
  | .mk k p _ _ a => by have := sizeSs_le a; simp only [RO.size, RO.wt]; split <;> omega
theorem sizeSs_le : ∀ l : List RO, sizeSs l ≤ wtSs l
  | [] => Nat.le_refl _
  | r :: rs => by have := RO.size_le r; have := sizeSs_le rs; simp only [sizeSs, wtSs]; omega
end
mutual
theorem RO.deep_le : ∀ r : RO, r.deep ≤ r.wt
  | .mk k p _ _ a => by have := deepSs_le a; have := p.depth_le; simp only [RO.deep, RO.wt]; split <;> omega
theorem deepSs_le : ∀ l : List RO, deepSs l ≤ wtSs l
  | [] => Nat.le_refl _
  | r :: rs => by have := RO.deep_le r; have := deepSs_le rs; simp only [deepSs, wtSs]; omega
end
theorem wtSs_take : ∀ {l : List RO} {j : Nat} (h : j < l.length), wtSs (l.take (j + 1)) = wtSs (l.take j) + l[j].wt
  | r :: rs, 0, h => by simp [wtSs]
  | r :: rs, j + 1, h => by
    have := wtSs_take (l := rs) (j := j) (by simpa using h)
    simp only [List.take_succ_cons, wtSs, List.getElem_cons_succ]
    omega
theorem sizeSs_take : ∀ {l : List RO} {j : Nat} (h : j < l.length), sizeSs (l.take (j + 1)) = sizeSs (l.take j) + l[j].size
  | r :: rs, 0, h => by simp [sizeSs]
  | r :: rs, j + 1, h => by
    have := sizeSs_take (l := rs) (j := j) (by simpa using h)
    simp only [List.take_succ_cons, sizeSs, List.getElem_cons_succ]
    omega
theorem deepSs_take : ∀ {l : List RO} {j : Nat} (h : j < l.length), deepSs (l.take (j + 1)) = max (deepSs (l.take j)) l[j].deep
  | r :: rs, 0, h => by simp [deepSs]
  | r :: rs, j + 1, h => by
    have := deepSs_take (l := rs) (j := j) (by simpa using h)
    simp only [List.take_succ_cons, deepSs, List.getElem_cons_succ]
    omega
theorem wtSs_mono : ∀ {l : List RO} {j : Nat}, wtSs (l.take j) ≤ wtSs l
  | [], j => by simp
  | r :: rs, 0 => by simp [wtSs]
  | r :: rs, j + 1 => by
    have := wtSs_mono (l := rs) (j := j)
    simp only [List.take_succ_cons, wtSs]
    omega
theorem RO.wt_pos (r : RO) : 1 ≤ r.wt := by cases r; simp only [RO.wt]; omega
theorem wtSs_len : ∀ l : List RO, l.length ≤ wtSs l
  | [] => Nat.le_refl _
  | r :: rs => by have := wtSs_len rs; have := r.wt_pos; simp only [wtSs, List.length_cons]; omega

theorem two {a b c d : Nat} (h1 : a = c) (h2 : b = d) : [I (a : Int), I (b : Int)] = [I (c : Int), I (d : Int)] := by rw [h1, h2]

theorem t89 (N : Nat) : ∀ r : RO, r.wt ≤ N → N < 2 ^ 60 → DCalls Try.prog 89 [.agg (cellsS r)] (sz r.size r.deep) := by
  induction N with
  | zero => intro r h; have := r.wt_pos; omega
  | succ N ih =>
    rintro ⟨k, ⟨pk, pf, pn, pm, pa⟩, f, n, l⟩ hr hN
    refine dcalls_low (rs := [.cell 2 123]) mixed Try.func89 l89 rfl rfl rfl (r := [sz _ _]) (Nat.le_of_ble_eq_true rfl) ?_
    simp only [RO.size, RO.deep, RO.wt] at hr ⊢
    have h103 := t103 _ (.mk pk pf pn pm pa) (Nat.le_refl _) (by omega)
    have hpd := (RP.mk pk pf pn pm pa).depth_le
    have hlen := wtSs_len l
    by_cases hk : k = 1
    · simp only [hk, if_true]
      repeat' ((conv => whnf); first | (exact trivial) | (refine k_call _ (h103) ?_) | (refine k_call _ (t102 1 1 _ _ (by omega) (by omega) (by omega)) ?_) | (refine now_T ?_) | (refine now_E1 (by first | omega | (simp; done) | (simp; omega) | fail) ?_) | (refine now_E0 (by first | omega | (simp; done) | (simp; omega) | fail) ?_) | (refine now_N1 (by first | omega | (simp; done) | (simp; omega) | fail) ?_) | (refine now_N0 (by first | omega | (simp; done) | (simp; omega) | fail) ?_) | (refine now_D1 (by first | omega | (simp; done) | (simp; omega) | fail) ?_) | (refine now_D0 (by first | omega | (simp; done) | (simp; omega) | fail) ?_) | (refine now_E (fun hq => ?_) (fun hq => ?_)) | (refine now_N (fun hq => ?_) (fun hq => ?_)) | (refine now_D (fun hq => ?_) (fun hq => ?_)) | (refine rb (x := true) (by first | rfl | (simp; done) | (simp; omega) | (simp [*]; done) | (simp [*]; omega) | fail) ?_) | (refine rb (x := false) (by first | rfl | (simp; done) | (simp; omega) | (simp [*]; done) | (simp [*]; omega) | fail) ?_) | (refine rb (by first | rfl | (simp; done) | (simp; omega) | (simp [*]; done) | (simp [*]; omega) | fail) ?_) | (refine ri (by first | rfl | omega | (rw [wrap_id] <;> omega) | (simp; omega) | (simp [*]; done) | fail) ?_) | (refine And.intro (by first | exact trivial | rfl | decide | exact Nat.le_of_ble_eq_true rfl | assumption | exact ⟨rfl, Nat.le_of_ble_eq_true rfl⟩ | exact ⟨trivial, rfl⟩ | exact ⟨⟨trivial, rfl⟩, rfl⟩ | omega | (simp; done) | (simp; omega) | (simp [*]; done) | fail) ?_) | (fail))
      refine wpC_loop (α := Nat) (fun i => {sl := [(1, .ptr 1 0), (2, .ptr 2 0), (3, .ptr 3 0), (4, .t (I i))], bx := [(1, .d 9 (cellsS (.mk 1 (.mk pk pf pn pm pa) f n l))), (2, .d 2 [I 0, I 0]), (3, .d 2 [I (1 + (RP.mk pk pf pn pm pa).nodes + sizeSs (l.take i) : Nat), I (1 + max (RP.mk pk pf pn pm pa).depth (deepSs (l.take i)) : Nat)])]})
        (fun i => i ≤ l.length) (fun i => l.length - i) 0 (by omega) ?_ ?_
      · repeat' (first | (exact trivial) | (exact LeV.same _) | (exact LeB.same _) | (exact rfl) | (exact fun _ _ _ => trivial) | (exact leI (by first | omega | (rw [wrap_id] <;> omega) | (simp; omega) | (simp [*]; done) | fail)) | (exact LeV.nil _ _ _) | (exact leB (by first | rfl | (simp; done) | (simp [*]; done) | (simp [*]; omega) | fail)) | (refine leBd ?_) | (refine leOwn ?_) | (refine And.intro ?_ ?_))
        all_goals exact two (by simp [sizeSs]) (by simp [deepSs]; try omega)
      rintro i hi
      rcases Nat.lt_or_ge i l.length with h | h
      · have hn := sizeSs_take h
        have hd := deepSs_take h
        have hw := wtSs_take h
        have hm := wtSs_mono (l := l) (j := i + 1)
        have hp := l[i].wt_pos
        have h1 := l[i].size_le
        have h2 := l[i].deep_le
        have h3 := deepSs_le (l.take i)
        have h4 := sizeSs_le (l.take i)
        repeat' ((conv => whnf); first | (exact trivial) | (refine now_v (.agg (cellsS l[i])) (by first | (simp [h, encS_cells]; done) | fail) ?_) | (refine k_call _ (ih l[i] (by omega) (by omega)) ?_) | (refine k_call _ (t102 _ _ _ _ (by omega) (by omega) (by omega)) ?_) | (refine now_T ?_) | (refine now_E1 (by first | omega | (simp; done) | (simp; omega) | fail) ?_) | (refine now_E0 (by first | omega | (simp; done) | (simp; omega) | fail) ?_) | (refine now_N1 (by first | omega | (simp; done) | (simp; omega) | fail) ?_) | (refine now_N0 (by first | omega | (simp; done) | (simp; omega) | fail) ?_) | (refine now_D1 (by first | omega | (simp; done) | (simp; omega) | fail) ?_) | (refine now_D0 (by first | omega | (simp; done) | (simp; omega) | fail) ?_) | (refine now_E (fun hq => ?_) (fun hq => ?_)) | (refine now_N (fun hq => ?_) (fun hq => ?_)) | (refine now_D (fun hq => ?_) (fun hq => ?_)) | (refine rb (x := true) (by first | rfl | (simp; done) | (simp; omega) | (simp [*]; done) | (simp [*]; omega) | fail) ?_) | (refine rb (x := false) (by first | rfl | (simp; done) | (simp; omega) | (simp [*]; done) | (simp [*]; omega) | fail) ?_) | (refine rb (by first | rfl | (simp; done) | (simp; omega) | (simp [*]; done) | (simp [*]; omega) | fail) ?_) | (refine ri (by first | rfl | omega | (rw [wrap_id] <;> omega) | (simp; omega) | (simp [*]; done) | fail) ?_) | (refine And.intro (by first | (exact cellsS_len _; done) | exact trivial | rfl | decide | exact Nat.le_of_ble_eq_true rfl | assumption | exact ⟨rfl, Nat.le_of_ble_eq_true rfl⟩ | exact ⟨trivial, rfl⟩ | exact ⟨⟨trivial, rfl⟩, rfl⟩ | omega | (simp; done) | (simp; omega) | (simp [*]; done) | fail) ?_) | (fail))
        refine ⟨i + 1, by omega, by omega, ?_⟩
        repeat' (first | (exact trivial) | (exact LeV.same _) | (exact LeB.same _) | (exact rfl) | (exact fun _ _ _ => trivial) | (exact leI (by first | omega | (rw [wrap_id] <;> omega) | (simp; omega) | (simp [*]; done) | fail)) | (exact LeV.nil _ _ _) | (exact leB (by first | rfl | (simp; done) | (simp [*]; done) | (simp [*]; omega) | fail)) | (refine leBd ?_) | (refine leOwn ?_) | (refine And.intro ?_ ?_))
        exact two (by omega) (by omega)
      · have : i = l.length := by omega
        subst this
        rw [List.take_length]
        repeat' ((conv => whnf); first | (exact trivial) | (refine now_T ?_) | (refine now_E1 (by first | omega | (simp; done) | (simp; omega) | fail) ?_) | (refine now_E0 (by first | omega | (simp; done) | (simp; omega) | fail) ?_) | (refine now_N1 (by first | omega | (simp; done) | (simp; omega) | fail) ?_) | (refine now_N0 (by first | omega | (simp; done) | (simp; omega) | fail) ?_) | (refine now_D1 (by first | omega | (simp; done) | (simp; omega) | fail) ?_) | (refine now_D0 (by first | omega | (simp; done) | (simp; omega) | fail) ?_) | (refine now_E (fun hq => ?_) (fun hq => ?_)) | (refine now_N (fun hq => ?_) (fun hq => ?_)) | (refine now_D (fun hq => ?_) (fun hq => ?_)) | (refine rb (x := true) (by first | rfl | (simp; done) | (simp; omega) | (simp [*]; done) | (simp [*]; omega) | fail) ?_) | (refine rb (x := false) (by first | rfl | (simp; done) | (simp; omega) | (simp [*]; done) | (simp [*]; omega) | fail) ?_) | (refine rb (by first | rfl | (simp; done) | (simp; omega) | (simp [*]; done) | (simp [*]; omega) | fail) ?_) | (refine ri (by first | rfl | omega | (rw [wrap_id] <;> omega) | (simp; omega) | (simp [*]; done) | fail) ?_) | (refine And.intro (by first | exact trivial | rfl | decide | exact Nat.le_of_ble_eq_true rfl | assumption | exact ⟨rfl, Nat.le_of_ble_eq_true rfl⟩ | exact ⟨trivial, rfl⟩ | exact ⟨⟨trivial, rfl⟩, rfl⟩ | omega | (simp; done) | (simp; omega) | (simp [*]; done) | fail) ?_) | (fail))
    · simp only [hk, if_false]
      repeat' ((conv => whnf); first | (exact trivial) | (refine now_T ?_) | (refine now_E1 (by first | omega | (simp; done) | (simp; omega) | fail) ?_) | (refine now_E0 (by first | omega | (simp; done) | (simp; omega) | fail) ?_) | (refine now_N1 (by first | omega | (simp; done) | (simp; omega) | fail) ?_) | (refine now_N0 (by first | omega | (simp; done) | (simp; omega) | fail) ?_) | (refine now_D1 (by first | omega | (simp; done) | (simp; omega) | fail) ?_) | (refine now_D0 (by first | omega | (simp; done) | (simp; omega) | fail) ?_) | (refine now_E (fun hq => ?_) (fun hq => ?_)) | (refine now_N (fun hq => ?_) (fun hq => ?_)) | (refine now_D (fun hq => ?_) (fun hq => ?_)) | (refine rb (x := true) (by first | rfl | (simp; done) | (simp; omega) | (simp [*]; done) | (simp [*]; omega) | fail) ?_) | (refine rb (x := false) (by first | rfl | (simp; done) | (simp; omega) | (simp [*]; done) | (simp [*]; omega) | fail) ?_) | (refine rb (by first | rfl | (simp; done) | (simp; omega) | (simp [*]; done) | (simp [*]; omega) | fail) ?_) | (refine ri (by first | rfl | omega | (rw [wrap_id] <;> omega) | (simp; omega) | (simp [*]; done) | fail) ?_) | (refine And.intro (by first | exact trivial | rfl | decide | exact Nat.le_of_ble_eq_true rfl | assumption | exact ⟨rfl, Nat.le_of_ble_eq_true rfl⟩ | exact ⟨trivial, rfl⟩ | exact ⟨⟨trivial, rfl⟩, rfl⟩ | omega | (simp; done) | (simp; omega) | (simp [*]; done) | fail) ?_) | (fail))
      refine wpC_loop (α := Nat) (fun i => {sl := [(1, .ptr 1 0), (2, .ptr 2 0), (3, .ptr 3 0), (4, .t (I i))], bx := [(1, .d 9 (cellsS (.mk k (.mk pk pf pn pm pa) f n l))), (2, .d 2 [I 0, I 0]), (3, .d 2 [I (1 + 0 + sizeSs (l.take i) : Nat), I (1 + max 0 (deepSs (l.take i)) : Nat)])]})
        (fun i => i ≤ l.length) (fun i => l.length - i) 0 (by omega) ?_ ?_
      · repeat' (first | (exact trivial) | (exact LeV.same _) | (exact LeB.same _) | (exact rfl) | (exact fun _ _ _ => trivial) | (exact leI (by first | omega | (rw [wrap_id] <;> omega) | (simp; omega) | (simp [*]; done) | fail)) | (exact LeV.nil _ _ _) | (exact leB (by first | rfl | (simp; done) | (simp [*]; done) | (simp [*]; omega) | fail)) | (refine leBd ?_) | (refine leOwn ?_) | (refine And.intro ?_ ?_))
        all_goals exact two (by simp [sizeSs]) (by simp [deepSs]; try omega)
      rintro i hi
      rcases Nat.lt_or_ge i l.length with h | h
      · have hn := sizeSs_take h
        have hd := deepSs_take h
        have hw := wtSs_take h
        have hm := wtSs_mono (l := l) (j := i + 1)
        have hp := l[i].wt_pos
        have h1 := l[i].size_le
        have h2 := l[i].deep_le
        have h3 := deepSs_le (l.take i)
        have h4 := sizeSs_le (l.take i)
        repeat' ((conv => whnf); first | (exact trivial) | (refine now_v (.agg (cellsS l[i])) (by first | (simp [h, encS_cells]; done) | fail) ?_) | (refine k_call _ (ih l[i] (by omega) (by omega)) ?_) | (refine k_call _ (t102 _ _ _ _ (by omega) (by omega) (by omega)) ?_) | (refine now_T ?_) | (refine now_E1 (by first | omega | (simp; done) | (simp; omega) | fail) ?_) | (refine now_E0 (by first | omega | (simp; done) | (simp; omega) | fail) ?_) | (refine now_N1 (by first | omega | (simp; done) | (simp; omega) | fail) ?_) | (refine now_N0 (by first | omega | (simp; done) | (simp; omega) | fail) ?_) | (refine now_D1 (by first | omega | (simp; done) | (simp; omega) | fail) ?_) | (refine now_D0 (by first | omega | (simp; done) | (simp; omega) | fail) ?_) | (refine now_E (fun hq => ?_) (fun hq => ?_)) | (refine now_N (fun hq => ?_) (fun hq => ?_)) | (refine now_D (fun hq => ?_) (fun hq => ?_)) | (refine rb (x := true) (by first | rfl | (simp; done) | (simp; omega) | (simp [*]; done) | (simp [*]; omega) | fail) ?_) | (refine rb (x := false) (by first | rfl | (simp; done) | (simp; omega) | (simp [*]; done) | (simp [*]; omega) | fail) ?_) | (refine rb (by first | rfl | (simp; done) | (simp; omega) | (simp [*]; done) | (simp [*]; omega) | fail) ?_) | (refine ri (by first | rfl | omega | (rw [wrap_id] <;> omega) | (simp; omega) | (simp [*]; done) | fail) ?_) | (refine And.intro (by first | (exact cellsS_len _; done) | exact trivial | rfl | decide | exact Nat.le_of_ble_eq_true rfl | assumption | exact ⟨rfl, Nat.le_of_ble_eq_true rfl⟩ | exact ⟨trivial, rfl⟩ | exact ⟨⟨trivial, rfl⟩, rfl⟩ | omega | (simp; done) | (simp; omega) | (simp [*]; done) | fail) ?_) | (fail))
        refine ⟨i + 1, by omega, by omega, ?_⟩
        repeat' (first | (exact trivial) | (exact LeV.same _) | (exact LeB.same _) | (exact rfl) | (exact fun _ _ _ => trivial) | (exact leI (by first | omega | (rw [wrap_id] <;> omega) | (simp; omega) | (simp [*]; done) | fail)) | (exact LeV.nil _ _ _) | (exact leB (by first | rfl | (simp; done) | (simp [*]; done) | (simp [*]; omega) | fail)) | (refine leBd ?_) | (refine leOwn ?_) | (refine And.intro ?_ ?_))
        exact two (by omega) (by omega)
      · have : i = l.length := by omega
        subst this
        rw [List.take_length]
        repeat' ((conv => whnf); first | (exact trivial) | (refine now_T ?_) | (refine now_E1 (by first | omega | (simp; done) | (simp; omega) | fail) ?_) | (refine now_E0 (by first | omega | (simp; done) | (simp; omega) | fail) ?_) | (refine now_N1 (by first | omega | (simp; done) | (simp; omega) | fail) ?_) | (refine now_N0 (by first | omega | (simp; done) | (simp; omega) | fail) ?_) | (refine now_D1 (by first | omega | (simp; done) | (simp; omega) | fail) ?_) | (refine now_D0 (by first | omega | (simp; done) | (simp; omega) | fail) ?_) | (refine now_E (fun hq => ?_) (fun hq => ?_)) | (refine now_N (fun hq => ?_) (fun hq => ?_)) | (refine now_D (fun hq => ?_) (fun hq => ?_)) | (refine rb (x := true) (by first | rfl | (simp; done) | (simp; omega) | (simp [*]; done) | (simp [*]; omega) | fail) ?_) | (refine rb (x := false) (by first | rfl | (simp; done) | (simp; omega) | (simp [*]; done) | (simp [*]; omega) | fail) ?_) | (refine rb (by first | rfl | (simp; done) | (simp; omega) | (simp [*]; done) | (simp [*]; omega) | fail) ?_) | (refine ri (by first | rfl | omega | (rw [wrap_id] <;> omega) | (simp; omega) | (simp [*]; done) | fail) ?_) | (refine And.intro (by first | exact trivial | rfl | decide | exact Nat.le_of_ble_eq_true rfl | assumption | exact ⟨rfl, Nat.le_of_ble_eq_true rfl⟩ | exact ⟨trivial, rfl⟩ | exact ⟨⟨trivial, rfl⟩, rfl⟩ | omega | (simp; done) | (simp; omega) | (simp [*]; done) | fail) ?_) | (fail))

def limI (n d : Nat) : Int := if n ≤ 200 ∧ d ≤ 20 then 0 else 2
theorem t101 (n d : Nat) : DCalls Try.prog 101 [sz n d] (I (limI n d)) := by
  refine dcalls_low (rs := [.tmp 2]) mixed Try.func101 l101 rfl rfl rfl (r := [.int _ _]) (Nat.le_of_ble_eq_true rfl) ?_
  unfold limI
  by_cases h1 : n ≤ 200
  · by_cases h2 : d ≤ 20
    · rw [if_pos ⟨h1, h2⟩]; repeat' ((conv => whnf); first | (exact trivial) | (refine now_T ?_) | (refine now_E1 (by first | omega | (simp; done) | (simp; omega) | fail) ?_) | (refine now_E0 (by first | omega | (simp; done) | (simp; omega) | fail) ?_) | (refine now_N1 (by first | omega | (simp; done) | (simp; omega) | fail) ?_) | (refine now_N0 (by first | omega | (simp; done) | (simp; omega) | fail) ?_) | (refine now_D1 (by first | omega | (simp; done) | (simp; omega) | fail) ?_) | (refine now_D0 (by first | omega | (simp; done) | (simp; omega) | fail) ?_) | (refine now_E (fun hq => ?_) (fun hq => ?_)) | (refine now_N (fun hq => ?_) (fun hq => ?_)) | (refine now_D (fun hq => ?_) (fun hq => ?_)) | (refine rb (x := true) (by first | rfl | (simp; done) | (simp; omega) | (simp [*]; done) | (simp [*]; omega) | fail) ?_) | (refine rb (x := false) (by first | rfl | (simp; done) | (simp; omega) | (simp [*]; done) | (simp [*]; omega) | fail) ?_) | (refine rb (by first | rfl | (simp; done) | (simp; omega) | (simp [*]; done) | (simp [*]; omega) | fail) ?_) | (refine ri (by first | rfl | omega | (rw [wrap_id] <;> omega) | (simp; omega) | (simp [*]; done) | fail) ?_) | (refine And.intro (by first | exact trivial | rfl | decide | exact Nat.le_of_ble_eq_true rfl | assumption | exact ⟨rfl, Nat.le_of_ble_eq_true rfl⟩ | exact ⟨trivial, rfl⟩ | exact ⟨⟨trivial, rfl⟩, rfl⟩ | omega | (simp; done) | (simp; omega) | (simp [*]; done) | fail) ?_) | (fail))
    · rw [if_neg (by omega)]; repeat' ((conv => whnf); first | (exact trivial) | (refine now_T ?_) | (refine now_E1 (by first | omega | (simp; done) | (simp; omega) | fail) ?_) | (refine now_E0 (by first | omega | (simp; done) | (simp; omega) | fail) ?_) | (refine now_N1 (by first | omega | (simp; done) | (simp; omega) | fail) ?_) | (refine now_N0 (by first | omega | (simp; done) | (simp; omega) | fail) ?_) | (refine now_D1 (by first | omega | (simp; done) | (simp; omega) | fail) ?_) | (refine now_D0 (by first | omega | (simp; done) | (simp; omega) | fail) ?_) | (refine now_E (fun hq => ?_) (fun hq => ?_)) | (refine now_N (fun hq => ?_) (fun hq => ?_)) | (refine now_D (fun hq => ?_) (fun hq => ?_)) | (refine rb (x := true) (by first | rfl | (simp; done) | (simp; omega) | (simp [*]; done) | (simp [*]; omega) | fail) ?_) | (refine rb (x := false) (by first | rfl | (simp; done) | (simp; omega) | (simp [*]; done) | (simp [*]; omega) | fail) ?_) | (refine rb (by first | rfl | (simp; done) | (simp; omega) | (simp [*]; done) | (simp [*]; omega) | fail) ?_) | (refine ri (by first | rfl | omega | (rw [wrap_id] <;> omega) | (simp; omega) | (simp [*]; done) | fail) ?_) | (refine And.intro (by first | exact trivial | rfl | decide | exact Nat.le_of_ble_eq_true rfl | assumption | exact ⟨rfl, Nat.le_of_ble_eq_true rfl⟩ | exact ⟨trivial, rfl⟩ | exact ⟨⟨trivial, rfl⟩, rfl⟩ | omega | (simp; done) | (simp; omega) | (simp [*]; done) | fail) ?_) | (fail))
  · rw [if_neg (by omega)]; repeat' ((conv => whnf); first | (exact trivial) | (refine now_T ?_) | (refine now_E1 (by first | omega | (simp; done) | (simp; omega) | fail) ?_) | (refine now_E0 (by first | omega | (simp; done) | (simp; omega) | fail) ?_) | (refine now_N1 (by first | omega | (simp; done) | (simp; omega) | fail) ?_) | (refine now_N0 (by first | omega | (simp; done) | (simp; omega) | fail) ?_) | (refine now_D1 (by first | omega | (simp; done) | (simp; omega) | fail) ?_) | (refine now_D0 (by first | omega | (simp; done) | (simp; omega) | fail) ?_) | (refine now_E (fun hq => ?_) (fun hq => ?_)) | (refine now_N (fun hq => ?_) (fun hq => ?_)) | (refine now_D (fun hq => ?_) (fun hq => ?_)) | (refine rb (x := true) (by first | rfl | (simp; done) | (simp; omega) | (simp [*]; done) | (simp [*]; omega) | fail) ?_) | (refine rb (x := false) (by first | rfl | (simp; done) | (simp; omega) | (simp [*]; done) | (simp [*]; omega) | fail) ?_) | (refine rb (by first | rfl | (simp; done) | (simp; omega) | (simp [*]; done) | (simp [*]; omega) | fail) ?_) | (refine ri (by first | rfl | omega | (rw [wrap_id] <;> omega) | (simp; omega) | (simp [*]; done) | fail) ?_) | (refine And.intro (by first | exact trivial | rfl | decide | exact Nat.le_of_ble_eq_true rfl | assumption | exact ⟨rfl, Nat.le_of_ble_eq_true rfl⟩ | exact ⟨trivial, rfl⟩ | exact ⟨⟨trivial, rfl⟩, rfl⟩ | omega | (simp; done) | (simp; omega) | (simp [*]; done) | fail) ?_) | (fail))

def formI (e : Int) (b : Bool) : Int := if e = 0 then (if b then 0 else 1) else e
theorem t88 (n d : Nat) (b : Bool) : DCalls Try.prog 88 [sz n d, .bool b] (I (formI (limI n d) b)) := by
  refine dcalls_low (rs := [.tmp 4]) mixed Try.func88 l88 rfl rfl rfl (r := [.int _ _]) (Nat.le_of_ble_eq_true rfl) ?_
  have h := t101 n d
  generalize limI n d = e at *
  unfold formI
  by_cases h0 : e = 0
  · subst h0
    cases b <;> repeat' ((conv => whnf); first | (exact trivial) | (refine k_call _ (h) ?_) | (refine now_T ?_) | (refine now_E1 (by first | omega | (simp; done) | (simp; omega) | fail) ?_) | (refine now_E0 (by first | omega | (simp; done) | (simp; omega) | fail) ?_) | (refine now_N1 (by first | omega | (simp; done) | (simp; omega) | fail) ?_) | (refine now_N0 (by first | omega | (simp; done) | (simp; omega) | fail) ?_) | (refine now_D1 (by first | omega | (simp; done) | (simp; omega) | fail) ?_) | (refine now_D0 (by first | omega | (simp; done) | (simp; omega) | fail) ?_) | (refine now_E (fun hq => ?_) (fun hq => ?_)) | (refine now_N (fun hq => ?_) (fun hq => ?_)) | (refine now_D (fun hq => ?_) (fun hq => ?_)) | (refine rb (x := true) (by first | rfl | (simp; done) | (simp; omega) | (simp [*]; done) | (simp [*]; omega) | fail) ?_) | (refine rb (x := false) (by first | rfl | (simp; done) | (simp; omega) | (simp [*]; done) | (simp [*]; omega) | fail) ?_) | (refine rb (by first | rfl | (simp; done) | (simp; omega) | (simp [*]; done) | (simp [*]; omega) | fail) ?_) | (refine ri (by first | rfl | omega | (rw [wrap_id] <;> omega) | (simp; omega) | (simp [*]; done) | fail) ?_) | (refine And.intro (by first | exact trivial | rfl | decide | exact Nat.le_of_ble_eq_true rfl | assumption | exact ⟨rfl, Nat.le_of_ble_eq_true rfl⟩ | exact ⟨trivial, rfl⟩ | exact ⟨⟨trivial, rfl⟩, rfl⟩ | omega | (simp; done) | (simp; omega) | (simp [*]; done) | fail) ?_) | (fail))
  · rw [if_neg h0]
    repeat' ((conv => whnf); first | (exact trivial) | (refine k_call _ (h) ?_) | (refine now_T ?_) | (refine now_E1 (by first | omega | (simp; done) | (simp; omega) | fail) ?_) | (refine now_E0 (by first | omega | (simp; done) | (simp; omega) | fail) ?_) | (refine now_N1 (by first | omega | (simp; done) | (simp; omega) | fail) ?_) | (refine now_N0 (by first | omega | (simp; done) | (simp; omega) | fail) ?_) | (refine now_D1 (by first | omega | (simp; done) | (simp; omega) | fail) ?_) | (refine now_D0 (by first | omega | (simp; done) | (simp; omega) | fail) ?_) | (refine now_E (fun hq => ?_) (fun hq => ?_)) | (refine now_N (fun hq => ?_) (fun hq => ?_)) | (refine now_D (fun hq => ?_) (fun hq => ?_)) | (refine rb (x := true) (by first | rfl | (simp; done) | (simp; omega) | (simp [*]; done) | (simp [*]; omega) | fail) ?_) | (refine rb (x := false) (by first | rfl | (simp; done) | (simp; omega) | (simp [*]; done) | (simp [*]; omega) | fail) ?_) | (refine rb (by first | rfl | (simp; done) | (simp; omega) | (simp [*]; done) | (simp [*]; omega) | fail) ?_) | (refine ri (by first | rfl | omega | (rw [wrap_id] <;> omega) | (simp; omega) | (simp [*]; done) | fail) ?_) | (refine And.intro (by first | exact trivial | rfl | decide | exact Nat.le_of_ble_eq_true rfl | assumption | exact ⟨rfl, Nat.le_of_ble_eq_true rfl⟩ | exact ⟨trivial, rfl⟩ | exact ⟨⟨trivial, rfl⟩, rfl⟩ | omega | (simp; done) | (simp; omega) | (simp [*]; done) | fail) ?_) | (fail))

def argsO (k : Int) : Nat := if k = 3 ∨ k = 4 then 2 else if k = 5 then 1 else 0
def noneO (f : ByteArray) (n : Int) : Bool := sameN f e0 && (n == 0)
def okO (k : Int) (p : RP) (f : ByteArray) (n : Int) : Bool :=
  if k = 1 then formedP p && noneO f n
  else if k = 2 then namedB f && emptyP p && decide (0 ≤ n) && decide (n ≤ 65535)
  else if k = 3 ∨ k = 4 ∨ k = 5 then emptyP p && noneO f n
  else false
mutual
def formedO : RO → Bool
  | .mk k p f n a => okO k p f n && (a.length == argsO k) && formedOs a
def formedOs : List RO → Bool
  | [] => true
  | r :: rs => formedO r && formedOs rs
end
theorem formedOs_get : ∀ {l : List RO}, formedOs l = true ↔ ∀ (i : Nat) (h : i < l.length), formedO l[i] = true
  | [] => by simp [formedOs]
  | r :: rs => by
    simp only [formedOs, Bool.and_eq_true, formedOs_get (l := rs)]
    constructor
    · rintro ⟨h0, h⟩ i hi
      cases i with
      | zero => exact h0
      | succ i => simpa using h i (by simpa using hi)
    · intro h
      exact ⟨h 0 (by simp), fun i hi => h (i + 1) (by simpa using hi)⟩
mutual
def namesO : RO → Prop
  | .mk _ p f _ a => namesP p ∧ f.size < 2 ^ 62 ∧ namesOs a
def namesOs : List RO → Prop
  | [] => True
  | r :: rs => namesO r ∧ namesOs rs
end
theorem namesOs_get : ∀ {l : List RO}, namesOs l → ∀ (i : Nat) (h : i < l.length), namesO l[i]
  | [], _, i, h => by simp at h
  | r :: rs, h, i, hi => by
    cases i with
    | zero => exact h.1
    | succ i => simpa using namesOs_get h.2 i (by simpa using hi)

theorem t90 (N : Nat) : ∀ r : RO, r.wt ≤ N → N < 2 ^ 60 → namesO r → DCalls Try.prog 90 [.agg (cellsS r)] (.bool (formedO r)) := by
  induction N with
  | zero => intro r h; have := r.wt_pos; omega
  | succ N ih =>
    rintro ⟨k, ⟨pk, pf, pn, pm, pa⟩, f, n, l⟩ hr hN ⟨hn1, hn2, hn3⟩
    refine dcalls_low (rs := [.tmp 2]) mixed Try.func90 l90 rfl rfl rfl (r := [.bool _]) (Nat.le_of_ble_eq_true rfl) ?_
    simp only [RO.wt, formedO] at hr ⊢
    have h104 := t104 f hn2
    have h105 := t105 (.mk pk pf pn pm pa)
    have h106 := t106 _ (.mk pk pf pn pm pa) (Nat.le_refl _) (by omega) hn1
    repeat' ((conv => whnf); first | (exact trivial) | (refine k_call _ (h104) ?_) | (refine k_call _ (h105) ?_) | (refine now_T ?_) | (refine now_E1 (by first | omega | (simp; done) | (simp; omega) | fail) ?_) | (refine now_E0 (by first | omega | (simp; done) | (simp; omega) | fail) ?_) | (refine now_N1 (by first | omega | (simp; done) | (simp; omega) | fail) ?_) | (refine now_N0 (by first | omega | (simp; done) | (simp; omega) | fail) ?_) | (refine now_D1 (by first | omega | (simp; done) | (simp; omega) | fail) ?_) | (refine now_D0 (by first | omega | (simp; done) | (simp; omega) | fail) ?_) | (refine now_E (fun hq => ?_) (fun hq => ?_)) | (refine now_N (fun hq => ?_) (fun hq => ?_)) | (refine now_D (fun hq => ?_) (fun hq => ?_)) | (refine rb (x := true) (by first | rfl | (simp; done) | (simp; omega) | (simp [*]; done) | (simp [*]; omega) | fail) ?_) | (refine rb (x := false) (by first | rfl | (simp; done) | (simp; omega) | (simp [*]; done) | (simp [*]; omega) | fail) ?_) | (refine rb (by first | rfl | (simp; done) | (simp; omega) | (simp [*]; done) | (simp [*]; omega) | fail) ?_) | (refine ri (by first | rfl | omega | (rw [wrap_id] <;> omega) | (simp; omega) | (simp [*]; done) | fail) ?_) | (refine And.intro (by first | exact trivial | rfl | decide | exact Nat.le_of_ble_eq_true rfl | assumption | exact ⟨rfl, Nat.le_of_ble_eq_true rfl⟩ | exact ⟨trivial, rfl⟩ | exact ⟨⟨trivial, rfl⟩, rfl⟩ | omega | (simp; done) | (simp; omega) | (simp [*]; done) | fail) ?_) | (fail))
    refine wpC_cut (β := Unit) (fun _ => {sl := [(1, .ptr 1 0), (3, .t (.bool (namedB f))), (4, .t (.bool (emptyP (.mk pk pf pn pm pa)))), (5, .t (.bool (noneO f n)))], bx := [(1, .d 9 (cellsS (.mk k (.mk pk pf pn pm pa) f n l)))]}) (fun _ => True) ?_ ?_
    · unfold noneO
      have h2 := sameN_eq f e0
      generalize sameN f e0 = b at *
      repeat' ((conv => whnf); first | (exact trivial) | (refine now_b b h2 ?_) | (exact ⟨(), trivial, by (repeat' (first | (exact trivial) | (exact LeV.same _) | (exact LeB.same _) | (exact rfl) | (exact fun _ _ _ => trivial) | (exact leI (by first | omega | (rw [wrap_id] <;> omega) | (simp; omega) | (simp [*]; done) | fail)) | (exact LeV.nil _ _ _) | (exact leB (by first | rfl | (simp; done) | (simp [*]; done) | (simp [*]; omega) | fail)) | (refine leBd ?_) | (refine leOwn ?_) | (refine And.intro ?_ ?_))); done⟩) | (refine now_T ?_) | (refine now_E1 (by first | omega | (simp; done) | (simp; omega) | fail) ?_) | (refine now_E0 (by first | omega | (simp; done) | (simp; omega) | fail) ?_) | (refine now_N1 (by first | omega | (simp; done) | (simp; omega) | fail) ?_) | (refine now_N0 (by first | omega | (simp; done) | (simp; omega) | fail) ?_) | (refine now_D1 (by first | omega | (simp; done) | (simp; omega) | fail) ?_) | (refine now_D0 (by first | omega | (simp; done) | (simp; omega) | fail) ?_) | (refine now_E (fun hq => ?_) (fun hq => ?_)) | (refine now_N (fun hq => ?_) (fun hq => ?_)) | (refine now_D (fun hq => ?_) (fun hq => ?_)) | (refine rb (x := true) (by first | rfl | (simp; done) | (simp; omega) | (simp [*]; done) | (simp [*]; omega) | fail) ?_) | (refine rb (x := false) (by first | rfl | (simp; done) | (simp; omega) | (simp [*]; done) | (simp [*]; omega) | fail) ?_) | (refine rb (by first | rfl | (simp; done) | (simp; omega) | (simp [*]; done) | (simp [*]; omega) | fail) ?_) | (refine ri (by first | rfl | omega | (rw [wrap_id] <;> omega) | (simp; omega) | (simp [*]; done) | fail) ?_) | (refine And.intro (by first | exact trivial | rfl | decide | exact Nat.le_of_ble_eq_true rfl | assumption | exact ⟨rfl, Nat.le_of_ble_eq_true rfl⟩ | exact ⟨trivial, rfl⟩ | exact ⟨⟨trivial, rfl⟩, rfl⟩ | omega | (simp; done) | (simp; omega) | (simp [*]; done) | fail) ?_) | (cases b) | (fail))
    rintro _ _
    repeat' ((conv => whnf); first | (exact trivial) | (refine now_T ?_) | (refine now_E1 (by first | omega | (simp; done) | (simp; omega) | fail) ?_) | (refine now_E0 (by first | omega | (simp; done) | (simp; omega) | fail) ?_) | (refine now_N1 (by first | omega | (simp; done) | (simp; omega) | fail) ?_) | (refine now_N0 (by first | omega | (simp; done) | (simp; omega) | fail) ?_) | (refine now_D1 (by first | omega | (simp; done) | (simp; omega) | fail) ?_) | (refine now_D0 (by first | omega | (simp; done) | (simp; omega) | fail) ?_) | (refine now_E (fun hq => ?_) (fun hq => ?_)) | (refine now_N (fun hq => ?_) (fun hq => ?_)) | (refine now_D (fun hq => ?_) (fun hq => ?_)) | (refine rb (x := true) (by first | rfl | (simp; done) | (simp; omega) | (simp [*]; done) | (simp [*]; omega) | fail) ?_) | (refine rb (x := false) (by first | rfl | (simp; done) | (simp; omega) | (simp [*]; done) | (simp [*]; omega) | fail) ?_) | (refine rb (by first | rfl | (simp; done) | (simp; omega) | (simp [*]; done) | (simp [*]; omega) | fail) ?_) | (refine ri (by first | rfl | omega | (rw [wrap_id] <;> omega) | (simp; omega) | (simp [*]; done) | fail) ?_) | (refine And.intro (by first | exact trivial | rfl | decide | exact Nat.le_of_ble_eq_true rfl | assumption | exact ⟨rfl, Nat.le_of_ble_eq_true rfl⟩ | exact ⟨trivial, rfl⟩ | exact ⟨⟨trivial, rfl⟩, rfl⟩ | omega | (simp; done) | (simp; omega) | (simp [*]; done) | fail) ?_) | (fail))
    refine wpC_cut (β := Unit) (fun _ => {sl := [(1, .ptr 1 0), (6, .t (I (argsO k))), (7, .t (.bool (okO k (.mk pk pf pn pm pa) f n)))], bx := [(1, .d 9 (cellsS (.mk k (.mk pk pf pn pm pa) f n l)))]}) (fun _ => True) ?_ ?_
    · unfold okO argsO
      generalize namedB f = a at *
      generalize formedP (.mk pk pf pn pm pa) = b at *
      generalize noneO f n = c at *
      generalize emptyP (.mk pk pf pn pm pa) = d at *
      repeat' ((conv => whnf); first | (exact trivial) | (refine k_call _ (h106) ?_) | (exact ⟨(), trivial, by (repeat' (first | (exact trivial) | (exact LeV.same _) | (exact LeB.same _) | (exact rfl) | (exact fun _ _ _ => trivial) | (exact leI (by first | omega | (rw [wrap_id] <;> omega) | (simp; omega) | (simp [*]; done) | fail)) | (exact LeV.nil _ _ _) | (exact leB (by first | rfl | (simp; done) | (simp [*]; done) | (simp [*]; omega) | fail)) | (refine leBd ?_) | (refine leOwn ?_) | (refine And.intro ?_ ?_))); done⟩) | (refine now_T ?_) | (refine now_E1 (by first | omega | (simp; done) | (simp; omega) | fail) ?_) | (refine now_E0 (by first | omega | (simp; done) | (simp; omega) | fail) ?_) | (refine now_N1 (by first | omega | (simp; done) | (simp; omega) | fail) ?_) | (refine now_N0 (by first | omega | (simp; done) | (simp; omega) | fail) ?_) | (refine now_D1 (by first | omega | (simp; done) | (simp; omega) | fail) ?_) | (refine now_D0 (by first | omega | (simp; done) | (simp; omega) | fail) ?_) | (refine now_E (fun hq => ?_) (fun hq => ?_)) | (refine now_N (fun hq => ?_) (fun hq => ?_)) | (refine now_D (fun hq => ?_) (fun hq => ?_)) | (refine rb (x := true) (by first | rfl | (simp; done) | (simp; omega) | (simp [*]; done) | (simp [*]; omega) | fail) ?_) | (refine rb (x := false) (by first | rfl | (simp; done) | (simp; omega) | (simp [*]; done) | (simp [*]; omega) | fail) ?_) | (refine rb (by first | rfl | (simp; done) | (simp; omega) | (simp [*]; done) | (simp [*]; omega) | fail) ?_) | (refine ri (by first | rfl | omega | (rw [wrap_id] <;> omega) | (simp; omega) | (simp [*]; done) | fail) ?_) | (refine And.intro (by first | exact trivial | rfl | decide | exact Nat.le_of_ble_eq_true rfl | assumption | exact ⟨rfl, Nat.le_of_ble_eq_true rfl⟩ | exact ⟨trivial, rfl⟩ | exact ⟨⟨trivial, rfl⟩, rfl⟩ | omega | (simp; done) | (simp; omega) | (simp [*]; done) | fail) ?_) | (cases a) | (cases b) | (cases d) | (fail))
    rintro _ _
    generalize okO k (.mk pk pf pn pm pa) f n = ok at *
    cases ok with
    | false => repeat' ((conv => whnf); first | (exact trivial) | (refine now_T ?_) | (refine now_E1 (by first | omega | (simp; done) | (simp; omega) | fail) ?_) | (refine now_E0 (by first | omega | (simp; done) | (simp; omega) | fail) ?_) | (refine now_N1 (by first | omega | (simp; done) | (simp; omega) | fail) ?_) | (refine now_N0 (by first | omega | (simp; done) | (simp; omega) | fail) ?_) | (refine now_D1 (by first | omega | (simp; done) | (simp; omega) | fail) ?_) | (refine now_D0 (by first | omega | (simp; done) | (simp; omega) | fail) ?_) | (refine now_E (fun hq => ?_) (fun hq => ?_)) | (refine now_N (fun hq => ?_) (fun hq => ?_)) | (refine now_D (fun hq => ?_) (fun hq => ?_)) | (refine rb (x := true) (by first | rfl | (simp; done) | (simp; omega) | (simp [*]; done) | (simp [*]; omega) | fail) ?_) | (refine rb (x := false) (by first | rfl | (simp; done) | (simp; omega) | (simp [*]; done) | (simp [*]; omega) | fail) ?_) | (refine rb (by first | rfl | (simp; done) | (simp; omega) | (simp [*]; done) | (simp [*]; omega) | fail) ?_) | (refine ri (by first | rfl | omega | (rw [wrap_id] <;> omega) | (simp; omega) | (simp [*]; done) | fail) ?_) | (refine And.intro (by first | exact trivial | rfl | decide | exact Nat.le_of_ble_eq_true rfl | assumption | exact ⟨rfl, Nat.le_of_ble_eq_true rfl⟩ | exact ⟨trivial, rfl⟩ | exact ⟨⟨trivial, rfl⟩, rfl⟩ | omega | (simp; done) | (simp; omega) | (simp [*]; done) | fail) ?_) | (fail))
    | true =>
    by_cases hlen : l.length = argsO k
    · have e : (true && (l.length == argsO k) && formedOs l) = formedOs l := by simp [hlen]
      rw [e, ← hlen]
      have hnp := wtSs_len l
      repeat' ((conv => whnf); first | (exact trivial) | (refine now_T ?_) | (refine now_E1 (by first | omega | (simp; done) | (simp; omega) | fail) ?_) | (refine now_E0 (by first | omega | (simp; done) | (simp; omega) | fail) ?_) | (refine now_N1 (by first | omega | (simp; done) | (simp; omega) | fail) ?_) | (refine now_N0 (by first | omega | (simp; done) | (simp; omega) | fail) ?_) | (refine now_D1 (by first | omega | (simp; done) | (simp; omega) | fail) ?_) | (refine now_D0 (by first | omega | (simp; done) | (simp; omega) | fail) ?_) | (refine now_E (fun hq => ?_) (fun hq => ?_)) | (refine now_N (fun hq => ?_) (fun hq => ?_)) | (refine now_D (fun hq => ?_) (fun hq => ?_)) | (refine rb (x := true) (by first | rfl | (simp; done) | (simp; omega) | (simp [*]; done) | (simp [*]; omega) | fail) ?_) | (refine rb (x := false) (by first | rfl | (simp; done) | (simp; omega) | (simp [*]; done) | (simp [*]; omega) | fail) ?_) | (refine rb (by first | rfl | (simp; done) | (simp; omega) | (simp [*]; done) | (simp [*]; omega) | fail) ?_) | (refine ri (by first | rfl | omega | (rw [wrap_id] <;> omega) | (simp; omega) | (simp [*]; done) | fail) ?_) | (refine And.intro (by first | exact trivial | rfl | decide | exact Nat.le_of_ble_eq_true rfl | assumption | exact ⟨rfl, Nat.le_of_ble_eq_true rfl⟩ | exact ⟨trivial, rfl⟩ | exact ⟨⟨trivial, rfl⟩, rfl⟩ | omega | (simp; done) | (simp; omega) | (simp [*]; done) | fail) ?_) | (fail))
      refine wpC_loop (α := Nat) (fun i => {sl := [(1, .ptr 1 0), (6, .t (I l.length)), (8, .t (I i))], bx := [(1, .d 9 (cellsS (.mk k (.mk pk pf pn pm pa) f n l)))]})
        (fun i => i ≤ l.length ∧ ∀ j (h : j < l.length), j < i → formedO l[j] = true) (fun i => l.length - i) 0 (by simp) ?_ ?_
      · repeat' (first | (exact trivial) | (exact LeV.same _) | (exact LeB.same _) | (exact rfl) | (exact fun _ _ _ => trivial) | (exact leI (by first | omega | (rw [wrap_id] <;> omega) | (simp; omega) | (simp [*]; done) | fail)) | (exact LeV.nil _ _ _) | (exact leB (by first | rfl | (simp; done) | (simp [*]; done) | (simp [*]; omega) | fail)) | (refine leBd ?_) | (refine leOwn ?_) | (refine And.intro ?_ ?_))
      rintro i ⟨hi, hp⟩
      rcases Nat.lt_or_ge i l.length with h | h
      · have hn := wtSs_take h
        have hm := wtSs_mono (l := l) (j := i + 1)
        have hc := ih l[i] (by omega) (by omega) (namesOs_get hn3 i h)
        cases hb : formedO l[i] with
        | true =>
          rw [hb] at hc
          repeat' ((conv => whnf); first | (exact trivial) | (refine now_v (.agg (cellsS l[i])) (by first | (simp [h, encS_cells]; done) | fail) ?_) | (refine k_call _ (hc) ?_) | (refine now_T ?_) | (refine now_E1 (by first | omega | (simp; done) | (simp; omega) | fail) ?_) | (refine now_E0 (by first | omega | (simp; done) | (simp; omega) | fail) ?_) | (refine now_N1 (by first | omega | (simp; done) | (simp; omega) | fail) ?_) | (refine now_N0 (by first | omega | (simp; done) | (simp; omega) | fail) ?_) | (refine now_D1 (by first | omega | (simp; done) | (simp; omega) | fail) ?_) | (refine now_D0 (by first | omega | (simp; done) | (simp; omega) | fail) ?_) | (refine now_E (fun hq => ?_) (fun hq => ?_)) | (refine now_N (fun hq => ?_) (fun hq => ?_)) | (refine now_D (fun hq => ?_) (fun hq => ?_)) | (refine rb (x := true) (by first | rfl | (simp; done) | (simp; omega) | (simp [*]; done) | (simp [*]; omega) | fail) ?_) | (refine rb (x := false) (by first | rfl | (simp; done) | (simp; omega) | (simp [*]; done) | (simp [*]; omega) | fail) ?_) | (refine rb (by first | rfl | (simp; done) | (simp; omega) | (simp [*]; done) | (simp [*]; omega) | fail) ?_) | (refine ri (by first | rfl | omega | (rw [wrap_id] <;> omega) | (simp; omega) | (simp [*]; done) | fail) ?_) | (refine And.intro (by first | (exact cellsS_len _; done) | exact trivial | rfl | decide | exact Nat.le_of_ble_eq_true rfl | assumption | exact ⟨rfl, Nat.le_of_ble_eq_true rfl⟩ | exact ⟨trivial, rfl⟩ | exact ⟨⟨trivial, rfl⟩, rfl⟩ | omega | (simp; done) | (simp; omega) | (simp [*]; done) | fail) ?_) | (fail))
          refine ⟨i + 1, ⟨h, fun j hj hlt => ?_⟩, by omega, ?_⟩
          · rcases Nat.lt_or_ge j i with h4 | h4
            · exact hp j hj h4
            · obtain rfl : j = i := by omega
              exact hb
          · repeat' (first | (exact trivial) | (exact LeV.same _) | (exact LeB.same _) | (exact rfl) | (exact fun _ _ _ => trivial) | (exact leI (by first | omega | (rw [wrap_id] <;> omega) | (simp; omega) | (simp [*]; done) | fail)) | (exact LeV.nil _ _ _) | (exact leB (by first | rfl | (simp; done) | (simp [*]; done) | (simp [*]; omega) | fail)) | (refine leBd ?_) | (refine leOwn ?_) | (refine And.intro ?_ ?_))
        | false =>
          rw [hb] at hc
          have e2 : formedOs l = false := by
            cases hx : formedOs l with
            | false => rfl
            | true => rw [formedOs_get.1 hx i h] at hb; cases hb
          rw [e2]
          repeat' ((conv => whnf); first | (exact trivial) | (refine now_v (.agg (cellsS l[i])) (by first | (simp [h, encS_cells]; done) | fail) ?_) | (refine k_call _ (hc) ?_) | (refine now_T ?_) | (refine now_E1 (by first | omega | (simp; done) | (simp; omega) | fail) ?_) | (refine now_E0 (by first | omega | (simp; done) | (simp; omega) | fail) ?_) | (refine now_N1 (by first | omega | (simp; done) | (simp; omega) | fail) ?_) | (refine now_N0 (by first | omega | (simp; done) | (simp; omega) | fail) ?_) | (refine now_D1 (by first | omega | (simp; done) | (simp; omega) | fail) ?_) | (refine now_D0 (by first | omega | (simp; done) | (simp; omega) | fail) ?_) | (refine now_E (fun hq => ?_) (fun hq => ?_)) | (refine now_N (fun hq => ?_) (fun hq => ?_)) | (refine now_D (fun hq => ?_) (fun hq => ?_)) | (refine rb (x := true) (by first | rfl | (simp; done) | (simp; omega) | (simp [*]; done) | (simp [*]; omega) | fail) ?_) | (refine rb (x := false) (by first | rfl | (simp; done) | (simp; omega) | (simp [*]; done) | (simp [*]; omega) | fail) ?_) | (refine rb (by first | rfl | (simp; done) | (simp; omega) | (simp [*]; done) | (simp [*]; omega) | fail) ?_) | (refine ri (by first | rfl | omega | (rw [wrap_id] <;> omega) | (simp; omega) | (simp [*]; done) | fail) ?_) | (refine And.intro (by first | (exact cellsS_len _; done) | exact trivial | rfl | decide | exact Nat.le_of_ble_eq_true rfl | assumption | exact ⟨rfl, Nat.le_of_ble_eq_true rfl⟩ | exact ⟨trivial, rfl⟩ | exact ⟨⟨trivial, rfl⟩, rfl⟩ | omega | (simp; done) | (simp; omega) | (simp [*]; done) | fail) ?_) | (fail))
      · have e2 : formedOs l = true := formedOs_get.2 fun j hj => hp j hj (by omega)
        rw [e2]
        repeat' ((conv => whnf); first | (exact trivial) | (refine now_T ?_) | (refine now_E1 (by first | omega | (simp; done) | (simp; omega) | fail) ?_) | (refine now_E0 (by first | omega | (simp; done) | (simp; omega) | fail) ?_) | (refine now_N1 (by first | omega | (simp; done) | (simp; omega) | fail) ?_) | (refine now_N0 (by first | omega | (simp; done) | (simp; omega) | fail) ?_) | (refine now_D1 (by first | omega | (simp; done) | (simp; omega) | fail) ?_) | (refine now_D0 (by first | omega | (simp; done) | (simp; omega) | fail) ?_) | (refine now_E (fun hq => ?_) (fun hq => ?_)) | (refine now_N (fun hq => ?_) (fun hq => ?_)) | (refine now_D (fun hq => ?_) (fun hq => ?_)) | (refine rb (x := true) (by first | rfl | (simp; done) | (simp; omega) | (simp [*]; done) | (simp [*]; omega) | fail) ?_) | (refine rb (x := false) (by first | rfl | (simp; done) | (simp; omega) | (simp [*]; done) | (simp [*]; omega) | fail) ?_) | (refine rb (by first | rfl | (simp; done) | (simp; omega) | (simp [*]; done) | (simp [*]; omega) | fail) ?_) | (refine ri (by first | rfl | omega | (rw [wrap_id] <;> omega) | (simp; omega) | (simp [*]; done) | fail) ?_) | (refine And.intro (by first | exact trivial | rfl | decide | exact Nat.le_of_ble_eq_true rfl | assumption | exact ⟨rfl, Nat.le_of_ble_eq_true rfl⟩ | exact ⟨trivial, rfl⟩ | exact ⟨⟨trivial, rfl⟩, rfl⟩ | omega | (simp; done) | (simp; omega) | (simp [*]; done) | fail) ?_) | (fail))
    · have e : (true && (l.length == argsO k) && formedOs l) = false := by simp [hlen]
      rw [e]
      repeat' ((conv => whnf); first | (exact trivial) | (refine now_T ?_) | (refine now_E1 (by first | omega | (simp; done) | (simp; omega) | fail) ?_) | (refine now_E0 (by first | omega | (simp; done) | (simp; omega) | fail) ?_) | (refine now_N1 (by first | omega | (simp; done) | (simp; omega) | fail) ?_) | (refine now_N0 (by first | omega | (simp; done) | (simp; omega) | fail) ?_) | (refine now_D1 (by first | omega | (simp; done) | (simp; omega) | fail) ?_) | (refine now_D0 (by first | omega | (simp; done) | (simp; omega) | fail) ?_) | (refine now_E (fun hq => ?_) (fun hq => ?_)) | (refine now_N (fun hq => ?_) (fun hq => ?_)) | (refine now_D (fun hq => ?_) (fun hq => ?_)) | (refine rb (x := true) (by first | rfl | (simp; done) | (simp; omega) | (simp [*]; done) | (simp [*]; omega) | fail) ?_) | (refine rb (x := false) (by first | rfl | (simp; done) | (simp; omega) | (simp [*]; done) | (simp [*]; omega) | fail) ?_) | (refine rb (by first | rfl | (simp; done) | (simp; omega) | (simp [*]; done) | (simp [*]; omega) | fail) ?_) | (refine ri (by first | rfl | omega | (rw [wrap_id] <;> omega) | (simp; omega) | (simp [*]; done) | fail) ?_) | (refine And.intro (by first | exact trivial | rfl | decide | exact Nat.le_of_ble_eq_true rfl | assumption | exact ⟨rfl, Nat.le_of_ble_eq_true rfl⟩ | exact ⟨trivial, rfl⟩ | exact ⟨⟨trivial, rfl⟩, rfl⟩ | omega | (simp; done) | (simp; omega) | (simp [*]; done) | fail) ?_) | (fail))

def checkO (r : RO) : Int := formI (limI r.size r.deep) (formedO r)
theorem t63 (r : RO) (hr : r.wt < 2 ^ 60) (hn : namesO r) : DCalls Try.prog 63 [.agg (cellsS r)] (I (checkO r)) := by
  refine dcalls_low (rs := [.tmp 2]) mixed Try.func63 l63 rfl rfl rfl (r := [.int _ _]) (Nat.le_of_ble_eq_true rfl) ?_
  have h1 := t89 _ r (Nat.le_refl _) hr
  have h2 := t90 _ r (Nat.le_refl _) hr hn
  have h3 := t88 r.size r.deep (formedO r)
  have hl := cellsS_len r
  unfold checkO
  repeat' ((conv => whnf); first | (exact trivial) | (refine k_call _ (h1) ?_) | (refine k_call _ (h2) ?_) | (refine k_call _ (h3) ?_) | (refine now_T ?_) | (refine now_E1 (by first | omega | (simp; done) | (simp; omega) | fail) ?_) | (refine now_E0 (by first | omega | (simp; done) | (simp; omega) | fail) ?_) | (refine now_N1 (by first | omega | (simp; done) | (simp; omega) | fail) ?_) | (refine now_N0 (by first | omega | (simp; done) | (simp; omega) | fail) ?_) | (refine now_D1 (by first | omega | (simp; done) | (simp; omega) | fail) ?_) | (refine now_D0 (by first | omega | (simp; done) | (simp; omega) | fail) ?_) | (refine now_E (fun hq => ?_) (fun hq => ?_)) | (refine now_N (fun hq => ?_) (fun hq => ?_)) | (refine now_D (fun hq => ?_) (fun hq => ?_)) | (refine rb (x := true) (by first | rfl | (simp; done) | (simp; omega) | (simp [*]; done) | (simp [*]; omega) | fail) ?_) | (refine rb (x := false) (by first | rfl | (simp; done) | (simp; omega) | (simp [*]; done) | (simp [*]; omega) | fail) ?_) | (refine rb (by first | rfl | (simp; done) | (simp; omega) | (simp [*]; done) | (simp [*]; omega) | fail) ?_) | (refine ri (by first | rfl | omega | (rw [wrap_id] <;> omega) | (simp; omega) | (simp [*]; done) | fail) ?_) | (refine And.intro (by first | exact trivial | rfl | decide | exact Nat.le_of_ble_eq_true rfl | assumption | exact ⟨rfl, Nat.le_of_ble_eq_true rfl⟩ | exact ⟨trivial, rfl⟩ | exact ⟨⟨trivial, rfl⟩, rfl⟩ | omega | (simp; done) | (simp; omega) | (simp [*]; done) | fail) ?_) | (fail))
end Go.MM
end
section
/- Meaning: lists of fields as they are read. -/
namespace Go.MM
open Go Go.DL Go.Proofs
set_option maxRecDepth 100000
set_option maxHeartbeats 8000000

/-- A field as it is read. -/
structure RF where
  name : ByteArray
  a : Int
  w : Int
deriving Inhabited
def cellsF (f : RF) : List T := [.str f.name, I f.a, I f.w]
def encF (f : RF) : T := .agg (cellsF f)
def encFs (l : List RF) : T := .slice 3 (l.map encF)

/-- A byte of a field's name at its place. -/
def at8 (s : ByteArray) (i : Nat) : Bool := letterB (byteI s i) || ((digitB (byteI s i) || byteI s i == 95) && !(i == 0))
def all8 (s : ByteArray) : Bool := (List.range s.size).all fun i => at8 s i
def name8 (s : ByteArray) : Bool := all8 s && (decide (1 ≤ s.size) && decide (s.size ≤ 24))

theorem t69 (s : ByteArray) (hs : s.size < 2 ^ 62) : DCalls Try.prog 69 [.str s] (.bool (name8 s)) := by
  refine dcalls_low (rs := [.tmp 2]) mixed Try.func69 l69 rfl rfl rfl (r := [.bool _]) (Nat.le_of_ble_eq_true rfl) ?_
  repeat' ((conv => whnf); first | (exact trivial) | (refine now_T ?_) | (refine now_E1 (by first | omega | (simp; done) | (simp; omega) | fail) ?_) | (refine now_E0 (by first | omega | (simp; done) | (simp; omega) | fail) ?_) | (refine now_N1 (by first | omega | (simp; done) | (simp; omega) | fail) ?_) | (refine now_N0 (by first | omega | (simp; done) | (simp; omega) | fail) ?_) | (refine now_D1 (by first | omega | (simp; done) | (simp; omega) | fail) ?_) | (refine now_D0 (by first | omega | (simp; done) | (simp; omega) | fail) ?_) | (refine now_E (fun hq => ?_) (fun hq => ?_)) | (refine now_N (fun hq => ?_) (fun hq => ?_)) | (refine now_D (fun hq => ?_) (fun hq => ?_)) | (refine rb (x := true) (by first | rfl | (simp; done) | (simp; omega) | (simp [*]; done) | (simp [*]; omega) | fail) ?_) | (refine rb (x := false) (by first | rfl | (simp; done) | (simp; omega) | (simp [*]; done) | (simp [*]; omega) | fail) ?_) | (refine rb (by first | rfl | (simp; done) | (simp; omega) | (simp [*]; done) | (simp [*]; omega) | fail) ?_) | (refine ri (by first | rfl | omega | (rw [wrap_id] <;> omega) | (simp; omega) | (simp [*]; done) | fail) ?_) | (refine And.intro (by first | exact trivial | rfl | decide | exact Nat.le_of_ble_eq_true rfl | assumption | exact ⟨rfl, Nat.le_of_ble_eq_true rfl⟩ | exact ⟨trivial, rfl⟩ | exact ⟨⟨trivial, rfl⟩, rfl⟩ | omega | (simp; done) | (simp; omega) | (simp [*]; done) | fail) ?_) | (fail))
  refine wpC_loop (α := Nat) (fun i => {sl := [(0, .t (.str s)), (3, .t (I i))], bx := []})
    (fun i => i ≤ s.size ∧ ∀ j, j < i → at8 s j = true) (fun i => s.size - i) 0 (by simp) ?_ ?_
  · repeat' (first | (exact trivial) | (exact LeV.same _) | (exact LeB.same _) | (exact rfl) | (exact fun _ _ _ => trivial) | (exact leI (by first | omega | (rw [wrap_id] <;> omega) | (simp; omega) | (simp [*]; done) | fail)) | (exact LeV.nil _ _ _) | (exact leB (by first | rfl | (simp; done) | (simp [*]; done) | (simp [*]; omega) | fail)) | (refine leBd ?_) | (refine leOwn ?_) | (refine And.intro ?_ ?_))
  rintro i ⟨hi, hp⟩
  rcases Nat.lt_or_ge i s.size with h | h
  · have good : at8 s i = true → i + 1 ≤ s.size ∧ ∀ j, j < i + 1 → at8 s j = true := fun hb => by
      refine ⟨h, fun j hj => ?_⟩
      rcases Nat.lt_or_ge j i with h4 | h4
      · exact hp j h4
      · obtain rfl : j = i := by omega
        exact hb
    have bad : at8 s i = false → name8 s = false := fun hb => by
      unfold name8
      have : all8 s = false := by
        unfold all8
        rw [List.all_eq_false]
        exact ⟨i, by simpa using h, by simp [hb]⟩
      rw [this]; rfl
    have bad' : at8 s i = false → false = name8 s := fun hb => (bad hb).symm
    clear bad
    rw [show at8 s i = (letterB (byteI s i) || ((digitB (byteI s i) || byteI s i == 95) && !(i == 0))) from rfl] at good bad'
    have hc : ((s.toList[i]?.getD 0).toNat : Int) = byteI s i := rfl
    generalize name8 s = N at *
    generalize byteI s i = c at *
    repeat' ((conv => whnf); first | (exact trivial) | (refine now_v (U c) (by first | (exact congrArg U hc; done) | fail) ?_) | (exact rb (x := false) (bad' (by simp [letterB, digitB]; omega)) trivial) | (exact ⟨i + 1, good (by simp [letterB, digitB]; omega), by omega, by (repeat' (first | (exact trivial) | (exact LeV.same _) | (exact LeB.same _) | (exact rfl) | (exact fun _ _ _ => trivial) | (exact leI (by first | omega | (rw [wrap_id] <;> omega) | (simp; omega) | (simp [*]; done) | fail)) | (exact LeV.nil _ _ _) | (exact leB (by first | rfl | (simp; done) | (simp [*]; done) | (simp [*]; omega) | fail)) | (refine leBd ?_) | (refine leOwn ?_) | (refine And.intro ?_ ?_))); done⟩) | (refine now_T ?_) | (refine now_E1 (by first | omega | (simp; done) | (simp; omega) | fail) ?_) | (refine now_E0 (by first | omega | (simp; done) | (simp; omega) | fail) ?_) | (refine now_N1 (by first | omega | (simp; done) | (simp; omega) | fail) ?_) | (refine now_N0 (by first | omega | (simp; done) | (simp; omega) | fail) ?_) | (refine now_D1 (by first | omega | (simp; done) | (simp; omega) | fail) ?_) | (refine now_D0 (by first | omega | (simp; done) | (simp; omega) | fail) ?_) | (refine now_E (fun hq => ?_) (fun hq => ?_)) | (refine now_N (fun hq => ?_) (fun hq => ?_)) | (refine now_D (fun hq => ?_) (fun hq => ?_)) | (refine rb (x := true) (by first | rfl | (simp; done) | (simp; omega) | (simp [*]; done) | (simp [*]; omega) | fail) ?_) | (refine rb (x := false) (by first | rfl | (simp; done) | (simp; omega) | (simp [*]; done) | (simp [*]; omega) | fail) ?_) | (refine rb (by first | rfl | (simp; done) | (simp; omega) | (simp [*]; done) | (simp [*]; omega) | fail) ?_) | (refine ri (by first | rfl | omega | (rw [wrap_id] <;> omega) | (simp; omega) | (simp [*]; done) | fail) ?_) | (refine And.intro (by first | exact trivial | rfl | decide | exact Nat.le_of_ble_eq_true rfl | assumption | exact ⟨rfl, Nat.le_of_ble_eq_true rfl⟩ | exact ⟨trivial, rfl⟩ | exact ⟨⟨trivial, rfl⟩, rfl⟩ | omega | (simp; done) | (simp; omega) | (simp [*]; done) | fail) ?_) | (fail))
  · have e : all8 s = true := by
      unfold all8
      rw [List.all_eq_true]
      intro j hj
      exact hp j (by simp at hj; omega)
    unfold name8
    rw [e]
    repeat' ((conv => whnf); first | (exact trivial) | (refine now_T ?_) | (refine now_E1 (by first | omega | (simp; done) | (simp; omega) | fail) ?_) | (refine now_E0 (by first | omega | (simp; done) | (simp; omega) | fail) ?_) | (refine now_N1 (by first | omega | (simp; done) | (simp; omega) | fail) ?_) | (refine now_N0 (by first | omega | (simp; done) | (simp; omega) | fail) ?_) | (refine now_D1 (by first | omega | (simp; done) | (simp; omega) | fail) ?_) | (refine now_D0 (by first | omega | (simp; done) | (simp; omega) | fail) ?_) | (refine now_E (fun hq => ?_) (fun hq => ?_)) | (refine now_N (fun hq => ?_) (fun hq => ?_)) | (refine now_D (fun hq => ?_) (fun hq => ?_)) | (refine rb (x := true) (by first | rfl | (simp; done) | (simp; omega) | (simp [*]; done) | (simp [*]; omega) | fail) ?_) | (refine rb (x := false) (by first | rfl | (simp; done) | (simp; omega) | (simp [*]; done) | (simp [*]; omega) | fail) ?_) | (refine rb (by first | rfl | (simp; done) | (simp; omega) | (simp [*]; done) | (simp [*]; omega) | fail) ?_) | (refine ri (by first | rfl | omega | (rw [wrap_id] <;> omega) | (simp; omega) | (simp [*]; done) | fail) ?_) | (refine And.intro (by first | exact trivial | rfl | decide | exact Nat.le_of_ble_eq_true rfl | assumption | exact ⟨rfl, Nat.le_of_ble_eq_true rfl⟩ | exact ⟨trivial, rfl⟩ | exact ⟨⟨trivial, rfl⟩, rfl⟩ | omega | (simp; done) | (simp; omega) | (simp [*]; done) | fail) ?_) | (fail))

def placeB (f : RF) : Bool := decide (1 ≤ f.w) && decide (f.w ≤ 16) && decide (16 ≤ f.a) && decide (f.a ≤ 143) && decide (f.a % 16 + f.w ≤ 16)
theorem tmod16 {a : Int} (h : 0 ≤ a) : a.tmod 16 = a % 16 := Int.tmod_eq_emod_of_nonneg h
theorem t70 (f : RF) : DCalls Try.prog 70 [encF f] (.bool (placeB f)) := by
  obtain ⟨s, a, w⟩ := f
  refine dcalls_low (rs := [.tmp 2]) mixed Try.func70 l70 rfl rfl rfl (r := [.bool _]) (Nat.le_of_ble_eq_true rfl) ?_
  simp only [placeB]
  by_cases h16 : 16 ≤ a
  · have e := tmod16 (a := a) (by omega)
    by_cases h1 : 1 ≤ w
    · by_cases h2 : w ≤ 16
      · by_cases h3 : a ≤ 143
        · have e2 : IntKind.wrap .i64 (a.tmod 16 + w) = a % 16 + w := by rw [e, wrap_id] <;> omega
          have e3 : (decide (1 ≤ w) && decide (w ≤ 16) && decide (16 ≤ a) && decide (a ≤ 143) && decide (a % 16 + w ≤ 16)) = decide (a % 16 + w ≤ 16) := by simp [h16, h1, h2, h3]
          rw [e3]
          by_cases h4 : a % 16 + w ≤ 16
          · repeat' ((conv => whnf); first | (exact trivial) | (refine now_D1 (by rw [e2]; exact h4) ?_) | (refine now_T ?_) | (refine now_E1 (by first | omega | (simp; done) | (simp; omega) | fail) ?_) | (refine now_E0 (by first | omega | (simp; done) | (simp; omega) | fail) ?_) | (refine now_N1 (by first | omega | (simp; done) | (simp; omega) | fail) ?_) | (refine now_N0 (by first | omega | (simp; done) | (simp; omega) | fail) ?_) | (refine now_D1 (by first | omega | (simp; done) | (simp; omega) | fail) ?_) | (refine now_D0 (by first | omega | (simp; done) | (simp; omega) | fail) ?_) | (refine now_E (fun hq => ?_) (fun hq => ?_)) | (refine now_N (fun hq => ?_) (fun hq => ?_)) | (refine now_D (fun hq => ?_) (fun hq => ?_)) | (refine rb (x := true) (by first | rfl | (simp; done) | (simp; omega) | (simp [*]; done) | (simp [*]; omega) | fail) ?_) | (refine rb (x := false) (by first | rfl | (simp; done) | (simp; omega) | (simp [*]; done) | (simp [*]; omega) | fail) ?_) | (refine rb (by first | rfl | (simp; done) | (simp; omega) | (simp [*]; done) | (simp [*]; omega) | fail) ?_) | (refine ri (by first | rfl | omega | (rw [wrap_id] <;> omega) | (simp; omega) | (simp [*]; done) | fail) ?_) | (refine And.intro (by first | exact trivial | rfl | decide | exact Nat.le_of_ble_eq_true rfl | assumption | exact ⟨rfl, Nat.le_of_ble_eq_true rfl⟩ | exact ⟨trivial, rfl⟩ | exact ⟨⟨trivial, rfl⟩, rfl⟩ | omega | (simp; done) | (simp; omega) | (simp [*]; done) | fail) ?_) | (fail))
          · repeat' ((conv => whnf); first | (exact trivial) | (refine now_D0 (by rw [e2]; exact h4) ?_) | (refine now_T ?_) | (refine now_E1 (by first | omega | (simp; done) | (simp; omega) | fail) ?_) | (refine now_E0 (by first | omega | (simp; done) | (simp; omega) | fail) ?_) | (refine now_N1 (by first | omega | (simp; done) | (simp; omega) | fail) ?_) | (refine now_N0 (by first | omega | (simp; done) | (simp; omega) | fail) ?_) | (refine now_D1 (by first | omega | (simp; done) | (simp; omega) | fail) ?_) | (refine now_D0 (by first | omega | (simp; done) | (simp; omega) | fail) ?_) | (refine now_E (fun hq => ?_) (fun hq => ?_)) | (refine now_N (fun hq => ?_) (fun hq => ?_)) | (refine now_D (fun hq => ?_) (fun hq => ?_)) | (refine rb (x := true) (by first | rfl | (simp; done) | (simp; omega) | (simp [*]; done) | (simp [*]; omega) | fail) ?_) | (refine rb (x := false) (by first | rfl | (simp; done) | (simp; omega) | (simp [*]; done) | (simp [*]; omega) | fail) ?_) | (refine rb (by first | rfl | (simp; done) | (simp; omega) | (simp [*]; done) | (simp [*]; omega) | fail) ?_) | (refine ri (by first | rfl | omega | (rw [wrap_id] <;> omega) | (simp; omega) | (simp [*]; done) | fail) ?_) | (refine And.intro (by first | exact trivial | rfl | decide | exact Nat.le_of_ble_eq_true rfl | assumption | exact ⟨rfl, Nat.le_of_ble_eq_true rfl⟩ | exact ⟨trivial, rfl⟩ | exact ⟨⟨trivial, rfl⟩, rfl⟩ | omega | (simp; done) | (simp; omega) | (simp [*]; done) | fail) ?_) | (fail))
        · repeat' ((conv => whnf); first | (exact trivial) | (refine now_T ?_) | (refine now_E1 (by first | omega | (simp; done) | (simp; omega) | fail) ?_) | (refine now_E0 (by first | omega | (simp; done) | (simp; omega) | fail) ?_) | (refine now_N1 (by first | omega | (simp; done) | (simp; omega) | fail) ?_) | (refine now_N0 (by first | omega | (simp; done) | (simp; omega) | fail) ?_) | (refine now_D1 (by first | omega | (simp; done) | (simp; omega) | fail) ?_) | (refine now_D0 (by first | omega | (simp; done) | (simp; omega) | fail) ?_) | (refine now_E (fun hq => ?_) (fun hq => ?_)) | (refine now_N (fun hq => ?_) (fun hq => ?_)) | (refine now_D (fun hq => ?_) (fun hq => ?_)) | (refine rb (x := true) (by first | rfl | (simp; done) | (simp; omega) | (simp [*]; done) | (simp [*]; omega) | fail) ?_) | (refine rb (x := false) (by first | rfl | (simp; done) | (simp; omega) | (simp [*]; done) | (simp [*]; omega) | fail) ?_) | (refine rb (by first | rfl | (simp; done) | (simp; omega) | (simp [*]; done) | (simp [*]; omega) | fail) ?_) | (refine ri (by first | rfl | omega | (rw [wrap_id] <;> omega) | (simp; omega) | (simp [*]; done) | fail) ?_) | (refine And.intro (by first | exact trivial | rfl | decide | exact Nat.le_of_ble_eq_true rfl | assumption | exact ⟨rfl, Nat.le_of_ble_eq_true rfl⟩ | exact ⟨trivial, rfl⟩ | exact ⟨⟨trivial, rfl⟩, rfl⟩ | omega | (simp; done) | (simp; omega) | (simp [*]; done) | fail) ?_) | (fail))
      · repeat' ((conv => whnf); first | (exact trivial) | (refine now_T ?_) | (refine now_E1 (by first | omega | (simp; done) | (simp; omega) | fail) ?_) | (refine now_E0 (by first | omega | (simp; done) | (simp; omega) | fail) ?_) | (refine now_N1 (by first | omega | (simp; done) | (simp; omega) | fail) ?_) | (refine now_N0 (by first | omega | (simp; done) | (simp; omega) | fail) ?_) | (refine now_D1 (by first | omega | (simp; done) | (simp; omega) | fail) ?_) | (refine now_D0 (by first | omega | (simp; done) | (simp; omega) | fail) ?_) | (refine now_E (fun hq => ?_) (fun hq => ?_)) | (refine now_N (fun hq => ?_) (fun hq => ?_)) | (refine now_D (fun hq => ?_) (fun hq => ?_)) | (refine rb (x := true) (by first | rfl | (simp; done) | (simp; omega) | (simp [*]; done) | (simp [*]; omega) | fail) ?_) | (refine rb (x := false) (by first | rfl | (simp; done) | (simp; omega) | (simp [*]; done) | (simp [*]; omega) | fail) ?_) | (refine rb (by first | rfl | (simp; done) | (simp; omega) | (simp [*]; done) | (simp [*]; omega) | fail) ?_) | (refine ri (by first | rfl | omega | (rw [wrap_id] <;> omega) | (simp; omega) | (simp [*]; done) | fail) ?_) | (refine And.intro (by first | exact trivial | rfl | decide | exact Nat.le_of_ble_eq_true rfl | assumption | exact ⟨rfl, Nat.le_of_ble_eq_true rfl⟩ | exact ⟨trivial, rfl⟩ | exact ⟨⟨trivial, rfl⟩, rfl⟩ | omega | (simp; done) | (simp; omega) | (simp [*]; done) | fail) ?_) | (fail))
    · repeat' ((conv => whnf); first | (exact trivial) | (refine now_T ?_) | (refine now_E1 (by first | omega | (simp; done) | (simp; omega) | fail) ?_) | (refine now_E0 (by first | omega | (simp; done) | (simp; omega) | fail) ?_) | (refine now_N1 (by first | omega | (simp; done) | (simp; omega) | fail) ?_) | (refine now_N0 (by first | omega | (simp; done) | (simp; omega) | fail) ?_) | (refine now_D1 (by first | omega | (simp; done) | (simp; omega) | fail) ?_) | (refine now_D0 (by first | omega | (simp; done) | (simp; omega) | fail) ?_) | (refine now_E (fun hq => ?_) (fun hq => ?_)) | (refine now_N (fun hq => ?_) (fun hq => ?_)) | (refine now_D (fun hq => ?_) (fun hq => ?_)) | (refine rb (x := true) (by first | rfl | (simp; done) | (simp; omega) | (simp [*]; done) | (simp [*]; omega) | fail) ?_) | (refine rb (x := false) (by first | rfl | (simp; done) | (simp; omega) | (simp [*]; done) | (simp [*]; omega) | fail) ?_) | (refine rb (by first | rfl | (simp; done) | (simp; omega) | (simp [*]; done) | (simp [*]; omega) | fail) ?_) | (refine ri (by first | rfl | omega | (rw [wrap_id] <;> omega) | (simp; omega) | (simp [*]; done) | fail) ?_) | (refine And.intro (by first | exact trivial | rfl | decide | exact Nat.le_of_ble_eq_true rfl | assumption | exact ⟨rfl, Nat.le_of_ble_eq_true rfl⟩ | exact ⟨trivial, rfl⟩ | exact ⟨⟨trivial, rfl⟩, rfl⟩ | omega | (simp; done) | (simp; omega) | (simp [*]; done) | fail) ?_) | (fail))
  · repeat' ((conv => whnf); first | (exact trivial) | (refine now_T ?_) | (refine now_E1 (by first | omega | (simp; done) | (simp; omega) | fail) ?_) | (refine now_E0 (by first | omega | (simp; done) | (simp; omega) | fail) ?_) | (refine now_N1 (by first | omega | (simp; done) | (simp; omega) | fail) ?_) | (refine now_N0 (by first | omega | (simp; done) | (simp; omega) | fail) ?_) | (refine now_D1 (by first | omega | (simp; done) | (simp; omega) | fail) ?_) | (refine now_D0 (by first | omega | (simp; done) | (simp; omega) | fail) ?_) | (refine now_E (fun hq => ?_) (fun hq => ?_)) | (refine now_N (fun hq => ?_) (fun hq => ?_)) | (refine now_D (fun hq => ?_) (fun hq => ?_)) | (refine rb (x := true) (by first | rfl | (simp; done) | (simp; omega) | (simp [*]; done) | (simp [*]; omega) | fail) ?_) | (refine rb (x := false) (by first | rfl | (simp; done) | (simp; omega) | (simp [*]; done) | (simp [*]; omega) | fail) ?_) | (refine rb (by first | rfl | (simp; done) | (simp; omega) | (simp [*]; done) | (simp [*]; omega) | fail) ?_) | (refine ri (by first | rfl | omega | (rw [wrap_id] <;> omega) | (simp; omega) | (simp [*]; done) | fail) ?_) | (refine And.intro (by first | exact trivial | rfl | decide | exact Nat.le_of_ble_eq_true rfl | assumption | exact ⟨rfl, Nat.le_of_ble_eq_true rfl⟩ | exact ⟨trivial, rfl⟩ | exact ⟨⟨trivial, rfl⟩, rfl⟩ | omega | (simp; done) | (simp; omega) | (simp [*]; done) | fail) ?_) | (fail))

/-- A field whose numbers are small. -/
def smallF (f : RF) : Prop := -1000 ≤ f.a ∧ f.a ≤ 1000 ∧ -1000 ≤ f.w ∧ f.w ≤ 1000
def commonB (f g : RF) : Bool := decide (f.a < g.a + g.w) && decide (g.a < f.a + f.w)
theorem t71 (f g : RF) (hf : smallF f) (hg : smallF g) : DCalls Try.prog 71 [encF f, encF g] (.bool (commonB f g)) := by
  obtain ⟨s, a, w⟩ := f
  obtain ⟨s', b, v⟩ := g
  simp only [smallF] at hf hg
  refine dcalls_low (rs := [.tmp 4]) mixed Try.func71 l71 rfl rfl rfl (r := [.bool _]) (Nat.le_of_ble_eq_true rfl) ?_
  simp only [commonB]
  have e1 : IntKind.wrap .i64 (b + v) = b + v := wrap_id (by omega) (by omega)
  have e2 : IntKind.wrap .i64 (a + w) = a + w := wrap_id (by omega) (by omega)
  by_cases h1 : a < b + v
  · by_cases h2 : b < a + w
    · repeat' ((conv => whnf); first | (exact trivial) | (refine now_D1 (by rw [e1]; exact h1) ?_) | (refine now_D1 (by rw [e2]; exact h2) ?_) | (refine now_T ?_) | (refine now_E1 (by first | omega | (simp; done) | (simp; omega) | fail) ?_) | (refine now_E0 (by first | omega | (simp; done) | (simp; omega) | fail) ?_) | (refine now_N1 (by first | omega | (simp; done) | (simp; omega) | fail) ?_) | (refine now_N0 (by first | omega | (simp; done) | (simp; omega) | fail) ?_) | (refine now_D1 (by first | omega | (simp; done) | (simp; omega) | fail) ?_) | (refine now_D0 (by first | omega | (simp; done) | (simp; omega) | fail) ?_) | (refine now_E (fun hq => ?_) (fun hq => ?_)) | (refine now_N (fun hq => ?_) (fun hq => ?_)) | (refine now_D (fun hq => ?_) (fun hq => ?_)) | (refine rb (x := true) (by first | rfl | (simp; done) | (simp; omega) | (simp [*]; done) | (simp [*]; omega) | fail) ?_) | (refine rb (x := false) (by first | rfl | (simp; done) | (simp; omega) | (simp [*]; done) | (simp [*]; omega) | fail) ?_) | (refine rb (by first | rfl | (simp; done) | (simp; omega) | (simp [*]; done) | (simp [*]; omega) | fail) ?_) | (refine ri (by first | rfl | omega | (rw [wrap_id] <;> omega) | (simp; omega) | (simp [*]; done) | fail) ?_) | (refine And.intro (by first | exact trivial | rfl | decide | exact Nat.le_of_ble_eq_true rfl | assumption | exact ⟨rfl, Nat.le_of_ble_eq_true rfl⟩ | exact ⟨trivial, rfl⟩ | exact ⟨⟨trivial, rfl⟩, rfl⟩ | omega | (simp; done) | (simp; omega) | (simp [*]; done) | fail) ?_) | (fail))
    · repeat' ((conv => whnf); first | (exact trivial) | (refine now_D1 (by rw [e1]; exact h1) ?_) | (refine now_D0 (by rw [e2]; exact h2) ?_) | (refine now_T ?_) | (refine now_E1 (by first | omega | (simp; done) | (simp; omega) | fail) ?_) | (refine now_E0 (by first | omega | (simp; done) | (simp; omega) | fail) ?_) | (refine now_N1 (by first | omega | (simp; done) | (simp; omega) | fail) ?_) | (refine now_N0 (by first | omega | (simp; done) | (simp; omega) | fail) ?_) | (refine now_D1 (by first | omega | (simp; done) | (simp; omega) | fail) ?_) | (refine now_D0 (by first | omega | (simp; done) | (simp; omega) | fail) ?_) | (refine now_E (fun hq => ?_) (fun hq => ?_)) | (refine now_N (fun hq => ?_) (fun hq => ?_)) | (refine now_D (fun hq => ?_) (fun hq => ?_)) | (refine rb (x := true) (by first | rfl | (simp; done) | (simp; omega) | (simp [*]; done) | (simp [*]; omega) | fail) ?_) | (refine rb (x := false) (by first | rfl | (simp; done) | (simp; omega) | (simp [*]; done) | (simp [*]; omega) | fail) ?_) | (refine rb (by first | rfl | (simp; done) | (simp; omega) | (simp [*]; done) | (simp [*]; omega) | fail) ?_) | (refine ri (by first | rfl | omega | (rw [wrap_id] <;> omega) | (simp; omega) | (simp [*]; done) | fail) ?_) | (refine And.intro (by first | exact trivial | rfl | decide | exact Nat.le_of_ble_eq_true rfl | assumption | exact ⟨rfl, Nat.le_of_ble_eq_true rfl⟩ | exact ⟨trivial, rfl⟩ | exact ⟨⟨trivial, rfl⟩, rfl⟩ | omega | (simp; done) | (simp; omega) | (simp [*]; done) | fail) ?_) | (fail))
  · repeat' ((conv => whnf); first | (exact trivial) | (refine now_D0 (by rw [e1]; exact h1) ?_) | (refine now_T ?_) | (refine now_E1 (by first | omega | (simp; done) | (simp; omega) | fail) ?_) | (refine now_E0 (by first | omega | (simp; done) | (simp; omega) | fail) ?_) | (refine now_N1 (by first | omega | (simp; done) | (simp; omega) | fail) ?_) | (refine now_N0 (by first | omega | (simp; done) | (simp; omega) | fail) ?_) | (refine now_D1 (by first | omega | (simp; done) | (simp; omega) | fail) ?_) | (refine now_D0 (by first | omega | (simp; done) | (simp; omega) | fail) ?_) | (refine now_E (fun hq => ?_) (fun hq => ?_)) | (refine now_N (fun hq => ?_) (fun hq => ?_)) | (refine now_D (fun hq => ?_) (fun hq => ?_)) | (refine rb (x := true) (by first | rfl | (simp; done) | (simp; omega) | (simp [*]; done) | (simp [*]; omega) | fail) ?_) | (refine rb (x := false) (by first | rfl | (simp; done) | (simp; omega) | (simp [*]; done) | (simp [*]; omega) | fail) ?_) | (refine rb (by first | rfl | (simp; done) | (simp; omega) | (simp [*]; done) | (simp [*]; omega) | fail) ?_) | (refine ri (by first | rfl | omega | (rw [wrap_id] <;> omega) | (simp; omega) | (simp [*]; done) | fail) ?_) | (refine And.intro (by first | exact trivial | rfl | decide | exact Nat.le_of_ble_eq_true rfl | assumption | exact ⟨rfl, Nat.le_of_ble_eq_true rfl⟩ | exact ⟨trivial, rfl⟩ | exact ⟨⟨trivial, rfl⟩, rfl⟩ | omega | (simp; done) | (simp; omega) | (simp [*]; done) | fail) ?_) | (fail))

def checkAt (l : List RF) (i : Nat) (f : RF) : Int :=
  if name8 f.name = false ∨ sameN f.name portN = true then 4
  else if ((l.take i).any fun g => sameN g.name f.name) = true then 4
  else if placeB f = false then 1
  else if ((l.take i).any fun g => commonB g f) = true then 1 else 0
def firstNZ : List Int → Int
  | [] => 0
  | x :: xs => if x ≠ 0 then x else firstNZ xs
theorem firstNZ_at : ∀ {l : List Int} {i : Nat} (h : i < l.length), (∀ j (hj : j < l.length), j < i → l[j] = 0) → l[i] ≠ 0 → firstNZ l = l[i]
  | x :: xs, 0, h, _, h0 => by simp at h0; simp [firstNZ, h0]
  | x :: xs, i + 1, h, hz, h0 => by
    have hx : x = 0 := hz 0 (by simp) (by omega)
    simp only [firstNZ, hx, ne_eq, not_true_eq_false, if_false]
    exact firstNZ_at (by simpa using h) (fun j hj hlt => hz (j + 1) (by simpa using hj) (by omega)) (by simpa using h0)
theorem firstNZ_0 : ∀ {l : List Int}, (∀ j (hj : j < l.length), l[j] = 0) → firstNZ l = 0
  | [], _ => rfl
  | x :: xs, hz => by
    have hx : x = 0 := hz 0 (by simp)
    simp only [firstNZ, hx, ne_eq, not_true_eq_false, if_false]
    exact firstNZ_0 fun j hj => hz (j + 1) (by simpa using hj)
def checkF (l : List RF) : Int := if l.length > 16 then 2 else firstNZ (l.mapIdx fun i f => checkAt l i f)

theorem placeB_small {f : RF} (h : placeB f = true) : smallF f := by
  simp [placeB] at h
  unfold smallF; omega

theorem any_take {p : RF → Bool} {l : List RF} {i : Nat} (hi : i ≤ l.length) : ((l.take i).any p = true) ↔ ∃ j, ∃ h : j < l.length, j < i ∧ p l[j] = true := by
  rw [List.any_eq_true]
  constructor
  · rintro ⟨x, hx, hp⟩
    obtain ⟨j, hj, rfl⟩ := List.getElem_of_mem hx
    simp at hj
    exact ⟨j, by omega, by omega, by simpa using hp⟩
  · rintro ⟨j, h, hji, hp⟩
    exact ⟨l[j], List.mem_take_iff_getElem.2 ⟨j, by omega, rfl⟩, hp⟩

theorem t47 (l : List RF) (hl : l.length < 2 ^ 60) (hn : ∀ f ∈ l, f.name.size < 2 ^ 62) : DCalls Try.prog 47 [encFs l] (I (checkF l)) := by
  refine dcalls_low (rs := [.tmp 2]) mixed Try.func47 l47 rfl rfl rfl (r := [.int _ _]) (Nat.le_of_ble_eq_true rfl) ?_
  unfold checkF
  by_cases h16 : l.length > 16
  · rw [if_pos h16]; repeat' ((conv => whnf); first | (exact trivial) | (refine now_T ?_) | (refine now_E1 (by first | omega | (simp; done) | (simp; omega) | fail) ?_) | (refine now_E0 (by first | omega | (simp; done) | (simp; omega) | fail) ?_) | (refine now_N1 (by first | omega | (simp; done) | (simp; omega) | fail) ?_) | (refine now_N0 (by first | omega | (simp; done) | (simp; omega) | fail) ?_) | (refine now_D1 (by first | omega | (simp; done) | (simp; omega) | fail) ?_) | (refine now_D0 (by first | omega | (simp; done) | (simp; omega) | fail) ?_) | (refine now_E (fun hq => ?_) (fun hq => ?_)) | (refine now_N (fun hq => ?_) (fun hq => ?_)) | (refine now_D (fun hq => ?_) (fun hq => ?_)) | (refine rb (x := true) (by first | rfl | (simp; done) | (simp; omega) | (simp [*]; done) | (simp [*]; omega) | fail) ?_) | (refine rb (x := false) (by first | rfl | (simp; done) | (simp; omega) | (simp [*]; done) | (simp [*]; omega) | fail) ?_) | (refine rb (by first | rfl | (simp; done) | (simp; omega) | (simp [*]; done) | (simp [*]; omega) | fail) ?_) | (refine ri (by first | rfl | omega | (rw [wrap_id] <;> omega) | (simp; omega) | (simp [*]; done) | fail) ?_) | (refine And.intro (by first | exact trivial | rfl | decide | exact Nat.le_of_ble_eq_true rfl | assumption | exact ⟨rfl, Nat.le_of_ble_eq_true rfl⟩ | exact ⟨trivial, rfl⟩ | exact ⟨⟨trivial, rfl⟩, rfl⟩ | omega | (simp; done) | (simp; omega) | (simp [*]; done) | fail) ?_) | (fail))
  rw [if_neg h16]
  repeat' ((conv => whnf); first | (exact trivial) | (refine now_T ?_) | (refine now_E1 (by first | omega | (simp; done) | (simp; omega) | fail) ?_) | (refine now_E0 (by first | omega | (simp; done) | (simp; omega) | fail) ?_) | (refine now_N1 (by first | omega | (simp; done) | (simp; omega) | fail) ?_) | (refine now_N0 (by first | omega | (simp; done) | (simp; omega) | fail) ?_) | (refine now_D1 (by first | omega | (simp; done) | (simp; omega) | fail) ?_) | (refine now_D0 (by first | omega | (simp; done) | (simp; omega) | fail) ?_) | (refine now_E (fun hq => ?_) (fun hq => ?_)) | (refine now_N (fun hq => ?_) (fun hq => ?_)) | (refine now_D (fun hq => ?_) (fun hq => ?_)) | (refine rb (x := true) (by first | rfl | (simp; done) | (simp; omega) | (simp [*]; done) | (simp [*]; omega) | fail) ?_) | (refine rb (x := false) (by first | rfl | (simp; done) | (simp; omega) | (simp [*]; done) | (simp [*]; omega) | fail) ?_) | (refine rb (by first | rfl | (simp; done) | (simp; omega) | (simp [*]; done) | (simp [*]; omega) | fail) ?_) | (refine ri (by first | rfl | omega | (rw [wrap_id] <;> omega) | (simp; omega) | (simp [*]; done) | fail) ?_) | (refine And.intro (by first | exact trivial | rfl | decide | exact Nat.le_of_ble_eq_true rfl | assumption | exact ⟨rfl, Nat.le_of_ble_eq_true rfl⟩ | exact ⟨trivial, rfl⟩ | exact ⟨⟨trivial, rfl⟩, rfl⟩ | omega | (simp; done) | (simp; omega) | (simp [*]; done) | fail) ?_) | (fail))
  refine wpC_loop (α := Nat) (fun i => {sl := [(0, .t (encFs l)), (3, .t (I i))], bx := []})
    (fun i => i ≤ l.length ∧ ∀ j (h : j < l.length), j < i → checkAt l j l[j] = 0) (fun i => l.length - i) 0 (by simp) ?_ ?_
  · repeat' (first | (exact trivial) | (exact LeV.same _) | (exact LeB.same _) | (exact rfl) | (exact fun _ _ _ => trivial) | (exact leI (by first | omega | (rw [wrap_id] <;> omega) | (simp; omega) | (simp [*]; done) | fail)) | (exact LeV.nil _ _ _) | (exact leB (by first | rfl | (simp; done) | (simp [*]; done) | (simp [*]; omega) | fail)) | (refine leBd ?_) | (refine leOwn ?_) | (refine And.intro ?_ ?_))
  rintro i ⟨hi, hp⟩
  rcases Nat.lt_or_ge i l.length with h | h
  · have res : ∀ e, checkAt l i l[i] = e → e ≠ 0 → firstNZ (l.mapIdx fun i f => checkAt l i f) = e := fun e he h0 => by
      have := firstNZ_at (l := l.mapIdx fun i f => checkAt l i f) (i := i) (by simpa using h) (fun j hj hlt => by simpa using hp j (by simpa using hj) hlt) (by simpa [he] using h0)
      rw [this]; simpa using he
    have next : checkAt l i l[i] = 0 → i + 1 ≤ l.length ∧ ∀ j (h : j < l.length), j < i + 1 → checkAt l j l[j] = 0 := fun h0 => by
      refine ⟨h, fun j hj hlt => ?_⟩
      rcases Nat.lt_or_ge j i with h4 | h4
      · exact hp j hj h4
      · obtain rfl : j = i := by omega
        exact h0
    have small : ∀ k (hk : k < l.length), k < i → smallF l[k] := fun k hk hlt => by
      have := hp k hk hlt
      unfold checkAt at this
      split at this; · omega
      split at this; · omega
      split at this; · omega
      rename_i h3
      exact placeB_small (by simpa using h3)
    have c69 := t69 l[i].name (hn _ (List.getElem_mem h))
    have c70 := t70 l[i]
    have s1 := sameN_eq l[i].name portN
    cases hA : name8 l[i].name with
    | false =>
      rw [hA] at c69
      rw [res 4 (by unfold checkAt; simp [hA]) (by decide)]
      repeat' ((conv => whnf); first | (exact trivial) | (refine now_v (.agg (cellsF l[i])) (by first | (simp [h, encF]; done) | fail) ?_) | (refine k_call _ (c69) ?_) | (refine now_T ?_) | (refine now_E1 (by first | omega | (simp; done) | (simp; omega) | fail) ?_) | (refine now_E0 (by first | omega | (simp; done) | (simp; omega) | fail) ?_) | (refine now_N1 (by first | omega | (simp; done) | (simp; omega) | fail) ?_) | (refine now_N0 (by first | omega | (simp; done) | (simp; omega) | fail) ?_) | (refine now_D1 (by first | omega | (simp; done) | (simp; omega) | fail) ?_) | (refine now_D0 (by first | omega | (simp; done) | (simp; omega) | fail) ?_) | (refine now_E (fun hq => ?_) (fun hq => ?_)) | (refine now_N (fun hq => ?_) (fun hq => ?_)) | (refine now_D (fun hq => ?_) (fun hq => ?_)) | (refine rb (x := true) (by first | rfl | (simp; done) | (simp; omega) | (simp [*]; done) | (simp [*]; omega) | fail) ?_) | (refine rb (x := false) (by first | rfl | (simp; done) | (simp; omega) | (simp [*]; done) | (simp [*]; omega) | fail) ?_) | (refine rb (by first | rfl | (simp; done) | (simp; omega) | (simp [*]; done) | (simp [*]; omega) | fail) ?_) | (refine ri (by first | rfl | omega | (rw [wrap_id] <;> omega) | (simp; omega) | (simp [*]; done) | fail) ?_) | (refine And.intro (by first | exact trivial | rfl | decide | exact Nat.le_of_ble_eq_true rfl | assumption | exact ⟨rfl, Nat.le_of_ble_eq_true rfl⟩ | exact ⟨trivial, rfl⟩ | exact ⟨⟨trivial, rfl⟩, rfl⟩ | omega | (simp; done) | (simp; omega) | (simp [*]; done) | fail) ?_) | (fail))
    | true =>
    rw [hA] at c69
    cases hB : sameN l[i].name portN with
    | true =>
      rw [hB] at s1
      rw [res 4 (by unfold checkAt; simp [hB]) (by decide)]
      repeat' ((conv => whnf); first | (exact trivial) | (refine now_v (.agg (cellsF l[i])) (by first | (simp [h, encF]; done) | fail) ?_) | (refine k_call _ (c69) ?_) | (refine now_b true s1 ?_) | (refine now_T ?_) | (refine now_E1 (by first | omega | (simp; done) | (simp; omega) | fail) ?_) | (refine now_E0 (by first | omega | (simp; done) | (simp; omega) | fail) ?_) | (refine now_N1 (by first | omega | (simp; done) | (simp; omega) | fail) ?_) | (refine now_N0 (by first | omega | (simp; done) | (simp; omega) | fail) ?_) | (refine now_D1 (by first | omega | (simp; done) | (simp; omega) | fail) ?_) | (refine now_D0 (by first | omega | (simp; done) | (simp; omega) | fail) ?_) | (refine now_E (fun hq => ?_) (fun hq => ?_)) | (refine now_N (fun hq => ?_) (fun hq => ?_)) | (refine now_D (fun hq => ?_) (fun hq => ?_)) | (refine rb (x := true) (by first | rfl | (simp; done) | (simp; omega) | (simp [*]; done) | (simp [*]; omega) | fail) ?_) | (refine rb (x := false) (by first | rfl | (simp; done) | (simp; omega) | (simp [*]; done) | (simp [*]; omega) | fail) ?_) | (refine rb (by first | rfl | (simp; done) | (simp; omega) | (simp [*]; done) | (simp [*]; omega) | fail) ?_) | (refine ri (by first | rfl | omega | (rw [wrap_id] <;> omega) | (simp; omega) | (simp [*]; done) | fail) ?_) | (refine And.intro (by first | exact trivial | rfl | decide | exact Nat.le_of_ble_eq_true rfl | assumption | exact ⟨rfl, Nat.le_of_ble_eq_true rfl⟩ | exact ⟨trivial, rfl⟩ | exact ⟨⟨trivial, rfl⟩, rfl⟩ | omega | (simp; done) | (simp; omega) | (simp [*]; done) | fail) ?_) | (fail))
    | false =>
    rw [hB] at s1
    repeat' ((conv => whnf); first | (exact trivial) | (refine now_v (.agg (cellsF l[i])) (by first | (simp [h, encF]; done) | fail) ?_) | (refine k_call _ (c69) ?_) | (refine now_b false s1 ?_) | (refine now_T ?_) | (refine now_E1 (by first | omega | (simp; done) | (simp; omega) | fail) ?_) | (refine now_E0 (by first | omega | (simp; done) | (simp; omega) | fail) ?_) | (refine now_N1 (by first | omega | (simp; done) | (simp; omega) | fail) ?_) | (refine now_N0 (by first | omega | (simp; done) | (simp; omega) | fail) ?_) | (refine now_D1 (by first | omega | (simp; done) | (simp; omega) | fail) ?_) | (refine now_D0 (by first | omega | (simp; done) | (simp; omega) | fail) ?_) | (refine now_E (fun hq => ?_) (fun hq => ?_)) | (refine now_N (fun hq => ?_) (fun hq => ?_)) | (refine now_D (fun hq => ?_) (fun hq => ?_)) | (refine rb (x := true) (by first | rfl | (simp; done) | (simp; omega) | (simp [*]; done) | (simp [*]; omega) | fail) ?_) | (refine rb (x := false) (by first | rfl | (simp; done) | (simp; omega) | (simp [*]; done) | (simp [*]; omega) | fail) ?_) | (refine rb (by first | rfl | (simp; done) | (simp; omega) | (simp [*]; done) | (simp [*]; omega) | fail) ?_) | (refine ri (by first | rfl | omega | (rw [wrap_id] <;> omega) | (simp; omega) | (simp [*]; done) | fail) ?_) | (refine And.intro (by first | exact trivial | rfl | decide | exact Nat.le_of_ble_eq_true rfl | assumption | exact ⟨rfl, Nat.le_of_ble_eq_true rfl⟩ | exact ⟨trivial, rfl⟩ | exact ⟨⟨trivial, rfl⟩, rfl⟩ | omega | (simp; done) | (simp; omega) | (simp [*]; done) | fail) ?_) | (fail))
    refine wpC_loop (α := Nat) (fun k => {sl := [(0, .t (encFs l)), (3, .t (I i)), (5, .t (I k))], bx := []})
      (fun k => k ≤ i ∧ ∀ j (hj : j < l.length), j < k → sameN l[j].name l[i].name = false) (fun k => i - k) 0 (by simp) ?_ ?_
    · repeat' (first | (exact trivial) | (exact LeV.same _) | (exact LeB.same _) | (exact rfl) | (exact fun _ _ _ => trivial) | (exact leI (by first | omega | (rw [wrap_id] <;> omega) | (simp; omega) | (simp [*]; done) | fail)) | (exact LeV.nil _ _ _) | (exact leB (by first | rfl | (simp; done) | (simp [*]; done) | (simp [*]; omega) | fail)) | (refine leBd ?_) | (refine leOwn ?_) | (refine And.intro ?_ ?_))
    rintro k ⟨hk, hpk⟩
    rcases Nat.lt_or_ge k i with hki | hki
    · have hkl : k < l.length := by omega
      have s2 := sameN_eq l[k].name l[i].name
      cases hC : sameN l[k].name l[i].name with
      | true =>
        rw [hC] at s2
        rw [res 4 (by unfold checkAt; rw [if_neg (by simp [hA, hB]), if_pos ((any_take (by omega)).2 ⟨k, hkl, hki, hC⟩)]) (by decide)]
        repeat' ((conv => whnf); first | (exact trivial) | (refine now_v (.agg (cellsF l[k])) (by first | (simp [hkl, encF]; done) | fail) ?_) | (refine now_v (.agg (cellsF l[i])) (by first | (simp [h, encF]; done) | fail) ?_) | (refine now_b true s2 ?_) | (refine now_T ?_) | (refine now_E1 (by first | omega | (simp; done) | (simp; omega) | fail) ?_) | (refine now_E0 (by first | omega | (simp; done) | (simp; omega) | fail) ?_) | (refine now_N1 (by first | omega | (simp; done) | (simp; omega) | fail) ?_) | (refine now_N0 (by first | omega | (simp; done) | (simp; omega) | fail) ?_) | (refine now_D1 (by first | omega | (simp; done) | (simp; omega) | fail) ?_) | (refine now_D0 (by first | omega | (simp; done) | (simp; omega) | fail) ?_) | (refine now_E (fun hq => ?_) (fun hq => ?_)) | (refine now_N (fun hq => ?_) (fun hq => ?_)) | (refine now_D (fun hq => ?_) (fun hq => ?_)) | (refine rb (x := true) (by first | rfl | (simp; done) | (simp; omega) | (simp [*]; done) | (simp [*]; omega) | fail) ?_) | (refine rb (x := false) (by first | rfl | (simp; done) | (simp; omega) | (simp [*]; done) | (simp [*]; omega) | fail) ?_) | (refine rb (by first | rfl | (simp; done) | (simp; omega) | (simp [*]; done) | (simp [*]; omega) | fail) ?_) | (refine ri (by first | rfl | omega | (rw [wrap_id] <;> omega) | (simp; omega) | (simp [*]; done) | fail) ?_) | (refine And.intro (by first | exact trivial | rfl | decide | exact Nat.le_of_ble_eq_true rfl | assumption | exact ⟨rfl, Nat.le_of_ble_eq_true rfl⟩ | exact ⟨trivial, rfl⟩ | exact ⟨⟨trivial, rfl⟩, rfl⟩ | omega | (simp; done) | (simp; omega) | (simp [*]; done) | fail) ?_) | (fail))
      | false =>
        rw [hC] at s2
        repeat' ((conv => whnf); first | (exact trivial) | (refine now_v (.agg (cellsF l[k])) (by first | (simp [hkl, encF]; done) | fail) ?_) | (refine now_v (.agg (cellsF l[i])) (by first | (simp [h, encF]; done) | fail) ?_) | (refine now_b false s2 ?_) | (refine now_T ?_) | (refine now_E1 (by first | omega | (simp; done) | (simp; omega) | fail) ?_) | (refine now_E0 (by first | omega | (simp; done) | (simp; omega) | fail) ?_) | (refine now_N1 (by first | omega | (simp; done) | (simp; omega) | fail) ?_) | (refine now_N0 (by first | omega | (simp; done) | (simp; omega) | fail) ?_) | (refine now_D1 (by first | omega | (simp; done) | (simp; omega) | fail) ?_) | (refine now_D0 (by first | omega | (simp; done) | (simp; omega) | fail) ?_) | (refine now_E (fun hq => ?_) (fun hq => ?_)) | (refine now_N (fun hq => ?_) (fun hq => ?_)) | (refine now_D (fun hq => ?_) (fun hq => ?_)) | (refine rb (x := true) (by first | rfl | (simp; done) | (simp; omega) | (simp [*]; done) | (simp [*]; omega) | fail) ?_) | (refine rb (x := false) (by first | rfl | (simp; done) | (simp; omega) | (simp [*]; done) | (simp [*]; omega) | fail) ?_) | (refine rb (by first | rfl | (simp; done) | (simp; omega) | (simp [*]; done) | (simp [*]; omega) | fail) ?_) | (refine ri (by first | rfl | omega | (rw [wrap_id] <;> omega) | (simp; omega) | (simp [*]; done) | fail) ?_) | (refine And.intro (by first | exact trivial | rfl | decide | exact Nat.le_of_ble_eq_true rfl | assumption | exact ⟨rfl, Nat.le_of_ble_eq_true rfl⟩ | exact ⟨trivial, rfl⟩ | exact ⟨⟨trivial, rfl⟩, rfl⟩ | omega | (simp; done) | (simp; omega) | (simp [*]; done) | fail) ?_) | (fail))
        refine ⟨k + 1, ⟨by omega, fun j hj hlt => ?_⟩, by omega, ?_⟩
        · rcases Nat.lt_or_ge j k with h4 | h4
          · exact hpk j hj h4
          · obtain rfl : j = k := by omega
            exact hC
        · repeat' (first | (exact trivial) | (exact LeV.same _) | (exact LeB.same _) | (exact rfl) | (exact fun _ _ _ => trivial) | (exact leI (by first | omega | (rw [wrap_id] <;> omega) | (simp; omega) | (simp [*]; done) | fail)) | (exact LeV.nil _ _ _) | (exact leB (by first | rfl | (simp; done) | (simp [*]; done) | (simp [*]; omega) | fail)) | (refine leBd ?_) | (refine leOwn ?_) | (refine And.intro ?_ ?_))
    obtain rfl : k = i := by omega
    have any1 : ¬ ((l.take k).any fun g => sameN g.name l[k].name) = true := fun hx => by
      obtain ⟨j, hj, hji, hjp⟩ := (any_take hi).1 hx
      rw [hpk j hj hji] at hjp; cases hjp
    cases hD : placeB l[k] with
    | false =>
      rw [hD] at c70
      rw [res 1 (by unfold checkAt; rw [if_neg (by simp [hA, hB]), if_neg any1, if_pos hD]) (by decide)]
      repeat' ((conv => whnf); first | (exact trivial) | (refine now_v (.agg (cellsF l[k])) (by first | (simp [h, encF]; done) | fail) ?_) | (refine k_call _ (c70) ?_) | (refine now_T ?_) | (refine now_E1 (by first | omega | (simp; done) | (simp; omega) | fail) ?_) | (refine now_E0 (by first | omega | (simp; done) | (simp; omega) | fail) ?_) | (refine now_N1 (by first | omega | (simp; done) | (simp; omega) | fail) ?_) | (refine now_N0 (by first | omega | (simp; done) | (simp; omega) | fail) ?_) | (refine now_D1 (by first | omega | (simp; done) | (simp; omega) | fail) ?_) | (refine now_D0 (by first | omega | (simp; done) | (simp; omega) | fail) ?_) | (refine now_E (fun hq => ?_) (fun hq => ?_)) | (refine now_N (fun hq => ?_) (fun hq => ?_)) | (refine now_D (fun hq => ?_) (fun hq => ?_)) | (refine rb (x := true) (by first | rfl | (simp; done) | (simp; omega) | (simp [*]; done) | (simp [*]; omega) | fail) ?_) | (refine rb (x := false) (by first | rfl | (simp; done) | (simp; omega) | (simp [*]; done) | (simp [*]; omega) | fail) ?_) | (refine rb (by first | rfl | (simp; done) | (simp; omega) | (simp [*]; done) | (simp [*]; omega) | fail) ?_) | (refine ri (by first | rfl | omega | (rw [wrap_id] <;> omega) | (simp; omega) | (simp [*]; done) | fail) ?_) | (refine And.intro (by first | exact trivial | rfl | decide | exact Nat.le_of_ble_eq_true rfl | assumption | exact ⟨rfl, Nat.le_of_ble_eq_true rfl⟩ | exact ⟨trivial, rfl⟩ | exact ⟨⟨trivial, rfl⟩, rfl⟩ | omega | (simp; done) | (simp; omega) | (simp [*]; done) | fail) ?_) | (fail))
    | true =>
    rw [hD] at c70
    have smk := placeB_small hD
    repeat' ((conv => whnf); first | (exact trivial) | (refine now_v (.agg (cellsF l[k])) (by first | (simp [h, encF]; done) | fail) ?_) | (refine k_call _ (c70) ?_) | (refine now_T ?_) | (refine now_E1 (by first | omega | (simp; done) | (simp; omega) | fail) ?_) | (refine now_E0 (by first | omega | (simp; done) | (simp; omega) | fail) ?_) | (refine now_N1 (by first | omega | (simp; done) | (simp; omega) | fail) ?_) | (refine now_N0 (by first | omega | (simp; done) | (simp; omega) | fail) ?_) | (refine now_D1 (by first | omega | (simp; done) | (simp; omega) | fail) ?_) | (refine now_D0 (by first | omega | (simp; done) | (simp; omega) | fail) ?_) | (refine now_E (fun hq => ?_) (fun hq => ?_)) | (refine now_N (fun hq => ?_) (fun hq => ?_)) | (refine now_D (fun hq => ?_) (fun hq => ?_)) | (refine rb (x := true) (by first | rfl | (simp; done) | (simp; omega) | (simp [*]; done) | (simp [*]; omega) | fail) ?_) | (refine rb (x := false) (by first | rfl | (simp; done) | (simp; omega) | (simp [*]; done) | (simp [*]; omega) | fail) ?_) | (refine rb (by first | rfl | (simp; done) | (simp; omega) | (simp [*]; done) | (simp [*]; omega) | fail) ?_) | (refine ri (by first | rfl | omega | (rw [wrap_id] <;> omega) | (simp; omega) | (simp [*]; done) | fail) ?_) | (refine And.intro (by first | exact trivial | rfl | decide | exact Nat.le_of_ble_eq_true rfl | assumption | exact ⟨rfl, Nat.le_of_ble_eq_true rfl⟩ | exact ⟨trivial, rfl⟩ | exact ⟨⟨trivial, rfl⟩, rfl⟩ | omega | (simp; done) | (simp; omega) | (simp [*]; done) | fail) ?_) | (fail))
    refine wpC_loop (α := Nat) (fun m => {sl := [(0, .t (encFs l)), (3, .t (I k)), (7, .t (I m))], bx := []})
      (fun m => m ≤ k ∧ ∀ j (hj : j < l.length), j < m → commonB l[j] l[k] = false) (fun m => k - m) 0 (by simp) ?_ ?_
    · repeat' (first | (exact trivial) | (exact LeV.same _) | (exact LeB.same _) | (exact rfl) | (exact fun _ _ _ => trivial) | (exact leI (by first | omega | (rw [wrap_id] <;> omega) | (simp; omega) | (simp [*]; done) | fail)) | (exact LeV.nil _ _ _) | (exact leB (by first | rfl | (simp; done) | (simp [*]; done) | (simp [*]; omega) | fail)) | (refine leBd ?_) | (refine leOwn ?_) | (refine And.intro ?_ ?_))
    rintro m ⟨hm, hpm⟩
    rcases Nat.lt_or_ge m k with hmi | hmi
    · have hml : m < l.length := by omega
      have c71 := t71 l[m] l[k] (small m hml hmi) smk
      cases hC : commonB l[m] l[k] with
      | true =>
        rw [hC] at c71
        rw [res 1 (by unfold checkAt; rw [if_neg (by simp [hA, hB]), if_neg any1, if_neg (by simp [hD]), if_pos ((any_take (by omega)).2 ⟨m, hml, hmi, hC⟩)]) (by decide)]
        repeat' ((conv => whnf); first | (exact trivial) | (refine now_v (.agg (cellsF l[m])) (by first | (simp [hml, encF]; done) | fail) ?_) | (refine now_v (.agg (cellsF l[k])) (by first | (simp [h, encF]; done) | fail) ?_) | (refine k_call _ (c71) ?_) | (refine now_T ?_) | (refine now_E1 (by first | omega | (simp; done) | (simp; omega) | fail) ?_) | (refine now_E0 (by first | omega | (simp; done) | (simp; omega) | fail) ?_) | (refine now_N1 (by first | omega | (simp; done) | (simp; omega) | fail) ?_) | (refine now_N0 (by first | omega | (simp; done) | (simp; omega) | fail) ?_) | (refine now_D1 (by first | omega | (simp; done) | (simp; omega) | fail) ?_) | (refine now_D0 (by first | omega | (simp; done) | (simp; omega) | fail) ?_) | (refine now_E (fun hq => ?_) (fun hq => ?_)) | (refine now_N (fun hq => ?_) (fun hq => ?_)) | (refine now_D (fun hq => ?_) (fun hq => ?_)) | (refine rb (x := true) (by first | rfl | (simp; done) | (simp; omega) | (simp [*]; done) | (simp [*]; omega) | fail) ?_) | (refine rb (x := false) (by first | rfl | (simp; done) | (simp; omega) | (simp [*]; done) | (simp [*]; omega) | fail) ?_) | (refine rb (by first | rfl | (simp; done) | (simp; omega) | (simp [*]; done) | (simp [*]; omega) | fail) ?_) | (refine ri (by first | rfl | omega | (rw [wrap_id] <;> omega) | (simp; omega) | (simp [*]; done) | fail) ?_) | (refine And.intro (by first | exact trivial | rfl | decide | exact Nat.le_of_ble_eq_true rfl | assumption | exact ⟨rfl, Nat.le_of_ble_eq_true rfl⟩ | exact ⟨trivial, rfl⟩ | exact ⟨⟨trivial, rfl⟩, rfl⟩ | omega | (simp; done) | (simp; omega) | (simp [*]; done) | fail) ?_) | (fail))
      | false =>
        rw [hC] at c71
        repeat' ((conv => whnf); first | (exact trivial) | (refine now_v (.agg (cellsF l[m])) (by first | (simp [hml, encF]; done) | fail) ?_) | (refine now_v (.agg (cellsF l[k])) (by first | (simp [h, encF]; done) | fail) ?_) | (refine k_call _ (c71) ?_) | (refine now_T ?_) | (refine now_E1 (by first | omega | (simp; done) | (simp; omega) | fail) ?_) | (refine now_E0 (by first | omega | (simp; done) | (simp; omega) | fail) ?_) | (refine now_N1 (by first | omega | (simp; done) | (simp; omega) | fail) ?_) | (refine now_N0 (by first | omega | (simp; done) | (simp; omega) | fail) ?_) | (refine now_D1 (by first | omega | (simp; done) | (simp; omega) | fail) ?_) | (refine now_D0 (by first | omega | (simp; done) | (simp; omega) | fail) ?_) | (refine now_E (fun hq => ?_) (fun hq => ?_)) | (refine now_N (fun hq => ?_) (fun hq => ?_)) | (refine now_D (fun hq => ?_) (fun hq => ?_)) | (refine rb (x := true) (by first | rfl | (simp; done) | (simp; omega) | (simp [*]; done) | (simp [*]; omega) | fail) ?_) | (refine rb (x := false) (by first | rfl | (simp; done) | (simp; omega) | (simp [*]; done) | (simp [*]; omega) | fail) ?_) | (refine rb (by first | rfl | (simp; done) | (simp; omega) | (simp [*]; done) | (simp [*]; omega) | fail) ?_) | (refine ri (by first | rfl | omega | (rw [wrap_id] <;> omega) | (simp; omega) | (simp [*]; done) | fail) ?_) | (refine And.intro (by first | exact trivial | rfl | decide | exact Nat.le_of_ble_eq_true rfl | assumption | exact ⟨rfl, Nat.le_of_ble_eq_true rfl⟩ | exact ⟨trivial, rfl⟩ | exact ⟨⟨trivial, rfl⟩, rfl⟩ | omega | (simp; done) | (simp; omega) | (simp [*]; done) | fail) ?_) | (fail))
        refine ⟨m + 1, ⟨by omega, fun j hj hlt => ?_⟩, by omega, ?_⟩
        · rcases Nat.lt_or_ge j m with h4 | h4
          · exact hpm j hj h4
          · obtain rfl : j = m := by omega
            exact hC
        · repeat' (first | (exact trivial) | (exact LeV.same _) | (exact LeB.same _) | (exact rfl) | (exact fun _ _ _ => trivial) | (exact leI (by first | omega | (rw [wrap_id] <;> omega) | (simp; omega) | (simp [*]; done) | fail)) | (exact LeV.nil _ _ _) | (exact leB (by first | rfl | (simp; done) | (simp [*]; done) | (simp [*]; omega) | fail)) | (refine leBd ?_) | (refine leOwn ?_) | (refine And.intro ?_ ?_))
    obtain rfl : m = k := by omega
    have any2 : ¬ ((l.take m).any fun g => commonB g l[m]) = true := fun hx => by
      obtain ⟨j, hj, hji, hjp⟩ := (any_take hi).1 hx
      rw [hpm j hj hji] at hjp; cases hjp
    have e0 : checkAt l m l[m] = 0 := by unfold checkAt; rw [if_neg (by simp [hA, hB]), if_neg any1, if_neg (by simp [hD]), if_neg any2]
    repeat' ((conv => whnf); first | (exact trivial) | (exact ⟨m + 1, next e0, by omega, by (repeat' (first | (exact trivial) | (exact LeV.same _) | (exact LeB.same _) | (exact rfl) | (exact fun _ _ _ => trivial) | (exact leI (by first | omega | (rw [wrap_id] <;> omega) | (simp; omega) | (simp [*]; done) | fail)) | (exact LeV.nil _ _ _) | (exact leB (by first | rfl | (simp; done) | (simp [*]; done) | (simp [*]; omega) | fail)) | (refine leBd ?_) | (refine leOwn ?_) | (refine And.intro ?_ ?_))); done⟩) | (refine now_T ?_) | (refine now_E1 (by first | omega | (simp; done) | (simp; omega) | fail) ?_) | (refine now_E0 (by first | omega | (simp; done) | (simp; omega) | fail) ?_) | (refine now_N1 (by first | omega | (simp; done) | (simp; omega) | fail) ?_) | (refine now_N0 (by first | omega | (simp; done) | (simp; omega) | fail) ?_) | (refine now_D1 (by first | omega | (simp; done) | (simp; omega) | fail) ?_) | (refine now_D0 (by first | omega | (simp; done) | (simp; omega) | fail) ?_) | (refine now_E (fun hq => ?_) (fun hq => ?_)) | (refine now_N (fun hq => ?_) (fun hq => ?_)) | (refine now_D (fun hq => ?_) (fun hq => ?_)) | (refine rb (x := true) (by first | rfl | (simp; done) | (simp; omega) | (simp [*]; done) | (simp [*]; omega) | fail) ?_) | (refine rb (x := false) (by first | rfl | (simp; done) | (simp; omega) | (simp [*]; done) | (simp [*]; omega) | fail) ?_) | (refine rb (by first | rfl | (simp; done) | (simp; omega) | (simp [*]; done) | (simp [*]; omega) | fail) ?_) | (refine ri (by first | rfl | omega | (rw [wrap_id] <;> omega) | (simp; omega) | (simp [*]; done) | fail) ?_) | (refine And.intro (by first | exact trivial | rfl | decide | exact Nat.le_of_ble_eq_true rfl | assumption | exact ⟨rfl, Nat.le_of_ble_eq_true rfl⟩ | exact ⟨trivial, rfl⟩ | exact ⟨⟨trivial, rfl⟩, rfl⟩ | omega | (simp; done) | (simp; omega) | (simp [*]; done) | fail) ?_) | (fail))
  · rw [firstNZ_0 fun j hj => by simpa using hp j (by simpa using hj) (by simp at hj; omega)]
    repeat' ((conv => whnf); first | (exact trivial) | (refine now_T ?_) | (refine now_E1 (by first | omega | (simp; done) | (simp; omega) | fail) ?_) | (refine now_E0 (by first | omega | (simp; done) | (simp; omega) | fail) ?_) | (refine now_N1 (by first | omega | (simp; done) | (simp; omega) | fail) ?_) | (refine now_N0 (by first | omega | (simp; done) | (simp; omega) | fail) ?_) | (refine now_D1 (by first | omega | (simp; done) | (simp; omega) | fail) ?_) | (refine now_D0 (by first | omega | (simp; done) | (simp; omega) | fail) ?_) | (refine now_E (fun hq => ?_) (fun hq => ?_)) | (refine now_N (fun hq => ?_) (fun hq => ?_)) | (refine now_D (fun hq => ?_) (fun hq => ?_)) | (refine rb (x := true) (by first | rfl | (simp; done) | (simp; omega) | (simp [*]; done) | (simp [*]; omega) | fail) ?_) | (refine rb (x := false) (by first | rfl | (simp; done) | (simp; omega) | (simp [*]; done) | (simp [*]; omega) | fail) ?_) | (refine rb (by first | rfl | (simp; done) | (simp; omega) | (simp [*]; done) | (simp [*]; omega) | fail) ?_) | (refine ri (by first | rfl | omega | (rw [wrap_id] <;> omega) | (simp; omega) | (simp [*]; done) | fail) ?_) | (refine And.intro (by first | exact trivial | rfl | decide | exact Nat.le_of_ble_eq_true rfl | assumption | exact ⟨rfl, Nat.le_of_ble_eq_true rfl⟩ | exact ⟨trivial, rfl⟩ | exact ⟨⟨trivial, rfl⟩, rfl⟩ | omega | (simp; done) | (simp; omega) | (simp [*]; done) | fail) ?_) | (fail))
end Go.MM
end
section
/- Meaning: the parts of predicates and policies, and whether they fit the fields. -/
namespace Go.MM
open Go Go.DL Go.Proofs
set_option maxRecDepth 100000
set_option maxHeartbeats 8000000

mutual
def partsR : RP → List RP
  | .mk k f n m a => .mk k f n m a :: partsRs a
def partsRs : List RP → List RP
  | [] => []
  | r :: rs => partsR r ++ partsRs rs
end
mutual
theorem partsR_len : ∀ r : RP, (partsR r).length = r.nodes
  | .mk k f n m a => by simp only [partsR, List.length_cons, partsRs_len a, RP.nodes]; omega
theorem partsRs_len : ∀ l : List RP, (partsRs l).length = nodesPs l
  | [] => rfl
  | r :: rs => by simp only [partsRs, List.length_append, partsR_len r, partsRs_len rs, nodesPs]
end
theorem partsRs_take : ∀ {l : List RP} {j : Nat} (h : j < l.length), partsRs (l.take (j + 1)) = partsRs (l.take j) ++ partsR l[j]
  | r :: rs, 0, h => by simp [partsRs]
  | r :: rs, j + 1, h => by
    have := partsRs_take (l := rs) (j := j) (by simpa using h)
    simp only [List.take_succ_cons, partsRs, List.getElem_cons_succ, this, List.append_assoc]

theorem t91 (N : Nat) : ∀ r : RP, r.nodes ≤ N → N < 2 ^ 40 → DCalls Try.prog 91 [.agg (cellsR r)] (.slice 5 ((partsR r).map encR)) := by
  induction N with
  | zero => intro r h; have := r.nodes_pos; omega
  | succ N ih =>
    rintro ⟨k, f, n, m, l⟩ hr hN
    refine dcalls_low (rs := [.tmp 2]) mixed Try.func91 l91 rfl rfl rfl (r := [.slice 5 _]) (Nat.le_of_ble_eq_true rfl) ?_
    simp only [RP.nodes, partsR] at hr ⊢
    have hl := nodesPs_len l
    repeat' ((conv => whnf); first | (exact trivial) | (refine now_T ?_) | (refine now_E1 (by first | omega | (simp; done) | (simp; omega) | fail) ?_) | (refine now_E0 (by first | omega | (simp; done) | (simp; omega) | fail) ?_) | (refine now_N1 (by first | omega | (simp; done) | (simp; omega) | fail) ?_) | (refine now_N0 (by first | omega | (simp; done) | (simp; omega) | fail) ?_) | (refine now_D1 (by first | omega | (simp; done) | (simp; omega) | fail) ?_) | (refine now_D0 (by first | omega | (simp; done) | (simp; omega) | fail) ?_) | (refine now_E (fun hq => ?_) (fun hq => ?_)) | (refine now_N (fun hq => ?_) (fun hq => ?_)) | (refine now_D (fun hq => ?_) (fun hq => ?_)) | (refine rb (x := true) (by first | rfl | (simp; done) | (simp; omega) | (simp [*]; done) | (simp [*]; omega) | fail) ?_) | (refine rb (x := false) (by first | rfl | (simp; done) | (simp; omega) | (simp [*]; done) | (simp [*]; omega) | fail) ?_) | (refine rb (by first | rfl | (simp; done) | (simp; omega) | (simp [*]; done) | (simp [*]; omega) | fail) ?_) | (refine ri (by first | rfl | omega | (rw [wrap_id] <;> omega) | (simp; omega) | (simp [*]; done) | fail) ?_) | (refine And.intro (by first | exact trivial | rfl | decide | exact Nat.le_of_ble_eq_true rfl | assumption | exact ⟨rfl, Nat.le_of_ble_eq_true rfl⟩ | exact ⟨trivial, rfl⟩ | exact ⟨⟨trivial, rfl⟩, rfl⟩ | omega | (simp; done) | (simp; omega) | (simp [*]; done) | fail) ?_) | (fail))
    refine wpC_loop (α := Nat × Nat) (fun q => {sl := [(1, .ptr 1 0), (3, .own q.1 35 5 ((RP.mk k f n m l :: partsRs (l.take q.2)).map encR)), (4, .t (I q.2))], bx := [(1, .d 5 (cellsR (.mk k f n m l)))]})
      (fun q => q.2 ≤ l.length) (fun q => l.length - q.2) (6, 0) (by simp) ?_ ?_
    · repeat' (first | (exact trivial) | (exact LeV.same _) | (exact LeB.same _) | (exact rfl) | (exact fun _ _ _ => trivial) | (exact leI (by first | omega | (rw [wrap_id] <;> omega) | (simp; omega) | (simp [*]; done) | fail)) | (exact LeV.nil _ _ _) | (exact leB (by first | rfl | (simp; done) | (simp [*]; done) | (simp [*]; omega) | fail)) | (refine leBd ?_) | (refine leOwn ?_) | (refine And.intro ?_ ?_))
      simp [partsRs, encR_cells]
    rintro ⟨o, i⟩ hi
    dsimp only at hi
    rcases Nat.lt_or_ge i l.length with h | h
    · have hn := nodesPs_take h
      have hm := nodesPs_mono (l := l) (j := i + 1)
      have hc := ih l[i] (by omega) (by omega)
      have e1 := partsR_len l[i]
      have e2 := partsRs_len (l.take i)
      have e3 := partsRs_take h
      repeat' ((conv => whnf); first | (exact trivial) | (refine now_v (.agg (cellsR l[i])) (by first | (simp [h, encR_cells]; done) | fail) ?_) | (refine k_call _ (hc) ?_) | (refine now_T ?_) | (refine now_E1 (by first | omega | (simp; done) | (simp; omega) | fail) ?_) | (refine now_E0 (by first | omega | (simp; done) | (simp; omega) | fail) ?_) | (refine now_N1 (by first | omega | (simp; done) | (simp; omega) | fail) ?_) | (refine now_N0 (by first | omega | (simp; done) | (simp; omega) | fail) ?_) | (refine now_D1 (by first | omega | (simp; done) | (simp; omega) | fail) ?_) | (refine now_D0 (by first | omega | (simp; done) | (simp; omega) | fail) ?_) | (refine now_E (fun hq => ?_) (fun hq => ?_)) | (refine now_N (fun hq => ?_) (fun hq => ?_)) | (refine now_D (fun hq => ?_) (fun hq => ?_)) | (refine rb (x := true) (by first | rfl | (simp; done) | (simp; omega) | (simp [*]; done) | (simp [*]; omega) | fail) ?_) | (refine rb (x := false) (by first | rfl | (simp; done) | (simp; omega) | (simp [*]; done) | (simp [*]; omega) | fail) ?_) | (refine rb (by first | rfl | (simp; done) | (simp; omega) | (simp [*]; done) | (simp [*]; omega) | fail) ?_) | (refine ri (by first | rfl | omega | (rw [wrap_id] <;> omega) | (simp; omega) | (simp [*]; done) | fail) ?_) | (refine And.intro (by first | (exact cellsR_len _; done) | ((simp only [List.length_map, List.length_cons]; omega); done) | exact trivial | rfl | decide | exact Nat.le_of_ble_eq_true rfl | assumption | exact ⟨rfl, Nat.le_of_ble_eq_true rfl⟩ | exact ⟨trivial, rfl⟩ | exact ⟨⟨trivial, rfl⟩, rfl⟩ | omega | (simp; done) | (simp; omega) | (simp [*]; done) | fail) ?_) | (fail))
      refine ⟨(21, i + 1), by dsimp only; omega, by dsimp only; omega, ?_⟩
      repeat' (first | (exact trivial) | (exact LeV.same _) | (exact LeB.same _) | (exact rfl) | (exact fun _ _ _ => trivial) | (exact leI (by first | omega | (rw [wrap_id] <;> omega) | (simp; omega) | (simp [*]; done) | fail)) | (exact LeV.nil _ _ _) | (exact leB (by first | rfl | (simp; done) | (simp [*]; done) | (simp [*]; omega) | fail)) | (refine leBd ?_) | (refine leOwn ?_) | (refine And.intro ?_ ?_))
      simp [e3]
    · have : i = l.length := by omega
      subst this
      rw [List.take_length]
      repeat' ((conv => whnf); first | (exact trivial) | (refine now_T ?_) | (refine now_E1 (by first | omega | (simp; done) | (simp; omega) | fail) ?_) | (refine now_E0 (by first | omega | (simp; done) | (simp; omega) | fail) ?_) | (refine now_N1 (by first | omega | (simp; done) | (simp; omega) | fail) ?_) | (refine now_N0 (by first | omega | (simp; done) | (simp; omega) | fail) ?_) | (refine now_D1 (by first | omega | (simp; done) | (simp; omega) | fail) ?_) | (refine now_D0 (by first | omega | (simp; done) | (simp; omega) | fail) ?_) | (refine now_E (fun hq => ?_) (fun hq => ?_)) | (refine now_N (fun hq => ?_) (fun hq => ?_)) | (refine now_D (fun hq => ?_) (fun hq => ?_)) | (refine rb (x := true) (by first | rfl | (simp; done) | (simp; omega) | (simp [*]; done) | (simp [*]; omega) | fail) ?_) | (refine rb (x := false) (by first | rfl | (simp; done) | (simp; omega) | (simp [*]; done) | (simp [*]; omega) | fail) ?_) | (refine rb (by first | rfl | (simp; done) | (simp; omega) | (simp [*]; done) | (simp [*]; omega) | fail) ?_) | (refine ri (by first | rfl | omega | (rw [wrap_id] <;> omega) | (simp; omega) | (simp [*]; done) | fail) ?_) | (refine And.intro (by first | exact trivial | rfl | decide | exact Nat.le_of_ble_eq_true rfl | assumption | exact ⟨rfl, Nat.le_of_ble_eq_true rfl⟩ | exact ⟨trivial, rfl⟩ | exact ⟨⟨trivial, rfl⟩, rfl⟩ | omega | (simp; done) | (simp; omega) | (simp [*]; done) | fail) ?_) | (fail))

mutual
def partsS : RO → List RO
  | .mk k p f n a => .mk k p f n a :: partsSs a
def partsSs : List RO → List RO
  | [] => []
  | r :: rs => partsS r ++ partsSs rs
end
mutual
/-- Nodes of a policy without those of predicates. -/
def RO.cnt : RO → Nat
  | .mk _ _ _ _ a => 1 + cntSs a
def cntSs : List RO → Nat
  | [] => 0
  | r :: rs => r.cnt + cntSs rs
end
mutual
theorem RO.cnt_le : ∀ r : RO, r.cnt ≤ r.wt
  | .mk k p _ _ a => by have := cntSs_le a; simp only [RO.cnt, RO.wt]; omega
theorem cntSs_le : ∀ l : List RO, cntSs l ≤ wtSs l
  | [] => Nat.le_refl _
  | r :: rs => by have := RO.cnt_le r; have := cntSs_le rs; simp only [cntSs, wtSs]; omega
end
mutual
theorem partsS_len : ∀ r : RO, (partsS r).length = r.cnt
  | .mk k p f n a => by simp only [partsS, List.length_cons, partsSs_len a, RO.cnt]; omega
theorem partsSs_len : ∀ l : List RO, (partsSs l).length = cntSs l
  | [] => rfl
  | r :: rs => by simp only [partsSs, List.length_append, partsS_len r, partsSs_len rs, cntSs]
end
theorem partsSs_take : ∀ {l : List RO} {j : Nat} (h : j < l.length), partsSs (l.take (j + 1)) = partsSs (l.take j) ++ partsS l[j]
  | r :: rs, 0, h => by simp [partsSs]
  | r :: rs, j + 1, h => by
    have := partsSs_take (l := rs) (j := j) (by simpa using h)
    simp only [List.take_succ_cons, partsSs, List.getElem_cons_succ, this, List.append_assoc]
theorem cntSs_take : ∀ {l : List RO} {j : Nat} (h : j < l.length), cntSs (l.take (j + 1)) = cntSs (l.take j) + l[j].cnt
  | r :: rs, 0, h => by simp [cntSs]
  | r :: rs, j + 1, h => by
    have := cntSs_take (l := rs) (j := j) (by simpa using h)
    simp only [List.take_succ_cons, cntSs, List.getElem_cons_succ]
    omega

theorem t64 (N : Nat) : ∀ r : RO, r.wt ≤ N → N < 2 ^ 40 → DCalls Try.prog 64 [.agg (cellsS r)] (.slice 9 ((partsS r).map encS)) := by
  induction N with
  | zero => intro r h; have := r.wt_pos; omega
  | succ N ih =>
    rintro ⟨k, ⟨pk, pf, pn, pm, pa⟩, f, n, l⟩ hr hN
    refine dcalls_low (rs := [.tmp 2]) mixed Try.func64 l64 rfl rfl rfl (r := [.slice 9 _]) (Nat.le_of_ble_eq_true rfl) ?_
    simp only [RO.wt, partsS] at hr ⊢
    have hl := wtSs_len l
    repeat' ((conv => whnf); first | (exact trivial) | (refine now_T ?_) | (refine now_E1 (by first | omega | (simp; done) | (simp; omega) | fail) ?_) | (refine now_E0 (by first | omega | (simp; done) | (simp; omega) | fail) ?_) | (refine now_N1 (by first | omega | (simp; done) | (simp; omega) | fail) ?_) | (refine now_N0 (by first | omega | (simp; done) | (simp; omega) | fail) ?_) | (refine now_D1 (by first | omega | (simp; done) | (simp; omega) | fail) ?_) | (refine now_D0 (by first | omega | (simp; done) | (simp; omega) | fail) ?_) | (refine now_E (fun hq => ?_) (fun hq => ?_)) | (refine now_N (fun hq => ?_) (fun hq => ?_)) | (refine now_D (fun hq => ?_) (fun hq => ?_)) | (refine rb (x := true) (by first | rfl | (simp; done) | (simp; omega) | (simp [*]; done) | (simp [*]; omega) | fail) ?_) | (refine rb (x := false) (by first | rfl | (simp; done) | (simp; omega) | (simp [*]; done) | (simp [*]; omega) | fail) ?_) | (refine rb (by first | rfl | (simp; done) | (simp; omega) | (simp [*]; done) | (simp [*]; omega) | fail) ?_) | (refine ri (by first | rfl | omega | (rw [wrap_id] <;> omega) | (simp; omega) | (simp [*]; done) | fail) ?_) | (refine And.intro (by first | exact trivial | rfl | decide | exact Nat.le_of_ble_eq_true rfl | assumption | exact ⟨rfl, Nat.le_of_ble_eq_true rfl⟩ | exact ⟨trivial, rfl⟩ | exact ⟨⟨trivial, rfl⟩, rfl⟩ | omega | (simp; done) | (simp; omega) | (simp [*]; done) | fail) ?_) | (fail))
    refine wpC_loop (α := Nat × Nat) (fun q => {sl := [(1, .ptr 1 0), (3, .own q.1 38 9 ((RO.mk k (.mk pk pf pn pm pa) f n l :: partsSs (l.take q.2)).map encS)), (4, .t (I q.2))], bx := [(1, .d 9 (cellsS (.mk k (.mk pk pf pn pm pa) f n l)))]})
      (fun q => q.2 ≤ l.length) (fun q => l.length - q.2) (6, 0) (by simp) ?_ ?_
    · repeat' (first | (exact trivial) | (exact LeV.same _) | (exact LeB.same _) | (exact rfl) | (exact fun _ _ _ => trivial) | (exact leI (by first | omega | (rw [wrap_id] <;> omega) | (simp; omega) | (simp [*]; done) | fail)) | (exact LeV.nil _ _ _) | (exact leB (by first | rfl | (simp; done) | (simp [*]; done) | (simp [*]; omega) | fail)) | (refine leBd ?_) | (refine leOwn ?_) | (refine And.intro ?_ ?_))
      simp [partsSs, encS_cells]
    rintro ⟨o, i⟩ hi
    dsimp only at hi
    rcases Nat.lt_or_ge i l.length with h | h
    · have hn := wtSs_take h
      have hm := wtSs_mono (l := l) (j := i + 1)
      have hc := ih l[i] (by omega) (by omega)
      have e1 := partsS_len l[i]
      have e2 := partsSs_len (l.take i)
      have e3 := partsSs_take h
      have e4 := cntSs_le (l.take i)
      have e5 := l[i].cnt_le
      repeat' ((conv => whnf); first | (exact trivial) | (refine now_v (.agg (cellsS l[i])) (by first | (simp [h, encS_cells]; done) | fail) ?_) | (refine k_call _ (hc) ?_) | (refine now_T ?_) | (refine now_E1 (by first | omega | (simp; done) | (simp; omega) | fail) ?_) | (refine now_E0 (by first | omega | (simp; done) | (simp; omega) | fail) ?_) | (refine now_N1 (by first | omega | (simp; done) | (simp; omega) | fail) ?_) | (refine now_N0 (by first | omega | (simp; done) | (simp; omega) | fail) ?_) | (refine now_D1 (by first | omega | (simp; done) | (simp; omega) | fail) ?_) | (refine now_D0 (by first | omega | (simp; done) | (simp; omega) | fail) ?_) | (refine now_E (fun hq => ?_) (fun hq => ?_)) | (refine now_N (fun hq => ?_) (fun hq => ?_)) | (refine now_D (fun hq => ?_) (fun hq => ?_)) | (refine rb (x := true) (by first | rfl | (simp; done) | (simp; omega) | (simp [*]; done) | (simp [*]; omega) | fail) ?_) | (refine rb (x := false) (by first | rfl | (simp; done) | (simp; omega) | (simp [*]; done) | (simp [*]; omega) | fail) ?_) | (refine rb (by first | rfl | (simp; done) | (simp; omega) | (simp [*]; done) | (simp [*]; omega) | fail) ?_) | (refine ri (by first | rfl | omega | (rw [wrap_id] <;> omega) | (simp; omega) | (simp [*]; done) | fail) ?_) | (refine And.intro (by first | (exact cellsS_len _; done) | ((simp only [List.length_map, List.length_cons]; omega); done) | exact trivial | rfl | decide | exact Nat.le_of_ble_eq_true rfl | assumption | exact ⟨rfl, Nat.le_of_ble_eq_true rfl⟩ | exact ⟨trivial, rfl⟩ | exact ⟨⟨trivial, rfl⟩, rfl⟩ | omega | (simp; done) | (simp; omega) | (simp [*]; done) | fail) ?_) | (fail))
      refine ⟨(21, i + 1), by dsimp only; omega, by dsimp only; omega, ?_⟩
      repeat' (first | (exact trivial) | (exact LeV.same _) | (exact LeB.same _) | (exact rfl) | (exact fun _ _ _ => trivial) | (exact leI (by first | omega | (rw [wrap_id] <;> omega) | (simp; omega) | (simp [*]; done) | fail)) | (exact LeV.nil _ _ _) | (exact leB (by first | rfl | (simp; done) | (simp [*]; done) | (simp [*]; omega) | fail)) | (refine leBd ?_) | (refine leOwn ?_) | (refine And.intro ?_ ?_))
      simp [e3]
    · have : i = l.length := by omega
      subst this
      rw [List.take_length]
      repeat' ((conv => whnf); first | (exact trivial) | (refine now_T ?_) | (refine now_E1 (by first | omega | (simp; done) | (simp; omega) | fail) ?_) | (refine now_E0 (by first | omega | (simp; done) | (simp; omega) | fail) ?_) | (refine now_N1 (by first | omega | (simp; done) | (simp; omega) | fail) ?_) | (refine now_N0 (by first | omega | (simp; done) | (simp; omega) | fail) ?_) | (refine now_D1 (by first | omega | (simp; done) | (simp; omega) | fail) ?_) | (refine now_D0 (by first | omega | (simp; done) | (simp; omega) | fail) ?_) | (refine now_E (fun hq => ?_) (fun hq => ?_)) | (refine now_N (fun hq => ?_) (fun hq => ?_)) | (refine now_D (fun hq => ?_) (fun hq => ?_)) | (refine rb (x := true) (by first | rfl | (simp; done) | (simp; omega) | (simp [*]; done) | (simp [*]; omega) | fail) ?_) | (refine rb (x := false) (by first | rfl | (simp; done) | (simp; omega) | (simp [*]; done) | (simp [*]; omega) | fail) ?_) | (refine rb (by first | rfl | (simp; done) | (simp; omega) | (simp [*]; done) | (simp [*]; omega) | fail) ?_) | (refine ri (by first | rfl | omega | (rw [wrap_id] <;> omega) | (simp; omega) | (simp [*]; done) | fail) ?_) | (refine And.intro (by first | exact trivial | rfl | decide | exact Nat.le_of_ble_eq_true rfl | assumption | exact ⟨rfl, Nat.le_of_ble_eq_true rfl⟩ | exact ⟨trivial, rfl⟩ | exact ⟨⟨trivial, rfl⟩, rfl⟩ | omega | (simp; done) | (simp; omega) | (simp [*]; done) | fail) ?_) | (fail))

theorem t72 (N : Nat) : ∀ r : RO, r.wt ≤ N → N < 2 ^ 60 → DCalls Try.prog 72 [.agg (cellsS r)] (I r.cnt) := by
  induction N with
  | zero => intro r h; have := r.wt_pos; omega
  | succ N ih =>
    rintro ⟨k, ⟨pk, pf, pn, pm, pa⟩, f, n, l⟩ hr hN
    refine dcalls_low (rs := [.tmp 2]) mixed Try.func72 l72 rfl rfl rfl (r := [.int _ _]) (Nat.le_of_ble_eq_true rfl) ?_
    simp only [RO.wt, RO.cnt] at hr ⊢
    have hl := wtSs_len l
    repeat' ((conv => whnf); first | (exact trivial) | (refine now_T ?_) | (refine now_E1 (by first | omega | (simp; done) | (simp; omega) | fail) ?_) | (refine now_E0 (by first | omega | (simp; done) | (simp; omega) | fail) ?_) | (refine now_N1 (by first | omega | (simp; done) | (simp; omega) | fail) ?_) | (refine now_N0 (by first | omega | (simp; done) | (simp; omega) | fail) ?_) | (refine now_D1 (by first | omega | (simp; done) | (simp; omega) | fail) ?_) | (refine now_D0 (by first | omega | (simp; done) | (simp; omega) | fail) ?_) | (refine now_E (fun hq => ?_) (fun hq => ?_)) | (refine now_N (fun hq => ?_) (fun hq => ?_)) | (refine now_D (fun hq => ?_) (fun hq => ?_)) | (refine rb (x := true) (by first | rfl | (simp; done) | (simp; omega) | (simp [*]; done) | (simp [*]; omega) | fail) ?_) | (refine rb (x := false) (by first | rfl | (simp; done) | (simp; omega) | (simp [*]; done) | (simp [*]; omega) | fail) ?_) | (refine rb (by first | rfl | (simp; done) | (simp; omega) | (simp [*]; done) | (simp [*]; omega) | fail) ?_) | (refine ri (by first | rfl | omega | (rw [wrap_id] <;> omega) | (simp; omega) | (simp [*]; done) | fail) ?_) | (refine And.intro (by first | exact trivial | rfl | decide | exact Nat.le_of_ble_eq_true rfl | assumption | exact ⟨rfl, Nat.le_of_ble_eq_true rfl⟩ | exact ⟨trivial, rfl⟩ | exact ⟨⟨trivial, rfl⟩, rfl⟩ | omega | (simp; done) | (simp; omega) | (simp [*]; done) | fail) ?_) | (fail))
    refine wpC_loop (α := Nat) (fun i => {sl := [(1, .ptr 1 0), (3, .t (I (1 + cntSs (l.take i) : Nat))), (4, .t (I i))], bx := [(1, .d 9 (cellsS (.mk k (.mk pk pf pn pm pa) f n l)))]})
      (fun i => i ≤ l.length) (fun i => l.length - i) 0 (by simp) ?_ ?_
    · repeat' (first | (exact trivial) | (exact LeV.same _) | (exact LeB.same _) | (exact rfl) | (exact fun _ _ _ => trivial) | (exact leI (by first | omega | (rw [wrap_id] <;> omega) | (simp; omega) | (simp [*]; done) | fail)) | (exact LeV.nil _ _ _) | (exact leB (by first | rfl | (simp; done) | (simp [*]; done) | (simp [*]; omega) | fail)) | (refine leBd ?_) | (refine leOwn ?_) | (refine And.intro ?_ ?_))
    rintro i hi
    rcases Nat.lt_or_ge i l.length with h | h
    · have hn := wtSs_take h
      have hm := wtSs_mono (l := l) (j := i + 1)
      have hc := ih l[i] (by omega) (by omega)
      have e4 := cntSs_le (l.take i)
      have e5 := l[i].cnt_le
      have e6 := cntSs_take h
      repeat' ((conv => whnf); first | (exact trivial) | (refine now_v (.agg (cellsS l[i])) (by first | (simp [h, encS_cells]; done) | fail) ?_) | (refine k_call _ (hc) ?_) | (refine now_T ?_) | (refine now_E1 (by first | omega | (simp; done) | (simp; omega) | fail) ?_) | (refine now_E0 (by first | omega | (simp; done) | (simp; omega) | fail) ?_) | (refine now_N1 (by first | omega | (simp; done) | (simp; omega) | fail) ?_) | (refine now_N0 (by first | omega | (simp; done) | (simp; omega) | fail) ?_) | (refine now_D1 (by first | omega | (simp; done) | (simp; omega) | fail) ?_) | (refine now_D0 (by first | omega | (simp; done) | (simp; omega) | fail) ?_) | (refine now_E (fun hq => ?_) (fun hq => ?_)) | (refine now_N (fun hq => ?_) (fun hq => ?_)) | (refine now_D (fun hq => ?_) (fun hq => ?_)) | (refine rb (x := true) (by first | rfl | (simp; done) | (simp; omega) | (simp [*]; done) | (simp [*]; omega) | fail) ?_) | (refine rb (x := false) (by first | rfl | (simp; done) | (simp; omega) | (simp [*]; done) | (simp [*]; omega) | fail) ?_) | (refine rb (by first | rfl | (simp; done) | (simp; omega) | (simp [*]; done) | (simp [*]; omega) | fail) ?_) | (refine ri (by first | rfl | omega | (rw [wrap_id] <;> omega) | (simp; omega) | (simp [*]; done) | fail) ?_) | (refine And.intro (by first | (exact cellsS_len _; done) | exact trivial | rfl | decide | exact Nat.le_of_ble_eq_true rfl | assumption | exact ⟨rfl, Nat.le_of_ble_eq_true rfl⟩ | exact ⟨trivial, rfl⟩ | exact ⟨⟨trivial, rfl⟩, rfl⟩ | omega | (simp; done) | (simp; omega) | (simp [*]; done) | fail) ?_) | (fail))
      refine ⟨i + 1, by omega, by omega, ?_⟩
      repeat' (first | (exact trivial) | (exact LeV.same _) | (exact LeB.same _) | (exact rfl) | (exact fun _ _ _ => trivial) | (exact leI (by first | omega | (rw [wrap_id] <;> omega) | (simp; omega) | (simp [*]; done) | fail)) | (exact LeV.nil _ _ _) | (exact leB (by first | rfl | (simp; done) | (simp [*]; done) | (simp [*]; omega) | fail)) | (refine leBd ?_) | (refine leOwn ?_) | (refine And.intro ?_ ?_))
    · have : i = l.length := by omega
      subst this
      rw [List.take_length]
      repeat' ((conv => whnf); first | (exact trivial) | (refine now_T ?_) | (refine now_E1 (by first | omega | (simp; done) | (simp; omega) | fail) ?_) | (refine now_E0 (by first | omega | (simp; done) | (simp; omega) | fail) ?_) | (refine now_N1 (by first | omega | (simp; done) | (simp; omega) | fail) ?_) | (refine now_N0 (by first | omega | (simp; done) | (simp; omega) | fail) ?_) | (refine now_D1 (by first | omega | (simp; done) | (simp; omega) | fail) ?_) | (refine now_D0 (by first | omega | (simp; done) | (simp; omega) | fail) ?_) | (refine now_E (fun hq => ?_) (fun hq => ?_)) | (refine now_N (fun hq => ?_) (fun hq => ?_)) | (refine now_D (fun hq => ?_) (fun hq => ?_)) | (refine rb (x := true) (by first | rfl | (simp; done) | (simp; omega) | (simp [*]; done) | (simp [*]; omega) | fail) ?_) | (refine rb (x := false) (by first | rfl | (simp; done) | (simp; omega) | (simp [*]; done) | (simp [*]; omega) | fail) ?_) | (refine rb (by first | rfl | (simp; done) | (simp; omega) | (simp [*]; done) | (simp [*]; omega) | fail) ?_) | (refine ri (by first | rfl | omega | (rw [wrap_id] <;> omega) | (simp; omega) | (simp [*]; done) | fail) ?_) | (refine And.intro (by first | exact trivial | rfl | decide | exact Nat.le_of_ble_eq_true rfl | assumption | exact ⟨rfl, Nat.le_of_ble_eq_true rfl⟩ | exact ⟨trivial, rfl⟩ | exact ⟨⟨trivial, rfl⟩, rfl⟩ | omega | (simp; done) | (simp; omega) | (simp [*]; done) | fail) ?_) | (fail))

mutual
def RO.stars : RO → Nat
  | .mk k _ _ _ a => starSs a + (if k = 5 then 1 else 0)
def starSs : List RO → Nat
  | [] => 0
  | r :: rs => max r.stars (starSs rs)
end
mutual
def RO.puts : RO → Nat
  | .mk k _ _ _ a => putSs a + (if k = 2 then 1 else 0)
def putSs : List RO → Nat
  | [] => 0
  | r :: rs => r.puts + putSs rs
end
mutual
theorem RO.stars_le : ∀ r : RO, r.stars ≤ r.wt
  | .mk k p _ _ a => by have := starSs_le a; have := p.nodes_pos; simp only [RO.stars, RO.wt]; split <;> omega
theorem starSs_le : ∀ l : List RO, starSs l ≤ wtSs l
  | [] => Nat.le_refl _
  | r :: rs => by have := RO.stars_le r; have := starSs_le rs; simp only [starSs, wtSs]; omega
end
mutual
theorem RO.puts_le : ∀ r : RO, r.puts ≤ r.wt
  | .mk k p _ _ a => by have := putSs_le a; have := p.nodes_pos; simp only [RO.puts, RO.wt]; split <;> omega
theorem putSs_le : ∀ l : List RO, putSs l ≤ wtSs l
  | [] => Nat.le_refl _
  | r :: rs => by have := RO.puts_le r; have := putSs_le rs; simp only [putSs, wtSs]; omega
end
theorem starSs_take : ∀ {l : List RO} {j : Nat} (h : j < l.length), starSs (l.take (j + 1)) = max (starSs (l.take j)) l[j].stars
  | r :: rs, 0, h => by simp [starSs]
  | r :: rs, j + 1, h => by
    have := starSs_take (l := rs) (j := j) (by simpa using h)
    simp only [List.take_succ_cons, starSs, List.getElem_cons_succ]
    omega
theorem putSs_take : ∀ {l : List RO} {j : Nat} (h : j < l.length), putSs (l.take (j + 1)) = putSs (l.take j) + l[j].puts
  | r :: rs, 0, h => by simp [putSs]
  | r :: rs, j + 1, h => by
    have := putSs_take (l := rs) (j := j) (by simpa using h)
    simp only [List.take_succ_cons, putSs, List.getElem_cons_succ]
    omega

theorem t60 (N : Nat) : ∀ r : RO, r.wt ≤ N → N < 2 ^ 60 → DCalls Try.prog 60 [.agg (cellsS r)] (I r.puts) := by
  induction N with
  | zero => intro r h; have := r.wt_pos; omega
  | succ N ih =>
    rintro ⟨k, ⟨pk, pf, pn, pm, pa⟩, f, n, l⟩ hr hN
    refine dcalls_low (rs := [.tmp 2]) mixed Try.func60 l60 rfl rfl rfl (r := [.int _ _]) (Nat.le_of_ble_eq_true rfl) ?_
    simp only [RO.wt, RO.puts] at hr ⊢
    have hl := wtSs_len l
    repeat' ((conv => whnf); first | (exact trivial) | (refine now_T ?_) | (refine now_E1 (by first | omega | (simp; done) | (simp; omega) | fail) ?_) | (refine now_E0 (by first | omega | (simp; done) | (simp; omega) | fail) ?_) | (refine now_N1 (by first | omega | (simp; done) | (simp; omega) | fail) ?_) | (refine now_N0 (by first | omega | (simp; done) | (simp; omega) | fail) ?_) | (refine now_D1 (by first | omega | (simp; done) | (simp; omega) | fail) ?_) | (refine now_D0 (by first | omega | (simp; done) | (simp; omega) | fail) ?_) | (refine now_E (fun hq => ?_) (fun hq => ?_)) | (refine now_N (fun hq => ?_) (fun hq => ?_)) | (refine now_D (fun hq => ?_) (fun hq => ?_)) | (refine rb (x := true) (by first | rfl | (simp; done) | (simp; omega) | (simp [*]; done) | (simp [*]; omega) | fail) ?_) | (refine rb (x := false) (by first | rfl | (simp; done) | (simp; omega) | (simp [*]; done) | (simp [*]; omega) | fail) ?_) | (refine rb (by first | rfl | (simp; done) | (simp; omega) | (simp [*]; done) | (simp [*]; omega) | fail) ?_) | (refine ri (by first | rfl | omega | (rw [wrap_id] <;> omega) | (simp; omega) | (simp [*]; done) | fail) ?_) | (refine And.intro (by first | exact trivial | rfl | decide | exact Nat.le_of_ble_eq_true rfl | assumption | exact ⟨rfl, Nat.le_of_ble_eq_true rfl⟩ | exact ⟨trivial, rfl⟩ | exact ⟨⟨trivial, rfl⟩, rfl⟩ | omega | (simp; done) | (simp; omega) | (simp [*]; done) | fail) ?_) | (fail))
    refine wpC_loop (α := Nat) (fun i => {sl := [(1, .ptr 1 0), (3, .t (I (putSs (l.take i) : Nat))), (4, .t (I i))], bx := [(1, .d 9 (cellsS (.mk k (.mk pk pf pn pm pa) f n l)))]})
      (fun i => i ≤ l.length) (fun i => l.length - i) 0 (by simp) ?_ ?_
    · repeat' (first | (exact trivial) | (exact LeV.same _) | (exact LeB.same _) | (exact rfl) | (exact fun _ _ _ => trivial) | (exact leI (by first | omega | (rw [wrap_id] <;> omega) | (simp; omega) | (simp [*]; done) | fail)) | (exact LeV.nil _ _ _) | (exact leB (by first | rfl | (simp; done) | (simp [*]; done) | (simp [*]; omega) | fail)) | (refine leBd ?_) | (refine leOwn ?_) | (refine And.intro ?_ ?_))
    rintro i hi
    rcases Nat.lt_or_ge i l.length with h | h
    · have hn := wtSs_take h
      have hm := wtSs_mono (l := l) (j := i + 1)
      have hc := ih l[i] (by omega) (by omega)
      have e4 := putSs_le (l.take i)
      have e5 := l[i].puts_le
      have e6 := putSs_take h
      repeat' ((conv => whnf); first | (exact trivial) | (refine now_v (.agg (cellsS l[i])) (by first | (simp [h, encS_cells]; done) | fail) ?_) | (refine k_call _ (hc) ?_) | (refine now_T ?_) | (refine now_E1 (by first | omega | (simp; done) | (simp; omega) | fail) ?_) | (refine now_E0 (by first | omega | (simp; done) | (simp; omega) | fail) ?_) | (refine now_N1 (by first | omega | (simp; done) | (simp; omega) | fail) ?_) | (refine now_N0 (by first | omega | (simp; done) | (simp; omega) | fail) ?_) | (refine now_D1 (by first | omega | (simp; done) | (simp; omega) | fail) ?_) | (refine now_D0 (by first | omega | (simp; done) | (simp; omega) | fail) ?_) | (refine now_E (fun hq => ?_) (fun hq => ?_)) | (refine now_N (fun hq => ?_) (fun hq => ?_)) | (refine now_D (fun hq => ?_) (fun hq => ?_)) | (refine rb (x := true) (by first | rfl | (simp; done) | (simp; omega) | (simp [*]; done) | (simp [*]; omega) | fail) ?_) | (refine rb (x := false) (by first | rfl | (simp; done) | (simp; omega) | (simp [*]; done) | (simp [*]; omega) | fail) ?_) | (refine rb (by first | rfl | (simp; done) | (simp; omega) | (simp [*]; done) | (simp [*]; omega) | fail) ?_) | (refine ri (by first | rfl | omega | (rw [wrap_id] <;> omega) | (simp; omega) | (simp [*]; done) | fail) ?_) | (refine And.intro (by first | (exact cellsS_len _; done) | exact trivial | rfl | decide | exact Nat.le_of_ble_eq_true rfl | assumption | exact ⟨rfl, Nat.le_of_ble_eq_true rfl⟩ | exact ⟨trivial, rfl⟩ | exact ⟨⟨trivial, rfl⟩, rfl⟩ | omega | (simp; done) | (simp; omega) | (simp [*]; done) | fail) ?_) | (fail))
      refine ⟨i + 1, by omega, by omega, ?_⟩
      repeat' (first | (exact trivial) | (exact LeV.same _) | (exact LeB.same _) | (exact rfl) | (exact fun _ _ _ => trivial) | (exact leI (by first | omega | (rw [wrap_id] <;> omega) | (simp; omega) | (simp [*]; done) | fail)) | (exact LeV.nil _ _ _) | (exact leB (by first | rfl | (simp; done) | (simp [*]; done) | (simp [*]; omega) | fail)) | (refine leBd ?_) | (refine leOwn ?_) | (refine And.intro ?_ ?_))
    · have : i = l.length := by omega
      subst this
      rw [List.take_length]
      have e4 := putSs_le l
      by_cases hk : k = 2
      · simp only [hk, if_true]
        repeat' ((conv => whnf); first | (exact trivial) | (refine now_T ?_) | (refine now_E1 (by first | omega | (simp; done) | (simp; omega) | fail) ?_) | (refine now_E0 (by first | omega | (simp; done) | (simp; omega) | fail) ?_) | (refine now_N1 (by first | omega | (simp; done) | (simp; omega) | fail) ?_) | (refine now_N0 (by first | omega | (simp; done) | (simp; omega) | fail) ?_) | (refine now_D1 (by first | omega | (simp; done) | (simp; omega) | fail) ?_) | (refine now_D0 (by first | omega | (simp; done) | (simp; omega) | fail) ?_) | (refine now_E (fun hq => ?_) (fun hq => ?_)) | (refine now_N (fun hq => ?_) (fun hq => ?_)) | (refine now_D (fun hq => ?_) (fun hq => ?_)) | (refine rb (x := true) (by first | rfl | (simp; done) | (simp; omega) | (simp [*]; done) | (simp [*]; omega) | fail) ?_) | (refine rb (x := false) (by first | rfl | (simp; done) | (simp; omega) | (simp [*]; done) | (simp [*]; omega) | fail) ?_) | (refine rb (by first | rfl | (simp; done) | (simp; omega) | (simp [*]; done) | (simp [*]; omega) | fail) ?_) | (refine ri (by first | rfl | omega | (rw [wrap_id] <;> omega) | (simp; omega) | (simp [*]; done) | fail) ?_) | (refine And.intro (by first | exact trivial | rfl | decide | exact Nat.le_of_ble_eq_true rfl | assumption | exact ⟨rfl, Nat.le_of_ble_eq_true rfl⟩ | exact ⟨trivial, rfl⟩ | exact ⟨⟨trivial, rfl⟩, rfl⟩ | omega | (simp; done) | (simp; omega) | (simp [*]; done) | fail) ?_) | (fail))
      · simp only [hk, if_false]
        repeat' ((conv => whnf); first | (exact trivial) | (refine now_T ?_) | (refine now_E1 (by first | omega | (simp; done) | (simp; omega) | fail) ?_) | (refine now_E0 (by first | omega | (simp; done) | (simp; omega) | fail) ?_) | (refine now_N1 (by first | omega | (simp; done) | (simp; omega) | fail) ?_) | (refine now_N0 (by first | omega | (simp; done) | (simp; omega) | fail) ?_) | (refine now_D1 (by first | omega | (simp; done) | (simp; omega) | fail) ?_) | (refine now_D0 (by first | omega | (simp; done) | (simp; omega) | fail) ?_) | (refine now_E (fun hq => ?_) (fun hq => ?_)) | (refine now_N (fun hq => ?_) (fun hq => ?_)) | (refine now_D (fun hq => ?_) (fun hq => ?_)) | (refine rb (x := true) (by first | rfl | (simp; done) | (simp; omega) | (simp [*]; done) | (simp [*]; omega) | fail) ?_) | (refine rb (x := false) (by first | rfl | (simp; done) | (simp; omega) | (simp [*]; done) | (simp [*]; omega) | fail) ?_) | (refine rb (by first | rfl | (simp; done) | (simp; omega) | (simp [*]; done) | (simp [*]; omega) | fail) ?_) | (refine ri (by first | rfl | omega | (rw [wrap_id] <;> omega) | (simp; omega) | (simp [*]; done) | fail) ?_) | (refine And.intro (by first | exact trivial | rfl | decide | exact Nat.le_of_ble_eq_true rfl | assumption | exact ⟨rfl, Nat.le_of_ble_eq_true rfl⟩ | exact ⟨trivial, rfl⟩ | exact ⟨⟨trivial, rfl⟩, rfl⟩ | omega | (simp; done) | (simp; omega) | (simp [*]; done) | fail) ?_) | (fail))

theorem t59 (N : Nat) : ∀ r : RO, r.wt ≤ N → N < 2 ^ 60 → DCalls Try.prog 59 [.agg (cellsS r)] (I r.stars) := by
  induction N with
  | zero => intro r h; have := r.wt_pos; omega
  | succ N ih =>
    rintro ⟨k, ⟨pk, pf, pn, pm, pa⟩, f, n, l⟩ hr hN
    refine dcalls_low (rs := [.tmp 2]) mixed Try.func59 l59 rfl rfl rfl (r := [.int _ _]) (Nat.le_of_ble_eq_true rfl) ?_
    simp only [RO.wt, RO.stars] at hr ⊢
    have hl := wtSs_len l
    repeat' ((conv => whnf); first | (exact trivial) | (refine now_T ?_) | (refine now_E1 (by first | omega | (simp; done) | (simp; omega) | fail) ?_) | (refine now_E0 (by first | omega | (simp; done) | (simp; omega) | fail) ?_) | (refine now_N1 (by first | omega | (simp; done) | (simp; omega) | fail) ?_) | (refine now_N0 (by first | omega | (simp; done) | (simp; omega) | fail) ?_) | (refine now_D1 (by first | omega | (simp; done) | (simp; omega) | fail) ?_) | (refine now_D0 (by first | omega | (simp; done) | (simp; omega) | fail) ?_) | (refine now_E (fun hq => ?_) (fun hq => ?_)) | (refine now_N (fun hq => ?_) (fun hq => ?_)) | (refine now_D (fun hq => ?_) (fun hq => ?_)) | (refine rb (x := true) (by first | rfl | (simp; done) | (simp; omega) | (simp [*]; done) | (simp [*]; omega) | fail) ?_) | (refine rb (x := false) (by first | rfl | (simp; done) | (simp; omega) | (simp [*]; done) | (simp [*]; omega) | fail) ?_) | (refine rb (by first | rfl | (simp; done) | (simp; omega) | (simp [*]; done) | (simp [*]; omega) | fail) ?_) | (refine ri (by first | rfl | omega | (rw [wrap_id] <;> omega) | (simp; omega) | (simp [*]; done) | fail) ?_) | (refine And.intro (by first | exact trivial | rfl | decide | exact Nat.le_of_ble_eq_true rfl | assumption | exact ⟨rfl, Nat.le_of_ble_eq_true rfl⟩ | exact ⟨trivial, rfl⟩ | exact ⟨⟨trivial, rfl⟩, rfl⟩ | omega | (simp; done) | (simp; omega) | (simp [*]; done) | fail) ?_) | (fail))
    refine wpC_loop (α := Nat) (fun i => {sl := [(1, .ptr 1 0), (3, .t (I (starSs (l.take i) : Nat))), (4, .t (I i))], bx := [(1, .d 9 (cellsS (.mk k (.mk pk pf pn pm pa) f n l)))]})
      (fun i => i ≤ l.length) (fun i => l.length - i) 0 (by simp) ?_ ?_
    · repeat' (first | (exact trivial) | (exact LeV.same _) | (exact LeB.same _) | (exact rfl) | (exact fun _ _ _ => trivial) | (exact leI (by first | omega | (rw [wrap_id] <;> omega) | (simp; omega) | (simp [*]; done) | fail)) | (exact LeV.nil _ _ _) | (exact leB (by first | rfl | (simp; done) | (simp [*]; done) | (simp [*]; omega) | fail)) | (refine leBd ?_) | (refine leOwn ?_) | (refine And.intro ?_ ?_))
    rintro i hi
    rcases Nat.lt_or_ge i l.length with h | h
    · have hn := wtSs_take h
      have hm := wtSs_mono (l := l) (j := i + 1)
      have hc := ih l[i] (by omega) (by omega)
      have e4 := starSs_le (l.take i)
      have e5 := l[i].stars_le
      have e6 := starSs_take h
      have e7 : ((starSs (l.take (i + 1)) : Nat) : Int) = if ((l[i].stars : Nat) : Int) > (starSs (l.take i) : Nat) then ((l[i].stars : Nat) : Int) else (starSs (l.take i) : Nat) := by rw [e6]; split <;> omega
      repeat' ((conv => whnf); first | (exact trivial) | (refine now_v (.agg (cellsS l[i])) (by first | (simp [h, encS_cells]; done) | fail) ?_) | (refine k_call _ (hc) ?_) | (refine now_T ?_) | (refine now_E1 (by first | omega | (simp; done) | (simp; omega) | fail) ?_) | (refine now_E0 (by first | omega | (simp; done) | (simp; omega) | fail) ?_) | (refine now_N1 (by first | omega | (simp; done) | (simp; omega) | fail) ?_) | (refine now_N0 (by first | omega | (simp; done) | (simp; omega) | fail) ?_) | (refine now_D1 (by first | omega | (simp; done) | (simp; omega) | fail) ?_) | (refine now_D0 (by first | omega | (simp; done) | (simp; omega) | fail) ?_) | (refine now_E (fun hq => ?_) (fun hq => ?_)) | (refine now_N (fun hq => ?_) (fun hq => ?_)) | (refine now_D (fun hq => ?_) (fun hq => ?_)) | (refine rb (x := true) (by first | rfl | (simp; done) | (simp; omega) | (simp [*]; done) | (simp [*]; omega) | fail) ?_) | (refine rb (x := false) (by first | rfl | (simp; done) | (simp; omega) | (simp [*]; done) | (simp [*]; omega) | fail) ?_) | (refine rb (by first | rfl | (simp; done) | (simp; omega) | (simp [*]; done) | (simp [*]; omega) | fail) ?_) | (refine ri (by first | rfl | omega | (rw [wrap_id] <;> omega) | (simp; omega) | (simp [*]; done) | fail) ?_) | (refine And.intro (by first | (exact cellsS_len _; done) | exact trivial | rfl | decide | exact Nat.le_of_ble_eq_true rfl | assumption | exact ⟨rfl, Nat.le_of_ble_eq_true rfl⟩ | exact ⟨trivial, rfl⟩ | exact ⟨⟨trivial, rfl⟩, rfl⟩ | omega | (simp; done) | (simp; omega) | (simp [*]; done) | fail) ?_) | (fail))
      refine ⟨i + 1, by omega, by omega, ?_⟩
      repeat' (first | (exact leI e7) | (exact trivial) | (exact LeV.same _) | (exact LeB.same _) | (exact rfl) | (exact fun _ _ _ => trivial) | (exact leI (by first | omega | (rw [wrap_id] <;> omega) | (simp; omega) | (simp [*]; done) | fail)) | (exact LeV.nil _ _ _) | (exact leB (by first | rfl | (simp; done) | (simp [*]; done) | (simp [*]; omega) | fail)) | (refine leBd ?_) | (refine leOwn ?_) | (refine And.intro ?_ ?_))
    · have : i = l.length := by omega
      subst this
      rw [List.take_length]
      have e4 := starSs_le l
      by_cases hk : k = 5
      · simp only [hk, if_true]
        repeat' ((conv => whnf); first | (exact trivial) | (refine now_T ?_) | (refine now_E1 (by first | omega | (simp; done) | (simp; omega) | fail) ?_) | (refine now_E0 (by first | omega | (simp; done) | (simp; omega) | fail) ?_) | (refine now_N1 (by first | omega | (simp; done) | (simp; omega) | fail) ?_) | (refine now_N0 (by first | omega | (simp; done) | (simp; omega) | fail) ?_) | (refine now_D1 (by first | omega | (simp; done) | (simp; omega) | fail) ?_) | (refine now_D0 (by first | omega | (simp; done) | (simp; omega) | fail) ?_) | (refine now_E (fun hq => ?_) (fun hq => ?_)) | (refine now_N (fun hq => ?_) (fun hq => ?_)) | (refine now_D (fun hq => ?_) (fun hq => ?_)) | (refine rb (x := true) (by first | rfl | (simp; done) | (simp; omega) | (simp [*]; done) | (simp [*]; omega) | fail) ?_) | (refine rb (x := false) (by first | rfl | (simp; done) | (simp; omega) | (simp [*]; done) | (simp [*]; omega) | fail) ?_) | (refine rb (by first | rfl | (simp; done) | (simp; omega) | (simp [*]; done) | (simp [*]; omega) | fail) ?_) | (refine ri (by first | rfl | omega | (rw [wrap_id] <;> omega) | (simp; omega) | (simp [*]; done) | fail) ?_) | (refine And.intro (by first | exact trivial | rfl | decide | exact Nat.le_of_ble_eq_true rfl | assumption | exact ⟨rfl, Nat.le_of_ble_eq_true rfl⟩ | exact ⟨trivial, rfl⟩ | exact ⟨⟨trivial, rfl⟩, rfl⟩ | omega | (simp; done) | (simp; omega) | (simp [*]; done) | fail) ?_) | (fail))
      · simp only [hk, if_false]
        repeat' ((conv => whnf); first | (exact trivial) | (refine now_T ?_) | (refine now_E1 (by first | omega | (simp; done) | (simp; omega) | fail) ?_) | (refine now_E0 (by first | omega | (simp; done) | (simp; omega) | fail) ?_) | (refine now_N1 (by first | omega | (simp; done) | (simp; omega) | fail) ?_) | (refine now_N0 (by first | omega | (simp; done) | (simp; omega) | fail) ?_) | (refine now_D1 (by first | omega | (simp; done) | (simp; omega) | fail) ?_) | (refine now_D0 (by first | omega | (simp; done) | (simp; omega) | fail) ?_) | (refine now_E (fun hq => ?_) (fun hq => ?_)) | (refine now_N (fun hq => ?_) (fun hq => ?_)) | (refine now_D (fun hq => ?_) (fun hq => ?_)) | (refine rb (x := true) (by first | rfl | (simp; done) | (simp; omega) | (simp [*]; done) | (simp [*]; omega) | fail) ?_) | (refine rb (x := false) (by first | rfl | (simp; done) | (simp; omega) | (simp [*]; done) | (simp [*]; omega) | fail) ?_) | (refine rb (by first | rfl | (simp; done) | (simp; omega) | (simp [*]; done) | (simp [*]; omega) | fail) ?_) | (refine ri (by first | rfl | omega | (rw [wrap_id] <;> omega) | (simp; omega) | (simp [*]; done) | fail) ?_) | (refine And.intro (by first | exact trivial | rfl | decide | exact Nat.le_of_ble_eq_true rfl | assumption | exact ⟨rfl, Nat.le_of_ble_eq_true rfl⟩ | exact ⟨trivial, rfl⟩ | exact ⟨⟨trivial, rfl⟩, rfl⟩ | omega | (simp; done) | (simp; omega) | (simp [*]; done) | fail) ?_) | (fail))

def lightB (n k : Nat) : Bool := (n == 0) || ((n == 1) && decide (k ≤ 8)) || ((n == 2) && decide (k ≤ 4)) || ((n == 3) && decide (k ≤ 3)) || ((n == 4) && decide (k ≤ 2))
theorem t38 (r : RO) (hr : r.wt < 2 ^ 60) : DCalls Try.prog 38 [.agg (cellsS r)] (.bool (lightB r.stars r.puts)) := by
  refine dcalls_low (rs := [.tmp 2]) mixed Try.func38 l38 rfl rfl rfl (r := [.bool _]) (Nat.le_of_ble_eq_true rfl) ?_
  have h1 := t59 _ r (Nat.le_refl _) hr
  have h2 := t60 _ r (Nat.le_refl _) hr
  generalize r.stars = n at *
  generalize r.puts = m at *
  unfold lightB
  repeat' ((conv => whnf); first | (exact trivial) | (refine k_call _ (h1) ?_) | (refine k_call _ (h2) ?_) | (refine now_T ?_) | (refine now_E1 (by first | omega | (simp; done) | (simp; omega) | fail) ?_) | (refine now_E0 (by first | omega | (simp; done) | (simp; omega) | fail) ?_) | (refine now_N1 (by first | omega | (simp; done) | (simp; omega) | fail) ?_) | (refine now_N0 (by first | omega | (simp; done) | (simp; omega) | fail) ?_) | (refine now_D1 (by first | omega | (simp; done) | (simp; omega) | fail) ?_) | (refine now_D0 (by first | omega | (simp; done) | (simp; omega) | fail) ?_) | (refine now_E (fun hq => ?_) (fun hq => ?_)) | (refine now_N (fun hq => ?_) (fun hq => ?_)) | (refine now_D (fun hq => ?_) (fun hq => ?_)) | (refine rb (x := true) (by first | rfl | (simp; done) | (simp; omega) | (simp [*]; done) | (simp [*]; omega) | fail) ?_) | (refine rb (x := false) (by first | rfl | (simp; done) | (simp; omega) | (simp [*]; done) | (simp [*]; omega) | fail) ?_) | (refine rb (by first | rfl | (simp; done) | (simp; omega) | (simp [*]; done) | (simp [*]; omega) | fail) ?_) | (refine ri (by first | rfl | omega | (rw [wrap_id] <;> omega) | (simp; omega) | (simp [*]; done) | fail) ?_) | (refine And.intro (by first | (exact cellsS_len _; done) | exact trivial | rfl | decide | exact Nat.le_of_ble_eq_true rfl | assumption | exact ⟨rfl, Nat.le_of_ble_eq_true rfl⟩ | exact ⟨trivial, rfl⟩ | exact ⟨⟨trivial, rfl⟩, rfl⟩ | omega | (simp; done) | (simp; omega) | (simp [*]; done) | fail) ?_) | (fail))
end Go.MM
end
