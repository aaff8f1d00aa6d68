/- Joined by program: parts of a data level over the model, and of the program's functions over it. No statement here. -/
import Derived.Test.YtfbhdkpmipgmbaaMe
import Derived.Test.YtfbhdkpmipgmbaaDb
section
/- Meaning: predicates and policies as they are read; their sizes. -/
namespace Go.MM
open Go Go.DL Go.Proofs
set_option maxRecDepth 100000
set_option maxHeartbeats 4000000

/-- A predicate as it is read. -/
inductive RP where
  | mk (kind : Int) (field : ByteArray) (n m : Int) (args : List RP)

namespace RP
def kind : RP → Int | .mk k _ _ _ _ => k
def field : RP → ByteArray | .mk _ f _ _ _ => f
def n : RP → Int | .mk _ _ n _ _ => n
def m : RP → Int | .mk _ _ _ m _ => m
def args : RP → List RP | .mk _ _ _ _ a => a
end RP

mutual
def encR : RP → T
  | .mk k f n m a => .agg [I k, .str f, I n, I m, .slice 5 (encRs a)]
def encRs : List RP → List T
  | [] => []
  | r :: rs => encR r :: encRs rs
end
theorem encRs_eq : ∀ l : List RP, encRs l = l.map encR
  | [] => rfl
  | r :: rs => congrArg (encR r :: ·) (encRs_eq rs)

/-- The cells of a predicate. -/
def cellsR : RP → List T
  | .mk k f n m a => [I k, .str f, I n, I m, .slice 5 (a.map encR)]
theorem encR_cells (r : RP) : encR r = .agg (cellsR r) := by
  cases r; simp only [encR, cellsR, encRs_eq]
theorem cellsR_len (r : RP) : (cellsR r).length = 5 := by cases r; rfl

/-- A policy as it is read. -/
inductive RO where
  | mk (kind : Int) (pred : RP) (field : ByteArray) (n : Int) (args : List RO)

namespace RO
def kind : RO → Int | .mk k _ _ _ _ => k
def pred : RO → RP | .mk _ p _ _ _ => p
def field : RO → ByteArray | .mk _ _ f _ _ => f
def n : RO → Int | .mk _ _ _ n _ => n
def args : RO → List RO | .mk _ _ _ _ a => a
end RO

mutual
def encS : RO → T
  | .mk k p f n a => .agg (I k :: (cellsR p ++ [.str f, I n, .slice 9 (encSs a)]))
def encSs : List RO → List T
  | [] => []
  | r :: rs => encS r :: encSs rs
end
theorem encSs_eq : ∀ l : List RO, encSs l = l.map encS
  | [] => rfl
  | r :: rs => congrArg (encS r :: ·) (encSs_eq rs)
def cellsS : RO → List T
  | .mk k p f n a => I k :: (cellsR p ++ [.str f, I n, .slice 9 (a.map encS)])
theorem encS_cells (r : RO) : encS r = .agg (cellsS r) := by
  cases r; simp only [encS, cellsS, encSs_eq]
theorem cellsS_len (r : RO) : (cellsS r).length = 9 := by cases r; simp [cellsS, cellsR_len]

/-! ### sizes -/
mutual
def RP.nodes : RP → Nat
  | .mk _ _ _ _ a => 1 + nodesPs a
def nodesPs : List RP → Nat
  | [] => 0
  | r :: rs => r.nodes + nodesPs rs
end
mutual
def RP.depth : RP → Nat
  | .mk _ _ _ _ a => 1 + depthPs a
def depthPs : List RP → Nat
  | [] => 0
  | r :: rs => max r.depth (depthPs rs)
end
mutual
theorem RP.depth_le : ∀ r : RP, r.depth ≤ r.nodes
  | .mk _ _ _ _ a => by have := depthPs_le a; simp only [RP.depth, RP.nodes]; omega
theorem depthPs_le : ∀ l : List RP, depthPs l ≤ nodesPs l
  | [] => Nat.le_refl _
  | r :: rs => by have := RP.depth_le r; have := depthPs_le rs; simp only [depthPs, nodesPs]; omega
end
theorem nodesPs_take : ∀ {l : List RP} {j : Nat} (h : j < l.length), nodesPs (l.take (j + 1)) = nodesPs (l.take j) + l[j].nodes
  | r :: rs, 0, h => by simp [nodesPs]
  | r :: rs, j + 1, h => by
    have := nodesPs_take (l := rs) (j := j) (by simpa using h)
    simp only [List.take_succ_cons, nodesPs, List.getElem_cons_succ]
    omega
theorem depthPs_take : ∀ {l : List RP} {j : Nat} (h : j < l.length), depthPs (l.take (j + 1)) = max (depthPs (l.take j)) l[j].depth
  | r :: rs, 0, h => by simp [depthPs]
  | r :: rs, j + 1, h => by
    have := depthPs_take (l := rs) (j := j) (by simpa using h)
    simp only [List.take_succ_cons, depthPs, List.getElem_cons_succ]
    omega
theorem nodesPs_mono : ∀ {l : List RP} {j : Nat}, nodesPs (l.take j) ≤ nodesPs l
  | [], j => by simp
  | r :: rs, 0 => by simp [nodesPs]
  | r :: rs, j + 1 => by
    have := nodesPs_mono (l := rs) (j := j)
    simp only [List.take_succ_cons, nodesPs]
    omega
theorem RP.nodes_pos (r : RP) : 1 ≤ r.nodes := by cases r; simp only [RP.nodes]; omega
theorem nodesPs_len : ∀ l : List RP, l.length ≤ nodesPs l
  | [] => Nat.le_refl _
  | r :: rs => by have := nodesPs_len rs; have := r.nodes_pos; simp only [nodesPs, List.length_cons]; omega

def sz (n d : Nat) : T := .agg [I n, I d]

theorem t102 (a b c d : Nat) (h1 : a + c < 2 ^ 62) (h2 : b < 2 ^ 62) (h3 : d < 2 ^ 62) : DCalls Try.prog 102 [sz a b, sz c d] (sz (a + c) (max b (d + 1))) := by
  refine dcalls_low (rs := [.cell 4 123]) mixed Try.func102 l102 rfl rfl rfl (r := [sz (a + c) (max b (d + 1))]) (Nat.le_of_ble_eq_true rfl) ?_
  repeat' ((conv => whnf); first | exact trivial | refine now_T ?_ | refine aE1 ?_ | refine aE0 ?_ | refine aN1 ?_ | refine aN0 ?_ | refine aD1 ?_ | refine aD0 ?_ | refine now_E (fun hq => ?_) (fun hq => ?_) | refine now_N (fun hq => ?_) (fun hq => ?_) | refine now_D (fun hq => ?_) (fun hq => ?_) | refine rb1 ?_ | refine rb0 ?_ | refine rbx ?_ | refine rix ?_ | refine aS ?_ | fail)
  refine And.intro (congrArg some ?_) trivial
  simp (disch := omega) only [wrap_id, putL, List.take, List.drop, List.append, List.nil_append, List.cons_append]
  unfold sz I
  have e : (if (d : Int) + 1 > (b : Int) then (d : Int) + 1 else (b : Int)) = ((max b (d + 1) : Nat) : Int) := by split <;> omega
  rw [e, Int.natCast_add]

theorem t103 (N : Nat) : ∀ r : RP, r.nodes ≤ N → N < 2 ^ 60 → DCalls Try.prog 103 [.agg (cellsR r)] (sz r.nodes r.depth) := by
  induction N with
  | zero => intro r h; have := r.nodes_pos; omega
  | succ N ih =>
    rintro ⟨k, f, n, m, l⟩ hr hN
    refine dcalls_low (rs := [.cell 2 123]) mixed Try.func103 l103 rfl rfl rfl (r := [sz _ _]) (Nat.le_of_ble_eq_true rfl) ?_
    simp only [RP.nodes, RP.depth] at hr ⊢
    repeat' ((conv => whnf); first | exact trivial | refine now_T ?_ | refine aE1 ?_ | refine aE0 ?_ | refine aN1 ?_ | refine aN0 ?_ | refine aD1 ?_ | refine aD0 ?_ | refine now_E (fun hq => ?_) (fun hq => ?_) | refine now_N (fun hq => ?_) (fun hq => ?_) | refine now_D (fun hq => ?_) (fun hq => ?_) | refine rb1 ?_ | refine rb0 ?_ | refine rbx ?_ | refine rix ?_ | refine aS ?_ | fail)
    refine wpC_loop (α := Nat) (fun i => {sl := [(1, .ptr 1 0), (2, .ptr 2 0), (3, .ptr 3 0), (4, .t (I i))], bx := [(1, .d 5 (cellsR (.mk k f n m l))), (2, .d 2 [I 0, I 0]), (3, .d 2 [I (1 + nodesPs (l.take i) : Nat), I (1 + depthPs (l.take i) : Nat)])]})
      (fun i => i ≤ l.length) (fun i => l.length - i) 0 (by omega) ?_ ?_
    · repeat' (first | exact trivial | exact LeV.same _ | exact LeB.same _ | exact rfl | exact fun _ _ _ => trivial | exact lI | exact LeV.nil _ _ _ | exact lB | refine leBd ?_ | refine leOwn ?_ | refine And.intro ?_ ?_)
    rintro i hi
    rcases Nat.lt_or_ge i l.length with h | h
    · have hn := nodesPs_take h
      have hd := depthPs_take h
      have hm := nodesPs_mono (l := l) (j := i + 1)
      have hp := l[i].nodes_pos
      have hl := nodesPs_len l
      have hdn := l[i].depth_le
      have hd1 := depthPs_le (l.take i)
      repeat' ((conv => whnf); first | exact trivial | (refine now_v (.agg (cellsR l[i])) (by first | (simp [h, encR_cells]; done) | fail) ?_) | refine k_call _ (ih l[i] (by omega) (by omega)) ?_ | refine k_call _ (t102 _ _ _ _ (by omega) (by omega) (by omega)) ?_ | refine now_T ?_ | refine aE1 ?_ | refine aE0 ?_ | refine aN1 ?_ | refine aN0 ?_ | refine aD1 ?_ | refine aD0 ?_ | refine now_E (fun hq => ?_) (fun hq => ?_) | refine now_N (fun hq => ?_) (fun hq => ?_) | refine now_D (fun hq => ?_) (fun hq => ?_) | refine rb1 ?_ | refine rb0 ?_ | refine rbx ?_ | refine rix ?_ | (refine And.intro (by first | (exact cellsR_len _; done) | fail) ?_) | refine aS ?_ | fail)
      refine ⟨i + 1, by omega, by omega, ?_⟩
      repeat' (first | exact trivial | exact LeV.same _ | exact LeB.same _ | exact rfl | exact fun _ _ _ => trivial | exact lI | exact LeV.nil _ _ _ | exact lB | refine leBd ?_ | refine leOwn ?_ | refine And.intro ?_ ?_)
      rw [hn, hd, show 1 + (nodesPs (l.take i) + l[i].nodes) = 1 + nodesPs (l.take i) + l[i].nodes by omega, show 1 + max (depthPs (l.take i)) l[i].depth = max (1 + depthPs (l.take i)) (l[i].depth + 1) by omega]
      rfl
    · have : i = l.length := by omega
      subst this
      rw [List.take_length]
      repeat' ((conv => whnf); first | exact trivial | refine now_T ?_ | refine aE1 ?_ | refine aE0 ?_ | refine aN1 ?_ | refine aN0 ?_ | refine aD1 ?_ | refine aD0 ?_ | refine now_E (fun hq => ?_) (fun hq => ?_) | refine now_N (fun hq => ?_) (fun hq => ?_) | refine now_D (fun hq => ?_) (fun hq => ?_) | refine rb1 ?_ | refine rb0 ?_ | refine rbx ?_ | refine rix ?_ | refine aS ?_ | fail)
end Go.MM
end
section
/- Meaning: names. -/
namespace Go.MM
open Go Go.DL Go.Proofs
set_option maxRecDepth 100000
set_option maxHeartbeats 4000000

/-- The words that are no names. -/
def wordsL : List ByteArray := [⟨#[97, 110, 100]⟩,
  ⟨#[97, 110, 121]⟩,
  ⟨#[97, 116]⟩,
  ⟨#[98, 97, 99, 107]⟩,
  ⟨#[98, 111, 120]⟩,
  ⟨#[98, 117, 114, 115, 116]⟩,
  ⟨#[98, 121]⟩,
  ⟨#[99, 97, 112, 97, 99, 105, 116, 121]⟩,
  ⟨#[99, 101, 105, 108, 105, 110, 103]⟩,
  ⟨#[99, 104, 101, 99, 107]⟩,
  ⟨#[99, 111, 110, 116, 114, 97, 99, 116]⟩,
  ⟨#[99, 111, 117, 110, 116]⟩,
  ⟨#[100, 101, 109, 97, 110, 100]⟩,
  ⟨#[100, 114, 111, 112]⟩,
  ⟨#[101, 97, 99, 104]⟩,
  ⟨#[101, 100, 103, 101]⟩,
  ⟨#[101, 110, 116, 114, 105, 101, 115]⟩,
  ⟨#[102, 97, 108, 115, 101]⟩,
  ⟨#[102, 105, 101, 108, 100]⟩,
  ⟨#[102, 108, 111, 111, 114]⟩,
  ⟨#[102, 114, 111, 109]⟩,
  ⟨#[105, 100]⟩,
  ⟨#[105, 110]⟩,
  ⟨#[105, 110, 110, 101, 114]⟩,
  ⟨#[105, 110, 116, 111]⟩,
  ⟨#[108, 105, 110, 107]⟩,
  ⟨#[110, 101, 116, 119, 111, 114, 107]⟩,
  ⟨#[110, 111, 100, 101]⟩,
  ⟨#[110, 111, 116]⟩,
  ⟨#[111, 112, 101, 110]⟩,
  ⟨#[111, 114]⟩,
  ⟨#[112, 97, 116, 104]⟩,
  ⟨#[112, 111, 114, 116]⟩,
  ⟨#[112, 114, 105, 99, 101]⟩,
  ⟨#[114, 111, 117, 116, 101]⟩,
  ⟨#[114, 117, 108, 101, 115]⟩,
  ⟨#[115, 116, 97, 103, 101]⟩,
  ⟨#[116, 97, 107, 101]⟩,
  ⟨#[116, 101, 110, 97, 110, 116]⟩,
  ⟨#[116, 104, 101, 110]⟩,
  ⟨#[116, 105, 109, 101]⟩,
  ⟨#[116, 111]⟩,
  ⟨#[116, 111, 107, 101, 110]⟩,
  ⟨#[116, 114, 97, 110, 115, 108, 97, 116, 101]⟩,
  ⟨#[116, 114, 117, 101]⟩,
  ⟨#[118, 105, 97]⟩,
  ⟨#[119, 105, 100, 116, 104]⟩,
  ⟨#[119, 105, 114, 101]⟩,
  ⟨#[119, 105, 116, 104, 105, 110]⟩]

def letterB (c : Int) : Bool := decide (97 ≤ c) && decide (c ≤ 122)
def digitB (c : Int) : Bool := decide (48 ≤ c) && decide (c ≤ 57)
def wordB (c : Int) : Bool := letterB c || digitB c || c == 95
/-- Byte i, as a number. -/
def byteI (s : ByteArray) (i : Nat) : Int := ((s.toList[i]?.getD 0).toNat : Int)
abbrev U (n : Int) : T := .int .u8 n

theorem t110 (c : Int) : DCalls Try.prog 110 [U c] (.bool (letterB c)) := by
  refine dcalls_low (rs := [.tmp 2]) mixed Try.func110 l110 rfl rfl rfl (r := [.bool _]) (Nat.le_of_ble_eq_true rfl) ?_
  unfold letterB
  repeat' ((conv => whnf); first | exact trivial | refine now_T ?_ | refine aE1 ?_ | refine aE0 ?_ | refine aN1 ?_ | refine aN0 ?_ | refine aD1 ?_ | refine aD0 ?_ | refine now_E (fun hq => ?_) (fun hq => ?_) | refine now_N (fun hq => ?_) (fun hq => ?_) | refine now_D (fun hq => ?_) (fun hq => ?_) | refine rb1 ?_ | refine rb0 ?_ | refine rbx ?_ | refine rix ?_ | refine aS ?_ | fail)

theorem t115 (c : Int) : DCalls Try.prog 115 [U c] (.bool (digitB c)) := by
  refine dcalls_low (rs := [.tmp 2]) mixed Try.func115 l115 rfl rfl rfl (r := [.bool _]) (Nat.le_of_ble_eq_true rfl) ?_
  unfold digitB
  repeat' ((conv => whnf); first | exact trivial | refine now_T ?_ | refine aE1 ?_ | refine aE0 ?_ | refine aN1 ?_ | refine aN0 ?_ | refine aD1 ?_ | refine aD0 ?_ | refine now_E (fun hq => ?_) (fun hq => ?_) | refine now_N (fun hq => ?_) (fun hq => ?_) | refine now_D (fun hq => ?_) (fun hq => ?_) | refine rb1 ?_ | refine rb0 ?_ | refine rbx ?_ | refine rix ?_ | refine aS ?_ | fail)

theorem t114 (c : Int) : DCalls Try.prog 114 [U c] (.bool (wordB c)) := by
  refine dcalls_low (rs := [.tmp 2]) mixed Try.func114 l114 rfl rfl rfl (r := [.bool _]) (Nat.le_of_ble_eq_true rfl) ?_
  unfold wordB
  have h1 := t110 c
  have h2 := t115 c
  generalize letterB c = a at *
  generalize digitB c = b at *
  cases a <;> cases b
  all_goals repeat' ((conv => whnf); first | exact trivial | refine k_call _ (h1) ?_ | refine k_call _ (h2) ?_ | refine now_T ?_ | refine aE1 ?_ | refine aE0 ?_ | refine aN1 ?_ | refine aN0 ?_ | refine aD1 ?_ | refine aD0 ?_ | refine now_E (fun hq => ?_) (fun hq => ?_) | refine now_N (fun hq => ?_) (fun hq => ?_) | refine now_D (fun hq => ?_) (fun hq => ?_) | refine rb1 ?_ | refine rb0 ?_ | refine rbx ?_ | refine rix ?_ | refine aS ?_ | fail)

theorem t113 : DCalls Try.prog 113 [] (.slice 1 (wordsL.map .str)) := by
  refine dcalls_low (rs := [.tmp 0]) mixed Try.func113 l113 rfl rfl rfl (r := [.slice 1 (wordsL.map .str)]) (Nat.le_of_ble_eq_true rfl) ?_
  repeat' ((conv => whnf); first | exact trivial | refine now_T ?_ | refine aE1 ?_ | refine aE0 ?_ | refine aN1 ?_ | refine aN0 ?_ | refine aD1 ?_ | refine aD0 ?_ | refine now_E (fun hq => ?_) (fun hq => ?_) | refine now_N (fun hq => ?_) (fun hq => ?_) | refine now_D (fun hq => ?_) (fun hq => ?_) | refine rb1 ?_ | refine rb0 ?_ | refine rbx ?_ | refine rix ?_ | refine aS ?_ | fail)

def isWordB (s : ByteArray) : Bool := wordsL.any fun w => sameN w s
theorem t111 (s : ByteArray) : DCalls Try.prog 111 [.str s] (.bool (isWordB s)) := by
  refine dcalls_low (rs := [.tmp 2]) mixed Try.func111 l111 rfl rfl rfl (r := [.bool _]) (Nat.le_of_ble_eq_true rfl) ?_
  unfold isWordB
  have hw : wordsL.length = 49 := rfl
  have h0 := t113
  generalize wordsL = ws at *
  repeat' ((conv => whnf); first | exact trivial | refine k_call _ (h0) ?_ | refine now_T ?_ | refine aE1 ?_ | refine aE0 ?_ | refine aN1 ?_ | refine aN0 ?_ | refine aD1 ?_ | refine aD0 ?_ | refine now_E (fun hq => ?_) (fun hq => ?_) | refine now_N (fun hq => ?_) (fun hq => ?_) | refine now_D (fun hq => ?_) (fun hq => ?_) | refine rb1 ?_ | refine rb0 ?_ | refine rbx ?_ | refine rix ?_ | refine aS ?_ | fail)
  refine wpC_loop (α := Nat) (fun i => {sl := [(0, .t (.str s)), (3, .t (.slice 1 (ws.map .str))), (4, .t (I i))], bx := []})
    (fun i => i ≤ ws.length ∧ ∀ j (h : j < ws.length), j < i → sameN ws[j] s = false) (fun i => ws.length - i) 0 (by simp) ?_ ?_
  · repeat' (first | exact trivial | exact LeV.same _ | exact LeB.same _ | exact rfl | exact fun _ _ _ => trivial | exact lI | exact LeV.nil _ _ _ | exact lB | refine leBd ?_ | refine leOwn ?_ | refine And.intro ?_ ?_)
  rintro i ⟨hi, hp⟩
  rcases Nat.lt_or_ge i ws.length with h | h
  · cases hb : sameN ws[i] s with
    | true =>
      have e : (ws.any fun w => sameN w s) = true := List.any_eq_true.2 ⟨_, List.getElem_mem h, hb⟩
      rw [e]
      repeat' ((conv => whnf); first | exact trivial | (refine now_v (.str ws[i]) (by first | (simp [h]; done) | fail) ?_) | refine now_b true ((sameN_eq _ _).trans hb) ?_ | refine now_T ?_ | refine aE1 ?_ | refine aE0 ?_ | refine aN1 ?_ | refine aN0 ?_ | refine aD1 ?_ | refine aD0 ?_ | refine now_E (fun hq => ?_) (fun hq => ?_) | refine now_N (fun hq => ?_) (fun hq => ?_) | refine now_D (fun hq => ?_) (fun hq => ?_) | refine rb1 ?_ | refine rb0 ?_ | refine rbx ?_ | refine rix ?_ | refine aS ?_ | fail)
    | false =>
      repeat' ((conv => whnf); first | exact trivial | (refine now_v (.str ws[i]) (by first | (simp [h]; done) | fail) ?_) | refine now_b false ((sameN_eq _ _).trans hb) ?_ | refine now_T ?_ | refine aE1 ?_ | refine aE0 ?_ | refine aN1 ?_ | refine aN0 ?_ | refine aD1 ?_ | refine aD0 ?_ | refine now_E (fun hq => ?_) (fun hq => ?_) | refine now_N (fun hq => ?_) (fun hq => ?_) | refine now_D (fun hq => ?_) (fun hq => ?_) | refine rb1 ?_ | refine rb0 ?_ | refine rbx ?_ | refine rix ?_ | refine aS ?_ | fail)
      refine ⟨i + 1, ⟨h, fun j hj hlt => ?_⟩, by omega, ?_⟩
      · rcases Nat.lt_or_ge j i with h4 | h4
        · exact hp j hj h4
        · obtain rfl : j = i := by omega
          exact hb
      · repeat' (first | exact trivial | exact LeV.same _ | exact LeB.same _ | exact rfl | exact fun _ _ _ => trivial | exact lI | exact LeV.nil _ _ _ | exact lB | refine leBd ?_ | refine leOwn ?_ | refine And.intro ?_ ?_)
  · have e : (ws.any fun w => sameN w s) = false := by
      rw [List.any_eq_false]
      intro w hw
      obtain ⟨j, hj, rfl⟩ := List.getElem_of_mem hw
      simp [hp j hj (by omega)]
    rw [e]
    repeat' ((conv => whnf); first | exact trivial | refine now_T ?_ | refine aE1 ?_ | refine aE0 ?_ | refine aN1 ?_ | refine aN0 ?_ | refine aD1 ?_ | refine aD0 ?_ | refine now_E (fun hq => ?_) (fun hq => ?_) | refine now_N (fun hq => ?_) (fun hq => ?_) | refine now_D (fun hq => ?_) (fun hq => ?_) | refine rb1 ?_ | refine rb0 ?_ | refine rbx ?_ | refine rix ?_ | refine aS ?_ | fail)

/-- How many bytes of a word stand at the beginning. -/
def runL : List UInt8 → Nat
  | [] => 0
  | b :: bs => if wordB (b.toNat : Int) then 1 + runL bs else 0
theorem runL_spec : ∀ {l : List UInt8} {n : Nat}, n ≤ l.length → (∀ j, j < n → wordB ((l[j]?.getD 0).toNat : Int) = true) → (n = l.length ∨ wordB ((l[n]?.getD 0).toNat : Int) = false) → runL l = n
  | [], n, hn, _, _ => by simp at hn; simp [runL, hn]
  | b :: bs, 0, hn, _, h => by
    rcases h with h | h
    · simp at h
    · simp at h; simp [runL, h]
  | b :: bs, n + 1, hn, hp, h => by
    have h0 := hp 0 (by omega)
    simp at h0
    have := runL_spec (l := bs) (n := n) (by simpa using hn) (fun j hj => by simpa using hp (j + 1) (by omega)) (by simpa using h)
    simp [runL, h0, this]; omega
theorem size_toList (s : ByteArray) : s.toList.length = s.size := by rw [ByteArray.toList_eq]; rfl

theorem t112 (s : ByteArray) (hs : s.size < 2 ^ 62) : DCalls Try.prog 112 [.str s] (I (runL s.toList)) := by
  refine dcalls_low (rs := [.tmp 2]) mixed Try.func112 l112 rfl rfl rfl (r := [.int _ _]) (Nat.le_of_ble_eq_true rfl) ?_
  have hl := size_toList s
  repeat' ((conv => whnf); first | exact trivial | refine now_T ?_ | refine aE1 ?_ | refine aE0 ?_ | refine aN1 ?_ | refine aN0 ?_ | refine aD1 ?_ | refine aD0 ?_ | refine now_E (fun hq => ?_) (fun hq => ?_) | refine now_N (fun hq => ?_) (fun hq => ?_) | refine now_D (fun hq => ?_) (fun hq => ?_) | refine rb1 ?_ | refine rb0 ?_ | refine rbx ?_ | refine rix ?_ | refine aS ?_ | fail)
  refine wpC_loop (α := Nat) (fun i => {sl := [(0, .t (.str s)), (3, .t (I i))], bx := []})
    (fun i => i ≤ s.size ∧ ∀ j, j < i → wordB (byteI s j) = true) (fun i => s.size - i) 0 (by simp) ?_ ?_
  · repeat' (first | exact trivial | exact LeV.same _ | exact LeB.same _ | exact rfl | exact fun _ _ _ => trivial | exact lI | exact LeV.nil _ _ _ | exact lB | refine leBd ?_ | refine leOwn ?_ | refine And.intro ?_ ?_)
  rintro i ⟨hi, hp⟩
  rcases Nat.lt_or_ge i s.size with h | h
  · have h0 := t114 (byteI s i)
    cases hb : wordB (byteI s i) with
    | true =>
      rw [hb] at h0
      repeat' ((conv => whnf); first | exact trivial | refine vx (U (byteI s i)) ?_ | refine k_call _ (h0) ?_ | refine now_T ?_ | refine aE1 ?_ | refine aE0 ?_ | refine aN1 ?_ | refine aN0 ?_ | refine aD1 ?_ | refine aD0 ?_ | refine now_E (fun hq => ?_) (fun hq => ?_) | refine now_N (fun hq => ?_) (fun hq => ?_) | refine now_D (fun hq => ?_) (fun hq => ?_) | refine rb1 ?_ | refine rb0 ?_ | refine rbx ?_ | refine rix ?_ | refine aS ?_ | fail)
      refine ⟨i + 1, ⟨h, fun j hj => ?_⟩, by omega, ?_⟩
      · rcases Nat.lt_or_ge j i with h4 | h4
        · exact hp j h4
        · obtain rfl : j = i := by omega
          exact hb
      · repeat' (first | exact trivial | exact LeV.same _ | exact LeB.same _ | exact rfl | exact fun _ _ _ => trivial | exact lI | exact LeV.nil _ _ _ | exact lB | refine leBd ?_ | refine leOwn ?_ | refine And.intro ?_ ?_)
    | false =>
      rw [hb] at h0
      have e : runL s.toList = i := runL_spec (by omega) hp (.inr hb)
      rw [e]
      repeat' ((conv => whnf); first | exact trivial | refine vx (U (byteI s i)) ?_ | refine k_call _ (h0) ?_ | refine now_T ?_ | refine aE1 ?_ | refine aE0 ?_ | refine aN1 ?_ | refine aN0 ?_ | refine aD1 ?_ | refine aD0 ?_ | refine now_E (fun hq => ?_) (fun hq => ?_) | refine now_N (fun hq => ?_) (fun hq => ?_) | refine now_D (fun hq => ?_) (fun hq => ?_) | refine rb1 ?_ | refine rb0 ?_ | refine rbx ?_ | refine rix ?_ | refine aS ?_ | fail)
  · have e : runL s.toList = i := runL_spec (by omega) hp (.inl (by omega))
    rw [e]
    repeat' ((conv => whnf); first | exact trivial | refine now_T ?_ | refine aE1 ?_ | refine aE0 ?_ | refine aN1 ?_ | refine aN0 ?_ | refine aD1 ?_ | refine aD0 ?_ | refine now_E (fun hq => ?_) (fun hq => ?_) | refine now_N (fun hq => ?_) (fun hq => ?_) | refine now_D (fun hq => ?_) (fun hq => ?_) | refine rb1 ?_ | refine rb0 ?_ | refine rbx ?_ | refine rix ?_ | refine aS ?_ | fail)

def plainB (s : ByteArray) : Bool := decide (0 < s.size) && decide (s.size ≤ 24) && letterB (byteI s 0) && (runL s.toList == s.size) && !isWordB s
theorem t109 (s : ByteArray) (hs : s.size < 2 ^ 62) : DCalls Try.prog 109 [.str s] (.bool (plainB s)) := by
  refine dcalls_low (rs := [.tmp 2]) mixed Try.func109 l109 rfl rfl rfl (r := [.bool _]) (Nat.le_of_ble_eq_true rfl) ?_
  unfold plainB
  have h1 := t110 (byteI s 0)
  have h2 := t111 s
  have h3 := t112 s hs
  generalize letterB (byteI s 0) = a at *
  generalize isWordB s = w at *
  generalize runL s.toList = n at *
  by_cases hz : s.size = 0
  · simp [hz]
    repeat' ((conv => whnf); first | exact trivial | refine now_T ?_ | refine aE1 ?_ | refine aE0 ?_ | refine aN1 ?_ | refine aN0 ?_ | refine aD1 ?_ | refine aD0 ?_ | refine now_E (fun hq => ?_) (fun hq => ?_) | refine now_N (fun hq => ?_) (fun hq => ?_) | refine now_D (fun hq => ?_) (fun hq => ?_) | refine rb1 ?_ | refine rb0 ?_ | refine rbx ?_ | refine rix ?_ | refine aS ?_ | fail)
  · by_cases h24 : s.size ≤ 24
    · simp [h24, show 0 < s.size by omega]
      cases a <;> cases w <;> repeat' ((conv => whnf); first | exact trivial | refine vx (U (byteI s 0)) ?_ | refine k_call _ (h1) ?_ | refine k_call _ (h2) ?_ | refine k_call _ (h3) ?_ | refine now_T ?_ | refine aE1 ?_ | refine aE0 ?_ | refine aN1 ?_ | refine aN0 ?_ | refine aD1 ?_ | refine aD0 ?_ | refine now_E (fun hq => ?_) (fun hq => ?_) | refine now_N (fun hq => ?_) (fun hq => ?_) | refine now_D (fun hq => ?_) (fun hq => ?_) | refine rb1 ?_ | refine rb0 ?_ | refine rbx ?_ | refine rix ?_ | refine aS ?_ | fail)
    · simp [h24]
      repeat' ((conv => whnf); first | exact trivial | refine now_T ?_ | refine aE1 ?_ | refine aE0 ?_ | refine aN1 ?_ | refine aN0 ?_ | refine aD1 ?_ | refine aD0 ?_ | refine now_E (fun hq => ?_) (fun hq => ?_) | refine now_N (fun hq => ?_) (fun hq => ?_) | refine now_D (fun hq => ?_) (fun hq => ?_) | refine rb1 ?_ | refine rb0 ?_ | refine rbx ?_ | refine rix ?_ | refine aS ?_ | fail)

theorem t108 (s : ByteArray) (hs : s.size < 2 ^ 62) : DCalls Try.prog 108 [.str s] (.bool (plainB s)) := by
  refine dcalls_low (rs := [.tmp 2]) mixed Try.func108 l108 rfl rfl rfl (r := [.bool _]) (Nat.le_of_ble_eq_true rfl) ?_
  have h1 := t109 s hs
  repeat' ((conv => whnf); first | exact trivial | refine k_call _ (h1) ?_ | refine now_T ?_ | refine aE1 ?_ | refine aE0 ?_ | refine aN1 ?_ | refine aN0 ?_ | refine aD1 ?_ | refine aD0 ?_ | refine now_E (fun hq => ?_) (fun hq => ?_) | refine now_N (fun hq => ?_) (fun hq => ?_) | refine now_D (fun hq => ?_) (fun hq => ?_) | refine rb1 ?_ | refine rb0 ?_ | refine rbx ?_ | refine rix ?_ | refine aS ?_ | fail)

def namedB (s : ByteArray) : Bool := plainB s || sameN s portN
theorem t104 (s : ByteArray) (hs : s.size < 2 ^ 62) : DCalls Try.prog 104 [.str s] (.bool (namedB s)) := by
  refine dcalls_low (rs := [.tmp 2]) mixed Try.func104 l104 rfl rfl rfl (r := [.bool _]) (Nat.le_of_ble_eq_true rfl) ?_
  have h1 := t108 s hs
  unfold namedB
  have h2 := sameN_eq s portN
  generalize plainB s = a at *
  generalize sameN s portN = b at *
  cases a <;> cases b <;> repeat' ((conv => whnf); first | exact trivial | refine k_call _ (h1) ?_ | refine now_b _ h2 ?_ | refine now_T ?_ | refine aE1 ?_ | refine aE0 ?_ | refine aN1 ?_ | refine aN0 ?_ | refine aD1 ?_ | refine aD0 ?_ | refine now_E (fun hq => ?_) (fun hq => ?_) | refine now_N (fun hq => ?_) (fun hq => ?_) | refine now_D (fun hq => ?_) (fun hq => ?_) | refine rb1 ?_ | refine rb0 ?_ | refine rbx ?_ | refine rix ?_ | refine aS ?_ | fail)
end Go.MM
end
section
/- Meaning: what is formed. -/
namespace Go.MM
open Go Go.DL Go.Proofs
set_option maxRecDepth 100000
set_option maxHeartbeats 8000000

abbrev e0 : ByteArray := ⟨#[]⟩
def emptyP : RP → Bool
  | .mk k f n m a => (k == 0) && sameN f e0 && (n == 0) && (m == 0) && (a.length == 0)

theorem t105 (r : RP) : DCalls Try.prog 105 [.agg (cellsR r), .agg [I 0, .str e0, I 0, I 0, .nil]] (.bool (emptyP r)) := by
  obtain ⟨k, f, n, m, l⟩ := r
  refine dcalls_low (rs := [.tmp 4]) mixed Try.func105 l105 rfl rfl rfl (r := [.bool _]) (Nat.le_of_ble_eq_true rfl) ?_
  simp only [emptyP]
  have h2 := sameN_eq f e0
  generalize sameN f e0 = b at *
  cases l <;> repeat' ((conv => whnf); first | exact trivial | refine now_b (!b) (congrArg _ h2) ?_ | refine now_T ?_ | refine aE1 ?_ | refine aE0 ?_ | refine aN1 ?_ | refine aN0 ?_ | refine aD1 ?_ | refine aD0 ?_ | refine now_E (fun hq => ?_) (fun hq => ?_) | refine now_N (fun hq => ?_) (fun hq => ?_) | refine now_D (fun hq => ?_) (fun hq => ?_) | refine rb1 ?_ | refine rb0 ?_ | refine rbx ?_ | refine rix ?_ | refine aS ?_ | (cases b) | fail)
  refine wpC_loop (α := Unit) (fun _ => {sl := [(2, .ptr 2 0), (3, .ptr 3 0), (5, .t (I 0))], bx := [(2, .d 5 (cellsR (.mk k f n m []))), (3, .d 5 [I 0, .str e0, I 0, I 0, .nil])]}) (fun _ => True) (fun _ => 0) () trivial ?_ ?_
  · repeat' (first | exact trivial | exact LeV.same _ | exact LeB.same _ | exact rfl | exact fun _ _ _ => trivial | exact lI | exact LeV.nil _ _ _ | exact lB | refine leBd ?_ | refine leOwn ?_ | refine And.intro ?_ ?_)
  rintro _ _
  repeat' ((conv => whnf); first | exact trivial | refine now_T ?_ | refine aE1 ?_ | refine aE0 ?_ | refine aN1 ?_ | refine aN0 ?_ | refine aD1 ?_ | refine aD0 ?_ | refine now_E (fun hq => ?_) (fun hq => ?_) | refine now_N (fun hq => ?_) (fun hq => ?_) | refine now_D (fun hq => ?_) (fun hq => ?_) | refine rb1 ?_ | refine rb0 ?_ | refine rbx ?_ | refine rix ?_ | refine aS ?_ | fail)

def oneB (n : Int) : Bool := decide (0 ≤ n) && decide (n ≤ 65535)
def noneB (f : ByteArray) (n m : Int) : Bool := sameN f e0 && (n == 0) && (m == 0)
def argsP (k : Int) : Nat := if k = 6 then 1 else if k = 7 ∨ k = 8 then 2 else 0
def okP (k : Int) (f : ByteArray) (n m : Int) : Bool :=
  if k = 1 ∨ k = 2 then noneB f n m
  else if k = 3 then namedB f && oneB n && (m == 0)
  else if k = 4 then namedB f && oneB n && decide (0 ≤ m) && decide (m ≤ 16)
  else if k = 5 then namedB f && decide (0 ≤ n) && decide (n ≤ m) && decide (m ≤ 65535)
  else if k = 6 ∨ k = 7 ∨ k = 8 then noneB f n m
  else if k = 9 then sameN f e0 && decide (0 ≤ n) && decide (n < m) && decide (m ≤ 1073741824)
  else false

mutual
def formedP : RP → Bool
  | .mk k f n m a => okP k f n m && (a.length == argsP k) && formedPs a
def formedPs : List RP → Bool
  | [] => true
  | r :: rs => formedP r && formedPs rs
end
theorem formedPs_get : ∀ {l : List RP}, formedPs l = true ↔ ∀ (i : Nat) (h : i < l.length), formedP l[i] = true
  | [] => by simp [formedPs]
  | r :: rs => by
    simp only [formedPs, Bool.and_eq_true, formedPs_get (l := rs)]
    constructor
    · rintro ⟨h0, h⟩ i hi
      cases i with
      | zero => exact h0
      | succ i => simpa using h i (by simpa using hi)
    · intro h
      exact ⟨h 0 (by simp), fun i hi => h (i + 1) (by simpa using hi)⟩

mutual
/-- All names are short. -/
def namesP : RP → Prop
  | .mk _ f _ _ a => f.size < 2 ^ 62 ∧ namesPs a
def namesPs : List RP → Prop
  | [] => True
  | r :: rs => namesP r ∧ namesPs rs
end
theorem namesPs_get : ∀ {l : List RP}, namesPs l → ∀ (i : Nat) (h : i < l.length), namesP l[i]
  | [], _, i, h => by simp at h
  | r :: rs, h, i, hi => by
    cases i with
    | zero => exact h.1
    | succ i => simpa using namesPs_get h.2 i (by simpa using hi)

theorem t106 (N : Nat) : ∀ r : RP, r.nodes ≤ N → N < 2 ^ 60 → namesP r → DCalls Try.prog 106 [.agg (cellsR r)] (.bool (formedP r)) := by
  induction N with
  | zero => intro r h; have := r.nodes_pos; omega
  | succ N ih =>
    rintro ⟨k, f, n, m, l⟩ hr hN hnm
    refine dcalls_low (rs := [.tmp 2]) mixed Try.func106 l106 rfl rfl rfl (r := [.bool _]) (Nat.le_of_ble_eq_true rfl) ?_
    simp only [RP.nodes, formedP] at hr ⊢
    have h104 := t104 f hnm.1
    repeat' ((conv => whnf); first | exact trivial | refine k_call _ (h104) ?_ | refine now_T ?_ | refine aE1 ?_ | refine aE0 ?_ | refine aN1 ?_ | refine aN0 ?_ | refine aD1 ?_ | refine aD0 ?_ | refine now_E (fun hq => ?_) (fun hq => ?_) | refine now_N (fun hq => ?_) (fun hq => ?_) | refine now_D (fun hq => ?_) (fun hq => ?_) | refine rb1 ?_ | refine rb0 ?_ | refine rbx ?_ | refine rix ?_ | refine aS ?_ | fail)
    refine wpC_cut (β := Unit) (fun _ => {sl := [(1, .ptr 1 0), (3, .t (.bool (namedB f))), (4, .t (.bool (oneB n)))], bx := [(1, .d 5 (cellsR (.mk k f n m l)))]}) (fun _ => True) ?_ ?_
    · repeat' ((conv => whnf); first | exact trivial | refine now_T ?_ | refine aE1 ?_ | refine aE0 ?_ | refine aN1 ?_ | refine aN0 ?_ | refine aD1 ?_ | refine aD0 ?_ | refine now_E (fun hq => ?_) (fun hq => ?_) | refine now_N (fun hq => ?_) (fun hq => ?_) | refine now_D (fun hq => ?_) (fun hq => ?_) | refine rb1 ?_ | refine rb0 ?_ | refine rbx ?_ | refine rix ?_ | refine aS ?_ | fail)
      all_goals refine ⟨(), trivial, ?_⟩
      all_goals unfold oneB
      all_goals repeat' (first | exact trivial | exact LeV.same _ | exact LeB.same _ | exact rfl | exact fun _ _ _ => trivial | exact lI | exact LeV.nil _ _ _ | exact lB | refine leBd ?_ | refine leOwn ?_ | refine And.intro ?_ ?_)
    rintro _ _
    repeat' ((conv => whnf); first | exact trivial | refine now_T ?_ | refine aE1 ?_ | refine aE0 ?_ | refine aN1 ?_ | refine aN0 ?_ | refine aD1 ?_ | refine aD0 ?_ | refine now_E (fun hq => ?_) (fun hq => ?_) | refine now_N (fun hq => ?_) (fun hq => ?_) | refine now_D (fun hq => ?_) (fun hq => ?_) | refine rb1 ?_ | refine rb0 ?_ | refine rbx ?_ | refine rix ?_ | refine aS ?_ | fail)
    refine wpC_cut (β := Unit) (fun _ => {sl := [(1, .ptr 1 0), (3, .t (.bool (namedB f))), (4, .t (.bool (oneB n))), (5, .t (.bool (noneB f n m)))], bx := [(1, .d 5 (cellsR (.mk k f n m l)))]}) (fun _ => True) ?_ ?_
    · unfold noneB
      have h2 := sameN_eq f e0
      generalize sameN f e0 = b at *
      repeat' ((conv => whnf); first | exact trivial | refine now_b b h2 ?_ | (exact ⟨(), trivial, by (repeat' (first | exact trivial | exact LeV.same _ | exact LeB.same _ | exact rfl | exact fun _ _ _ => trivial | exact lI | exact LeV.nil _ _ _ | exact lB | refine leBd ?_ | refine leOwn ?_ | refine And.intro ?_ ?_)); done⟩) | refine now_T ?_ | refine aE1 ?_ | refine aE0 ?_ | refine aN1 ?_ | refine aN0 ?_ | refine aD1 ?_ | refine aD0 ?_ | refine now_E (fun hq => ?_) (fun hq => ?_) | refine now_N (fun hq => ?_) (fun hq => ?_) | refine now_D (fun hq => ?_) (fun hq => ?_) | refine rb1 ?_ | refine rb0 ?_ | refine rbx ?_ | refine rix ?_ | refine aS ?_ | (cases b) | fail)
    rintro _ _
    repeat' ((conv => whnf); first | exact trivial | refine now_T ?_ | refine aE1 ?_ | refine aE0 ?_ | refine aN1 ?_ | refine aN0 ?_ | refine aD1 ?_ | refine aD0 ?_ | refine now_E (fun hq => ?_) (fun hq => ?_) | refine now_N (fun hq => ?_) (fun hq => ?_) | refine now_D (fun hq => ?_) (fun hq => ?_) | refine rb1 ?_ | refine rb0 ?_ | refine rbx ?_ | refine rix ?_ | refine aS ?_ | fail)
    refine wpC_cut (β := Unit) (fun _ => {sl := [(1, .ptr 1 0), (6, .t (I (argsP k))), (7, .t (.bool (okP k f n m)))], bx := [(1, .d 5 (cellsR (.mk k f n m l)))]}) (fun _ => True) ?_ ?_
    · have h2 := sameN_eq f e0
      unfold okP argsP
      generalize namedB f = a at *
      generalize oneB n = b at *
      generalize noneB f n m = c at *
      generalize sameN f e0 = d at *
      repeat' ((conv => whnf); first | exact trivial | refine now_b d h2 ?_ | (exact ⟨(), trivial, by (repeat' (first | exact trivial | exact LeV.same _ | exact LeB.same _ | exact rfl | exact fun _ _ _ => trivial | exact lI | exact LeV.nil _ _ _ | exact lB | refine leBd ?_ | refine leOwn ?_ | refine And.intro ?_ ?_)); done⟩) | refine now_T ?_ | refine aE1 ?_ | refine aE0 ?_ | refine aN1 ?_ | refine aN0 ?_ | refine aD1 ?_ | refine aD0 ?_ | refine now_E (fun hq => ?_) (fun hq => ?_) | refine now_N (fun hq => ?_) (fun hq => ?_) | refine now_D (fun hq => ?_) (fun hq => ?_) | refine rb1 ?_ | refine rb0 ?_ | refine rbx ?_ | refine rix ?_ | refine aS ?_ | (cases a) | (cases b) | (cases d) | fail)
    rintro _ _
    generalize okP k f n m = ok at *
    cases ok with
    | false => repeat' ((conv => whnf); first | exact trivial | refine now_T ?_ | refine aE1 ?_ | refine aE0 ?_ | refine aN1 ?_ | refine aN0 ?_ | refine aD1 ?_ | refine aD0 ?_ | refine now_E (fun hq => ?_) (fun hq => ?_) | refine now_N (fun hq => ?_) (fun hq => ?_) | refine now_D (fun hq => ?_) (fun hq => ?_) | refine rb1 ?_ | refine rb0 ?_ | refine rbx ?_ | refine rix ?_ | refine aS ?_ | fail)
    | true =>
    by_cases hlen : l.length = argsP k
    · have e : (true && (l.length == argsP k) && formedPs l) = formedPs l := by simp [hlen]
      rw [e, ← hlen]
      have hnp := nodesPs_len l
      repeat' ((conv => whnf); first | exact trivial | refine now_T ?_ | refine aE1 ?_ | refine aE0 ?_ | refine aN1 ?_ | refine aN0 ?_ | refine aD1 ?_ | refine aD0 ?_ | refine now_E (fun hq => ?_) (fun hq => ?_) | refine now_N (fun hq => ?_) (fun hq => ?_) | refine now_D (fun hq => ?_) (fun hq => ?_) | refine rb1 ?_ | refine rb0 ?_ | refine rbx ?_ | refine rix ?_ | refine aS ?_ | fail)
      refine wpC_loop (α := Nat) (fun i => {sl := [(1, .ptr 1 0), (6, .t (I l.length)), (8, .t (I i))], bx := [(1, .d 5 (cellsR (.mk k f n m l)))]})
        (fun i => i ≤ l.length ∧ ∀ j (h : j < l.length), j < i → formedP l[j] = true) (fun i => l.length - i) 0 (by simp) ?_ ?_
      · repeat' (first | exact trivial | exact LeV.same _ | exact LeB.same _ | exact rfl | exact fun _ _ _ => trivial | exact lI | exact LeV.nil _ _ _ | exact lB | refine leBd ?_ | refine leOwn ?_ | refine And.intro ?_ ?_)
      rintro i ⟨hi, hp⟩
      rcases Nat.lt_or_ge i l.length with h | h
      · have hn := nodesPs_take h
        have hm := nodesPs_mono (l := l) (j := i + 1)
        have hc := ih l[i] (by omega) (by omega) (namesPs_get hnm.2 i h)
        cases hb : formedP l[i] with
        | true =>
          rw [hb] at hc
          repeat' ((conv => whnf); first | exact trivial | (refine now_v (.agg (cellsR l[i])) (by first | (simp [h, encR_cells]; done) | fail) ?_) | refine k_call _ (hc) ?_ | refine now_T ?_ | refine aE1 ?_ | refine aE0 ?_ | refine aN1 ?_ | refine aN0 ?_ | refine aD1 ?_ | refine aD0 ?_ | refine now_E (fun hq => ?_) (fun hq => ?_) | refine now_N (fun hq => ?_) (fun hq => ?_) | refine now_D (fun hq => ?_) (fun hq => ?_) | refine rb1 ?_ | refine rb0 ?_ | refine rbx ?_ | refine rix ?_ | (refine And.intro (by first | (exact cellsR_len _; done) | fail) ?_) | refine aS ?_ | fail)
          refine ⟨i + 1, ⟨h, fun j hj hlt => ?_⟩, by omega, ?_⟩
          · rcases Nat.lt_or_ge j i with h4 | h4
            · exact hp j hj h4
            · obtain rfl : j = i := by omega
              exact hb
          · repeat' (first | exact trivial | exact LeV.same _ | exact LeB.same _ | exact rfl | exact fun _ _ _ => trivial | exact lI | exact LeV.nil _ _ _ | exact lB | refine leBd ?_ | refine leOwn ?_ | refine And.intro ?_ ?_)
        | false =>
          rw [hb] at hc
          have e2 : formedPs l = false := by
            cases hx : formedPs l with
            | false => rfl
            | true => rw [formedPs_get.1 hx i h] at hb; cases hb
          rw [e2]
          repeat' ((conv => whnf); first | exact trivial | (refine now_v (.agg (cellsR l[i])) (by first | (simp [h, encR_cells]; done) | fail) ?_) | refine k_call _ (hc) ?_ | refine now_T ?_ | refine aE1 ?_ | refine aE0 ?_ | refine aN1 ?_ | refine aN0 ?_ | refine aD1 ?_ | refine aD0 ?_ | refine now_E (fun hq => ?_) (fun hq => ?_) | refine now_N (fun hq => ?_) (fun hq => ?_) | refine now_D (fun hq => ?_) (fun hq => ?_) | refine rb1 ?_ | refine rb0 ?_ | refine rbx ?_ | refine rix ?_ | (refine And.intro (by first | (exact cellsR_len _; done) | fail) ?_) | refine aS ?_ | fail)
      · have e2 : formedPs l = true := formedPs_get.2 fun j hj => hp j hj (by omega)
        rw [e2]
        repeat' ((conv => whnf); first | exact trivial | refine now_T ?_ | refine aE1 ?_ | refine aE0 ?_ | refine aN1 ?_ | refine aN0 ?_ | refine aD1 ?_ | refine aD0 ?_ | refine now_E (fun hq => ?_) (fun hq => ?_) | refine now_N (fun hq => ?_) (fun hq => ?_) | refine now_D (fun hq => ?_) (fun hq => ?_) | refine rb1 ?_ | refine rb0 ?_ | refine rbx ?_ | refine rix ?_ | refine aS ?_ | fail)
    · have e : (true && (l.length == argsP k) && formedPs l) = false := by simp [hlen]
      rw [e]
      repeat' ((conv => whnf); first | exact trivial | refine now_T ?_ | refine aE1 ?_ | refine aE0 ?_ | refine aN1 ?_ | refine aN0 ?_ | refine aD1 ?_ | refine aD0 ?_ | refine now_E (fun hq => ?_) (fun hq => ?_) | refine now_N (fun hq => ?_) (fun hq => ?_) | refine now_D (fun hq => ?_) (fun hq => ?_) | refine rb1 ?_ | refine rb0 ?_ | refine rbx ?_ | refine rix ?_ | refine aS ?_ | fail)
end Go.MM
end
section
/- Meaning: sizes and forms of policies. -/
namespace Go.MM
open Go Go.DL Go.Proofs
set_option maxRecDepth 100000
set_option maxHeartbeats 8000000

mutual
/-- All nodes, those of predicates too. -/
def RO.wt : RO → Nat
  | .mk _ p _ _ a => 1 + p.nodes + wtSs a
def wtSs : List RO → Nat
  | [] => 0
  | r :: rs => r.wt + wtSs rs
end
mutual
def RO.size : RO → Nat
  | .mk k p _ _ a => 1 + (if k = 1 then p.nodes else 0) + sizeSs a
def sizeSs : List RO → Nat
  | [] => 0
  | r :: rs => r.size + sizeSs rs
end
mutual
def RO.deep : RO → Nat
  | .mk k p _ _ a => 1 + max (if k = 1 then p.depth else 0) (deepSs a)
def deepSs : List RO → Nat
  | [] => 0
  | r :: rs => max r.deep (deepSs rs)
end
mutual
theorem RO.size_le : ∀ r : RO, r.size ≤ r.wt
  | .mk k p _ _ a => by have := sizeSs_le a; simp only [RO.size, RO.wt]; split <;> omega
theorem sizeSs_le : ∀ l : List RO, sizeSs l ≤ wtSs l
  | [] => Nat.le_refl _
  | r :: rs => by have := RO.size_le r; have := sizeSs_le rs; simp only [sizeSs, wtSs]; omega
end
mutual
theorem RO.deep_le : ∀ r : RO, r.deep ≤ r.wt
  | .mk k p _ _ a => by have := deepSs_le a; have := p.depth_le; simp only [RO.deep, RO.wt]; split <;> omega
theorem deepSs_le : ∀ l : List RO, deepSs l ≤ wtSs l
  | [] => Nat.le_refl _
  | r :: rs => by have := RO.deep_le r; have := deepSs_le rs; simp only [deepSs, wtSs]; omega
end
theorem wtSs_take : ∀ {l : List RO} {j : Nat} (h : j < l.length), wtSs (l.take (j + 1)) = wtSs (l.take j) + l[j].wt
  | r :: rs, 0, h => by simp [wtSs]
  | r :: rs, j + 1, h => by
    have := wtSs_take (l := rs) (j := j) (by simpa using h)
    simp only [List.take_succ_cons, wtSs, List.getElem_cons_succ]
    omega
theorem sizeSs_take : ∀ {l : List RO} {j : Nat} (h : j < l.length), sizeSs (l.take (j + 1)) = sizeSs (l.take j) + l[j].size
  | r :: rs, 0, h => by simp [sizeSs]
  | r :: rs, j + 1, h => by
    have := sizeSs_take (l := rs) (j := j) (by simpa using h)
    simp only [List.take_succ_cons, sizeSs, List.getElem_cons_succ]
    omega
theorem deepSs_take : ∀ {l : List RO} {j : Nat} (h : j < l.length), deepSs (l.take (j + 1)) = max (deepSs (l.take j)) l[j].deep
  | r :: rs, 0, h => by simp [deepSs]
  | r :: rs, j + 1, h => by
    have := deepSs_take (l := rs) (j := j) (by simpa using h)
    simp only [List.take_succ_cons, deepSs, List.getElem_cons_succ]
    omega
theorem wtSs_mono : ∀ {l : List RO} {j : Nat}, wtSs (l.take j) ≤ wtSs l
  | [], j => by simp
  | r :: rs, 0 => by simp [wtSs]
  | r :: rs, j + 1 => by
    have := wtSs_mono (l := rs) (j := j)
    simp only [List.take_succ_cons, wtSs]
    omega
theorem RO.wt_pos (r : RO) : 1 ≤ r.wt := by cases r; simp only [RO.wt]; omega
theorem wtSs_len : ∀ l : List RO, l.length ≤ wtSs l
  | [] => Nat.le_refl _
  | r :: rs => by have := wtSs_len rs; have := r.wt_pos; simp only [wtSs, List.length_cons]; omega

theorem two {a b c d : Nat} (h1 : a = c) (h2 : b = d) : [I (a : Int), I (b : Int)] = [I (c : Int), I (d : Int)] := by rw [h1, h2]

theorem t89 (N : Nat) : ∀ r : RO, r.wt ≤ N → N < 2 ^ 60 → DCalls Try.prog 89 [.agg (cellsS r)] (sz r.size r.deep) := by
  induction N with
  | zero => intro r h; have := r.wt_pos; omega
  | succ N ih =>
    rintro ⟨k, ⟨pk, pf, pn, pm, pa⟩, f, n, l⟩ hr hN
    refine dcalls_low (rs := [.cell 2 123]) mixed Try.func89 l89 rfl rfl rfl (r := [sz _ _]) (Nat.le_of_ble_eq_true rfl) ?_
    simp only [RO.size, RO.deep, RO.wt] at hr ⊢
    have h103 := t103 _ (.mk pk pf pn pm pa) (Nat.le_refl _) (by omega)
    have hpd := (RP.mk pk pf pn pm pa).depth_le
    have hlen := wtSs_len l
    by_cases hk : k = 1
    · simp only [hk, if_true]
      repeat' ((conv => whnf); first | exact trivial | refine k_call _ (h103) ?_ | refine k_call _ (t102 1 1 _ _ (by omega) (by omega) (by omega)) ?_ | refine now_T ?_ | refine aE1 ?_ | refine aE0 ?_ | refine aN1 ?_ | refine aN0 ?_ | refine aD1 ?_ | refine aD0 ?_ | refine now_E (fun hq => ?_) (fun hq => ?_) | refine now_N (fun hq => ?_) (fun hq => ?_) | refine now_D (fun hq => ?_) (fun hq => ?_) | refine rb1 ?_ | refine rb0 ?_ | refine rbx ?_ | refine rix ?_ | refine aS ?_ | fail)
      refine wpC_loop (α := Nat) (fun i => {sl := [(1, .ptr 1 0), (2, .ptr 2 0), (3, .ptr 3 0), (4, .t (I i))], bx := [(1, .d 9 (cellsS (.mk 1 (.mk pk pf pn pm pa) f n l))), (2, .d 2 [I 0, I 0]), (3, .d 2 [I (1 + (RP.mk pk pf pn pm pa).nodes + sizeSs (l.take i) : Nat), I (1 + max (RP.mk pk pf pn pm pa).depth (deepSs (l.take i)) : Nat)])]})
        (fun i => i ≤ l.length) (fun i => l.length - i) 0 (by omega) ?_ ?_
      · repeat' (first | exact trivial | exact LeV.same _ | exact LeB.same _ | exact rfl | exact fun _ _ _ => trivial | exact lI | exact LeV.nil _ _ _ | exact lB | refine leBd ?_ | refine leOwn ?_ | refine And.intro ?_ ?_)
        all_goals exact two (by simp [sizeSs]) (by simp [deepSs]; try omega)
      rintro i hi
      rcases Nat.lt_or_ge i l.length with h | h
      · have hn := sizeSs_take h
        have hd := deepSs_take h
        have hw := wtSs_take h
        have hm := wtSs_mono (l := l) (j := i + 1)
        have hp := l[i].wt_pos
        have h1 := l[i].size_le
        have h2 := l[i].deep_le
        have h3 := deepSs_le (l.take i)
        have h4 := sizeSs_le (l.take i)
        repeat' ((conv => whnf); first | exact trivial | (refine now_v (.agg (cellsS l[i])) (by first | (simp [h, encS_cells]; done) | fail) ?_) | refine k_call _ (ih l[i] (by omega) (by omega)) ?_ | refine k_call _ (t102 _ _ _ _ (by omega) (by omega) (by omega)) ?_ | refine now_T ?_ | refine aE1 ?_ | refine aE0 ?_ | refine aN1 ?_ | refine aN0 ?_ | refine aD1 ?_ | refine aD0 ?_ | refine now_E (fun hq => ?_) (fun hq => ?_) | refine now_N (fun hq => ?_) (fun hq => ?_) | refine now_D (fun hq => ?_) (fun hq => ?_) | refine rb1 ?_ | refine rb0 ?_ | refine rbx ?_ | refine rix ?_ | (refine And.intro (by first | (exact cellsS_len _; done) | fail) ?_) | refine aS ?_ | fail)
        refine ⟨i + 1, by omega, by omega, ?_⟩
        repeat' (first | exact trivial | exact LeV.same _ | exact LeB.same _ | exact rfl | exact fun _ _ _ => trivial | exact lI | exact LeV.nil _ _ _ | exact lB | refine leBd ?_ | refine leOwn ?_ | refine And.intro ?_ ?_)
        exact two (by omega) (by omega)
      · have : i = l.length := by omega
        subst this
        rw [List.take_length]
        repeat' ((conv => whnf); first | exact trivial | refine now_T ?_ | refine aE1 ?_ | refine aE0 ?_ | refine aN1 ?_ | refine aN0 ?_ | refine aD1 ?_ | refine aD0 ?_ | refine now_E (fun hq => ?_) (fun hq => ?_) | refine now_N (fun hq => ?_) (fun hq => ?_) | refine now_D (fun hq => ?_) (fun hq => ?_) | refine rb1 ?_ | refine rb0 ?_ | refine rbx ?_ | refine rix ?_ | refine aS ?_ | fail)
    · simp only [hk, if_false]
      repeat' ((conv => whnf); first | exact trivial | refine now_T ?_ | refine aE1 ?_ | refine aE0 ?_ | refine aN1 ?_ | refine aN0 ?_ | refine aD1 ?_ | refine aD0 ?_ | refine now_E (fun hq => ?_) (fun hq => ?_) | refine now_N (fun hq => ?_) (fun hq => ?_) | refine now_D (fun hq => ?_) (fun hq => ?_) | refine rb1 ?_ | refine rb0 ?_ | refine rbx ?_ | refine rix ?_ | refine aS ?_ | fail)
      refine wpC_loop (α := Nat) (fun i => {sl := [(1, .ptr 1 0), (2, .ptr 2 0), (3, .ptr 3 0), (4, .t (I i))], bx := [(1, .d 9 (cellsS (.mk k (.mk pk pf pn pm pa) f n l))), (2, .d 2 [I 0, I 0]), (3, .d 2 [I (1 + 0 + sizeSs (l.take i) : Nat), I (1 + max 0 (deepSs (l.take i)) : Nat)])]})
        (fun i => i ≤ l.length) (fun i => l.length - i) 0 (by omega) ?_ ?_
      · repeat' (first | exact trivial | exact LeV.same _ | exact LeB.same _ | exact rfl | exact fun _ _ _ => trivial | exact lI | exact LeV.nil _ _ _ | exact lB | refine leBd ?_ | refine leOwn ?_ | refine And.intro ?_ ?_)
        all_goals exact two (by simp [sizeSs]) (by simp [deepSs]; try omega)
      rintro i hi
      rcases Nat.lt_or_ge i l.length with h | h
      · have hn := sizeSs_take h
        have hd := deepSs_take h
        have hw := wtSs_take h
        have hm := wtSs_mono (l := l) (j := i + 1)
        have hp := l[i].wt_pos
        have h1 := l[i].size_le
        have h2 := l[i].deep_le
        have h3 := deepSs_le (l.take i)
        have h4 := sizeSs_le (l.take i)
        repeat' ((conv => whnf); first | exact trivial | (refine now_v (.agg (cellsS l[i])) (by first | (simp [h, encS_cells]; done) | fail) ?_) | refine k_call _ (ih l[i] (by omega) (by omega)) ?_ | refine k_call _ (t102 _ _ _ _ (by omega) (by omega) (by omega)) ?_ | refine now_T ?_ | refine aE1 ?_ | refine aE0 ?_ | refine aN1 ?_ | refine aN0 ?_ | refine aD1 ?_ | refine aD0 ?_ | refine now_E (fun hq => ?_) (fun hq => ?_) | refine now_N (fun hq => ?_) (fun hq => ?_) | refine now_D (fun hq => ?_) (fun hq => ?_) | refine rb1 ?_ | refine rb0 ?_ | refine rbx ?_ | refine rix ?_ | (refine And.intro (by first | (exact cellsS_len _; done) | fail) ?_) | refine aS ?_ | fail)
        refine ⟨i + 1, by omega, by omega, ?_⟩
        repeat' (first | exact trivial | exact LeV.same _ | exact LeB.same _ | exact rfl | exact fun _ _ _ => trivial | exact lI | exact LeV.nil _ _ _ | exact lB | refine leBd ?_ | refine leOwn ?_ | refine And.intro ?_ ?_)
        exact two (by omega) (by omega)
      · have : i = l.length := by omega
        subst this
        rw [List.take_length]
        repeat' ((conv => whnf); first | exact trivial | refine now_T ?_ | refine aE1 ?_ | refine aE0 ?_ | refine aN1 ?_ | refine aN0 ?_ | refine aD1 ?_ | refine aD0 ?_ | refine now_E (fun hq => ?_) (fun hq => ?_) | refine now_N (fun hq => ?_) (fun hq => ?_) | refine now_D (fun hq => ?_) (fun hq => ?_) | refine rb1 ?_ | refine rb0 ?_ | refine rbx ?_ | refine rix ?_ | refine aS ?_ | fail)

def limI (n d : Nat) : Int := if n ≤ 200 ∧ d ≤ 20 then 0 else 2
theorem t101 (n d : Nat) : DCalls Try.prog 101 [sz n d] (I (limI n d)) := by
  refine dcalls_low (rs := [.tmp 2]) mixed Try.func101 l101 rfl rfl rfl (r := [.int _ _]) (Nat.le_of_ble_eq_true rfl) ?_
  unfold limI
  by_cases h1 : n ≤ 200
  · by_cases h2 : d ≤ 20
    · rw [if_pos ⟨h1, h2⟩]; repeat' ((conv => whnf); first | exact trivial | refine now_T ?_ | refine aE1 ?_ | refine aE0 ?_ | refine aN1 ?_ | refine aN0 ?_ | refine aD1 ?_ | refine aD0 ?_ | refine now_E (fun hq => ?_) (fun hq => ?_) | refine now_N (fun hq => ?_) (fun hq => ?_) | refine now_D (fun hq => ?_) (fun hq => ?_) | refine rb1 ?_ | refine rb0 ?_ | refine rbx ?_ | refine rix ?_ | refine aS ?_ | fail)
    · rw [if_neg (by omega)]; repeat' ((conv => whnf); first | exact trivial | refine now_T ?_ | refine aE1 ?_ | refine aE0 ?_ | refine aN1 ?_ | refine aN0 ?_ | refine aD1 ?_ | refine aD0 ?_ | refine now_E (fun hq => ?_) (fun hq => ?_) | refine now_N (fun hq => ?_) (fun hq => ?_) | refine now_D (fun hq => ?_) (fun hq => ?_) | refine rb1 ?_ | refine rb0 ?_ | refine rbx ?_ | refine rix ?_ | refine aS ?_ | fail)
  · rw [if_neg (by omega)]; repeat' ((conv => whnf); first | exact trivial | refine now_T ?_ | refine aE1 ?_ | refine aE0 ?_ | refine aN1 ?_ | refine aN0 ?_ | refine aD1 ?_ | refine aD0 ?_ | refine now_E (fun hq => ?_) (fun hq => ?_) | refine now_N (fun hq => ?_) (fun hq => ?_) | refine now_D (fun hq => ?_) (fun hq => ?_) | refine rb1 ?_ | refine rb0 ?_ | refine rbx ?_ | refine rix ?_ | refine aS ?_ | fail)

def formI (e : Int) (b : Bool) : Int := if e = 0 then (if b then 0 else 1) else e
theorem t88 (n d : Nat) (b : Bool) : DCalls Try.prog 88 [sz n d, .bool b] (I (formI (limI n d) b)) := by
  refine dcalls_low (rs := [.tmp 4]) mixed Try.func88 l88 rfl rfl rfl (r := [.int _ _]) (Nat.le_of_ble_eq_true rfl) ?_
  have h := t101 n d
  generalize limI n d = e at *
  unfold formI
  by_cases h0 : e = 0
  · subst h0
    cases b <;> repeat' ((conv => whnf); first | exact trivial | refine k_call _ (h) ?_ | refine now_T ?_ | refine aE1 ?_ | refine aE0 ?_ | refine aN1 ?_ | refine aN0 ?_ | refine aD1 ?_ | refine aD0 ?_ | refine now_E (fun hq => ?_) (fun hq => ?_) | refine now_N (fun hq => ?_) (fun hq => ?_) | refine now_D (fun hq => ?_) (fun hq => ?_) | refine rb1 ?_ | refine rb0 ?_ | refine rbx ?_ | refine rix ?_ | refine aS ?_ | fail)
  · rw [if_neg h0]
    repeat' ((conv => whnf); first | exact trivial | refine k_call _ (h) ?_ | refine now_T ?_ | refine aE1 ?_ | refine aE0 ?_ | refine aN1 ?_ | refine aN0 ?_ | refine aD1 ?_ | refine aD0 ?_ | refine now_E (fun hq => ?_) (fun hq => ?_) | refine now_N (fun hq => ?_) (fun hq => ?_) | refine now_D (fun hq => ?_) (fun hq => ?_) | refine rb1 ?_ | refine rb0 ?_ | refine rbx ?_ | refine rix ?_ | refine aS ?_ | fail)

def argsO (k : Int) : Nat := if k = 3 ∨ k = 4 then 2 else if k = 5 then 1 else 0
def noneO (f : ByteArray) (n : Int) : Bool := sameN f e0 && (n == 0)
def okO (k : Int) (p : RP) (f : ByteArray) (n : Int) : Bool :=
  if k = 1 then formedP p && noneO f n
  else if k = 2 then namedB f && emptyP p && decide (0 ≤ n) && decide (n ≤ 65535)
  else if k = 3 ∨ k = 4 ∨ k = 5 then emptyP p && noneO f n
  else false
mutual
def formedO : RO → Bool
  | .mk k p f n a => okO k p f n && (a.length == argsO k) && formedOs a
def formedOs : List RO → Bool
  | [] => true
  | r :: rs => formedO r && formedOs rs
end
theorem formedOs_get : ∀ {l : List RO}, formedOs l = true ↔ ∀ (i : Nat) (h : i < l.length), formedO l[i] = true
  | [] => by simp [formedOs]
  | r :: rs => by
    simp only [formedOs, Bool.and_eq_true, formedOs_get (l := rs)]
    constructor
    · rintro ⟨h0, h⟩ i hi
      cases i with
      | zero => exact h0
      | succ i => simpa using h i (by simpa using hi)
    · intro h
      exact ⟨h 0 (by simp), fun i hi => h (i + 1) (by simpa using hi)⟩
mutual
def namesO : RO → Prop
  | .mk _ p f _ a => namesP p ∧ f.size < 2 ^ 62 ∧ namesOs a
def namesOs : List RO → Prop
  | [] => True
  | r :: rs => namesO r ∧ namesOs rs
end
theorem namesOs_get : ∀ {l : List RO}, namesOs l → ∀ (i : Nat) (h : i < l.length), namesO l[i]
  | [], _, i, h => by simp at h
  | r :: rs, h, i, hi => by
    cases i with
    | zero => exact h.1
    | succ i => simpa using namesOs_get h.2 i (by simpa using hi)

theorem t90 (N : Nat) : ∀ r : RO, r.wt ≤ N → N < 2 ^ 60 → namesO r → DCalls Try.prog 90 [.agg (cellsS r)] (.bool (formedO r)) := by
  induction N with
  | zero => intro r h; have := r.wt_pos; omega
  | succ N ih =>
    rintro ⟨k, ⟨pk, pf, pn, pm, pa⟩, f, n, l⟩ hr hN ⟨hn1, hn2, hn3⟩
    refine dcalls_low (rs := [.tmp 2]) mixed Try.func90 l90 rfl rfl rfl (r := [.bool _]) (Nat.le_of_ble_eq_true rfl) ?_
    simp only [RO.wt, formedO] at hr ⊢
    have h104 := t104 f hn2
    have h105 := t105 (.mk pk pf pn pm pa)
    have h106 := t106 _ (.mk pk pf pn pm pa) (Nat.le_refl _) (by omega) hn1
    repeat' ((conv => whnf); first | exact trivial | refine k_call _ (h104) ?_ | refine k_call _ (h105) ?_ | refine now_T ?_ | refine aE1 ?_ | refine aE0 ?_ | refine aN1 ?_ | refine aN0 ?_ | refine aD1 ?_ | refine aD0 ?_ | refine now_E (fun hq => ?_) (fun hq => ?_) | refine now_N (fun hq => ?_) (fun hq => ?_) | refine now_D (fun hq => ?_) (fun hq => ?_) | refine rb1 ?_ | refine rb0 ?_ | refine rbx ?_ | refine rix ?_ | refine aS ?_ | fail)
    refine wpC_cut (β := Unit) (fun _ => {sl := [(1, .ptr 1 0), (3, .t (.bool (namedB f))), (4, .t (.bool (emptyP (.mk pk pf pn pm pa)))), (5, .t (.bool (noneO f n)))], bx := [(1, .d 9 (cellsS (.mk k (.mk pk pf pn pm pa) f n l)))]}) (fun _ => True) ?_ ?_
    · unfold noneO
      have h2 := sameN_eq f e0
      generalize sameN f e0 = b at *
      repeat' ((conv => whnf); first | exact trivial | refine now_b b h2 ?_ | (exact ⟨(), trivial, by (repeat' (first | exact trivial | exact LeV.same _ | exact LeB.same _ | exact rfl | exact fun _ _ _ => trivial | exact lI | exact LeV.nil _ _ _ | exact lB | refine leBd ?_ | refine leOwn ?_ | refine And.intro ?_ ?_)); done⟩) | refine now_T ?_ | refine aE1 ?_ | refine aE0 ?_ | refine aN1 ?_ | refine aN0 ?_ | refine aD1 ?_ | refine aD0 ?_ | refine now_E (fun hq => ?_) (fun hq => ?_) | refine now_N (fun hq => ?_) (fun hq => ?_) | refine now_D (fun hq => ?_) (fun hq => ?_) | refine rb1 ?_ | refine rb0 ?_ | refine rbx ?_ | refine rix ?_ | refine aS ?_ | (cases b) | fail)
    rintro _ _
    repeat' ((conv => whnf); first | exact trivial | refine now_T ?_ | refine aE1 ?_ | refine aE0 ?_ | refine aN1 ?_ | refine aN0 ?_ | refine aD1 ?_ | refine aD0 ?_ | refine now_E (fun hq => ?_) (fun hq => ?_) | refine now_N (fun hq => ?_) (fun hq => ?_) | refine now_D (fun hq => ?_) (fun hq => ?_) | refine rb1 ?_ | refine rb0 ?_ | refine rbx ?_ | refine rix ?_ | refine aS ?_ | fail)
    refine wpC_cut (β := Unit) (fun _ => {sl := [(1, .ptr 1 0), (6, .t (I (argsO k))), (7, .t (.bool (okO k (.mk pk pf pn pm pa) f n)))], bx := [(1, .d 9 (cellsS (.mk k (.mk pk pf pn pm pa) f n l)))]}) (fun _ => True) ?_ ?_
    · unfold okO argsO
      generalize namedB f = a at *
      generalize formedP (.mk pk pf pn pm pa) = b at *
      generalize noneO f n = c at *
      generalize emptyP (.mk pk pf pn pm pa) = d at *
      repeat' ((conv => whnf); first | exact trivial | refine k_call _ (h106) ?_ | (exact ⟨(), trivial, by (repeat' (first | exact trivial | exact LeV.same _ | exact LeB.same _ | exact rfl | exact fun _ _ _ => trivial | exact lI | exact LeV.nil _ _ _ | exact lB | refine leBd ?_ | refine leOwn ?_ | refine And.intro ?_ ?_)); done⟩) | refine now_T ?_ | refine aE1 ?_ | refine aE0 ?_ | refine aN1 ?_ | refine aN0 ?_ | refine aD1 ?_ | refine aD0 ?_ | refine now_E (fun hq => ?_) (fun hq => ?_) | refine now_N (fun hq => ?_) (fun hq => ?_) | refine now_D (fun hq => ?_) (fun hq => ?_) | refine rb1 ?_ | refine rb0 ?_ | refine rbx ?_ | refine rix ?_ | refine aS ?_ | (cases a) | (cases b) | (cases d) | fail)
    rintro _ _
    generalize okO k (.mk pk pf pn pm pa) f n = ok at *
    cases ok with
    | false => repeat' ((conv => whnf); first | exact trivial | refine now_T ?_ | refine aE1 ?_ | refine aE0 ?_ | refine aN1 ?_ | refine aN0 ?_ | refine aD1 ?_ | refine aD0 ?_ | refine now_E (fun hq => ?_) (fun hq => ?_) | refine now_N (fun hq => ?_) (fun hq => ?_) | refine now_D (fun hq => ?_) (fun hq => ?_) | refine rb1 ?_ | refine rb0 ?_ | refine rbx ?_ | refine rix ?_ | refine aS ?_ | fail)
    | true =>
    by_cases hlen : l.length = argsO k
    · have e : (true && (l.length == argsO k) && formedOs l) = formedOs l := by simp [hlen]
      rw [e, ← hlen]
      have hnp := wtSs_len l
      repeat' ((conv => whnf); first | exact trivial | refine now_T ?_ | refine aE1 ?_ | refine aE0 ?_ | refine aN1 ?_ | refine aN0 ?_ | refine aD1 ?_ | refine aD0 ?_ | refine now_E (fun hq => ?_) (fun hq => ?_) | refine now_N (fun hq => ?_) (fun hq => ?_) | refine now_D (fun hq => ?_) (fun hq => ?_) | refine rb1 ?_ | refine rb0 ?_ | refine rbx ?_ | refine rix ?_ | refine aS ?_ | fail)
      refine wpC_loop (α := Nat) (fun i => {sl := [(1, .ptr 1 0), (6, .t (I l.length)), (8, .t (I i))], bx := [(1, .d 9 (cellsS (.mk k (.mk pk pf pn pm pa) f n l)))]})
        (fun i => i ≤ l.length ∧ ∀ j (h : j < l.length), j < i → formedO l[j] = true) (fun i => l.length - i) 0 (by simp) ?_ ?_
      · repeat' (first | exact trivial | exact LeV.same _ | exact LeB.same _ | exact rfl | exact fun _ _ _ => trivial | exact lI | exact LeV.nil _ _ _ | exact lB | refine leBd ?_ | refine leOwn ?_ | refine And.intro ?_ ?_)
      rintro i ⟨hi, hp⟩
      rcases Nat.lt_or_ge i l.length with h | h
      · have hn := wtSs_take h
        have hm := wtSs_mono (l := l) (j := i + 1)
        have hc := ih l[i] (by omega) (by omega) (namesOs_get hn3 i h)
        cases hb : formedO l[i] with
        | true =>
          rw [hb] at hc
          repeat' ((conv => whnf); first | exact trivial | (refine now_v (.agg (cellsS l[i])) (by first | (simp [h, encS_cells]; done) | fail) ?_) | refine k_call _ (hc) ?_ | refine now_T ?_ | refine aE1 ?_ | refine aE0 ?_ | refine aN1 ?_ | refine aN0 ?_ | refine aD1 ?_ | refine aD0 ?_ | refine now_E (fun hq => ?_) (fun hq => ?_) | refine now_N (fun hq => ?_) (fun hq => ?_) | refine now_D (fun hq => ?_) (fun hq => ?_) | refine rb1 ?_ | refine rb0 ?_ | refine rbx ?_ | refine rix ?_ | (refine And.intro (by first | (exact cellsS_len _; done) | fail) ?_) | refine aS ?_ | fail)
          refine ⟨i + 1, ⟨h, fun j hj hlt => ?_⟩, by omega, ?_⟩
          · rcases Nat.lt_or_ge j i with h4 | h4
            · exact hp j hj h4
            · obtain rfl : j = i := by omega
              exact hb
          · repeat' (first | exact trivial | exact LeV.same _ | exact LeB.same _ | exact rfl | exact fun _ _ _ => trivial | exact lI | exact LeV.nil _ _ _ | exact lB | refine leBd ?_ | refine leOwn ?_ | refine And.intro ?_ ?_)
        | false =>
          rw [hb] at hc
          have e2 : formedOs l = false := by
            cases hx : formedOs l with
            | false => rfl
            | true => rw [formedOs_get.1 hx i h] at hb; cases hb
          rw [e2]
          repeat' ((conv => whnf); first | exact trivial | (refine now_v (.agg (cellsS l[i])) (by first | (simp [h, encS_cells]; done) | fail) ?_) | refine k_call _ (hc) ?_ | refine now_T ?_ | refine aE1 ?_ | refine aE0 ?_ | refine aN1 ?_ | refine aN0 ?_ | refine aD1 ?_ | refine aD0 ?_ | refine now_E (fun hq => ?_) (fun hq => ?_) | refine now_N (fun hq => ?_) (fun hq => ?_) | refine now_D (fun hq => ?_) (fun hq => ?_) | refine rb1 ?_ | refine rb0 ?_ | refine rbx ?_ | refine rix ?_ | (refine And.intro (by first | (exact cellsS_len _; done) | fail) ?_) | refine aS ?_ | fail)
      · have e2 : formedOs l = true := formedOs_get.2 fun j hj => hp j hj (by omega)
        rw [e2]
        repeat' ((conv => whnf); first | exact trivial | refine now_T ?_ | refine aE1 ?_ | refine aE0 ?_ | refine aN1 ?_ | refine aN0 ?_ | refine aD1 ?_ | refine aD0 ?_ | refine now_E (fun hq => ?_) (fun hq => ?_) | refine now_N (fun hq => ?_) (fun hq => ?_) | refine now_D (fun hq => ?_) (fun hq => ?_) | refine rb1 ?_ | refine rb0 ?_ | refine rbx ?_ | refine rix ?_ | refine aS ?_ | fail)
    · have e : (true && (l.length == argsO k) && formedOs l) = false := by simp [hlen]
      rw [e]
      repeat' ((conv => whnf); first | exact trivial | refine now_T ?_ | refine aE1 ?_ | refine aE0 ?_ | refine aN1 ?_ | refine aN0 ?_ | refine aD1 ?_ | refine aD0 ?_ | refine now_E (fun hq => ?_) (fun hq => ?_) | refine now_N (fun hq => ?_) (fun hq => ?_) | refine now_D (fun hq => ?_) (fun hq => ?_) | refine rb1 ?_ | refine rb0 ?_ | refine rbx ?_ | refine rix ?_ | refine aS ?_ | fail)

def checkO (r : RO) : Int := formI (limI r.size r.deep) (formedO r)
theorem t63 (r : RO) (hr : r.wt < 2 ^ 60) (hn : namesO r) : DCalls Try.prog 63 [.agg (cellsS r)] (I (checkO r)) := by
  refine dcalls_low (rs := [.tmp 2]) mixed Try.func63 l63 rfl rfl rfl (r := [.int _ _]) (Nat.le_of_ble_eq_true rfl) ?_
  have h1 := t89 _ r (Nat.le_refl _) hr
  have h2 := t90 _ r (Nat.le_refl _) hr hn
  have h3 := t88 r.size r.deep (formedO r)
  have hl := cellsS_len r
  unfold checkO
  repeat' ((conv => whnf); first | exact trivial | refine k_call _ (h1) ?_ | refine k_call _ (h2) ?_ | refine k_call _ (h3) ?_ | refine now_T ?_ | refine aE1 ?_ | refine aE0 ?_ | refine aN1 ?_ | refine aN0 ?_ | refine aD1 ?_ | refine aD0 ?_ | refine now_E (fun hq => ?_) (fun hq => ?_) | refine now_N (fun hq => ?_) (fun hq => ?_) | refine now_D (fun hq => ?_) (fun hq => ?_) | refine rb1 ?_ | refine rb0 ?_ | refine rbx ?_ | refine rix ?_ | refine aS ?_ | fail)
end Go.MM
end
section
/- Meaning: lists of fields as they are read. -/
namespace Go.MM
open Go Go.DL Go.Proofs
set_option maxRecDepth 100000
set_option maxHeartbeats 8000000

/-- A field as it is read. -/
structure RF where
  name : ByteArray
  a : Int
  w : Int
deriving Inhabited
def cellsF (f : RF) : List T := [.str f.name, I f.a, I f.w]
def encF (f : RF) : T := .agg (cellsF f)
def encFs (l : List RF) : T := .slice 3 (l.map encF)

/-- A byte of a field's name at its place. -/
def at8 (s : ByteArray) (i : Nat) : Bool := letterB (byteI s i) || ((digitB (byteI s i) || byteI s i == 95) && !(i == 0))
def all8 (s : ByteArray) : Bool := (List.range s.size).all fun i => at8 s i
def name8 (s : ByteArray) : Bool := all8 s && (decide (1 ≤ s.size) && decide (s.size ≤ 24))

theorem t69 (s : ByteArray) (hs : s.size < 2 ^ 62) : DCalls Try.prog 69 [.str s] (.bool (name8 s)) := by
  refine dcalls_low (rs := [.tmp 2]) mixed Try.func69 l69 rfl rfl rfl (r := [.bool _]) (Nat.le_of_ble_eq_true rfl) ?_
  repeat' ((conv => whnf); first | exact trivial | refine now_T ?_ | refine aE1 ?_ | refine aE0 ?_ | refine aN1 ?_ | refine aN0 ?_ | refine aD1 ?_ | refine aD0 ?_ | refine now_E (fun hq => ?_) (fun hq => ?_) | refine now_N (fun hq => ?_) (fun hq => ?_) | refine now_D (fun hq => ?_) (fun hq => ?_) | refine rb1 ?_ | refine rb0 ?_ | refine rbx ?_ | refine rix ?_ | refine aS ?_ | fail)
  refine wpC_loop (α := Nat) (fun i => {sl := [(0, .t (.str s)), (3, .t (I i))], bx := []})
    (fun i => i ≤ s.size ∧ ∀ j, j < i → at8 s j = true) (fun i => s.size - i) 0 (by simp) ?_ ?_
  · repeat' (first | exact trivial | exact LeV.same _ | exact LeB.same _ | exact rfl | exact fun _ _ _ => trivial | exact lI | exact LeV.nil _ _ _ | exact lB | refine leBd ?_ | refine leOwn ?_ | refine And.intro ?_ ?_)
  rintro i ⟨hi, hp⟩
  rcases Nat.lt_or_ge i s.size with h | h
  · have good : at8 s i = true → i + 1 ≤ s.size ∧ ∀ j, j < i + 1 → at8 s j = true := fun hb => by
      refine ⟨h, fun j hj => ?_⟩
      rcases Nat.lt_or_ge j i with h4 | h4
      · exact hp j h4
      · obtain rfl : j = i := by omega
        exact hb
    have bad : at8 s i = false → name8 s = false := fun hb => by
      unfold name8
      have : all8 s = false := by
        unfold all8
        rw [List.all_eq_false]
        exact ⟨i, by simpa using h, by simp [hb]⟩
      rw [this]; rfl
    have bad' : at8 s i = false → false = name8 s := fun hb => (bad hb).symm
    clear bad
    rw [show at8 s i = (letterB (byteI s i) || ((digitB (byteI s i) || byteI s i == 95) && !(i == 0))) from rfl] at good bad'
    have hc : ((s.toList[i]?.getD 0).toNat : Int) = byteI s i := rfl
    generalize name8 s = N at *
    generalize byteI s i = c at *
    repeat' ((conv => whnf); first | exact trivial | (refine now_v (U c) (by first | (exact congrArg U hc; done) | fail) ?_) | (exact rb (x := false) (bad' (by simp [letterB, digitB]; omega)) trivial) | (exact ⟨i + 1, good (by simp [letterB, digitB]; omega), by omega, by (repeat' (first | exact trivial | exact LeV.same _ | exact LeB.same _ | exact rfl | exact fun _ _ _ => trivial | exact lI | exact LeV.nil _ _ _ | exact lB | refine leBd ?_ | refine leOwn ?_ | refine And.intro ?_ ?_)); done⟩) | refine now_T ?_ | refine aE1 ?_ | refine aE0 ?_ | refine aN1 ?_ | refine aN0 ?_ | refine aD1 ?_ | refine aD0 ?_ | refine now_E (fun hq => ?_) (fun hq => ?_) | refine now_N (fun hq => ?_) (fun hq => ?_) | refine now_D (fun hq => ?_) (fun hq => ?_) | refine rb1 ?_ | refine rb0 ?_ | refine rbx ?_ | refine rix ?_ | refine aS ?_ | fail)
  · have e : all8 s = true := by
      unfold all8
      rw [List.all_eq_true]
      intro j hj
      exact hp j (by simp at hj; omega)
    unfold name8
    rw [e]
    repeat' ((conv => whnf); first | exact trivial | refine now_T ?_ | refine aE1 ?_ | refine aE0 ?_ | refine aN1 ?_ | refine aN0 ?_ | refine aD1 ?_ | refine aD0 ?_ | refine now_E (fun hq => ?_) (fun hq => ?_) | refine now_N (fun hq => ?_) (fun hq => ?_) | refine now_D (fun hq => ?_) (fun hq => ?_) | refine rb1 ?_ | refine rb0 ?_ | refine rbx ?_ | refine rix ?_ | refine aS ?_ | fail)

def placeB (f : RF) : Bool := decide (1 ≤ f.w) && decide (f.w ≤ 16) && decide (16 ≤ f.a) && decide (f.a ≤ 143) && decide (f.a % 16 + f.w ≤ 16)
theorem tmod16 {a : Int} (h : 0 ≤ a) : a.tmod 16 = a % 16 := Int.tmod_eq_emod_of_nonneg h
theorem t70 (f : RF) : DCalls Try.prog 70 [encF f] (.bool (placeB f)) := by
  obtain ⟨s, a, w⟩ := f
  refine dcalls_low (rs := [.tmp 2]) mixed Try.func70 l70 rfl rfl rfl (r := [.bool _]) (Nat.le_of_ble_eq_true rfl) ?_
  simp only [placeB]
  by_cases h16 : 16 ≤ a
  · have e := tmod16 (a := a) (by omega)
    by_cases h1 : 1 ≤ w
    · by_cases h2 : w ≤ 16
      · by_cases h3 : a ≤ 143
        · have e2 : IntKind.wrap .i64 (a.tmod 16 + w) = a % 16 + w := by rw [e, wrap_id] <;> omega
          have e3 : (decide (1 ≤ w) && decide (w ≤ 16) && decide (16 ≤ a) && decide (a ≤ 143) && decide (a % 16 + w ≤ 16)) = decide (a % 16 + w ≤ 16) := by simp [h16, h1, h2, h3]
          rw [e3]
          by_cases h4 : a % 16 + w ≤ 16
          · repeat' ((conv => whnf); first | exact trivial | (refine now_D1 (by rw [e2]; exact h4) ?_) | refine now_T ?_ | refine aE1 ?_ | refine aE0 ?_ | refine aN1 ?_ | refine aN0 ?_ | refine aD1 ?_ | refine aD0 ?_ | refine now_E (fun hq => ?_) (fun hq => ?_) | refine now_N (fun hq => ?_) (fun hq => ?_) | refine now_D (fun hq => ?_) (fun hq => ?_) | refine rb1 ?_ | refine rb0 ?_ | refine rbx ?_ | refine rix ?_ | refine aS ?_ | fail)
          · repeat' ((conv => whnf); first | exact trivial | (refine now_D0 (by rw [e2]; exact h4) ?_) | refine now_T ?_ | refine aE1 ?_ | refine aE0 ?_ | refine aN1 ?_ | refine aN0 ?_ | refine aD1 ?_ | refine aD0 ?_ | refine now_E (fun hq => ?_) (fun hq => ?_) | refine now_N (fun hq => ?_) (fun hq => ?_) | refine now_D (fun hq => ?_) (fun hq => ?_) | refine rb1 ?_ | refine rb0 ?_ | refine rbx ?_ | refine rix ?_ | refine aS ?_ | fail)
        · repeat' ((conv => whnf); first | exact trivial | refine now_T ?_ | refine aE1 ?_ | refine aE0 ?_ | refine aN1 ?_ | refine aN0 ?_ | refine aD1 ?_ | refine aD0 ?_ | refine now_E (fun hq => ?_) (fun hq => ?_) | refine now_N (fun hq => ?_) (fun hq => ?_) | refine now_D (fun hq => ?_) (fun hq => ?_) | refine rb1 ?_ | refine rb0 ?_ | refine rbx ?_ | refine rix ?_ | refine aS ?_ | fail)
      · repeat' ((conv => whnf); first | exact trivial | refine now_T ?_ | refine aE1 ?_ | refine aE0 ?_ | refine aN1 ?_ | refine aN0 ?_ | refine aD1 ?_ | refine aD0 ?_ | refine now_E (fun hq => ?_) (fun hq => ?_) | refine now_N (fun hq => ?_) (fun hq => ?_) | refine now_D (fun hq => ?_) (fun hq => ?_) | refine rb1 ?_ | refine rb0 ?_ | refine rbx ?_ | refine rix ?_ | refine aS ?_ | fail)
    · repeat' ((conv => whnf); first | exact trivial | refine now_T ?_ | refine aE1 ?_ | refine aE0 ?_ | refine aN1 ?_ | refine aN0 ?_ | refine aD1 ?_ | refine aD0 ?_ | refine now_E (fun hq => ?_) (fun hq => ?_) | refine now_N (fun hq => ?_) (fun hq => ?_) | refine now_D (fun hq => ?_) (fun hq => ?_) | refine rb1 ?_ | refine rb0 ?_ | refine rbx ?_ | refine rix ?_ | refine aS ?_ | fail)
  · repeat' ((conv => whnf); first | exact trivial | refine now_T ?_ | refine aE1 ?_ | refine aE0 ?_ | refine aN1 ?_ | refine aN0 ?_ | refine aD1 ?_ | refine aD0 ?_ | refine now_E (fun hq => ?_) (fun hq => ?_) | refine now_N (fun hq => ?_) (fun hq => ?_) | refine now_D (fun hq => ?_) (fun hq => ?_) | refine rb1 ?_ | refine rb0 ?_ | refine rbx ?_ | refine rix ?_ | refine aS ?_ | fail)

/-- A field whose numbers are small. -/
def smallF (f : RF) : Prop := -1000 ≤ f.a ∧ f.a ≤ 1000 ∧ -1000 ≤ f.w ∧ f.w ≤ 1000
def commonB (f g : RF) : Bool := decide (f.a < g.a + g.w) && decide (g.a < f.a + f.w)
theorem t71 (f g : RF) (hf : smallF f) (hg : smallF g) : DCalls Try.prog 71 [encF f, encF g] (.bool (commonB f g)) := by
  obtain ⟨s, a, w⟩ := f
  obtain ⟨s', b, v⟩ := g
  simp only [smallF] at hf hg
  refine dcalls_low (rs := [.tmp 4]) mixed Try.func71 l71 rfl rfl rfl (r := [.bool _]) (Nat.le_of_ble_eq_true rfl) ?_
  simp only [commonB]
  have e1 : IntKind.wrap .i64 (b + v) = b + v := wrap_id (by omega) (by omega)
  have e2 : IntKind.wrap .i64 (a + w) = a + w := wrap_id (by omega) (by omega)
  by_cases h1 : a < b + v
  · by_cases h2 : b < a + w
    · repeat' ((conv => whnf); first | exact trivial | (refine now_D1 (by rw [e1]; exact h1) ?_) | (refine now_D1 (by rw [e2]; exact h2) ?_) | refine now_T ?_ | refine aE1 ?_ | refine aE0 ?_ | refine aN1 ?_ | refine aN0 ?_ | refine aD1 ?_ | refine aD0 ?_ | refine now_E (fun hq => ?_) (fun hq => ?_) | refine now_N (fun hq => ?_) (fun hq => ?_) | refine now_D (fun hq => ?_) (fun hq => ?_) | refine rb1 ?_ | refine rb0 ?_ | refine rbx ?_ | refine rix ?_ | refine aS ?_ | fail)
    · repeat' ((conv => whnf); first | exact trivial | (refine now_D1 (by rw [e1]; exact h1) ?_) | (refine now_D0 (by rw [e2]; exact h2) ?_) | refine now_T ?_ | refine aE1 ?_ | refine aE0 ?_ | refine aN1 ?_ | refine aN0 ?_ | refine aD1 ?_ | refine aD0 ?_ | refine now_E (fun hq => ?_) (fun hq => ?_) | refine now_N (fun hq => ?_) (fun hq => ?_) | refine now_D (fun hq => ?_) (fun hq => ?_) | refine rb1 ?_ | refine rb0 ?_ | refine rbx ?_ | refine rix ?_ | refine aS ?_ | fail)
  · repeat' ((conv => whnf); first | exact trivial | (refine now_D0 (by rw [e1]; exact h1) ?_) | refine now_T ?_ | refine aE1 ?_ | refine aE0 ?_ | refine aN1 ?_ | refine aN0 ?_ | refine aD1 ?_ | refine aD0 ?_ | refine now_E (fun hq => ?_) (fun hq => ?_) | refine now_N (fun hq => ?_) (fun hq => ?_) | refine now_D (fun hq => ?_) (fun hq => ?_) | refine rb1 ?_ | refine rb0 ?_ | refine rbx ?_ | refine rix ?_ | refine aS ?_ | fail)

def checkAt (l : List RF) (i : Nat) (f : RF) : Int :=
  if name8 f.name = false ∨ sameN f.name portN = true then 4
  else if ((l.take i).any fun g => sameN g.name f.name) = true then 4
  else if placeB f = false then 1
  else if ((l.take i).any fun g => commonB g f) = true then 1 else 0
def firstNZ : List Int → Int
  | [] => 0
  | x :: xs => if x ≠ 0 then x else firstNZ xs
theorem firstNZ_at : ∀ {l : List Int} {i : Nat} (h : i < l.length), (∀ j (hj : j < l.length), j < i → l[j] = 0) → l[i] ≠ 0 → firstNZ l = l[i]
  | x :: xs, 0, h, _, h0 => by simp at h0; simp [firstNZ, h0]
  | x :: xs, i + 1, h, hz, h0 => by
    have hx : x = 0 := hz 0 (by simp) (by omega)
    simp only [firstNZ, hx, ne_eq, not_true_eq_false, if_false]
    exact firstNZ_at (by simpa using h) (fun j hj hlt => hz (j + 1) (by simpa using hj) (by omega)) (by simpa using h0)
theorem firstNZ_0 : ∀ {l : List Int}, (∀ j (hj : j < l.length), l[j] = 0) → firstNZ l = 0
  | [], _ => rfl
  | x :: xs, hz => by
    have hx : x = 0 := hz 0 (by simp)
    simp only [firstNZ, hx, ne_eq, not_true_eq_false, if_false]
    exact firstNZ_0 fun j hj => hz (j + 1) (by simpa using hj)
def checkF (l : List RF) : Int := if l.length > 16 then 2 else firstNZ (l.mapIdx fun i f => checkAt l i f)

theorem placeB_small {f : RF} (h : placeB f = true) : smallF f := by
  simp [placeB] at h
  unfold smallF; omega

theorem any_take {p : RF → Bool} {l : List RF} {i : Nat} (hi : i ≤ l.length) : ((l.take i).any p = true) ↔ ∃ j, ∃ h : j < l.length, j < i ∧ p l[j] = true := by
  rw [List.any_eq_true]
  constructor
  · rintro ⟨x, hx, hp⟩
    obtain ⟨j, hj, rfl⟩ := List.getElem_of_mem hx
    simp at hj
    exact ⟨j, by omega, by omega, by simpa using hp⟩
  · rintro ⟨j, h, hji, hp⟩
    exact ⟨l[j], List.mem_take_iff_getElem.2 ⟨j, by omega, rfl⟩, hp⟩

theorem t47 (l : List RF) (hl : l.length < 2 ^ 60) (hn : ∀ f ∈ l, f.name.size < 2 ^ 62) : DCalls Try.prog 47 [encFs l] (I (checkF l)) := by
  refine dcalls_low (rs := [.tmp 2]) mixed Try.func47 l47 rfl rfl rfl (r := [.int _ _]) (Nat.le_of_ble_eq_true rfl) ?_
  unfold checkF
  by_cases h16 : l.length > 16
  · rw [if_pos h16]; repeat' ((conv => whnf); first | exact trivial | refine now_T ?_ | refine aE1 ?_ | refine aE0 ?_ | refine aN1 ?_ | refine aN0 ?_ | refine aD1 ?_ | refine aD0 ?_ | refine now_E (fun hq => ?_) (fun hq => ?_) | refine now_N (fun hq => ?_) (fun hq => ?_) | refine now_D (fun hq => ?_) (fun hq => ?_) | refine rb1 ?_ | refine rb0 ?_ | refine rbx ?_ | refine rix ?_ | refine aS ?_ | fail)
  rw [if_neg h16]
  repeat' ((conv => whnf); first | exact trivial | refine now_T ?_ | refine aE1 ?_ | refine aE0 ?_ | refine aN1 ?_ | refine aN0 ?_ | refine aD1 ?_ | refine aD0 ?_ | refine now_E (fun hq => ?_) (fun hq => ?_) | refine now_N (fun hq => ?_) (fun hq => ?_) | refine now_D (fun hq => ?_) (fun hq => ?_) | refine rb1 ?_ | refine rb0 ?_ | refine rbx ?_ | refine rix ?_ | refine aS ?_ | fail)
  refine wpC_loop (α := Nat) (fun i => {sl := [(0, .t (encFs l)), (3, .t (I i))], bx := []})
    (fun i => i ≤ l.length ∧ ∀ j (h : j < l.length), j < i → checkAt l j l[j] = 0) (fun i => l.length - i) 0 (by simp) ?_ ?_
  · repeat' (first | exact trivial | exact LeV.same _ | exact LeB.same _ | exact rfl | exact fun _ _ _ => trivial | exact lI | exact LeV.nil _ _ _ | exact lB | refine leBd ?_ | refine leOwn ?_ | refine And.intro ?_ ?_)
  rintro i ⟨hi, hp⟩
  rcases Nat.lt_or_ge i l.length with h | h
  · have res : ∀ e, checkAt l i l[i] = e → e ≠ 0 → firstNZ (l.mapIdx fun i f => checkAt l i f) = e := fun e he h0 => by
      have := firstNZ_at (l := l.mapIdx fun i f => checkAt l i f) (i := i) (by simpa using h) (fun j hj hlt => by simpa using hp j (by simpa using hj) hlt) (by simpa [he] using h0)
      rw [this]; simpa using he
    have next : checkAt l i l[i] = 0 → i + 1 ≤ l.length ∧ ∀ j (h : j < l.length), j < i + 1 → checkAt l j l[j] = 0 := fun h0 => by
      refine ⟨h, fun j hj hlt => ?_⟩
      rcases Nat.lt_or_ge j i with h4 | h4
      · exact hp j hj h4
      · obtain rfl : j = i := by omega
        exact h0
    have small : ∀ k (hk : k < l.length), k < i → smallF l[k] := fun k hk hlt => by
      have := hp k hk hlt
      unfold checkAt at this
      split at this; · omega
      split at this; · omega
      split at this; · omega
      rename_i h3
      exact placeB_small (by simpa using h3)
    have c69 := t69 l[i].name (hn _ (List.getElem_mem h))
    have c70 := t70 l[i]
    have s1 := sameN_eq l[i].name portN
    cases hA : name8 l[i].name with
    | false =>
      rw [hA] at c69
      rw [res 4 (by unfold checkAt; simp [hA]) (by decide)]
      repeat' ((conv => whnf); first | exact trivial | (refine now_v (.agg (cellsF l[i])) (by first | (simp [h, encF]; done) | fail) ?_) | refine k_call _ (c69) ?_ | refine now_T ?_ | refine aE1 ?_ | refine aE0 ?_ | refine aN1 ?_ | refine aN0 ?_ | refine aD1 ?_ | refine aD0 ?_ | refine now_E (fun hq => ?_) (fun hq => ?_) | refine now_N (fun hq => ?_) (fun hq => ?_) | refine now_D (fun hq => ?_) (fun hq => ?_) | refine rb1 ?_ | refine rb0 ?_ | refine rbx ?_ | refine rix ?_ | refine aS ?_ | fail)
    | true =>
    rw [hA] at c69
    cases hB : sameN l[i].name portN with
    | true =>
      rw [hB] at s1
      rw [res 4 (by unfold checkAt; simp [hB]) (by decide)]
      repeat' ((conv => whnf); first | exact trivial | (refine now_v (.agg (cellsF l[i])) (by first | (simp [h, encF]; done) | fail) ?_) | refine k_call _ (c69) ?_ | refine now_b true s1 ?_ | refine now_T ?_ | refine aE1 ?_ | refine aE0 ?_ | refine aN1 ?_ | refine aN0 ?_ | refine aD1 ?_ | refine aD0 ?_ | refine now_E (fun hq => ?_) (fun hq => ?_) | refine now_N (fun hq => ?_) (fun hq => ?_) | refine now_D (fun hq => ?_) (fun hq => ?_) | refine rb1 ?_ | refine rb0 ?_ | refine rbx ?_ | refine rix ?_ | refine aS ?_ | fail)
    | false =>
    rw [hB] at s1
    repeat' ((conv => whnf); first | exact trivial | (refine now_v (.agg (cellsF l[i])) (by first | (simp [h, encF]; done) | fail) ?_) | refine k_call _ (c69) ?_ | refine now_b false s1 ?_ | refine now_T ?_ | refine aE1 ?_ | refine aE0 ?_ | refine aN1 ?_ | refine aN0 ?_ | refine aD1 ?_ | refine aD0 ?_ | refine now_E (fun hq => ?_) (fun hq => ?_) | refine now_N (fun hq => ?_) (fun hq => ?_) | refine now_D (fun hq => ?_) (fun hq => ?_) | refine rb1 ?_ | refine rb0 ?_ | refine rbx ?_ | refine rix ?_ | refine aS ?_ | fail)
    refine wpC_loop (α := Nat) (fun k => {sl := [(0, .t (encFs l)), (3, .t (I i)), (5, .t (I k))], bx := []})
      (fun k => k ≤ i ∧ ∀ j (hj : j < l.length), j < k → sameN l[j].name l[i].name = false) (fun k => i - k) 0 (by simp) ?_ ?_
    · repeat' (first | exact trivial | exact LeV.same _ | exact LeB.same _ | exact rfl | exact fun _ _ _ => trivial | exact lI | exact LeV.nil _ _ _ | exact lB | refine leBd ?_ | refine leOwn ?_ | refine And.intro ?_ ?_)
    rintro k ⟨hk, hpk⟩
    rcases Nat.lt_or_ge k i with hki | hki
    · have hkl : k < l.length := by omega
      have s2 := sameN_eq l[k].name l[i].name
      cases hC : sameN l[k].name l[i].name with
      | true =>
        rw [hC] at s2
        rw [res 4 (by unfold checkAt; rw [if_neg (by simp [hA, hB]), if_pos ((any_take (by omega)).2 ⟨k, hkl, hki, hC⟩)]) (by decide)]
        repeat' ((conv => whnf); first | exact trivial | (refine now_v (.agg (cellsF l[k])) (by first | (simp [hkl, encF]; done) | fail) ?_) | (refine now_v (.agg (cellsF l[i])) (by first | (simp [h, encF]; done) | fail) ?_) | refine now_b true s2 ?_ | refine now_T ?_ | refine aE1 ?_ | refine aE0 ?_ | refine aN1 ?_ | refine aN0 ?_ | refine aD1 ?_ | refine aD0 ?_ | refine now_E (fun hq => ?_) (fun hq => ?_) | refine now_N (fun hq => ?_) (fun hq => ?_) | refine now_D (fun hq => ?_) (fun hq => ?_) | refine rb1 ?_ | refine rb0 ?_ | refine rbx ?_ | refine rix ?_ | refine aS ?_ | fail)
      | false =>
        rw [hC] at s2
        repeat' ((conv => whnf); first | exact trivial | (refine now_v (.agg (cellsF l[k])) (by first | (simp [hkl, encF]; done) | fail) ?_) | (refine now_v (.agg (cellsF l[i])) (by first | (simp [h, encF]; done) | fail) ?_) | refine now_b false s2 ?_ | refine now_T ?_ | refine aE1 ?_ | refine aE0 ?_ | refine aN1 ?_ | refine aN0 ?_ | refine aD1 ?_ | refine aD0 ?_ | refine now_E (fun hq => ?_) (fun hq => ?_) | refine now_N (fun hq => ?_) (fun hq => ?_) | refine now_D (fun hq => ?_) (fun hq => ?_) | refine rb1 ?_ | refine rb0 ?_ | refine rbx ?_ | refine rix ?_ | refine aS ?_ | fail)
        refine ⟨k + 1, ⟨by omega, fun j hj hlt => ?_⟩, by omega, ?_⟩
        · rcases Nat.lt_or_ge j k with h4 | h4
          · exact hpk j hj h4
          · obtain rfl : j = k := by omega
            exact hC
        · repeat' (first | exact trivial | exact LeV.same _ | exact LeB.same _ | exact rfl | exact fun _ _ _ => trivial | exact lI | exact LeV.nil _ _ _ | exact lB | refine leBd ?_ | refine leOwn ?_ | refine And.intro ?_ ?_)
    obtain rfl : k = i := by omega
    have any1 : ¬ ((l.take k).any fun g => sameN g.name l[k].name) = true := fun hx => by
      obtain ⟨j, hj, hji, hjp⟩ := (any_take hi).1 hx
      rw [hpk j hj hji] at hjp; cases hjp
    cases hD : placeB l[k] with
    | false =>
      rw [hD] at c70
      rw [res 1 (by unfold checkAt; rw [if_neg (by simp [hA, hB]), if_neg any1, if_pos hD]) (by decide)]
      repeat' ((conv => whnf); first | exact trivial | (refine now_v (.agg (cellsF l[k])) (by first | (simp [h, encF]; done) | fail) ?_) | refine k_call _ (c70) ?_ | refine now_T ?_ | refine aE1 ?_ | refine aE0 ?_ | refine aN1 ?_ | refine aN0 ?_ | refine aD1 ?_ | refine aD0 ?_ | refine now_E (fun hq => ?_) (fun hq => ?_) | refine now_N (fun hq => ?_) (fun hq => ?_) | refine now_D (fun hq => ?_) (fun hq => ?_) | refine rb1 ?_ | refine rb0 ?_ | refine rbx ?_ | refine rix ?_ | refine aS ?_ | fail)
    | true =>
    rw [hD] at c70
    have smk := placeB_small hD
    repeat' ((conv => whnf); first | exact trivial | (refine now_v (.agg (cellsF l[k])) (by first | (simp [h, encF]; done) | fail) ?_) | refine k_call _ (c70) ?_ | refine now_T ?_ | refine aE1 ?_ | refine aE0 ?_ | refine aN1 ?_ | refine aN0 ?_ | refine aD1 ?_ | refine aD0 ?_ | refine now_E (fun hq => ?_) (fun hq => ?_) | refine now_N (fun hq => ?_) (fun hq => ?_) | refine now_D (fun hq => ?_) (fun hq => ?_) | refine rb1 ?_ | refine rb0 ?_ | refine rbx ?_ | refine rix ?_ | refine aS ?_ | fail)
    refine wpC_loop (α := Nat) (fun m => {sl := [(0, .t (encFs l)), (3, .t (I k)), (7, .t (I m))], bx := []})
      (fun m => m ≤ k ∧ ∀ j (hj : j < l.length), j < m → commonB l[j] l[k] = false) (fun m => k - m) 0 (by simp) ?_ ?_
    · repeat' (first | exact trivial | exact LeV.same _ | exact LeB.same _ | exact rfl | exact fun _ _ _ => trivial | exact lI | exact LeV.nil _ _ _ | exact lB | refine leBd ?_ | refine leOwn ?_ | refine And.intro ?_ ?_)
    rintro m ⟨hm, hpm⟩
    rcases Nat.lt_or_ge m k with hmi | hmi
    · have hml : m < l.length := by omega
      have c71 := t71 l[m] l[k] (small m hml hmi) smk
      cases hC : commonB l[m] l[k] with
      | true =>
        rw [hC] at c71
        rw [res 1 (by unfold checkAt; rw [if_neg (by simp [hA, hB]), if_neg any1, if_neg (by simp [hD]), if_pos ((any_take (by omega)).2 ⟨m, hml, hmi, hC⟩)]) (by decide)]
        repeat' ((conv => whnf); first | exact trivial | (refine now_v (.agg (cellsF l[m])) (by first | (simp [hml, encF]; done) | fail) ?_) | (refine now_v (.agg (cellsF l[k])) (by first | (simp [h, encF]; done) | fail) ?_) | refine k_call _ (c71) ?_ | refine now_T ?_ | refine aE1 ?_ | refine aE0 ?_ | refine aN1 ?_ | refine aN0 ?_ | refine aD1 ?_ | refine aD0 ?_ | refine now_E (fun hq => ?_) (fun hq => ?_) | refine now_N (fun hq => ?_) (fun hq => ?_) | refine now_D (fun hq => ?_) (fun hq => ?_) | refine rb1 ?_ | refine rb0 ?_ | refine rbx ?_ | refine rix ?_ | refine aS ?_ | fail)
      | false =>
        rw [hC] at c71
        repeat' ((conv => whnf); first | exact trivial | (refine now_v (.agg (cellsF l[m])) (by first | (simp [hml, encF]; done) | fail) ?_) | (refine now_v (.agg (cellsF l[k])) (by first | (simp [h, encF]; done) | fail) ?_) | refine k_call _ (c71) ?_ | refine now_T ?_ | refine aE1 ?_ | refine aE0 ?_ | refine aN1 ?_ | refine aN0 ?_ | refine aD1 ?_ | refine aD0 ?_ | refine now_E (fun hq => ?_) (fun hq => ?_) | refine now_N (fun hq => ?_) (fun hq => ?_) | refine now_D (fun hq => ?_) (fun hq => ?_) | refine rb1 ?_ | refine rb0 ?_ | refine rbx ?_ | refine rix ?_ | refine aS ?_ | fail)
        refine ⟨m + 1, ⟨by omega, fun j hj hlt => ?_⟩, by omega, ?_⟩
        · rcases Nat.lt_or_ge j m with h4 | h4
          · exact hpm j hj h4
          · obtain rfl : j = m := by omega
            exact hC
        · repeat' (first | exact trivial | exact LeV.same _ | exact LeB.same _ | exact rfl | exact fun _ _ _ => trivial | exact lI | exact LeV.nil _ _ _ | exact lB | refine leBd ?_ | refine leOwn ?_ | refine And.intro ?_ ?_)
    obtain rfl : m = k := by omega
    have any2 : ¬ ((l.take m).any fun g => commonB g l[m]) = true := fun hx => by
      obtain ⟨j, hj, hji, hjp⟩ := (any_take hi).1 hx
      rw [hpm j hj hji] at hjp; cases hjp
    have e0 : checkAt l m l[m] = 0 := by unfold checkAt; rw [if_neg (by simp [hA, hB]), if_neg any1, if_neg (by simp [hD]), if_neg any2]
    repeat' ((conv => whnf); first | exact trivial | (exact ⟨m + 1, next e0, by omega, by (repeat' (first | exact trivial | exact LeV.same _ | exact LeB.same _ | exact rfl | exact fun _ _ _ => trivial | exact lI | exact LeV.nil _ _ _ | exact lB | refine leBd ?_ | refine leOwn ?_ | refine And.intro ?_ ?_)); done⟩) | refine now_T ?_ | refine aE1 ?_ | refine aE0 ?_ | refine aN1 ?_ | refine aN0 ?_ | refine aD1 ?_ | refine aD0 ?_ | refine now_E (fun hq => ?_) (fun hq => ?_) | refine now_N (fun hq => ?_) (fun hq => ?_) | refine now_D (fun hq => ?_) (fun hq => ?_) | refine rb1 ?_ | refine rb0 ?_ | refine rbx ?_ | refine rix ?_ | refine aS ?_ | fail)
  · rw [firstNZ_0 fun j hj => by simpa using hp j (by simpa using hj) (by simp at hj; omega)]
    repeat' ((conv => whnf); first | exact trivial | refine now_T ?_ | refine aE1 ?_ | refine aE0 ?_ | refine aN1 ?_ | refine aN0 ?_ | refine aD1 ?_ | refine aD0 ?_ | refine now_E (fun hq => ?_) (fun hq => ?_) | refine now_N (fun hq => ?_) (fun hq => ?_) | refine now_D (fun hq => ?_) (fun hq => ?_) | refine rb1 ?_ | refine rb0 ?_ | refine rbx ?_ | refine rix ?_ | refine aS ?_ | fail)
end Go.MM
end
section
/- Meaning: the parts of predicates and policies, and whether they fit the fields. -/
namespace Go.MM
open Go Go.DL Go.Proofs
set_option maxRecDepth 100000
set_option maxHeartbeats 8000000

mutual
def partsR : RP → List RP
  | .mk k f n m a => .mk k f n m a :: partsRs a
def partsRs : List RP → List RP
  | [] => []
  | r :: rs => partsR r ++ partsRs rs
end
mutual
theorem partsR_len : ∀ r : RP, (partsR r).length = r.nodes
  | .mk k f n m a => by simp only [partsR, List.length_cons, partsRs_len a, RP.nodes]; omega
theorem partsRs_len : ∀ l : List RP, (partsRs l).length = nodesPs l
  | [] => rfl
  | r :: rs => by simp only [partsRs, List.length_append, partsR_len r, partsRs_len rs, nodesPs]
end
theorem partsRs_take : ∀ {l : List RP} {j : Nat} (h : j < l.length), partsRs (l.take (j + 1)) = partsRs (l.take j) ++ partsR l[j]
  | r :: rs, 0, h => by simp [partsRs]
  | r :: rs, j + 1, h => by
    have := partsRs_take (l := rs) (j := j) (by simpa using h)
    simp only [List.take_succ_cons, partsRs, List.getElem_cons_succ, this, List.append_assoc]

theorem t91 (N : Nat) : ∀ r : RP, r.nodes ≤ N → N < 2 ^ 40 → DCalls Try.prog 91 [.agg (cellsR r)] (.slice 5 ((partsR r).map encR)) := by
  induction N with
  | zero => intro r h; have := r.nodes_pos; omega
  | succ N ih =>
    rintro ⟨k, f, n, m, l⟩ hr hN
    refine dcalls_low (rs := [.tmp 2]) mixed Try.func91 l91 rfl rfl rfl (r := [.slice 5 _]) (Nat.le_of_ble_eq_true rfl) ?_
    simp only [RP.nodes, partsR] at hr ⊢
    have hl := nodesPs_len l
    repeat' ((conv => whnf); first | exact trivial | refine now_T ?_ | refine aE1 ?_ | refine aE0 ?_ | refine aN1 ?_ | refine aN0 ?_ | refine aD1 ?_ | refine aD0 ?_ | refine now_E (fun hq => ?_) (fun hq => ?_) | refine now_N (fun hq => ?_) (fun hq => ?_) | refine now_D (fun hq => ?_) (fun hq => ?_) | refine rb1 ?_ | refine rb0 ?_ | refine rbx ?_ | refine rix ?_ | refine aS ?_ | fail)
    refine wpC_loop (α := Nat × Nat) (fun q => {sl := [(1, .ptr 1 0), (3, .own q.1 35 5 ((RP.mk k f n m l :: partsRs (l.take q.2)).map encR)), (4, .t (I q.2))], bx := [(1, .d 5 (cellsR (.mk k f n m l)))]})
      (fun q => q.2 ≤ l.length) (fun q => l.length - q.2) (6, 0) (by simp) ?_ ?_
    · repeat' (first | exact trivial | exact LeV.same _ | exact LeB.same _ | exact rfl | exact fun _ _ _ => trivial | exact lI | exact LeV.nil _ _ _ | exact lB | refine leBd ?_ | refine leOwn ?_ | refine And.intro ?_ ?_)
      simp [partsRs, encR_cells]
    rintro ⟨o, i⟩ hi
    dsimp only at hi
    rcases Nat.lt_or_ge i l.length with h | h
    · have hn := nodesPs_take h
      have hm := nodesPs_mono (l := l) (j := i + 1)
      have hc := ih l[i] (by omega) (by omega)
      have e1 := partsR_len l[i]
      have e2 := partsRs_len (l.take i)
      have e3 := partsRs_take h
      repeat' ((conv => whnf); first | exact trivial | (refine now_v (.agg (cellsR l[i])) (by first | (simp [h, encR_cells]; done) | fail) ?_) | refine k_call _ (hc) ?_ | refine now_T ?_ | refine aE1 ?_ | refine aE0 ?_ | refine aN1 ?_ | refine aN0 ?_ | refine aD1 ?_ | refine aD0 ?_ | refine now_E (fun hq => ?_) (fun hq => ?_) | refine now_N (fun hq => ?_) (fun hq => ?_) | refine now_D (fun hq => ?_) (fun hq => ?_) | refine rb1 ?_ | refine rb0 ?_ | refine rbx ?_ | refine rix ?_ | (refine And.intro (by first | (exact cellsR_len _; done) | ((simp only [List.length_map, List.length_cons]; omega); done) | fail) ?_) | refine aS ?_ | fail)
      refine ⟨(21, i + 1), by dsimp only; omega, by dsimp only; omega, ?_⟩
      repeat' (first | exact trivial | exact LeV.same _ | exact LeB.same _ | exact rfl | exact fun _ _ _ => trivial | exact lI | exact LeV.nil _ _ _ | exact lB | refine leBd ?_ | refine leOwn ?_ | refine And.intro ?_ ?_)
      simp [e3]
    · have : i = l.length := by omega
      subst this
      rw [List.take_length]
      repeat' ((conv => whnf); first | exact trivial | refine now_T ?_ | refine aE1 ?_ | refine aE0 ?_ | refine aN1 ?_ | refine aN0 ?_ | refine aD1 ?_ | refine aD0 ?_ | refine now_E (fun hq => ?_) (fun hq => ?_) | refine now_N (fun hq => ?_) (fun hq => ?_) | refine now_D (fun hq => ?_) (fun hq => ?_) | refine rb1 ?_ | refine rb0 ?_ | refine rbx ?_ | refine rix ?_ | refine aS ?_ | fail)

mutual
def partsS : RO → List RO
  | .mk k p f n a => .mk k p f n a :: partsSs a
def partsSs : List RO → List RO
  | [] => []
  | r :: rs => partsS r ++ partsSs rs
end
mutual
/-- Nodes of a policy without those of predicates. -/
def RO.cnt : RO → Nat
  | .mk _ _ _ _ a => 1 + cntSs a
def cntSs : List RO → Nat
  | [] => 0
  | r :: rs => r.cnt + cntSs rs
end
mutual
theorem RO.cnt_le : ∀ r : RO, r.cnt ≤ r.wt
  | .mk k p _ _ a => by have := cntSs_le a; simp only [RO.cnt, RO.wt]; omega
theorem cntSs_le : ∀ l : List RO, cntSs l ≤ wtSs l
  | [] => Nat.le_refl _
  | r :: rs => by have := RO.cnt_le r; have := cntSs_le rs; simp only [cntSs, wtSs]; omega
end
mutual
theorem partsS_len : ∀ r : RO, (partsS r).length = r.cnt
  | .mk k p f n a => by simp only [partsS, List.length_cons, partsSs_len a, RO.cnt]; omega
theorem partsSs_len : ∀ l : List RO, (partsSs l).length = cntSs l
  | [] => rfl
  | r :: rs => by simp only [partsSs, List.length_append, partsS_len r, partsSs_len rs, cntSs]
end
theorem partsSs_take : ∀ {l : List RO} {j : Nat} (h : j < l.length), partsSs (l.take (j + 1)) = partsSs (l.take j) ++ partsS l[j]
  | r :: rs, 0, h => by simp [partsSs]
  | r :: rs, j + 1, h => by
    have := partsSs_take (l := rs) (j := j) (by simpa using h)
    simp only [List.take_succ_cons, partsSs, List.getElem_cons_succ, this, List.append_assoc]
theorem cntSs_take : ∀ {l : List RO} {j : Nat} (h : j < l.length), cntSs (l.take (j + 1)) = cntSs (l.take j) + l[j].cnt
  | r :: rs, 0, h => by simp [cntSs]
  | r :: rs, j + 1, h => by
    have := cntSs_take (l := rs) (j := j) (by simpa using h)
    simp only [List.take_succ_cons, cntSs, List.getElem_cons_succ]
    omega

theorem t64 (N : Nat) : ∀ r : RO, r.wt ≤ N → N < 2 ^ 40 → DCalls Try.prog 64 [.agg (cellsS r)] (.slice 9 ((partsS r).map encS)) := by
  induction N with
  | zero => intro r h; have := r.wt_pos; omega
  | succ N ih =>
    rintro ⟨k, ⟨pk, pf, pn, pm, pa⟩, f, n, l⟩ hr hN
    refine dcalls_low (rs := [.tmp 2]) mixed Try.func64 l64 rfl rfl rfl (r := [.slice 9 _]) (Nat.le_of_ble_eq_true rfl) ?_
    simp only [RO.wt, partsS] at hr ⊢
    have hl := wtSs_len l
    repeat' ((conv => whnf); first | exact trivial | refine now_T ?_ | refine aE1 ?_ | refine aE0 ?_ | refine aN1 ?_ | refine aN0 ?_ | refine aD1 ?_ | refine aD0 ?_ | refine now_E (fun hq => ?_) (fun hq => ?_) | refine now_N (fun hq => ?_) (fun hq => ?_) | refine now_D (fun hq => ?_) (fun hq => ?_) | refine rb1 ?_ | refine rb0 ?_ | refine rbx ?_ | refine rix ?_ | refine aS ?_ | fail)
    refine wpC_loop (α := Nat × Nat) (fun q => {sl := [(1, .ptr 1 0), (3, .own q.1 38 9 ((RO.mk k (.mk pk pf pn pm pa) f n l :: partsSs (l.take q.2)).map encS)), (4, .t (I q.2))], bx := [(1, .d 9 (cellsS (.mk k (.mk pk pf pn pm pa) f n l)))]})
      (fun q => q.2 ≤ l.length) (fun q => l.length - q.2) (6, 0) (by simp) ?_ ?_
    · repeat' (first | exact trivial | exact LeV.same _ | exact LeB.same _ | exact rfl | exact fun _ _ _ => trivial | exact lI | exact LeV.nil _ _ _ | exact lB | refine leBd ?_ | refine leOwn ?_ | refine And.intro ?_ ?_)
      simp [partsSs, encS_cells]
    rintro ⟨o, i⟩ hi
    dsimp only at hi
    rcases Nat.lt_or_ge i l.length with h | h
    · have hn := wtSs_take h
      have hm := wtSs_mono (l := l) (j := i + 1)
      have hc := ih l[i] (by omega) (by omega)
      have e1 := partsS_len l[i]
      have e2 := partsSs_len (l.take i)
      have e3 := partsSs_take h
      have e4 := cntSs_le (l.take i)
      have e5 := l[i].cnt_le
      repeat' ((conv => whnf); first | exact trivial | (refine now_v (.agg (cellsS l[i])) (by first | (simp [h, encS_cells]; done) | fail) ?_) | refine k_call _ (hc) ?_ | refine now_T ?_ | refine aE1 ?_ | refine aE0 ?_ | refine aN1 ?_ | refine aN0 ?_ | refine aD1 ?_ | refine aD0 ?_ | refine now_E (fun hq => ?_) (fun hq => ?_) | refine now_N (fun hq => ?_) (fun hq => ?_) | refine now_D (fun hq => ?_) (fun hq => ?_) | refine rb1 ?_ | refine rb0 ?_ | refine rbx ?_ | refine rix ?_ | (refine And.intro (by first | (exact cellsS_len _; done) | ((simp only [List.length_map, List.length_cons]; omega); done) | fail) ?_) | refine aS ?_ | fail)
      refine ⟨(21, i + 1), by dsimp only; omega, by dsimp only; omega, ?_⟩
      repeat' (first | exact trivial | exact LeV.same _ | exact LeB.same _ | exact rfl | exact fun _ _ _ => trivial | exact lI | exact LeV.nil _ _ _ | exact lB | refine leBd ?_ | refine leOwn ?_ | refine And.intro ?_ ?_)
      simp [e3]
    · have : i = l.length := by omega
      subst this
      rw [List.take_length]
      repeat' ((conv => whnf); first | exact trivial | refine now_T ?_ | refine aE1 ?_ | refine aE0 ?_ | refine aN1 ?_ | refine aN0 ?_ | refine aD1 ?_ | refine aD0 ?_ | refine now_E (fun hq => ?_) (fun hq => ?_) | refine now_N (fun hq => ?_) (fun hq => ?_) | refine now_D (fun hq => ?_) (fun hq => ?_) | refine rb1 ?_ | refine rb0 ?_ | refine rbx ?_ | refine rix ?_ | refine aS ?_ | fail)

theorem t72 (N : Nat) : ∀ r : RO, r.wt ≤ N → N < 2 ^ 60 → DCalls Try.prog 72 [.agg (cellsS r)] (I r.cnt) := by
  induction N with
  | zero => intro r h; have := r.wt_pos; omega
  | succ N ih =>
    rintro ⟨k, ⟨pk, pf, pn, pm, pa⟩, f, n, l⟩ hr hN
    refine dcalls_low (rs := [.tmp 2]) mixed Try.func72 l72 rfl rfl rfl (r := [.int _ _]) (Nat.le_of_ble_eq_true rfl) ?_
    simp only [RO.wt, RO.cnt] at hr ⊢
    have hl := wtSs_len l
    repeat' ((conv => whnf); first | exact trivial | refine now_T ?_ | refine aE1 ?_ | refine aE0 ?_ | refine aN1 ?_ | refine aN0 ?_ | refine aD1 ?_ | refine aD0 ?_ | refine now_E (fun hq => ?_) (fun hq => ?_) | refine now_N (fun hq => ?_) (fun hq => ?_) | refine now_D (fun hq => ?_) (fun hq => ?_) | refine rb1 ?_ | refine rb0 ?_ | refine rbx ?_ | refine rix ?_ | refine aS ?_ | fail)
    refine wpC_loop (α := Nat) (fun i => {sl := [(1, .ptr 1 0), (3, .t (I (1 + cntSs (l.take i) : Nat))), (4, .t (I i))], bx := [(1, .d 9 (cellsS (.mk k (.mk pk pf pn pm pa) f n l)))]})
      (fun i => i ≤ l.length) (fun i => l.length - i) 0 (by simp) ?_ ?_
    · repeat' (first | exact trivial | exact LeV.same _ | exact LeB.same _ | exact rfl | exact fun _ _ _ => trivial | exact lI | exact LeV.nil _ _ _ | exact lB | refine leBd ?_ | refine leOwn ?_ | refine And.intro ?_ ?_)
    rintro i hi
    rcases Nat.lt_or_ge i l.length with h | h
    · have hn := wtSs_take h
      have hm := wtSs_mono (l := l) (j := i + 1)
      have hc := ih l[i] (by omega) (by omega)
      have e4 := cntSs_le (l.take i)
      have e5 := l[i].cnt_le
      have e6 := cntSs_take h
      repeat' ((conv => whnf); first | exact trivial | (refine now_v (.agg (cellsS l[i])) (by first | (simp [h, encS_cells]; done) | fail) ?_) | refine k_call _ (hc) ?_ | refine now_T ?_ | refine aE1 ?_ | refine aE0 ?_ | refine aN1 ?_ | refine aN0 ?_ | refine aD1 ?_ | refine aD0 ?_ | refine now_E (fun hq => ?_) (fun hq => ?_) | refine now_N (fun hq => ?_) (fun hq => ?_) | refine now_D (fun hq => ?_) (fun hq => ?_) | refine rb1 ?_ | refine rb0 ?_ | refine rbx ?_ | refine rix ?_ | (refine And.intro (by first | (exact cellsS_len _; done) | fail) ?_) | refine aS ?_ | fail)
      refine ⟨i + 1, by omega, by omega, ?_⟩
      repeat' (first | exact trivial | exact LeV.same _ | exact LeB.same _ | exact rfl | exact fun _ _ _ => trivial | exact lI | exact LeV.nil _ _ _ | exact lB | refine leBd ?_ | refine leOwn ?_ | refine And.intro ?_ ?_)
    · have : i = l.length := by omega
      subst this
      rw [List.take_length]
      repeat' ((conv => whnf); first | exact trivial | refine now_T ?_ | refine aE1 ?_ | refine aE0 ?_ | refine aN1 ?_ | refine aN0 ?_ | refine aD1 ?_ | refine aD0 ?_ | refine now_E (fun hq => ?_) (fun hq => ?_) | refine now_N (fun hq => ?_) (fun hq => ?_) | refine now_D (fun hq => ?_) (fun hq => ?_) | refine rb1 ?_ | refine rb0 ?_ | refine rbx ?_ | refine rix ?_ | refine aS ?_ | fail)

mutual
def RO.stars : RO → Nat
  | .mk k _ _ _ a => starSs a + (if k = 5 then 1 else 0)
def starSs : List RO → Nat
  | [] => 0
  | r :: rs => max r.stars (starSs rs)
end
mutual
def RO.puts : RO → Nat
  | .mk k _ _ _ a => putSs a + (if k = 2 then 1 else 0)
def putSs : List RO → Nat
  | [] => 0
  | r :: rs => r.puts + putSs rs
end
mutual
theorem RO.stars_le : ∀ r : RO, r.stars ≤ r.wt
  | .mk k p _ _ a => by have := starSs_le a; have := p.nodes_pos; simp only [RO.stars, RO.wt]; split <;> omega
theorem starSs_le : ∀ l : List RO, starSs l ≤ wtSs l
  | [] => Nat.le_refl _
  | r :: rs => by have := RO.stars_le r; have := starSs_le rs; simp only [starSs, wtSs]; omega
end
mutual
theorem RO.puts_le : ∀ r : RO, r.puts ≤ r.wt
  | .mk k p _ _ a => by have := putSs_le a; have := p.nodes_pos; simp only [RO.puts, RO.wt]; split <;> omega
theorem putSs_le : ∀ l : List RO, putSs l ≤ wtSs l
  | [] => Nat.le_refl _
  | r :: rs => by have := RO.puts_le r; have := putSs_le rs; simp only [putSs, wtSs]; omega
end
theorem starSs_take : ∀ {l : List RO} {j : Nat} (h : j < l.length), starSs (l.take (j + 1)) = max (starSs (l.take j)) l[j].stars
  | r :: rs, 0, h => by simp [starSs]
  | r :: rs, j + 1, h => by
    have := starSs_take (l := rs) (j := j) (by simpa using h)
    simp only [List.take_succ_cons, starSs, List.getElem_cons_succ]
    omega
theorem putSs_take : ∀ {l : List RO} {j : Nat} (h : j < l.length), putSs (l.take (j + 1)) = putSs (l.take j) + l[j].puts
  | r :: rs, 0, h => by simp [putSs]
  | r :: rs, j + 1, h => by
    have := putSs_take (l := rs) (j := j) (by simpa using h)
    simp only [List.take_succ_cons, putSs, List.getElem_cons_succ]
    omega

theorem t60 (N : Nat) : ∀ r : RO, r.wt ≤ N → N < 2 ^ 60 → DCalls Try.prog 60 [.agg (cellsS r)] (I r.puts) := by
  induction N with
  | zero => intro r h; have := r.wt_pos; omega
  | succ N ih =>
    rintro ⟨k, ⟨pk, pf, pn, pm, pa⟩, f, n, l⟩ hr hN
    refine dcalls_low (rs := [.tmp 2]) mixed Try.func60 l60 rfl rfl rfl (r := [.int _ _]) (Nat.le_of_ble_eq_true rfl) ?_
    simp only [RO.wt, RO.puts] at hr ⊢
    have hl := wtSs_len l
    repeat' ((conv => whnf); first | exact trivial | refine now_T ?_ | refine aE1 ?_ | refine aE0 ?_ | refine aN1 ?_ | refine aN0 ?_ | refine aD1 ?_ | refine aD0 ?_ | refine now_E (fun hq => ?_) (fun hq => ?_) | refine now_N (fun hq => ?_) (fun hq => ?_) | refine now_D (fun hq => ?_) (fun hq => ?_) | refine rb1 ?_ | refine rb0 ?_ | refine rbx ?_ | refine rix ?_ | refine aS ?_ | fail)
    refine wpC_loop (α := Nat) (fun i => {sl := [(1, .ptr 1 0), (3, .t (I (putSs (l.take i) : Nat))), (4, .t (I i))], bx := [(1, .d 9 (cellsS (.mk k (.mk pk pf pn pm pa) f n l)))]})
      (fun i => i ≤ l.length) (fun i => l.length - i) 0 (by simp) ?_ ?_
    · repeat' (first | exact trivial | exact LeV.same _ | exact LeB.same _ | exact rfl | exact fun _ _ _ => trivial | exact lI | exact LeV.nil _ _ _ | exact lB | refine leBd ?_ | refine leOwn ?_ | refine And.intro ?_ ?_)
    rintro i hi
    rcases Nat.lt_or_ge i l.length with h | h
    · have hn := wtSs_take h
      have hm := wtSs_mono (l := l) (j := i + 1)
      have hc := ih l[i] (by omega) (by omega)
      have e4 := putSs_le (l.take i)
      have e5 := l[i].puts_le
      have e6 := putSs_take h
      repeat' ((conv => whnf); first | exact trivial | (refine now_v (.agg (cellsS l[i])) (by first | (simp [h, encS_cells]; done) | fail) ?_) | refine k_call _ (hc) ?_ | refine now_T ?_ | refine aE1 ?_ | refine aE0 ?_ | refine aN1 ?_ | refine aN0 ?_ | refine aD1 ?_ | refine aD0 ?_ | refine now_E (fun hq => ?_) (fun hq => ?_) | refine now_N (fun hq => ?_) (fun hq => ?_) | refine now_D (fun hq => ?_) (fun hq => ?_) | refine rb1 ?_ | refine rb0 ?_ | refine rbx ?_ | refine rix ?_ | (refine And.intro (by first | (exact cellsS_len _; done) | fail) ?_) | refine aS ?_ | fail)
      refine ⟨i + 1, by omega, by omega, ?_⟩
      repeat' (first | exact trivial | exact LeV.same _ | exact LeB.same _ | exact rfl | exact fun _ _ _ => trivial | exact lI | exact LeV.nil _ _ _ | exact lB | refine leBd ?_ | refine leOwn ?_ | refine And.intro ?_ ?_)
    · have : i = l.length := by omega
      subst this
      rw [List.take_length]
      have e4 := putSs_le l
      by_cases hk : k = 2
      · simp only [hk, if_true]
        repeat' ((conv => whnf); first | exact trivial | refine now_T ?_ | refine aE1 ?_ | refine aE0 ?_ | refine aN1 ?_ | refine aN0 ?_ | refine aD1 ?_ | refine aD0 ?_ | refine now_E (fun hq => ?_) (fun hq => ?_) | refine now_N (fun hq => ?_) (fun hq => ?_) | refine now_D (fun hq => ?_) (fun hq => ?_) | refine rb1 ?_ | refine rb0 ?_ | refine rbx ?_ | refine rix ?_ | refine aS ?_ | fail)
      · simp only [hk, if_false]
        repeat' ((conv => whnf); first | exact trivial | refine now_T ?_ | refine aE1 ?_ | refine aE0 ?_ | refine aN1 ?_ | refine aN0 ?_ | refine aD1 ?_ | refine aD0 ?_ | refine now_E (fun hq => ?_) (fun hq => ?_) | refine now_N (fun hq => ?_) (fun hq => ?_) | refine now_D (fun hq => ?_) (fun hq => ?_) | refine rb1 ?_ | refine rb0 ?_ | refine rbx ?_ | refine rix ?_ | refine aS ?_ | fail)

theorem t59 (N : Nat) : ∀ r : RO, r.wt ≤ N → N < 2 ^ 60 → DCalls Try.prog 59 [.agg (cellsS r)] (I r.stars) := by
  induction N with
  | zero => intro r h; have := r.wt_pos; omega
  | succ N ih =>
    rintro ⟨k, ⟨pk, pf, pn, pm, pa⟩, f, n, l⟩ hr hN
    refine dcalls_low (rs := [.tmp 2]) mixed Try.func59 l59 rfl rfl rfl (r := [.int _ _]) (Nat.le_of_ble_eq_true rfl) ?_
    simp only [RO.wt, RO.stars] at hr ⊢
    have hl := wtSs_len l
    repeat' ((conv => whnf); first | exact trivial | refine now_T ?_ | refine aE1 ?_ | refine aE0 ?_ | refine aN1 ?_ | refine aN0 ?_ | refine aD1 ?_ | refine aD0 ?_ | refine now_E (fun hq => ?_) (fun hq => ?_) | refine now_N (fun hq => ?_) (fun hq => ?_) | refine now_D (fun hq => ?_) (fun hq => ?_) | refine rb1 ?_ | refine rb0 ?_ | refine rbx ?_ | refine rix ?_ | refine aS ?_ | fail)
    refine wpC_loop (α := Nat) (fun i => {sl := [(1, .ptr 1 0), (3, .t (I (starSs (l.take i) : Nat))), (4, .t (I i))], bx := [(1, .d 9 (cellsS (.mk k (.mk pk pf pn pm pa) f n l)))]})
      (fun i => i ≤ l.length) (fun i => l.length - i) 0 (by simp) ?_ ?_
    · repeat' (first | exact trivial | exact LeV.same _ | exact LeB.same _ | exact rfl | exact fun _ _ _ => trivial | exact lI | exact LeV.nil _ _ _ | exact lB | refine leBd ?_ | refine leOwn ?_ | refine And.intro ?_ ?_)
    rintro i hi
    rcases Nat.lt_or_ge i l.length with h | h
    · have hn := wtSs_take h
      have hm := wtSs_mono (l := l) (j := i + 1)
      have hc := ih l[i] (by omega) (by omega)
      have e4 := starSs_le (l.take i)
      have e5 := l[i].stars_le
      have e6 := starSs_take h
      have e7 : ((starSs (l.take (i + 1)) : Nat) : Int) = if ((l[i].stars : Nat) : Int) > (starSs (l.take i) : Nat) then ((l[i].stars : Nat) : Int) else (starSs (l.take i) : Nat) := by rw [e6]; split <;> omega
      repeat' ((conv => whnf); first | exact trivial | (refine now_v (.agg (cellsS l[i])) (by first | (simp [h, encS_cells]; done) | fail) ?_) | refine k_call _ (hc) ?_ | refine now_T ?_ | refine aE1 ?_ | refine aE0 ?_ | refine aN1 ?_ | refine aN0 ?_ | refine aD1 ?_ | refine aD0 ?_ | refine now_E (fun hq => ?_) (fun hq => ?_) | refine now_N (fun hq => ?_) (fun hq => ?_) | refine now_D (fun hq => ?_) (fun hq => ?_) | refine rb1 ?_ | refine rb0 ?_ | refine rbx ?_ | refine rix ?_ | (refine And.intro (by first | (exact cellsS_len _; done) | fail) ?_) | refine aS ?_ | fail)
      refine ⟨i + 1, by omega, by omega, ?_⟩
      repeat' (first | (exact leI e7) | exact trivial | exact LeV.same _ | exact LeB.same _ | exact rfl | exact fun _ _ _ => trivial | exact lI | exact LeV.nil _ _ _ | exact lB | refine leBd ?_ | refine leOwn ?_ | refine And.intro ?_ ?_)
    · have : i = l.length := by omega
      subst this
      rw [List.take_length]
      have e4 := starSs_le l
      by_cases hk : k = 5
      · simp only [hk, if_true]
        repeat' ((conv => whnf); first | exact trivial | refine now_T ?_ | refine aE1 ?_ | refine aE0 ?_ | refine aN1 ?_ | refine aN0 ?_ | refine aD1 ?_ | refine aD0 ?_ | refine now_E (fun hq => ?_) (fun hq => ?_) | refine now_N (fun hq => ?_) (fun hq => ?_) | refine now_D (fun hq => ?_) (fun hq => ?_) | refine rb1 ?_ | refine rb0 ?_ | refine rbx ?_ | refine rix ?_ | refine aS ?_ | fail)
      · simp only [hk, if_false]
        repeat' ((conv => whnf); first | exact trivial | refine now_T ?_ | refine aE1 ?_ | refine aE0 ?_ | refine aN1 ?_ | refine aN0 ?_ | refine aD1 ?_ | refine aD0 ?_ | refine now_E (fun hq => ?_) (fun hq => ?_) | refine now_N (fun hq => ?_) (fun hq => ?_) | refine now_D (fun hq => ?_) (fun hq => ?_) | refine rb1 ?_ | refine rb0 ?_ | refine rbx ?_ | refine rix ?_ | refine aS ?_ | fail)

def lightB (n k : Nat) : Bool := (n == 0) || ((n == 1) && decide (k ≤ 8)) || ((n == 2) && decide (k ≤ 4)) || ((n == 3) && decide (k ≤ 3)) || ((n == 4) && decide (k ≤ 2))
theorem t38 (r : RO) (hr : r.wt < 2 ^ 60) : DCalls Try.prog 38 [.agg (cellsS r)] (.bool (lightB r.stars r.puts)) := by
  refine dcalls_low (rs := [.tmp 2]) mixed Try.func38 l38 rfl rfl rfl (r := [.bool _]) (Nat.le_of_ble_eq_true rfl) ?_
  have h1 := t59 _ r (Nat.le_refl _) hr
  have h2 := t60 _ r (Nat.le_refl _) hr
  generalize r.stars = n at *
  generalize r.puts = m at *
  unfold lightB
  repeat' ((conv => whnf); first | exact trivial | refine k_call _ (h1) ?_ | refine k_call _ (h2) ?_ | refine now_T ?_ | refine aE1 ?_ | refine aE0 ?_ | refine aN1 ?_ | refine aN0 ?_ | refine aD1 ?_ | refine aD0 ?_ | refine now_E (fun hq => ?_) (fun hq => ?_) | refine now_N (fun hq => ?_) (fun hq => ?_) | refine now_D (fun hq => ?_) (fun hq => ?_) | refine rb1 ?_ | refine rb0 ?_ | refine rbx ?_ | refine rix ?_ | (refine And.intro (by first | (exact cellsS_len _; done) | fail) ?_) | refine aS ?_ | fail)
end Go.MM
end
section
/- Meaning: whether policies fit the fields; what is right. -/
namespace Go.MM
open Go Go.DL Go.Proofs
set_option maxRecDepth 100000
set_option maxHeartbeats 8000000

/-- One part of a predicate, by its cells. -/
def fitP (l : List Fd) : RP → Int
  | .mk k f n m _ => if k = 3 ∨ k = 4 ∨ k = 5 then (match findF l f with
      | none => 4
      | some F => if (if k = 5 then m else n) > ((2 ^ F.w - 1 : Nat) : Int) ∨ (k = 4 ∧ m > F.w) then 1 else 0) else 0

theorem fields_w {l : List Fd} (hl : LOk l) {s : ByteArray} {F : Fd} (h : findF l s = some F) : F.w ≤ 16 := by
  have := (hl.find h).w2; omega

theorem t92 (l : List Fd) (hl : LOk l) (r : RP) : DCalls Try.prog 92 [fds l, .agg (cellsR r)] (I (fitP l r)) := by
  obtain ⟨k, f, n, m, a⟩ := r
  refine dcalls_low (rs := [.tmp 4]) mixed Try.func92 l92 rfl rfl rfl (r := [.int _ _]) (Nat.le_of_ble_eq_true rfl) ?_
  have h51 := t51 l f hl.len
  simp only [fitP]
  by_cases hk : k = 3 ∨ k = 4 ∨ k = 5
  · rw [if_pos hk]
    unfold findT at h51
    cases hF : findF l f with
    | none =>
      rw [hF] at h51
      simp only at h51 ⊢
      rcases hk with rfl | rfl | rfl <;> repeat' ((conv => whnf); first | exact trivial | refine k_call _ (h51) ?_ | refine now_T ?_ | refine aE1 ?_ | refine aE0 ?_ | refine aN1 ?_ | refine aN0 ?_ | refine aD1 ?_ | refine aD0 ?_ | refine now_E (fun hq => ?_) (fun hq => ?_) | refine now_N (fun hq => ?_) (fun hq => ?_) | refine now_D (fun hq => ?_) (fun hq => ?_) | refine rb1 ?_ | refine rb0 ?_ | refine rbx ?_ | refine rix ?_ | refine aS ?_ | fail)
    | some F =>
      rw [hF] at h51
      simp only at h51 ⊢
      have hw := fields_w hl hF
      have h66 := t66 F (hl.find hF)
      obtain ⟨s, fa, w⟩ := F
      simp only at hw h66 ⊢
      generalize hM : ((2 ^ w - 1 : Nat) : Int) = M at *
      rcases hk with rfl | rfl | rfl
      · by_cases c : n > M
        · rw [if_pos (by simp; omega)]; repeat' ((conv => whnf); first | exact trivial | refine k_call _ (h51) ?_ | refine k_call _ (h66) ?_ | refine now_T ?_ | refine aE1 ?_ | refine aE0 ?_ | refine aN1 ?_ | refine aN0 ?_ | refine aD1 ?_ | refine aD0 ?_ | refine now_E (fun hq => ?_) (fun hq => ?_) | refine now_N (fun hq => ?_) (fun hq => ?_) | refine now_D (fun hq => ?_) (fun hq => ?_) | refine rb1 ?_ | refine rb0 ?_ | refine rbx ?_ | refine rix ?_ | refine aS ?_ | fail)
        · rw [if_neg (by simp; omega)]; repeat' ((conv => whnf); first | exact trivial | refine k_call _ (h51) ?_ | refine k_call _ (h66) ?_ | refine now_T ?_ | refine aE1 ?_ | refine aE0 ?_ | refine aN1 ?_ | refine aN0 ?_ | refine aD1 ?_ | refine aD0 ?_ | refine now_E (fun hq => ?_) (fun hq => ?_) | refine now_N (fun hq => ?_) (fun hq => ?_) | refine now_D (fun hq => ?_) (fun hq => ?_) | refine rb1 ?_ | refine rb0 ?_ | refine rbx ?_ | refine rix ?_ | refine aS ?_ | fail)
      · by_cases c : n > M
        · rw [if_pos (by simp; omega)]; repeat' ((conv => whnf); first | exact trivial | refine k_call _ (h51) ?_ | refine k_call _ (h66) ?_ | refine now_T ?_ | refine aE1 ?_ | refine aE0 ?_ | refine aN1 ?_ | refine aN0 ?_ | refine aD1 ?_ | refine aD0 ?_ | refine now_E (fun hq => ?_) (fun hq => ?_) | refine now_N (fun hq => ?_) (fun hq => ?_) | refine now_D (fun hq => ?_) (fun hq => ?_) | refine rb1 ?_ | refine rb0 ?_ | refine rbx ?_ | refine rix ?_ | refine aS ?_ | fail)
        · by_cases d : m > (w : Int)
          · rw [if_pos (by simp; omega)]; repeat' ((conv => whnf); first | exact trivial | refine k_call _ (h51) ?_ | refine k_call _ (h66) ?_ | refine now_T ?_ | refine aE1 ?_ | refine aE0 ?_ | refine aN1 ?_ | refine aN0 ?_ | refine aD1 ?_ | refine aD0 ?_ | refine now_E (fun hq => ?_) (fun hq => ?_) | refine now_N (fun hq => ?_) (fun hq => ?_) | refine now_D (fun hq => ?_) (fun hq => ?_) | refine rb1 ?_ | refine rb0 ?_ | refine rbx ?_ | refine rix ?_ | refine aS ?_ | fail)
          · rw [if_neg (by simp; omega)]; repeat' ((conv => whnf); first | exact trivial | refine k_call _ (h51) ?_ | refine k_call _ (h66) ?_ | refine now_T ?_ | refine aE1 ?_ | refine aE0 ?_ | refine aN1 ?_ | refine aN0 ?_ | refine aD1 ?_ | refine aD0 ?_ | refine now_E (fun hq => ?_) (fun hq => ?_) | refine now_N (fun hq => ?_) (fun hq => ?_) | refine now_D (fun hq => ?_) (fun hq => ?_) | refine rb1 ?_ | refine rb0 ?_ | refine rbx ?_ | refine rix ?_ | refine aS ?_ | fail)
      · by_cases c : m > M
        · rw [if_pos (by simp; omega)]; repeat' ((conv => whnf); first | exact trivial | refine k_call _ (h51) ?_ | refine k_call _ (h66) ?_ | refine now_T ?_ | refine aE1 ?_ | refine aE0 ?_ | refine aN1 ?_ | refine aN0 ?_ | refine aD1 ?_ | refine aD0 ?_ | refine now_E (fun hq => ?_) (fun hq => ?_) | refine now_N (fun hq => ?_) (fun hq => ?_) | refine now_D (fun hq => ?_) (fun hq => ?_) | refine rb1 ?_ | refine rb0 ?_ | refine rbx ?_ | refine rix ?_ | refine aS ?_ | fail)
        · rw [if_neg (by simp; omega)]; repeat' ((conv => whnf); first | exact trivial | refine k_call _ (h51) ?_ | refine k_call _ (h66) ?_ | refine now_T ?_ | refine aE1 ?_ | refine aE0 ?_ | refine aN1 ?_ | refine aN0 ?_ | refine aD1 ?_ | refine aD0 ?_ | refine now_E (fun hq => ?_) (fun hq => ?_) | refine now_N (fun hq => ?_) (fun hq => ?_) | refine now_D (fun hq => ?_) (fun hq => ?_) | refine rb1 ?_ | refine rb0 ?_ | refine rbx ?_ | refine rix ?_ | refine aS ?_ | fail)
  · rw [if_neg hk]
    have h3 : k ≠ 3 := fun h => hk (.inl h)
    have h4 : k ≠ 4 := fun h => hk (.inr (.inl h))
    have h5 : k ≠ 5 := fun h => hk (.inr (.inr h))
    repeat' ((conv => whnf); first | exact trivial | refine now_T ?_ | refine aE1 ?_ | refine aE0 ?_ | refine aN1 ?_ | refine aN0 ?_ | refine aD1 ?_ | refine aD0 ?_ | refine now_E (fun hq => ?_) (fun hq => ?_) | refine now_N (fun hq => ?_) (fun hq => ?_) | refine now_D (fun hq => ?_) (fun hq => ?_) | refine rb1 ?_ | refine rb0 ?_ | refine rbx ?_ | refine rix ?_ | refine aS ?_ | fail)

def fitAll (l : List Fd) (r : RP) : Int := firstNZ ((partsR r).map (fitP l))
theorem t65 (l : List Fd) (hl : LOk l) (r : RP) (hr : r.nodes < 2 ^ 40) : DCalls Try.prog 65 [fds l, .agg (cellsR r)] (I (fitAll l r)) := by
  refine dcalls_low (rs := [.tmp 4]) mixed Try.func65 l65 rfl rfl rfl (r := [.int _ _]) (Nat.le_of_ble_eq_true rfl) ?_
  have h91 := t91 _ r (Nat.le_refl _) hr
  have hlen := partsR_len r
  unfold fitAll
  generalize partsR r = ps at *
  repeat' ((conv => whnf); first | exact trivial | refine k_call _ (h91) ?_ | refine now_T ?_ | refine aE1 ?_ | refine aE0 ?_ | refine aN1 ?_ | refine aN0 ?_ | refine aD1 ?_ | refine aD0 ?_ | refine now_E (fun hq => ?_) (fun hq => ?_) | refine now_N (fun hq => ?_) (fun hq => ?_) | refine now_D (fun hq => ?_) (fun hq => ?_) | refine rb1 ?_ | refine rb0 ?_ | refine rbx ?_ | refine rix ?_ | (refine And.intro (by first | (exact cellsR_len _; done) | fail) ?_) | refine aS ?_ | fail)
  refine wpC_loop (α := Nat) (fun i => {sl := [(0, .t (fds l)), (5, .t (.slice 5 (ps.map encR))), (6, .t (I i))], bx := []})
    (fun i => i ≤ ps.length ∧ ∀ j (h : j < ps.length), j < i → fitP l ps[j] = 0) (fun i => ps.length - i) 0 (by simp) ?_ ?_
  · repeat' (first | exact trivial | exact LeV.same _ | exact LeB.same _ | exact rfl | exact fun _ _ _ => trivial | exact lI | exact LeV.nil _ _ _ | exact lB | refine leBd ?_ | refine leOwn ?_ | refine And.intro ?_ ?_)
  rintro i ⟨hi, hp⟩
  rcases Nat.lt_or_ge i ps.length with h | h
  · have h92 := t92 l hl ps[i]
    by_cases h0 : fitP l ps[i] = 0
    · rw [h0] at h92
      repeat' ((conv => whnf); first | exact trivial | (refine now_v (.agg (cellsR ps[i])) (by first | (simp [h, encR_cells]; done) | fail) ?_) | refine k_call _ (h92) ?_ | refine now_T ?_ | refine aE1 ?_ | refine aE0 ?_ | refine aN1 ?_ | refine aN0 ?_ | refine aD1 ?_ | refine aD0 ?_ | refine now_E (fun hq => ?_) (fun hq => ?_) | refine now_N (fun hq => ?_) (fun hq => ?_) | refine now_D (fun hq => ?_) (fun hq => ?_) | refine rb1 ?_ | refine rb0 ?_ | refine rbx ?_ | refine rix ?_ | (refine And.intro (by first | (exact cellsR_len _; done) | fail) ?_) | refine aS ?_ | fail)
      refine ⟨i + 1, ⟨h, fun j hj hlt => ?_⟩, by omega, ?_⟩
      · rcases Nat.lt_or_ge j i with h4 | h4
        · exact hp j hj h4
        · obtain rfl : j = i := by omega
          exact h0
      · repeat' (first | exact trivial | exact LeV.same _ | exact LeB.same _ | exact rfl | exact fun _ _ _ => trivial | exact lI | exact LeV.nil _ _ _ | exact lB | refine leBd ?_ | refine leOwn ?_ | refine And.intro ?_ ?_)
    · have e : firstNZ (ps.map (fitP l)) = fitP l ps[i] := by
        have := firstNZ_at (l := ps.map (fitP l)) (i := i) (by simpa using h) (fun j hj hlt => by simpa using hp j (by simpa using hj) hlt) (by simpa using h0)
        simpa using this
      rw [e]
      generalize fitP l ps[i] = e at *
      repeat' ((conv => whnf); first | exact trivial | (refine now_v (.agg (cellsR ps[i])) (by first | (simp [h, encR_cells]; done) | fail) ?_) | refine k_call _ (h92) ?_ | refine now_T ?_ | refine aE1 ?_ | refine aE0 ?_ | refine aN1 ?_ | refine aN0 ?_ | refine aD1 ?_ | refine aD0 ?_ | refine now_E (fun hq => ?_) (fun hq => ?_) | refine now_N (fun hq => ?_) (fun hq => ?_) | refine now_D (fun hq => ?_) (fun hq => ?_) | refine rb1 ?_ | refine rb0 ?_ | refine rbx ?_ | refine rix ?_ | (refine And.intro (by first | (exact cellsR_len _; done) | fail) ?_) | refine aS ?_ | fail)
  · rw [firstNZ_0 fun j hj => by simpa using hp j (by simpa using hj) (by simp at hj; omega)]
    repeat' ((conv => whnf); first | exact trivial | refine now_T ?_ | refine aE1 ?_ | refine aE0 ?_ | refine aN1 ?_ | refine aN0 ?_ | refine aD1 ?_ | refine aD0 ?_ | refine now_E (fun hq => ?_) (fun hq => ?_) | refine now_N (fun hq => ?_) (fun hq => ?_) | refine now_D (fun hq => ?_) (fun hq => ?_) | refine rb1 ?_ | refine rb0 ?_ | refine rbx ?_ | refine rix ?_ | refine aS ?_ | fail)

def fitO (l : List Fd) : RO → Int
  | .mk k p f n _ => if k = 1 then fitAll l p else if k = 2 then (match findF l f with
      | none => 4
      | some F => if n > ((2 ^ F.w - 1 : Nat) : Int) then 1 else 0) else 0
def polI (l : List Fd) (r : RO) : Int := if checkO r ≠ 0 then checkO r else firstNZ ((partsS r).map (fitO l))

mutual
theorem partsS_wt : ∀ r : RO, ∀ x ∈ partsS r, x.wt ≤ r.wt
  | .mk k p f n a => fun x hx => by
    simp only [partsS, List.mem_cons] at hx
    rcases hx with rfl | hx
    · exact Nat.le_refl _
    · have := partsSs_wt a x hx; simp only [RO.wt]; omega
theorem partsSs_wt : ∀ l : List RO, ∀ x ∈ partsSs l, x.wt ≤ wtSs l
  | [] => fun x hx => by simp [partsSs] at hx
  | r :: rs => fun x hx => by
    simp only [partsSs, List.mem_append] at hx
    simp only [wtSs]
    rcases hx with hx | hx
    · have := partsS_wt r x hx; omega
    · have := partsSs_wt rs x hx; omega
end

theorem t40 (l : List Fd) (hl : LOk l) (r : RO) (hr : r.wt < 2 ^ 40) (hn : namesO r) : DCalls Try.prog 40 [fds l, .agg (cellsS r)] (I (polI l r)) := by
  refine dcalls_low (rs := [.tmp 4]) mixed Try.func40 l40 rfl rfl rfl (r := [.int _ _]) (Nat.le_of_ble_eq_true rfl) ?_
  have h63 := t63 r (by omega) hn
  have h64 := t64 _ r (Nat.le_refl _) hr
  have hlen := partsS_len r
  have hw := partsS_wt r
  have hcl := r.cnt_le
  unfold polI
  generalize partsS r = ps at *
  by_cases hc : checkO r ≠ 0
  · rw [if_pos hc]
    generalize checkO r = e at *
    repeat' ((conv => whnf); first | exact trivial | refine k_call _ (h63) ?_ | refine now_T ?_ | refine aE1 ?_ | refine aE0 ?_ | refine aN1 ?_ | refine aN0 ?_ | refine aD1 ?_ | refine aD0 ?_ | refine now_E (fun hq => ?_) (fun hq => ?_) | refine now_N (fun hq => ?_) (fun hq => ?_) | refine now_D (fun hq => ?_) (fun hq => ?_) | refine rb1 ?_ | refine rb0 ?_ | refine rbx ?_ | refine rix ?_ | (refine And.intro (by first | (exact cellsS_len _; done) | fail) ?_) | refine aS ?_ | fail)
  rw [if_neg hc]
  have hc : checkO r = 0 := Decidable.not_not.1 hc
  rw [hc] at h63
  repeat' ((conv => whnf); first | exact trivial | refine k_call _ (h63) ?_ | refine k_call _ (h64) ?_ | refine now_T ?_ | refine aE1 ?_ | refine aE0 ?_ | refine aN1 ?_ | refine aN0 ?_ | refine aD1 ?_ | refine aD0 ?_ | refine now_E (fun hq => ?_) (fun hq => ?_) | refine now_N (fun hq => ?_) (fun hq => ?_) | refine now_D (fun hq => ?_) (fun hq => ?_) | refine rb1 ?_ | refine rb0 ?_ | refine rbx ?_ | refine rix ?_ | (refine And.intro (by first | (exact cellsS_len _; done) | fail) ?_) | refine aS ?_ | fail)
  refine wpC_loop (α := Nat) (fun i => {sl := [(0, .t (fds l)), (5, .t (I 0)), (6, .t (.slice 9 (ps.map encS))), (7, .t (I i))], bx := []})
    (fun i => i ≤ ps.length ∧ ∀ j (h : j < ps.length), j < i → fitO l ps[j] = 0) (fun i => ps.length - i) 0 (by simp) ?_ ?_
  · repeat' (first | exact trivial | exact LeV.same _ | exact LeB.same _ | exact rfl | exact fun _ _ _ => trivial | exact lI | exact LeV.nil _ _ _ | exact lB | refine leBd ?_ | refine leOwn ?_ | refine And.intro ?_ ?_)
  rintro i ⟨hi, hp⟩
  rcases Nat.lt_or_ge i ps.length with h | h
  · have res : ∀ e, fitO l ps[i] = e → e ≠ 0 → firstNZ (ps.map (fitO l)) = e := fun e he h0 => by
      have := firstNZ_at (l := ps.map (fitO l)) (i := i) (by simpa using h) (fun j hj hlt => by simpa using hp j (by simpa using hj) hlt) (by simpa [he] using h0)
      rw [this]; simpa using he
    have next : fitO l ps[i] = 0 → i + 1 ≤ ps.length ∧ ∀ j (h : j < ps.length), j < i + 1 → fitO l ps[j] = 0 := fun h0 => by
      refine ⟨h, fun j hj hlt => ?_⟩
      rcases Nat.lt_or_ge j i with h4 | h4
      · exact hp j hj h4
      · obtain rfl : j = i := by omega
        exact h0
    have hwi := hw _ (List.getElem_mem h)
    have hg : (ps.map encS)[i]?.getD .nil = .agg (cellsS ps[i]) := by simp [h, encS_cells]
    generalize ps[i] = x at *
    obtain ⟨k, ⟨pk, pf, pn, pm, pa⟩, f, n, a⟩ := x
    have h51 := t51 l f hl.len
    by_cases hk1 : k = 1
    · subst hk1
      have h65 := t65 l hl (.mk pk pf pn pm pa) (by simp only [RO.wt] at hwi; omega)
      have ef : fitO l (.mk 1 (.mk pk pf pn pm pa) f n a) = fitAll l (.mk pk pf pn pm pa) := by simp [fitO]
      rw [ef] at res next
      generalize fitAll l (.mk pk pf pn pm pa) = e at *
      by_cases h0 : e = 0
      · subst h0
        repeat' ((conv => whnf); first | exact trivial | (refine now_v (.agg (cellsS (.mk 1 (.mk pk pf pn pm pa) f n a))) (by first | (exact hg; done) | fail) ?_) | refine k_call _ (h65) ?_ | (exact ⟨i + 1, next rfl, by omega, by (repeat' (first | exact trivial | exact LeV.same _ | exact LeB.same _ | exact rfl | exact fun _ _ _ => trivial | exact lI | exact LeV.nil _ _ _ | exact lB | refine leBd ?_ | refine leOwn ?_ | refine And.intro ?_ ?_)); done⟩) | refine now_T ?_ | refine aE1 ?_ | refine aE0 ?_ | refine aN1 ?_ | refine aN0 ?_ | refine aD1 ?_ | refine aD0 ?_ | refine now_E (fun hq => ?_) (fun hq => ?_) | refine now_N (fun hq => ?_) (fun hq => ?_) | refine now_D (fun hq => ?_) (fun hq => ?_) | refine rb1 ?_ | refine rb0 ?_ | refine rbx ?_ | refine rix ?_ | refine aS ?_ | fail)
      · rw [res e rfl h0]
        repeat' ((conv => whnf); first | exact trivial | (refine now_v (.agg (cellsS (.mk 1 (.mk pk pf pn pm pa) f n a))) (by first | (exact hg; done) | fail) ?_) | refine k_call _ (h65) ?_ | refine now_T ?_ | refine aE1 ?_ | refine aE0 ?_ | refine aN1 ?_ | refine aN0 ?_ | refine aD1 ?_ | refine aD0 ?_ | refine now_E (fun hq => ?_) (fun hq => ?_) | refine now_N (fun hq => ?_) (fun hq => ?_) | refine now_D (fun hq => ?_) (fun hq => ?_) | refine rb1 ?_ | refine rb0 ?_ | refine rbx ?_ | refine rix ?_ | refine aS ?_ | fail)
    · by_cases hk2 : k = 2
      · subst hk2
        unfold findT at h51
        cases hF : findF l f with
        | none =>
          rw [hF] at h51
          rw [res 4 (by simp [fitO, hF]) (by decide)]
          simp only at h51
          repeat' ((conv => whnf); first | exact trivial | (refine now_v (.agg (cellsS (.mk 2 (.mk pk pf pn pm pa) f n a))) (by first | (exact hg; done) | fail) ?_) | refine k_call _ (h51) ?_ | refine now_T ?_ | refine aE1 ?_ | refine aE0 ?_ | refine aN1 ?_ | refine aN0 ?_ | refine aD1 ?_ | refine aD0 ?_ | refine now_E (fun hq => ?_) (fun hq => ?_) | refine now_N (fun hq => ?_) (fun hq => ?_) | refine now_D (fun hq => ?_) (fun hq => ?_) | refine rb1 ?_ | refine rb0 ?_ | refine rbx ?_ | refine rix ?_ | refine aS ?_ | fail)
        | some F =>
          rw [hF] at h51
          simp only at h51
          have h66 := t66 F (hl.find hF)
          by_cases hc : n > ((2 ^ F.w - 1 : Nat) : Int)
          · rw [res 1 (by simp only [fitO, hF]; rw [if_neg (by decide), if_pos trivial, if_pos hc]) (by decide)]
            generalize ((2 ^ F.w - 1 : Nat) : Int) = M at *
            repeat' ((conv => whnf); first | exact trivial | (refine now_v (.agg (cellsS (.mk 2 (.mk pk pf pn pm pa) f n a))) (by first | (exact hg; done) | fail) ?_) | refine k_call _ (h51) ?_ | refine k_call _ (h66) ?_ | refine now_T ?_ | refine aE1 ?_ | refine aE0 ?_ | refine aN1 ?_ | refine aN0 ?_ | refine aD1 ?_ | refine aD0 ?_ | refine now_E (fun hq => ?_) (fun hq => ?_) | refine now_N (fun hq => ?_) (fun hq => ?_) | refine now_D (fun hq => ?_) (fun hq => ?_) | refine rb1 ?_ | refine rb0 ?_ | refine rbx ?_ | refine rix ?_ | refine aS ?_ | fail)
          · have next := next (by simp only [fitO, hF]; rw [if_neg (by decide), if_pos trivial, if_neg hc])
            generalize ((2 ^ F.w - 1 : Nat) : Int) = M at *
            repeat' ((conv => whnf); first | exact trivial | (refine now_v (.agg (cellsS (.mk 2 (.mk pk pf pn pm pa) f n a))) (by first | (exact hg; done) | fail) ?_) | refine k_call _ (h51) ?_ | refine k_call _ (h66) ?_ | (exact ⟨i + 1, next, by omega, by (repeat' (first | exact trivial | exact LeV.same _ | exact LeB.same _ | exact rfl | exact fun _ _ _ => trivial | exact lI | exact LeV.nil _ _ _ | exact lB | refine leBd ?_ | refine leOwn ?_ | refine And.intro ?_ ?_)); done⟩) | refine now_T ?_ | refine aE1 ?_ | refine aE0 ?_ | refine aN1 ?_ | refine aN0 ?_ | refine aD1 ?_ | refine aD0 ?_ | refine now_E (fun hq => ?_) (fun hq => ?_) | refine now_N (fun hq => ?_) (fun hq => ?_) | refine now_D (fun hq => ?_) (fun hq => ?_) | refine rb1 ?_ | refine rb0 ?_ | refine rbx ?_ | refine rix ?_ | refine aS ?_ | fail)
      · have next := next (by simp only [fitO]; rw [if_neg hk1, if_neg hk2])
        repeat' ((conv => whnf); first | exact trivial | (refine now_v (.agg (cellsS (.mk k (.mk pk pf pn pm pa) f n a))) (by first | (exact hg; done) | fail) ?_) | (exact ⟨i + 1, next, by omega, by (repeat' (first | exact trivial | exact LeV.same _ | exact LeB.same _ | exact rfl | exact fun _ _ _ => trivial | exact lI | exact LeV.nil _ _ _ | exact lB | refine leBd ?_ | refine leOwn ?_ | refine And.intro ?_ ?_)); done⟩) | refine now_T ?_ | refine aE1 ?_ | refine aE0 ?_ | refine aN1 ?_ | refine aN0 ?_ | refine aD1 ?_ | refine aD0 ?_ | refine now_E (fun hq => ?_) (fun hq => ?_) | refine now_N (fun hq => ?_) (fun hq => ?_) | refine now_D (fun hq => ?_) (fun hq => ?_) | refine rb1 ?_ | refine rb0 ?_ | refine rbx ?_ | refine rix ?_ | refine aS ?_ | fail)
  · rw [firstNZ_0 fun j hj => by simpa using hp j (by simpa using hj) (by simp at hj; omega)]
    repeat' ((conv => whnf); first | exact trivial | refine now_T ?_ | refine aE1 ?_ | refine aE0 ?_ | refine aN1 ?_ | refine aN0 ?_ | refine aD1 ?_ | refine aD0 ?_ | refine now_E (fun hq => ?_) (fun hq => ?_) | refine now_N (fun hq => ?_) (fun hq => ?_) | refine now_D (fun hq => ?_) (fun hq => ?_) | refine rb1 ?_ | refine rb0 ?_ | refine rbx ?_ | refine rix ?_ | refine aS ?_ | fail)

def fewB (l : List Fd) (r : RO) : Bool := (polI l r == 0) && decide (r.cnt ≤ 40) && decide (r.stars ≤ 2) && lightB r.stars r.puts
theorem t48 (l : List Fd) (hl : LOk l) (r : RO) (hr : r.wt < 2 ^ 40) (hn : namesO r) : DCalls Try.prog 48 [fds l, .agg (cellsS r)] (.bool (fewB l r)) := by
  refine dcalls_low (rs := [.tmp 4]) mixed Try.func48 l48 rfl rfl rfl (r := [.bool _]) (Nat.le_of_ble_eq_true rfl) ?_
  have h1 := t40 l hl r hr hn
  have h2 := t72 _ r (Nat.le_refl _) (by omega)
  have h3 := t59 _ r (Nat.le_refl _) (by omega)
  have h4 := t38 r (by omega)
  unfold fewB
  generalize polI l r = e at *
  generalize lightB r.stars r.puts = b at *
  generalize r.cnt = c at *
  generalize r.stars = s at *
  cases b <;> repeat' ((conv => whnf); first | exact trivial | refine k_call _ (h1) ?_ | refine k_call _ (h2) ?_ | refine k_call _ (h3) ?_ | refine k_call _ (h4) ?_ | refine now_T ?_ | refine aE1 ?_ | refine aE0 ?_ | refine aN1 ?_ | refine aN0 ?_ | refine aD1 ?_ | refine aD0 ?_ | refine now_E (fun hq => ?_) (fun hq => ?_) | refine now_N (fun hq => ?_) (fun hq => ?_) | refine now_D (fun hq => ?_) (fun hq => ?_) | refine rb1 ?_ | refine rb0 ?_ | refine rbx ?_ | refine rix ?_ | (refine And.intro (by first | (exact cellsS_len _; done) | fail) ?_) | refine aS ?_ | fail)

def RF.fd (f : RF) : Fd := ⟨f.name, f.a.toNat, f.w.toNat⟩
/-- What a checked list of fields is like. -/
structure Checked (l : List RF) : Prop where
  len : l.length ≤ 16
  name : ∀ f ∈ l, name8 f.name = true
  port : ∀ f ∈ l, sameN f.name portN = false
  place : ∀ f ∈ l, placeB f = true
  uniq : ∀ i j (hi : i < l.length) (hj : j < l.length), j < i → sameN l[j].name l[i].name = false
  apart : ∀ i j (hi : i < l.length) (hj : j < l.length), j < i → commonB l[j] l[i] = false

theorem firstNZ_inv : ∀ {l : List Int}, firstNZ l = 0 → ∀ x ∈ l, x = 0
  | [], _, x, hx => by cases hx
  | y :: ys, h, x, hx => by
    simp only [firstNZ] at h
    split at h
    · rename_i hy; exact absurd h hy
    · rename_i hy
      rcases List.mem_cons.1 hx with rfl | hx
      · exact Decidable.not_not.1 hy
      · exact firstNZ_inv h x hx

theorem checked_of {l : List RF} (h : checkF l = 0) : Checked l := by
  unfold checkF at h
  split at h
  · cases h
  rename_i hlen
  have hz : ∀ i (hi : i < l.length), checkAt l i l[i] = 0 := fun i hi => firstNZ_inv h _ (List.mem_iff_getElem.2 ⟨i, by simpa using hi, by simp⟩)
  have key : ∀ i (hi : i < l.length), (¬ (name8 l[i].name = false ∨ sameN l[i].name portN = true)) ∧ (¬ ((l.take i).any fun g => sameN g.name l[i].name) = true) ∧ (¬ placeB l[i] = false) ∧ ¬ ((l.take i).any fun g => commonB g l[i]) = true := fun i hi => by
    have := hz i hi
    unfold checkAt at this
    split at this; · cases this
    split at this; · cases this
    split at this; · cases this
    split at this; · cases this
    rename_i h1 h2 h3 h4
    exact ⟨h1, h2, h3, h4⟩
  refine ⟨by omega, fun f hf => ?_, fun f hf => ?_, fun f hf => ?_, fun i j hi hj hji => ?_, fun i j hi hj hji => ?_⟩
  · obtain ⟨i, hi, rfl⟩ := List.getElem_of_mem hf
    have := (key i hi).1; simp at this; exact this.1
  · obtain ⟨i, hi, rfl⟩ := List.getElem_of_mem hf
    have := (key i hi).1; simp at this; exact this.2
  · obtain ⟨i, hi, rfl⟩ := List.getElem_of_mem hf
    have := (key i hi).2.2.1; simpa using this
  · have := (key i hi).2.1
    rw [any_take (by omega)] at this
    cases hs : sameN l[j].name l[i].name with
    | false => rfl
    | true => exact absurd ⟨j, hj, hji, hs⟩ this
  · have := (key i hi).2.2.2
    rw [any_take (by omega)] at this
    cases hs : commonB l[j] l[i] with
    | false => rfl
    | true => exact absurd ⟨j, hj, hji, hs⟩ this

theorem Checked.fds {l : List RF} (h : Checked l) : encFs l = MM.fds (l.map RF.fd) := by
  unfold encFs MM.fds
  rw [List.map_map]
  congr 1
  refine List.map_congr_left fun f hf => ?_
  have := h.place f hf
  simp [placeB] at this
  obtain ⟨s, a, w⟩ := f
  simp only at this
  simp only [encF, cellsF, Function.comp, MM.fd, RF.fd]
  rw [Int.toNat_of_nonneg (by omega), Int.toNat_of_nonneg (by omega)]

theorem Checked.ok {l : List RF} (h : Checked l) : LOk (l.map RF.fd) := by
  refine ⟨by have := h.len; simp; omega, fun f hf => ?_⟩
  obtain ⟨g, hg, rfl⟩ := List.mem_map.1 hf
  have := h.place g hg
  simp [placeB] at this
  exact ⟨by simp only [RF.fd]; omega, by simp only [RF.fd]; omega, by simp only [RF.fd]; omega⟩

def preB (l : List RF) (h : List Int) (tick : Int) : Bool := (checkF l == 0) && rightH h && decide (0 ≤ tick) && decide (tick ≤ 1073741824)
def rightB (l : List RF) (h : List Int) (tick : Int) (rs : List RO) : Bool := preB l h tick && rs.all fun r => fewB (l.map RF.fd) r

theorem t18 (l : List RF) (hl : l.length < 2 ^ 60) (hn : ∀ f ∈ l, f.name.size < 2 ^ 62) (h : List Int) (hh : h.length = 10) (tick : Int) (rs : List RO) (hlr : rs.length < 2 ^ 60) (hr : ∀ r ∈ rs, r.wt < 2 ^ 40 ∧ namesO r) :
    DCalls Try.prog 18 [encFs l, hd h, I tick, .slice 9 (rs.map encS)] (.bool (rightB l h tick rs)) := by
  have h47 := t47 l hl hn
  have h11 := t11 h hh
  refine dcalls_low (rs := [.tmp 8]) mixed Try.func18 l18 rfl rfl rfl (r := [.bool _]) (Nat.le_of_ble_eq_true rfl) ?_
  unfold rightB preB
  by_cases h20 : l.length > 20
  · have : checkF l = 2 := by unfold checkF; rw [if_pos (by omega)]
    rw [this]
    repeat' ((conv => whnf); first | exact trivial | refine now_T ?_ | refine aE1 ?_ | refine aE0 ?_ | refine aN1 ?_ | refine aN0 ?_ | refine aD1 ?_ | refine aD0 ?_ | refine now_E (fun hq => ?_) (fun hq => ?_) | refine now_N (fun hq => ?_) (fun hq => ?_) | refine now_D (fun hq => ?_) (fun hq => ?_) | refine rb1 ?_ | refine rb0 ?_ | refine rbx ?_ | refine rix ?_ | (refine And.intro (by first | (simp [hh]; done) | fail) ?_) | refine aS ?_ | fail)
  by_cases hc : checkF l = 0
  · have ck := checked_of hc
    have hok := ck.ok
    have hfd := ck.fds
    have h48 := t48 _ hok
    have hLl : (l.map RF.fd).length ≤ 16 := by simpa using ck.len
    generalize hL : l.map RF.fd = L at *
    rw [hc] at h47 ⊢
    cases hR : rightH h with
    | false =>
      rw [hR] at h11
      repeat' ((conv => whnf); first | exact trivial | refine k_call _ (h47) ?_ | refine k_call _ (h11) ?_ | refine now_T ?_ | refine aE1 ?_ | refine aE0 ?_ | refine aN1 ?_ | refine aN0 ?_ | refine aD1 ?_ | refine aD0 ?_ | refine now_E (fun hq => ?_) (fun hq => ?_) | refine now_N (fun hq => ?_) (fun hq => ?_) | refine now_D (fun hq => ?_) (fun hq => ?_) | refine rb1 ?_ | refine rb0 ?_ | refine rbx ?_ | refine rix ?_ | (refine And.intro (by first | (simp [hh]; done) | fail) ?_) | refine aS ?_ | fail)
    | true =>
    rw [hR] at h11
    by_cases t0 : 0 ≤ tick
    · by_cases t1 : tick ≤ 1073741824
      · have e : ((0 : Int) == 0 && true && decide (0 ≤ tick) && decide (tick ≤ 1073741824) && rs.all fun r => fewB L r) = rs.all fun r => fewB L r := by simp [t0, t1]
        rw [e, hfd]
        rw [hfd] at h47
        repeat' ((conv => whnf); first | exact trivial | refine k_call _ (h47) ?_ | refine k_call _ (h11) ?_ | refine now_T ?_ | refine aE1 ?_ | refine aE0 ?_ | refine aN1 ?_ | refine aN0 ?_ | refine aD1 ?_ | refine aD0 ?_ | refine now_E (fun hq => ?_) (fun hq => ?_) | refine now_N (fun hq => ?_) (fun hq => ?_) | refine now_D (fun hq => ?_) (fun hq => ?_) | refine rb1 ?_ | refine rb0 ?_ | refine rbx ?_ | refine rix ?_ | (refine And.intro (by first | (simp [hh]; done) | fail) ?_) | refine aS ?_ | fail)
        refine wpC_loop (α := Nat) (fun i => {sl := [(0, .t (MM.fds L)), (32, .t (.slice 9 (rs.map encS))), (33, .t (I rs.length)), (34, .t (I i))], bx := []})
          (fun i => i ≤ rs.length ∧ ∀ j (h : j < rs.length), j < i → fewB L rs[j] = true) (fun i => rs.length - i) 0 (by simp) ?_ ?_
        · repeat' (first | exact trivial | exact LeV.same _ | exact LeB.same _ | exact rfl | exact fun _ _ _ => trivial | exact lI | exact LeV.nil _ _ _ | exact lB | refine leBd ?_ | refine leOwn ?_ | refine And.intro ?_ ?_)
        rintro i ⟨hi, hp⟩
        rcases Nat.lt_or_ge i rs.length with h | h
        · obtain ⟨w1, w2⟩ := hr _ (List.getElem_mem h)
          have c48 := h48 rs[i] w1 w2
          cases hb : fewB L rs[i] with
          | true =>
            rw [hb] at c48
            have c48 : DCalls Try.prog 48 [MM.fds L, .agg ([] ++ (cellsS rs[i] ++ []))] (.bool true) := by simpa using c48
            repeat' ((conv => whnf); first | exact trivial | (refine now_v (.agg (cellsS rs[i])) (by first | (simp [h, encS_cells]; done) | fail) ?_) | refine k_call _ (c48) ?_ | refine now_T ?_ | refine aE1 ?_ | refine aE0 ?_ | refine aN1 ?_ | refine aN0 ?_ | refine aD1 ?_ | refine aD0 ?_ | refine now_E (fun hq => ?_) (fun hq => ?_) | refine now_N (fun hq => ?_) (fun hq => ?_) | refine now_D (fun hq => ?_) (fun hq => ?_) | refine rb1 ?_ | refine rb0 ?_ | refine rbx ?_ | refine rix ?_ | (refine And.intro (by first | (exact cellsS_len _; done) | (exact ⟨cellsS_len _, Nat.le_refl 9⟩; done) | fail) ?_) | refine aS ?_ | fail)
            refine ⟨i + 1, ⟨h, fun j hj hlt => ?_⟩, by omega, ?_⟩
            · rcases Nat.lt_or_ge j i with h4 | h4
              · exact hp j hj h4
              · obtain rfl : j = i := by omega
                exact hb
            · repeat' (first | exact trivial | exact LeV.same _ | exact LeB.same _ | exact rfl | exact fun _ _ _ => trivial | exact lI | exact LeV.nil _ _ _ | exact lB | refine leBd ?_ | refine leOwn ?_ | refine And.intro ?_ ?_)
          | false =>
            rw [hb] at c48
            have e2 : (rs.all fun r => fewB L r) = false := by
              rw [List.all_eq_false]
              exact ⟨_, List.getElem_mem h, by simp [hb]⟩
            rw [e2]
            have c48 : DCalls Try.prog 48 [MM.fds L, .agg ([] ++ (cellsS rs[i] ++ []))] (.bool false) := by simpa using c48
            repeat' ((conv => whnf); first | exact trivial | (refine now_v (.agg (cellsS rs[i])) (by first | (simp [h, encS_cells]; done) | fail) ?_) | refine k_call _ (c48) ?_ | refine now_T ?_ | refine aE1 ?_ | refine aE0 ?_ | refine aN1 ?_ | refine aN0 ?_ | refine aD1 ?_ | refine aD0 ?_ | refine now_E (fun hq => ?_) (fun hq => ?_) | refine now_N (fun hq => ?_) (fun hq => ?_) | refine now_D (fun hq => ?_) (fun hq => ?_) | refine rb1 ?_ | refine rb0 ?_ | refine rbx ?_ | refine rix ?_ | (refine And.intro (by first | (exact cellsS_len _; done) | (exact ⟨cellsS_len _, Nat.le_refl 9⟩; done) | fail) ?_) | refine aS ?_ | fail)
        · have e2 : (rs.all fun r => fewB L r) = true := by
            rw [List.all_eq_true]
            intro r hr
            obtain ⟨j, hj, rfl⟩ := List.getElem_of_mem hr
            exact hp j hj (by omega)
          rw [e2]
          repeat' ((conv => whnf); first | exact trivial | refine now_T ?_ | refine aE1 ?_ | refine aE0 ?_ | refine aN1 ?_ | refine aN0 ?_ | refine aD1 ?_ | refine aD0 ?_ | refine now_E (fun hq => ?_) (fun hq => ?_) | refine now_N (fun hq => ?_) (fun hq => ?_) | refine now_D (fun hq => ?_) (fun hq => ?_) | refine rb1 ?_ | refine rb0 ?_ | refine rbx ?_ | refine rix ?_ | refine aS ?_ | fail)
      · have e : ((0 : Int) == 0 && true && decide (0 ≤ tick) && decide (tick ≤ 1073741824) && rs.all fun r => fewB L r) = false := by simp [t0, t1]
        rw [e]
        repeat' ((conv => whnf); first | exact trivial | refine k_call _ (h47) ?_ | refine k_call _ (h11) ?_ | refine now_T ?_ | refine aE1 ?_ | refine aE0 ?_ | refine aN1 ?_ | refine aN0 ?_ | refine aD1 ?_ | refine aD0 ?_ | refine now_E (fun hq => ?_) (fun hq => ?_) | refine now_N (fun hq => ?_) (fun hq => ?_) | refine now_D (fun hq => ?_) (fun hq => ?_) | refine rb1 ?_ | refine rb0 ?_ | refine rbx ?_ | refine rix ?_ | (refine And.intro (by first | (simp [hh]; done) | fail) ?_) | refine aS ?_ | fail)
    · have e : ((0 : Int) == 0 && true && decide (0 ≤ tick) && decide (tick ≤ 1073741824) && rs.all fun r => fewB L r) = false := by simp [t0]
      rw [e]
      repeat' ((conv => whnf); first | exact trivial | refine k_call _ (h47) ?_ | refine k_call _ (h11) ?_ | refine now_T ?_ | refine aE1 ?_ | refine aE0 ?_ | refine aN1 ?_ | refine aN0 ?_ | refine aD1 ?_ | refine aD0 ?_ | refine now_E (fun hq => ?_) (fun hq => ?_) | refine now_N (fun hq => ?_) (fun hq => ?_) | refine now_D (fun hq => ?_) (fun hq => ?_) | refine rb1 ?_ | refine rb0 ?_ | refine rbx ?_ | refine rix ?_ | (refine And.intro (by first | (simp [hh]; done) | fail) ?_) | refine aS ?_ | fail)
  · have e : (checkF l == 0) = false := by simpa using hc
    rw [e]
    generalize checkF l = c at *
    repeat' ((conv => whnf); first | exact trivial | refine k_call _ (h47) ?_ | refine now_T ?_ | refine aE1 ?_ | refine aE0 ?_ | refine aN1 ?_ | refine aN0 ?_ | refine aD1 ?_ | refine aD0 ?_ | refine now_E (fun hq => ?_) (fun hq => ?_) | refine now_N (fun hq => ?_) (fun hq => ?_) | refine now_D (fun hq => ?_) (fun hq => ?_) | refine rb1 ?_ | refine rb0 ?_ | refine rbx ?_ | refine rix ?_ | (refine And.intro (by first | (simp [hh]; done) | fail) ?_) | refine aS ?_ | fail)
end Go.MM
end
section
/- Meaning: fields, predicates and policies out of what is read. -/
namespace Go.MM
open Go Go.DL Go.Proofs
set_option maxRecDepth 100000
set_option maxHeartbeats 4000000

theorem cells9 : Try.prog.cellsOf 9 = 1 := by kernel_rfl
theorem cells33 : Try.prog.cellsOf 33 = 1 := by kernel_rfl
theorem cells35 : Try.prog.cellsOf 35 = 5 := by kernel_rfl
theorem cells36 : Try.prog.cellsOf 36 = 1 := by kernel_rfl
theorem cells38 : Try.prog.cellsOf 38 = 9 := by kernel_rfl
theorem cells86 : Try.prog.cellsOf 86 = 3 := by kernel_rfl
theorem mk35 (us : List T) : mkT Try.prog 35 us = .agg us := by unfold mkT; rw [Try.underlying35]
theorem mk38 (us : List T) : mkT Try.prog 38 us = .agg us := by unfold mkT; rw [Try.underlying38]
theorem mk86 (us : List T) : mkT Try.prog 86 us = .agg us := by unfold mkT; rw [Try.underlying86]
theorem und9 : Try.prog.underlying 9 = some .string := by kernel_rfl

theorem hasStr {us : List T} (h : HasC Try.prog 9 us) : ∃ s, us = [.str s] := by
  cases h with
  | str h s hs => exact ⟨s, rfl⟩
  | bool h | int h | nil h | slice h | struct h | array h => rw [und9] at h; cases h

/-- What the reading of a predicate, or of a list of them, gives. -/
def RdP (us : List T) : Prop := ∃ r : RP, LesL us (cellsR r) ∧ r.nodes ≤ bulkL us ∧ (bulkL us < 2 ^ 62 → namesP r)
def RdPs (us : List T) : Prop := ∃ rs : List RP, LesL us [.slice 5 (rs.map encR)] ∧ nodesPs rs + 1 ≤ bulkL us ∧ (bulkL us < 2 ^ 62 → namesPs rs)

theorem rdPs_of {xs : List (List T)} (h : ∀ x ∈ xs, RdP x) : ∃ rs : List RP, rs.length = xs.length ∧ (∀ (i : Nat) (x : List T) (r : RP), xs[i]? = some x → rs[i]? = some r → LesL x (cellsR r)) ∧ nodesPs rs ≤ bulkL (xs.map .agg) ∧ (bulkL (xs.map .agg) < 2 ^ 62 → namesPs rs) := by
  induction xs with
  | nil => exact ⟨[], rfl, by simp, by simp [nodesPs], fun _ => trivial⟩
  | cons x xs ih =>
    obtain ⟨r, h1, h2, h3⟩ := h x (by simp)
    obtain ⟨rs, k1, k2, k3, k4⟩ := ih fun y hy => h y (by simp [hy])
    refine ⟨r :: rs, by simp [k1], fun i a b ha hb => ?_, ?_, fun hb => ?_⟩
    · cases i with
      | zero => simp at ha hb; subst ha; subst hb; exact h1
      | succ i => exact k2 i a b (by simpa using ha) (by simpa using hb)
    · simp only [nodesPs, List.map_cons, bulkL, T.bulk]; omega
    · simp only [List.map_cons, bulkL, T.bulk] at hb
      exact ⟨h3 (by omega), k4 (by omega)⟩

theorem lesI (n : Int) : Les (I n) (I n) := Les.refl _
theorem list5 {us : List T} (h : us.length = 5) : ∃ a b c d e, us = [a, b, c, d, e] := by
  match us, h with
  | [a, b, c, d, e], _ => exact ⟨a, b, c, d, e, rfl⟩

theorem rd_pred {t : TypeId} {us : List T} (h : HasC Try.prog t us) : (t = 35 → RdP us) ∧ (t = 33 → RdPs us) := by
  induction h with
  | bool h b => exact ⟨fun e => (by subst e; rw [Try.underlying35] at h; cases h), fun e => (by subst e; rw [und33] at h; cases h)⟩
  | int h n hw => exact ⟨fun e => (by subst e; rw [Try.underlying35] at h; cases h), fun e => (by subst e; rw [und33] at h; cases h)⟩
  | str h s hs => exact ⟨fun e => (by subst e; rw [Try.underlying35] at h; cases h), fun e => (by subst e; rw [und33] at h; cases h)⟩
  | array h us hl hf ih => exact ⟨fun e => (by subst e; rw [Try.underlying35] at h; cases h), fun e => (by subst e; rw [und33] at h; cases h)⟩
  | nil h =>
    refine ⟨fun e => (by subst e; rw [Try.underlying35] at h; cases h), fun e => ?_⟩
    exact ⟨[], .cons (Les.nil 5) rfl .nil, by simp [nodesPs, bulkL, T.bulk], fun _ => trivial⟩
  | slice h xs hx hl ih =>
    refine ⟨fun e => (by subst e; rw [Try.underlying35] at h; cases h), fun e => ?_⟩
    subst e
    rw [und33] at h
    cases h
    obtain ⟨rs, k1, k2, k3, k4⟩ := rdPs_of (xs := xs) fun x hm => (ih x hm).1 rfl
    have em : xs.map (mkT Try.prog 35) = xs.map .agg := List.map_congr_left fun x _ => mk35 x
    rw [em, cells35]
    refine ⟨rs, .cons (Les.slice (by simp [k1]) fun i x y hx hy => ?_) rfl .nil, by simp only [bulkL, T.bulk]; omega, fun hb => k4 (by simp only [bulkL, T.bulk] at hb; omega)⟩
    rw [List.getElem?_map] at hx hy
    obtain ⟨x', hx', rfl⟩ := Option.map_eq_some_iff.1 hx
    obtain ⟨r', hr', rfl⟩ := Option.map_eq_some_iff.1 hy
    rw [encR_cells]
    exact ⟨k2 i x' r' hx' hr', cellsR_len r'⟩
  | struct h us hl hf ih =>
    refine ⟨fun e => ?_, fun e => (by subst e; rw [und33] at h; cases h)⟩
    subst e
    rw [Try.underlying35] at h
    cases h
    rw [cells35] at hl
    obtain ⟨a, b, c, d, e, rfl⟩ := list5 hl
    have f0 := hf ⟨ "Kind", 3, 0, false, "", "", 0⟩ (by simp)
    have f1 := hf ⟨ "Field", 9, 1, false, "", "", 8⟩ (by simp)
    have f2 := hf ⟨ "N", 3, 2, false, "", "", 24⟩ (by simp)
    have f3 := hf ⟨ "M", 3, 3, false, "", "", 32⟩ (by simp)
    have f4 := (ih ⟨ "Args", 33, 4, false, "", "", 40⟩ (by simp)).2 rfl
    simp only [cells3, cells9, cells33, List.drop, List.take] at f0 f1 f2 f3 f4
    obtain ⟨k, e0, _⟩ := hasInt f0
    obtain ⟨s, e1⟩ := hasStr f1
    obtain ⟨n, e2, _⟩ := hasInt f2
    obtain ⟨m, e3, _⟩ := hasInt f3
    obtain ⟨rs, g1, g2, g3⟩ := f4
    simp only [List.cons.injEq, and_true] at e0 e1 e2 e3
    subst e0; subst e1; subst e2; subst e3
    refine ⟨.mk k s n m rs, .cons (Les.refl _) rfl (.cons (Les.refl _) rfl (.cons (Les.refl _) rfl (.cons (Les.refl _) rfl g1))), ?_, fun hb => ?_⟩
    · simp only [RP.nodes, bulkL, T.bulk] at g2 ⊢; omega
    · simp only [bulkL, T.bulk] at g3 hb
      exact ⟨by omega, g3 (by omega)⟩

def RdO (us : List T) : Prop := ∃ r : RO, LesL us (cellsS r) ∧ r.wt ≤ bulkL us ∧ (bulkL us < 2 ^ 62 → namesO r)
def RdOs (us : List T) : Prop := ∃ rs : List RO, LesL us [.slice 9 (rs.map encS)] ∧ wtSs rs + 1 ≤ bulkL us ∧ (bulkL us < 2 ^ 62 → namesOs rs)
theorem rdOs_of {xs : List (List T)} (h : ∀ x ∈ xs, RdO x) : ∃ rs : List RO, rs.length = xs.length ∧ (∀ (i : Nat) (x : List T) (r : RO), xs[i]? = some x → rs[i]? = some r → LesL x (cellsS r)) ∧ wtSs rs ≤ bulkL (xs.map .agg) ∧ (bulkL (xs.map .agg) < 2 ^ 62 → namesOs rs) := by
  induction xs with
  | nil => exact ⟨[], rfl, by simp, by simp [wtSs], fun _ => trivial⟩
  | cons x xs ih =>
    obtain ⟨r, h1, h2, h3⟩ := h x (by simp)
    obtain ⟨rs, k1, k2, k3, k4⟩ := ih fun y hy => h y (by simp [hy])
    refine ⟨r :: rs, by simp [k1], fun i a b ha hb => ?_, ?_, fun hb => ?_⟩
    · cases i with
      | zero => simp at ha hb; subst ha; subst hb; exact h1
      | succ i => exact k2 i a b (by simpa using ha) (by simpa using hb)
    · simp only [wtSs, List.map_cons, bulkL, T.bulk]; omega
    · simp only [List.map_cons, bulkL, T.bulk] at hb
      exact ⟨h3 (by omega), k4 (by omega)⟩
theorem list9 {us : List T} (h : us.length = 9) : ∃ a b c d e f g i j, us = [a, b, c, d, e, f, g, i, j] := by
  match us, h with
  | [a, b, c, d, e, f, g, i, j], _ => exact ⟨a, b, c, d, e, f, g, i, j, rfl⟩
theorem LesL.tail5 {a b c d e : T} {r : RP} (h : LesL [a, b, c, d, e] (cellsR r)) {x y : T} {xs ys : List T} (k : LesL (x :: xs) (y :: ys)) : LesL (a :: b :: c :: d :: e :: x :: xs) (cellsR r ++ y :: ys) := LesL.append h k

theorem rd_policy {t : TypeId} {us : List T} (h : HasC Try.prog t us) : (t = 38 → RdO us) ∧ (t = 36 → RdOs us) := by
  induction h with
  | bool h b => exact ⟨fun e => (by subst e; rw [Try.underlying38] at h; cases h), fun e => (by subst e; rw [und36] at h; cases h)⟩
  | int h n hw => exact ⟨fun e => (by subst e; rw [Try.underlying38] at h; cases h), fun e => (by subst e; rw [und36] at h; cases h)⟩
  | str h s hs => exact ⟨fun e => (by subst e; rw [Try.underlying38] at h; cases h), fun e => (by subst e; rw [und36] at h; cases h)⟩
  | array h us hl hf ih => exact ⟨fun e => (by subst e; rw [Try.underlying38] at h; cases h), fun e => (by subst e; rw [und36] at h; cases h)⟩
  | nil h =>
    refine ⟨fun e => (by subst e; rw [Try.underlying38] at h; cases h), fun e => ?_⟩
    exact ⟨[], .cons (Les.nil 9) rfl .nil, by simp [wtSs, bulkL, T.bulk], fun _ => trivial⟩
  | slice h xs hx hl ih =>
    refine ⟨fun e => (by subst e; rw [Try.underlying38] at h; cases h), fun e => ?_⟩
    subst e
    rw [und36] at h
    cases h
    obtain ⟨rs, k1, k2, k3, k4⟩ := rdOs_of (xs := xs) fun x hm => (ih x hm).1 rfl
    have em : xs.map (mkT Try.prog 38) = xs.map .agg := List.map_congr_left fun x _ => mk38 x
    rw [em, cells38]
    refine ⟨rs, .cons (Les.slice (by simp [k1]) fun i x y hx hy => ?_) rfl .nil, by simp only [bulkL, T.bulk]; omega, fun hb => k4 (by simp only [bulkL, T.bulk] at hb; omega)⟩
    rw [List.getElem?_map] at hx hy
    obtain ⟨x', hx', rfl⟩ := Option.map_eq_some_iff.1 hx
    obtain ⟨r', hr', rfl⟩ := Option.map_eq_some_iff.1 hy
    rw [encS_cells]
    exact ⟨k2 i x' r' hx' hr', cellsS_len r'⟩
  | struct h us hl hf ih =>
    refine ⟨fun e => ?_, fun e => (by subst e; rw [und36] at h; cases h)⟩
    subst e
    rw [Try.underlying38] at h
    cases h
    rw [cells38] at hl
    obtain ⟨a, b, c, d, e, f, g, i, j, rfl⟩ := list9 hl
    have f0 := hf ⟨ "Kind", 3, 0, false, "", "", 0⟩ (by simp)
    have f1 := (rd_pred (hf ⟨ "Pred", 35, 1, false, "", "", 8⟩ (by simp))).1 rfl
    have f2 := hf ⟨ "Field", 9, 6, false, "", "", 72⟩ (by simp)
    have f3 := hf ⟨ "N", 3, 7, false, "", "", 88⟩ (by simp)
    have f4 := (ih ⟨ "Args", 36, 8, false, "", "", 96⟩ (by simp)).2 rfl
    simp only [cells3, cells9, cells35, cells36, List.drop, List.take] at f0 f1 f2 f3 f4
    obtain ⟨k, e0, _⟩ := hasInt f0
    obtain ⟨p, p1, p2, p3⟩ := f1
    obtain ⟨s, e1⟩ := hasStr f2
    obtain ⟨n, e2, _⟩ := hasInt f3
    obtain ⟨rs, g1, g2, g3⟩ := f4
    simp only [List.cons.injEq, and_true] at e0 e1 e2
    subst e0; subst e1; subst e2
    refine ⟨.mk k p s n rs, .cons (Les.refl _) rfl (LesL.tail5 p1 (.cons (Les.refl _) rfl (.cons (Les.refl _) rfl g1))), ?_, fun hb => ?_⟩
    · simp only [RO.wt, bulkL, T.bulk] at p2 g2 ⊢; omega
    · simp only [bulkL, T.bulk] at p3 g3 hb
      exact ⟨p3 (by omega), by omega, g3 (by omega)⟩

/-- What the reading of a list of fields gives. -/
theorem rd_field {us : List T} (h : HasC Try.prog 86 us) : ∃ f : RF, us = cellsF f ∧ f.name.size < bulkL us := by
  cases h with
  | struct h us hl hf =>
    rw [Try.underlying86] at h
    cases h
    rw [cells86] at hl
    match us, hl with
    | [a, b, c], _ =>
      have f0 := hf ⟨ "Name", 9, 0, false, "", "", 0⟩ (by simp)
      have f1 := hf ⟨ "At", 3, 1, false, "", "", 16⟩ (by simp)
      have f2 := hf ⟨ "Width", 3, 2, false, "", "", 24⟩ (by simp)
      simp only [cells3, cells9, List.drop, List.take] at f0 f1 f2
      obtain ⟨s, e0⟩ := hasStr f0
      obtain ⟨n, e1, _⟩ := hasInt f1
      obtain ⟨m, e2, _⟩ := hasInt f2
      simp only [List.cons.injEq, and_true] at e0 e1 e2
      subst e0; subst e1; subst e2
      exact ⟨⟨s, n, m⟩, rfl, by simp [bulkL, T.bulk]; omega⟩
  | int h | bool h | str h | nil h | slice h | array h => rw [Try.underlying86] at h; cases h

theorem rd_fields {us : List T} (h : HasC Try.prog 32 us) : ∃ l : List RF, Les (mkT Try.prog 32 us) (encFs l) ∧ l.length ≤ bulkL us ∧ ∀ f ∈ l, f.name.size < bulkL us := by
  have e : ∀ t, mkT Try.prog 32 [t] = t := fun t => by unfold mkT; rw [Try.underlying32]; rfl
  cases h with
  | nil h => exact ⟨[], by rw [e]; exact Les.nil 3, by simp, by simp⟩
  | slice h xs hx hl =>
    rw [Try.underlying32] at h
    cases h
    rw [e, cells86]
    have em : xs.map (mkT Try.prog 86) = xs.map .agg := List.map_congr_left fun x _ => mk86 x
    rw [em]
    have key : ∃ l : List RF, l.length = xs.length ∧ xs.map .agg = l.map encF ∧ l.length ≤ bulkL (xs.map .agg) ∧ ∀ f ∈ l, f.name.size < bulkL (xs.map .agg) := by
      clear hl em
      induction xs with
      | nil => exact ⟨[], rfl, rfl, by simp, by simp⟩
      | cons x xs ih =>
        obtain ⟨f, h1, h2⟩ := rd_field (hx x (by simp))
        obtain ⟨l, k1, k2, k3, k4⟩ := ih fun y hy => hx y (by simp [hy])
        refine ⟨f :: l, by simp [k1], by simp only [List.map_cons, k2, h1]; rfl, by simp only [List.map_cons, bulkL, T.bulk, List.length_cons]; omega, fun g hg => ?_⟩
        simp only [List.map_cons, bulkL, T.bulk]
        rcases List.mem_cons.1 hg with rfl | hg
        · omega
        · have := k4 g hg; omega
    obtain ⟨l, k1, k2, k3, k4⟩ := key
    refine ⟨l, by rw [k2]; exact Les.refl _, by simp only [bulkL, T.bulk]; omega, fun f hf => by simp only [bulkL, T.bulk]; have := k4 f hf; omega⟩
  | int h | bool h | str h | array h | struct h => rw [Try.underlying32] at h; cases h
end Go.MM
end
section
/- Meaning: formed trees are predicates and policies. -/
namespace Go.MM
open Go Go.DL Go.Proofs
set_option maxRecDepth 100000
set_option maxHeartbeats 4000000

theorem sameN_iff {a b : ByteArray} : sameN a b = true ↔ a = b := by
  unfold sameN
  rw [beq_iff_eq]
  constructor
  · intro h
    cases a; cases b
    congr 1
    exact Array.toList_inj.1 h
  · rintro rfl; rfl

def rawP : Pr → RP
  | .tt => .mk 1 e0 0 0 []
  | .ff => .mk 2 e0 0 0 []
  | .eq f n => .mk 3 f n 0 []
  | .pre f n m => .mk 4 f n m []
  | .rng f n m => .mk 5 f n m []
  | .not p => .mk 6 e0 0 0 [rawP p]
  | .and p q => .mk 7 e0 0 0 [rawP p, rawP q]
  | .or p q => .mk 8 e0 0 0 [rawP p, rawP q]
  | .time n m => .mk 9 e0 n m []
theorem encR_raw : ∀ p : Pr, encR (rawP p) = encP p
  | .tt | .ff | .eq _ _ | .pre _ _ _ | .rng _ _ _ | .time _ _ => rfl
  | .not p => by simp only [rawP, encR, encRs, encR_raw p]; rfl
  | .and p q => by simp only [rawP, encR, encRs, encR_raw p, encR_raw q]; rfl
  | .or p q => by simp only [rawP, encR, encRs, encR_raw p, encR_raw q]; rfl

def zP : RP := .mk 0 e0 0 0 []
def rawO : Po → RO
  | .filter p => .mk 1 (rawP p) e0 0 []
  | .set f n => .mk 2 zP f n []
  | .union a b => .mk 3 zP e0 0 [rawO a, rawO b]
  | .seq a b => .mk 4 zP e0 0 [rawO a, rawO b]
  | .star a => .mk 5 zP e0 0 [rawO a]
theorem cells_raw (p : Pr) : cellsR (rawP p) = (encP p).cells := by
  have := congrArg T.cells (encR_raw p)
  rw [encR_cells] at this
  exact this
theorem encS_raw : ∀ p : Po, encS (rawO p) = encO p
  | .filter p => by simp only [rawO, encS, encSs, cells_raw]; rfl
  | .set f n => rfl
  | .union a b => by simp only [rawO, encS, encSs, encS_raw a, encS_raw b]; rfl
  | .seq a b => by simp only [rawO, encS, encSs, encS_raw a, encS_raw b]; rfl
  | .star a => by simp only [rawO, encS, encSs, encS_raw a]; rfl
theorem cellsS_raw (p : Po) : .agg (cellsS (rawO p)) = encO p := by rw [← encS_cells, encS_raw]

theorem len1 {α : Type} {l : List α} (h : l.length = 1) : ∃ x, l = [x] := List.length_eq_one_iff.1 h
theorem len2 {α : Type} {l : List α} (h : l.length = 2) : ∃ x y, l = [x, y] := by
  match l, h with
  | [x, y], _ => exact ⟨x, y, rfl⟩

theorem noneB_eq {f : ByteArray} {n m : Int} (h : noneB f n m = true) : f = e0 ∧ n = 0 ∧ m = 0 := by
  simp only [noneB, Bool.and_eq_true, beq_iff_eq, sameN_iff] at h
  exact ⟨h.1.1, h.1.2, h.2⟩

theorem formed_pr (N : Nat) : ∀ r : RP, r.nodes ≤ N → formedP r = true → ∃ p, r = rawP p := by
  induction N with
  | zero => intro r h; have := r.nodes_pos; omega
  | succ N ih =>
    rintro ⟨k, f, n, m, l⟩ hr hf
    simp only [RP.nodes] at hr
    simp only [formedP, Bool.and_eq_true, beq_iff_eq] at hf
    obtain ⟨⟨h1, h2⟩, h3⟩ := hf
    unfold okP at h1
    split at h1
    · rename_i hk
      obtain ⟨rfl, rfl, rfl⟩ := noneB_eq h1
      rcases hk with rfl | rfl
      · have : l = [] := List.length_eq_zero_iff.1 h2
        subst this; exact ⟨.tt, rfl⟩
      · have : l = [] := List.length_eq_zero_iff.1 h2
        subst this; exact ⟨.ff, rfl⟩
    split at h1
    · rename_i hk; subst hk
      simp [oneB] at h1
      have : l = [] := List.length_eq_zero_iff.1 h2
      subst this
      refine ⟨.eq f n.toNat, ?_⟩
      simp only [rawP]
      rw [Int.toNat_of_nonneg (by omega), h1.2]
    split at h1
    · rename_i hk; subst hk
      simp [oneB] at h1
      have : l = [] := List.length_eq_zero_iff.1 h2
      subst this
      refine ⟨.pre f n.toNat m.toNat, ?_⟩
      simp only [rawP]
      rw [Int.toNat_of_nonneg (by omega), Int.toNat_of_nonneg (by omega)]
    split at h1
    · rename_i hk; subst hk
      simp at h1
      have : l = [] := List.length_eq_zero_iff.1 h2
      subst this
      refine ⟨.rng f n.toNat m.toNat, ?_⟩
      simp only [rawP]
      rw [Int.toNat_of_nonneg (by omega), Int.toNat_of_nonneg (by omega)]
    split at h1
    · rename_i hk
      obtain ⟨rfl, rfl, rfl⟩ := noneB_eq h1
      rcases hk with rfl | rfl | rfl
      · obtain ⟨x, rfl⟩ := len1 h2
        simp only [formedPs, Bool.and_true] at h3
        simp only [nodesPs] at hr
        obtain ⟨p, rfl⟩ := ih x (by omega) h3
        exact ⟨.not p, rfl⟩
      · obtain ⟨x, y, rfl⟩ := len2 h2
        simp only [formedPs, Bool.and_true, Bool.and_eq_true] at h3
        simp only [nodesPs] at hr
        obtain ⟨p, rfl⟩ := ih x (by omega) h3.1
        obtain ⟨q, rfl⟩ := ih y (by omega) h3.2
        exact ⟨.and p q, rfl⟩
      · obtain ⟨x, y, rfl⟩ := len2 h2
        simp only [formedPs, Bool.and_true, Bool.and_eq_true] at h3
        simp only [nodesPs] at hr
        obtain ⟨p, rfl⟩ := ih x (by omega) h3.1
        obtain ⟨q, rfl⟩ := ih y (by omega) h3.2
        exact ⟨.or p q, rfl⟩
    split at h1
    · rename_i hk; subst hk
      simp only [Bool.and_eq_true, sameN_iff] at h1
      obtain ⟨⟨⟨rfl, _⟩, _⟩, _⟩ := h1
      have : l = [] := List.length_eq_zero_iff.1 h2
      subst this
      exact ⟨.time n m, rfl⟩
    · cases h1

theorem emptyP_eq {p : RP} (h : emptyP p = true) : p = zP := by
  obtain ⟨k, f, n, m, a⟩ := p
  simp only [emptyP, Bool.and_eq_true, beq_iff_eq, sameN_iff, List.length_eq_zero_iff] at h
  obtain ⟨⟨⟨⟨rfl, rfl⟩, rfl⟩, rfl⟩, rfl⟩ := h
  rfl
theorem noneO_eq {f : ByteArray} {n : Int} (h : noneO f n = true) : f = e0 ∧ n = 0 := by
  simpa only [noneO, Bool.and_eq_true, beq_iff_eq, sameN_iff] using h

theorem formed_po (N : Nat) : ∀ r : RO, r.wt ≤ N → formedO r = true → ∃ p, r = rawO p := by
  induction N with
  | zero => intro r h; have := r.wt_pos; omega
  | succ N ih =>
    rintro ⟨k, p, f, n, l⟩ hr hf
    simp only [RO.wt] at hr
    simp only [formedO, Bool.and_eq_true, beq_iff_eq] at hf
    obtain ⟨⟨h1, h2⟩, h3⟩ := hf
    unfold okO at h1
    split at h1
    · rename_i hk; subst hk
      rw [Bool.and_eq_true] at h1
      obtain ⟨hp, hn⟩ := h1
      obtain ⟨rfl, rfl⟩ := noneO_eq hn
      obtain ⟨q, rfl⟩ := formed_pr _ p (Nat.le_refl _) hp
      have : l = [] := List.length_eq_zero_iff.1 h2
      subst this
      exact ⟨.filter q, rfl⟩
    split at h1
    · rename_i hk; subst hk
      simp only [Bool.and_eq_true, decide_eq_true_eq] at h1
      obtain ⟨⟨⟨_, he⟩, h0⟩, _⟩ := h1
      obtain rfl := emptyP_eq he
      have : l = [] := List.length_eq_zero_iff.1 h2
      subst this
      refine ⟨.set f n.toNat, ?_⟩
      simp only [rawO]
      rw [Int.toNat_of_nonneg h0]
    split at h1
    · rename_i hk
      rw [Bool.and_eq_true] at h1
      obtain ⟨he, hn⟩ := h1
      obtain rfl := emptyP_eq he
      obtain ⟨rfl, rfl⟩ := noneO_eq hn
      rcases hk with rfl | rfl | rfl
      · obtain ⟨x, y, rfl⟩ := len2 h2
        simp only [formedOs, Bool.and_true, Bool.and_eq_true] at h3
        simp only [wtSs] at hr
        obtain ⟨p, rfl⟩ := ih x (by omega) h3.1
        obtain ⟨q, rfl⟩ := ih y (by omega) h3.2
        exact ⟨.union p q, rfl⟩
      · obtain ⟨x, y, rfl⟩ := len2 h2
        simp only [formedOs, Bool.and_true, Bool.and_eq_true] at h3
        simp only [wtSs] at hr
        obtain ⟨p, rfl⟩ := ih x (by omega) h3.1
        obtain ⟨q, rfl⟩ := ih y (by omega) h3.2
        exact ⟨.seq p q, rfl⟩
      · obtain ⟨x, rfl⟩ := len1 h2
        simp only [formedOs, Bool.and_true] at h3
        simp only [wtSs] at hr
        obtain ⟨p, rfl⟩ := ih x (by omega) h3
        exact ⟨.star p, rfl⟩
    · cases h1

theorem ite0 {c : Prop} [Decidable c] (h : (if c then (1 : Int) else 0) = 0) : ¬ c := fun hc => by rw [if_pos hc] at h; cases h

/-- What the fit of all parts says. -/
theorem fit_pr {l : List Fd} : ∀ p : Pr, formedP (rawP p) = true → (∀ x ∈ partsR (rawP p), fitP l x = 0) → POk l p
  | .tt, _, _ => trivial
  | .ff, _, _ => trivial
  | .time _ _, _, _ => trivial
  | .eq f n, _, h => by
    have := h _ (by simp only [rawP, partsR]; exact List.mem_cons_self)
    simp only [fitP] at this
    rw [if_pos (.inl trivial)] at this
    cases hF : findF l f with
    | none => rw [hF] at this; cases this
    | some F =>
      rw [hF] at this
      simp only at this
      have hc := ite0 this
      have := Nat.two_pow_pos F.w
      refine ⟨F, hF, ?_⟩
      simp at hc; omega
  | .pre f n m, _, h => by
    have := h _ (by simp only [rawP, partsR]; exact List.mem_cons_self)
    simp only [fitP] at this
    rw [if_pos (.inr (.inl trivial))] at this
    cases hF : findF l f with
    | none => rw [hF] at this; cases this
    | some F =>
      rw [hF] at this
      simp only at this
      have hc := ite0 this
      have := Nat.two_pow_pos F.w
      refine ⟨F, hF, ?_⟩
      simp at hc; omega
  | .rng f n m, hf, h => by
    have := h _ (by simp only [rawP, partsR]; exact List.mem_cons_self)
    simp only [fitP] at this
    rw [if_pos (.inr (.inr trivial))] at this
    have hnm : n ≤ m := by
      simp [rawP, formedP, okP] at hf
      omega
    cases hF : findF l f with
    | none => rw [hF] at this; cases this
    | some F =>
      rw [hF] at this
      simp only at this
      have hc := ite0 this
      have := Nat.two_pow_pos F.w
      refine ⟨F, hF, hnm, ?_⟩
      simp at hc; omega
  | .not p, hf, h => by
    simp only [rawP, formedP, formedPs, Bool.and_eq_true] at hf
    refine fit_pr p hf.2.1 fun x hx => h x ?_
    simp only [rawP, partsR, partsRs, List.append_nil, List.mem_cons]
    exact .inr hx
  | .and p q, hf, h => by
    simp only [rawP, formedP, formedPs, Bool.and_eq_true] at hf
    refine ⟨fit_pr p hf.2.1 fun x hx => h x ?_, fit_pr q hf.2.2.1 fun x hx => h x ?_⟩
    · simp only [rawP, partsR, partsRs, List.append_nil, List.mem_cons, List.mem_append]; exact .inr (.inl hx)
    · simp only [rawP, partsR, partsRs, List.append_nil, List.mem_cons, List.mem_append]; exact .inr (.inr hx)
  | .or p q, hf, h => by
    simp only [rawP, formedP, formedPs, Bool.and_eq_true] at hf
    refine ⟨fit_pr p hf.2.1 fun x hx => h x ?_, fit_pr q hf.2.2.1 fun x hx => h x ?_⟩
    · simp only [rawP, partsR, partsRs, List.append_nil, List.mem_cons, List.mem_append]; exact .inr (.inl hx)
    · simp only [rawP, partsR, partsRs, List.append_nil, List.mem_cons, List.mem_append]; exact .inr (.inr hx)

theorem fit_po {l : List Fd} : ∀ p : Po, formedO (rawO p) = true → (∀ x ∈ partsS (rawO p), fitO l x = 0) → OOk l p
  | .filter p, hf, h => by
    have := h _ (by simp only [rawO, partsS]; exact List.mem_cons_self)
    simp only [fitO, if_true, fitAll] at this
    simp [rawO, formedO, okO] at hf
    exact fit_pr p hf.1.1.1 fun x hx => firstNZ_inv this _ (List.mem_map.2 ⟨x, hx, rfl⟩)
  | .set f n, _, h => by
    have := h _ (by simp only [rawO, partsS]; exact List.mem_cons_self)
    simp only [fitO] at this
    rw [if_neg (by decide), if_pos trivial] at this
    cases hF : findF l f with
    | none => rw [hF] at this; cases this
    | some F =>
      rw [hF] at this
      simp only at this
      split at this
      · cases this
      · rename_i hc
        have := Nat.two_pow_pos F.w
        exact ⟨F, hF, by omega⟩
  | .union a b, hf, h => by
    simp only [rawO, formedO, formedOs, Bool.and_eq_true] at hf
    refine ⟨fit_po a hf.2.1 fun x hx => h x ?_, fit_po b hf.2.2.1 fun x hx => h x ?_⟩
    · simp only [rawO, partsS, partsSs, List.append_nil, List.mem_cons, List.mem_append]; exact .inr (.inl hx)
    · simp only [rawO, partsS, partsSs, List.append_nil, List.mem_cons, List.mem_append]; exact .inr (.inr hx)
  | .seq a b, hf, h => by
    simp only [rawO, formedO, formedOs, Bool.and_eq_true] at hf
    refine ⟨fit_po a hf.2.1 fun x hx => h x ?_, fit_po b hf.2.2.1 fun x hx => h x ?_⟩
    · simp only [rawO, partsS, partsSs, List.append_nil, List.mem_cons, List.mem_append]; exact .inr (.inl hx)
    · simp only [rawO, partsS, partsSs, List.append_nil, List.mem_cons, List.mem_append]; exact .inr (.inr hx)
  | .star a, hf, h => by
    simp only [rawO, formedO, formedOs, Bool.and_eq_true] at hf
    refine fit_po a hf.2.1 fun x hx => h x ?_
    simp only [rawO, partsS, partsSs, List.append_nil, List.mem_cons]; exact .inr hx

theorem check0 {r : RO} (h : checkO r = 0) : r.size ≤ 200 ∧ r.deep ≤ 20 ∧ formedO r = true := by
  unfold checkO formI limI at h
  by_cases hc : r.size ≤ 200 ∧ r.deep ≤ 20
  · rw [if_pos hc, if_pos rfl] at h
    cases hb : formedO r with
    | true => exact ⟨hc.1, hc.2, rfl⟩
    | false => rw [hb] at h; cases h
  · rw [if_neg hc] at h; cases h
theorem pol0 {l : List Fd} {r : RO} (h : polI l r = 0) : checkO r = 0 ∧ ∀ x ∈ partsS r, fitO l x = 0 := by
  unfold polI at h
  split at h
  · rename_i hc; exact absurd h hc
  · rename_i hc
    exact ⟨Decidable.not_not.1 hc, fun x hx => firstNZ_inv h _ (List.mem_map.2 ⟨x, hx, rfl⟩)⟩
/-- A policy that is typed. -/
theorem typed_po {l : List Fd} {r : RO} (h : polI l r = 0) : ∃ p, r = rawO p ∧ OOk l p := by
  obtain ⟨h1, h2⟩ := pol0 h
  obtain ⟨_, _, h3⟩ := check0 h1
  obtain ⟨p, rfl⟩ := formed_po _ r (Nat.le_refl _) h3
  exact ⟨p, rfl, fit_po p h3 h2⟩
theorem typed_ok {l : List Fd} {p : Po} (h : polI l (rawO p) = 0) : OOk l p := by
  obtain ⟨h1, h2⟩ := pol0 h
  exact fit_po p (check0 h1).2.2 h2
end Go.MM
end
