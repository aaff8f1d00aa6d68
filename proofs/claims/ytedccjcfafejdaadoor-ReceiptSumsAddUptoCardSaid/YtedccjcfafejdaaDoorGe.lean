/- Joined by program: parts of a data level over the model, of the program's functions over it, and of the statement's proof. -/
import Derived.Test.YtedccjcfafejdaaDoorGd
section
/- Receipts: mix, the message schedule of both. -/
namespace Go.RC
open Go Go.DL Go.Proofs
set_option maxRecDepth 100000
set_option maxHeartbeats 600000
def xo (a b : Int) : Int := bitsI .xor .u32 a b
def an (a b : Int) : Int := bitsI .and .u32 a b
def ad (a b : Int) : Int := IntKind.u32.wrap (a + b)
def mx (x : Int) (i j k : Nat) : Int := xo (xo (rr x i) (rr x j)) (rr x k)
theorem t_Rotn (x : Int) (n : Nat) (h0 : 0 < n) (h1 : n < 32) : DCalls Tryd.prog 119 [W x, I (IntKind.i64.wrap (0 - (n : Int)))] (W (rr x n)) := by
  rw [wrap_id (by omega) (by omega), Int.zero_sub]
  exact t_Rotl x n h0 h1
theorem t_mix (x : Int) (i j k : Nat) (h : (0 < i ∧ i < 32) ∧ (0 < j ∧ j < 32) ∧ (0 < k ∧ k < 32)) : DCalls Tryd.prog 104 [W x, I i, I j, I k] (W (mx x i j k)) := by
  obtain ⟨⟨h1, h2⟩, ⟨h3, h4⟩, ⟨h5, h6⟩⟩ := h
  refine dcalls_low (rs := [.tmp 8]) mixed Tryd.func104 l104 rfl rfl rfl (r := [W _]) (Nat.le_of_ble_eq_true rfl) ?_
  repeat' ((conv => whnf); first | exact trivial | refine k_call _ (t_Rotn x i h1 h2) ?_ | refine k_call _ (t_Rotn x j h3 h4) ?_ | refine k_call _ (t_Rotn x k h5 h6) ?_ | refine now_T ?_ | refine aE1 ?_ | refine aE0 ?_ | refine aN1 ?_ | refine aN0 ?_ | refine aD1 ?_ | refine aD0 ?_ | refine now_E (fun hq => ?_) (fun hq => ?_) | refine now_N (fun hq => ?_) (fun hq => ?_) | refine now_D (fun hq => ?_) (fun hq => ?_) | refine rb1 ?_ | refine rb0 ?_ | refine rbx ?_ | refine rix ?_ | refine aS ?_ | fail)
/-- A word out of bytes, one after the other. -/
def sb (w b : Int) : Int := bitsI .or .u32 (IntKind.u32.wrap (w * 2 ^ 8)) (IntKind.u32.wrap b)
def s0 (x : Int) : Int := xo (xo (rr x 7) (rr x 18)) (x.fdiv (2 ^ 3))
def s1 (x : Int) : Int := xo (xo (rr x 17) (rr x 19)) (x.fdiv (2 ^ 10))
def nxt (ws : List Int) (t : Nat) : Int := ad (ad (ad (ws.getD (t - 16) 0) (s0 (ws.getD (t - 15) 0))) (ws.getD (t - 7) 0)) (s1 (ws.getD (t - 2) 0))
/-- The words of the schedule, as far as they are known. -/
def SCH (bs : List Int) : Nat → List Int
  | 0 => List.replicate 64 0
  | t + 1 => (SCH bs t).set t (if t < 16 then ((bs.drop (4 * t)).take 4).foldl sb ((SCH bs t).getD t 0) else nxt (SCH bs t) t)
theorem SCH_len (bs : List Int) : ∀ t, (SCH bs t).length = 64
  | 0 => rfl
  | t + 1 => by unfold SCH; rw [List.length_set, SCH_len bs t]
theorem set_self {ws : List Int} {t : Nat} (h : t < ws.length) : ws.set t (ws.getD t 0) = ws := by
  rw [List.getD_eq_getElem?_getD, List.getElem?_eq_getElem h, Option.getD_some, List.set_getElem_self]
theorem getD_set_self {ws : List Int} {t : Nat} {x : Int} (h : t < ws.length) : (ws.set t x).getD t 0 = x := by
  simp [List.getD_eq_getElem?_getD, h]
abbrev z64 : List T := List.replicate 64 (W 0)
attribute [irreducible] SCH
attribute [local irreducible] rr
theorem SCH_s (bs : List Int) (t : Nat) (h : t < 16) : SCH bs (t + 1) = (SCH bs t).set t (((bs.drop (4 * t)).take 4).foldl sb ((SCH bs t).getD t 0)) := by
  conv => lhs; unfold SCH
  rw [if_pos h]
theorem SCH_n (bs : List Int) (t : Nat) (h : ¬ t < 16) : SCH bs (t + 1) = (SCH bs t).set t (nxt (SCH bs t) t) := by
  conv => lhs; unfold SCH
  rw [if_neg h]
theorem foldl_take (l : List Int) (w : Int) (j : Nat) (h : j < l.length) : (l.take (j + 1)).foldl sb w = sb ((l.take j).foldl sb w) (l.getD j 0) := by
  rw [List.take_succ_eq_append_getElem h, List.foldl_append, List.getD_eq_getElem?_getD, List.getElem?_eq_getElem h]
  rfl
theorem t_schedule (bs : List Int) (hb : bs.length = 64) : DCalls Tryd.prog 103 [.slice 1 (bs.map Y)] (.agg ((SCH bs 64).map W)) := by
  refine dcalls_low (rs := [.cell 2 149]) mixed Tryd.func103 l103 rfl rfl rfl (r := [.agg _]) (Nat.le_of_ble_eq_true rfl) ?_
  repeat' ((conv => whnf); first | exact trivial | refine now_T ?_ | refine aE1 ?_ | refine aE0 ?_ | refine aN1 ?_ | refine aN0 ?_ | refine aD1 ?_ | refine aD0 ?_ | refine now_E (fun hq => ?_) (fun hq => ?_) | refine now_N (fun hq => ?_) (fun hq => ?_) | refine now_D (fun hq => ?_) (fun hq => ?_) | refine rb1 ?_ | refine rb0 ?_ | refine rbx ?_ | refine rix ?_ | refine aS ?_ | fail)
  refine wpC_loop (α := Nat) (fun t => {sl := [(0, .t (.slice 1 (bs.map Y))), (2, .ptr 2 0), (3, .ptr 3 0), (11, .t (I t))], bx := [(2, .d 64 z64), (3, .d 64 ((SCH bs t).map W))]})
    (fun t => t ≤ 64) (fun t => 64 - t) 0 (by omega) ?_ ?_
  · repeat' (first | exact trivial | exact LeV.same _ | exact LeB.same _ | exact rfl | exact fun _ _ _ => trivial | exact lI | exact LeV.nil _ _ _ | exact lB | refine leBd ?_ | refine leOwn ?_ | refine And.intro ?_ ?_)
    unfold SCH
    rfl
  intro t ht
  have hl := SCH_len bs t
  rcases Nat.lt_or_ge t 64 with h | h
  · by_cases h16 : t < 16
    · have hS := SCH_s bs t h16
      generalize SCH bs t = ws at hl hS
      generalize he : (bs.drop (4 * t)).take 4 = es at hS
      have hel : es.length = 4 := by rw [← he]; simp; omega
      repeat' ((conv => whnf); first | exact trivial | (refine now_v (.slice 1 (es.map Y)) (by first | ((rw [← he]; simp (disch := omega) only [wrap_id, w32, w8, w64]; rw [← List.map_take, ← List.map_drop]; congr 2; simp only [List.drop_take]; congr 1 <;> omega); done) | fail) ?_) | refine now_T ?_ | refine aE1 ?_ | refine aE0 ?_ | refine aN1 ?_ | refine aN0 ?_ | refine aD1 ?_ | refine aD0 ?_ | refine now_E (fun hq => ?_) (fun hq => ?_) | refine now_N (fun hq => ?_) (fun hq => ?_) | refine now_D (fun hq => ?_) (fun hq => ?_) | refine rb1 ?_ | refine rb0 ?_ | refine rbx ?_ | refine rix ?_ | (refine And.intro (by first | ((simp (disch := omega) only [wrap_id, w32, w8, w64]; simp; omega); done) | fail) ?_) | refine aS ?_ | fail)
      refine wpC_loopE 2 (α := Nat) (β := Unit) (fun j => {sl := [(0, .t (.slice 1 (bs.map Y))), (2, .ptr 2 0), (3, .ptr 3 0), (4, .t (I t)), (11, .t (I t)), (22, .t (.slice 1 (es.map Y))), (23, .t (I 4)), (24, .t (I j))], bx := [(2, .d 64 z64), (3, .d 64 ((ws.set t ((es.take j).foldl sb (ws.getD t 0))).map W))]})
        (fun j => j ≤ 4) (fun j => 4 - j) (fun _ => {sl := [(0, .t (.slice 1 (bs.map Y))), (2, .ptr 2 0), (3, .ptr 3 0), (11, .t (I t))], bx := [(2, .d 64 z64), (3, .d 64 ((SCH bs (t + 1)).map W))]}) (fun _ => True) 0 (by omega) ?_ ?_ ?_
      · repeat' (first | (exact leI (by simp [hel])) | exact trivial | exact LeV.same _ | exact LeB.same _ | exact rfl | exact fun _ _ _ => trivial | exact lI | exact LeV.nil _ _ _ | exact lB | refine leBd ?_ | refine leOwn ?_ | refine And.intro ?_ ?_)
        simp only [List.take_zero, List.foldl_nil]
        rw [set_self (by omega)]
      · intro j hj
        rcases Nat.lt_or_ge j 4 with h4 | h4
        · have hf := foldl_take es (ws.getD t 0) j (by omega)
          have hsl : (ws.set t ((es.take j).foldl sb (ws.getD t 0))).length = 64 := by simp [hl]
          generalize hcur : ws.set t ((es.take j).foldl sb (ws.getD t 0)) = cur at hsl
          have hg : cur.getD t 0 = (es.take j).foldl sb (ws.getD t 0) := by rw [← hcur]; exact getD_set_self (by omega)
          repeat' ((conv => whnf); first | exact trivial | (refine now_v (Y (es.getD j 0)) (by first | ((simp [List.getD_eq_getElem?_getD, hel, h4]); done) | fail) ?_) | (refine now_v (W (cur.getD t 0)) (by first | ((simp only [Int.toNat_natCast, Nat.zero_add, Nat.mul_one]; exact mget (by omega)); done) | fail) ?_) | refine now_T ?_ | refine aE1 ?_ | refine aE0 ?_ | refine aN1 ?_ | refine aN0 ?_ | refine aD1 ?_ | refine aD0 ?_ | refine now_E (fun hq => ?_) (fun hq => ?_) | refine now_N (fun hq => ?_) (fun hq => ?_) | refine now_D (fun hq => ?_) (fun hq => ?_) | refine rb1 ?_ | refine rb0 ?_ | refine rbx ?_ | refine rix ?_ | (refine And.intro (by first | ((simp [hel]; omega); done) | fail) ?_) | refine aS ?_ | fail)
          refine ⟨j + 1, by omega, by omega, ?_⟩
          repeat' (first | exact trivial | exact LeV.same _ | exact LeB.same _ | exact rfl | exact fun _ _ _ => trivial | exact lI | exact LeV.nil _ _ _ | exact lB | refine leBd ?_ | refine leOwn ?_ | refine And.intro ?_ ?_)
          rw [hf, ← hg, show ws.set t (sb (cur.getD t 0) (es.getD j 0)) = cur.set t (sb (cur.getD t 0) (es.getD j 0)) by rw [← hcur, List.set_set], ← mset]
          simp only [Int.toNat_natCast, Nat.zero_add, Nat.mul_one]
          rfl
        · have : j = 4 := by omega
          subst this
          rw [List.take_of_length_le (by omega), ← hS]
          repeat' ((conv => whnf); first | exact trivial | refine now_T ?_ | refine aE1 ?_ | refine aE0 ?_ | refine aN1 ?_ | refine aN0 ?_ | refine aD1 ?_ | refine aD0 ?_ | refine now_E (fun hq => ?_) (fun hq => ?_) | refine now_N (fun hq => ?_) (fun hq => ?_) | refine now_D (fun hq => ?_) (fun hq => ?_) | refine rb1 ?_ | refine rb0 ?_ | refine rbx ?_ | refine rix ?_ | refine aS ?_ | fail)
          exact ⟨(), trivial, by repeat' (first | exact trivial | exact LeV.same _ | exact LeB.same _ | exact rfl | exact fun _ _ _ => trivial | exact lI | exact LeV.nil _ _ _ | exact lB | refine leBd ?_ | refine leOwn ?_ | refine And.intro ?_ ?_)⟩
      · rintro - -
        repeat' ((conv => whnf); first | exact trivial | refine now_T ?_ | refine aE1 ?_ | refine aE0 ?_ | refine aN1 ?_ | refine aN0 ?_ | refine aD1 ?_ | refine aD0 ?_ | refine now_E (fun hq => ?_) (fun hq => ?_) | refine now_N (fun hq => ?_) (fun hq => ?_) | refine now_D (fun hq => ?_) (fun hq => ?_) | refine rb1 ?_ | refine rb0 ?_ | refine rbx ?_ | refine rix ?_ | refine aS ?_ | fail)
        refine ⟨t + 1, by omega, by omega, ?_⟩
        repeat' (first | exact trivial | exact LeV.same _ | exact LeB.same _ | exact rfl | exact fun _ _ _ => trivial | exact lI | exact LeV.nil _ _ _ | exact lB | refine leBd ?_ | refine leOwn ?_ | refine And.intro ?_ ?_)
    · have hS := SCH_n bs t h16
      generalize SCH bs t = ws at hl hS
      repeat' ((conv => whnf); first | exact trivial | (refine now_v (W (ws.getD (t - 15) 0)) (by first | (exact mgetk (t - 15) (by simp (disch := omega) only [wrap_id, w32, w8, w64]; omega) (by omega); done) | fail) ?_) | (refine now_v (W (ws.getD (t - 2) 0)) (by first | (exact mgetk (t - 2) (by simp (disch := omega) only [wrap_id, w32, w8, w64]; omega) (by omega); done) | fail) ?_) | (refine now_v (W (ws.getD (t - 16) 0)) (by first | (exact mgetk (t - 16) (by simp (disch := omega) only [wrap_id, w32, w8, w64]; omega) (by omega); done) | fail) ?_) | (refine now_v (W (ws.getD (t - 7) 0)) (by first | (exact mgetk (t - 7) (by simp (disch := omega) only [wrap_id, w32, w8, w64]; omega) (by omega); done) | fail) ?_) | refine k_call _ (t_Rotl (ws.getD (t - 15) 0) 7 (by omega) (by omega)) ?_ | refine k_call _ (t_Rotl (ws.getD (t - 15) 0) 18 (by omega) (by omega)) ?_ | refine k_call _ (t_Rotl (ws.getD (t - 2) 0) 17 (by omega) (by omega)) ?_ | refine k_call _ (t_Rotl (ws.getD (t - 2) 0) 19 (by omega) (by omega)) ?_ | refine now_T ?_ | refine aE1 ?_ | refine aE0 ?_ | refine aN1 ?_ | refine aN0 ?_ | refine aD1 ?_ | refine aD0 ?_ | refine now_E (fun hq => ?_) (fun hq => ?_) | refine now_N (fun hq => ?_) (fun hq => ?_) | refine now_D (fun hq => ?_) (fun hq => ?_) | refine rb1 ?_ | refine rb0 ?_ | refine rbx ?_ | refine rix ?_ | (refine And.intro (by first | ((simp (disch := omega) only [wrap_id, w32, w8, w64]; omega); done) | fail) ?_) | refine aS ?_ | fail)
      refine ⟨t + 1, by omega, by omega, ?_⟩
      repeat' (first | exact trivial | exact LeV.same _ | exact LeB.same _ | exact rfl | exact fun _ _ _ => trivial | exact lI | exact LeV.nil _ _ _ | exact lB | refine leBd ?_ | refine leOwn ?_ | refine And.intro ?_ ?_)
      rw [hS, ← mset]
      simp only [Int.toNat_natCast, Nat.zero_add, Nat.mul_one]
      rfl
  · have : t = 64 := by omega
    subst this
    generalize SCH bs 64 = ws at hl
    repeat' ((conv => whnf); first | exact trivial | refine now_T ?_ | refine aE1 ?_ | refine aE0 ?_ | refine aN1 ?_ | refine aN0 ?_ | refine aD1 ?_ | refine aD0 ?_ | refine now_E (fun hq => ?_) (fun hq => ?_) | refine now_N (fun hq => ?_) (fun hq => ?_) | refine now_D (fun hq => ?_) (fun hq => ?_) | refine rb1 ?_ | refine rb0 ?_ | refine rbx ?_ | refine rix ?_ | (refine And.intro (by first | (exact ⟨by first | (simp; done) | simpa using hl, by decide⟩; done) | (first | (simp; done) | simpa using hl; done) | fail) ?_) | refine aS ?_ | refine rt ?_ trivial | fail)
    exact congrArg T.agg (putL_all rfl)
/-- A word out of bytes, at once. -/
def wd (bs : List Int) (t : Nat) : Int := bitsI .or .u32 (bitsI .or .u32 (bitsI .or .u32 (IntKind.u32.wrap (IntKind.u32.wrap (bs.getD (4 * t) 0) * 2 ^ 24)) (IntKind.u32.wrap (IntKind.u32.wrap (bs.getD (4 * t + 1) 0) * 2 ^ 16))) (IntKind.u32.wrap (IntKind.u32.wrap (bs.getD (4 * t + 2) 0) * 2 ^ 8))) (IntKind.u32.wrap (bs.getD (4 * t + 3) 0))
def SC2 (bs : List Int) : Nat → List Int
  | 0 => List.replicate 64 0
  | t + 1 => (SC2 bs t).set t (if t < 16 then wd bs t else nxt (SC2 bs t) t)
theorem SC2_len (bs : List Int) : ∀ t, (SC2 bs t).length = 64
  | 0 => rfl
  | t + 1 => by unfold SC2; rw [List.length_set, SC2_len bs t]
theorem SC2_0 (bs : List Int) : SC2 bs 0 = List.replicate 64 0 := rfl
theorem SC2_s (bs : List Int) (t : Nat) (h : t < 16) : SC2 bs (t + 1) = (SC2 bs t).set t (wd bs t) := by
  conv => lhs; unfold SC2
  rw [if_pos h]
theorem SC2_n (bs : List Int) (t : Nat) (h : ¬ t < 16) : SC2 bs (t + 1) = (SC2 bs t).set t (nxt (SC2 bs t) t) := by
  conv => lhs; unfold SC2
  rw [if_neg h]
attribute [irreducible] SC2
theorem t_words (bs : List Int) (hb : bs.length = 64) : DCalls Tryd.prog 106 [.slice 1 (bs.map Y)] (.agg ((SC2 bs 64).map W)) := by
  refine dcalls_low (rs := [.cell 2 149]) mixed Tryd.func106 l106 rfl rfl rfl (r := [.agg _]) (Nat.le_of_ble_eq_true rfl) ?_
  repeat' ((conv => whnf); first | exact trivial | refine now_T ?_ | refine aE1 ?_ | refine aE0 ?_ | refine aN1 ?_ | refine aN0 ?_ | refine aD1 ?_ | refine aD0 ?_ | refine now_E (fun hq => ?_) (fun hq => ?_) | refine now_N (fun hq => ?_) (fun hq => ?_) | refine now_D (fun hq => ?_) (fun hq => ?_) | refine rb1 ?_ | refine rb0 ?_ | refine rbx ?_ | refine rix ?_ | refine aS ?_ | fail)
  refine wpC_loopE 0 (α := Nat) (β := Unit) (fun t => {sl := [(0, .t (.slice 1 (bs.map Y))), (2, .ptr 2 0), (3, .ptr 3 0), (4, .t (I t))], bx := [(2, .d 64 z64), (3, .d 64 ((SC2 bs t).map W))]})
    (fun t => t ≤ 16) (fun t => 16 - t) (fun _ => {sl := [(2, .ptr 2 0), (3, .ptr 3 0)], bx := [(2, .d 64 z64), (3, .d 64 ((SC2 bs 16).map W))]}) (fun _ => True) 0 (by omega) ?_ ?_ ?_
  · repeat' (first | exact trivial | exact LeV.same _ | exact LeB.same _ | exact rfl | exact fun _ _ _ => trivial | exact lI | exact LeV.nil _ _ _ | exact lB | refine leBd ?_ | refine leOwn ?_ | refine And.intro ?_ ?_)
    rw [SC2_0]
    rfl
  · intro t ht
    have hl := SC2_len bs t
    rcases Nat.lt_or_ge t 16 with h | h
    · have hS := SC2_s bs t h
      generalize SC2 bs t = ws at hl hS
      repeat' ((conv => whnf); first | exact trivial | (refine now_v (Y (bs.getD (4 * t) 0)) (by first | (exact mgetk (4 * t) (by simp (disch := omega) only [wrap_id, w32, w8, w64]; omega) (by omega); done) | fail) ?_) | (refine now_v (Y (bs.getD (4 * t + 1) 0)) (by first | (exact mgetk (4 * t + 1) (by simp (disch := omega) only [wrap_id, w32, w8, w64]; omega) (by omega); done) | fail) ?_) | (refine now_v (Y (bs.getD (4 * t + 2) 0)) (by first | (exact mgetk (4 * t + 2) (by simp (disch := omega) only [wrap_id, w32, w8, w64]; omega) (by omega); done) | fail) ?_) | (refine now_v (Y (bs.getD (4 * t + 3) 0)) (by first | (exact mgetk (4 * t + 3) (by simp (disch := omega) only [wrap_id, w32, w8, w64]; omega) (by omega); done) | fail) ?_) | refine now_T ?_ | refine aE1 ?_ | refine aE0 ?_ | refine aN1 ?_ | refine aN0 ?_ | refine aD1 ?_ | refine aD0 ?_ | refine now_E (fun hq => ?_) (fun hq => ?_) | refine now_N (fun hq => ?_) (fun hq => ?_) | refine now_D (fun hq => ?_) (fun hq => ?_) | refine rb1 ?_ | refine rb0 ?_ | refine rbx ?_ | refine rix ?_ | (refine And.intro (by first | ((simp (disch := omega) only [wrap_id, w32, w8, w64]; simp [hb]; omega); done) | fail) ?_) | refine aS ?_ | fail)
      refine ⟨t + 1, by omega, by omega, ?_⟩
      repeat' (first | exact trivial | exact LeV.same _ | exact LeB.same _ | exact rfl | exact fun _ _ _ => trivial | exact lI | exact LeV.nil _ _ _ | exact lB | refine leBd ?_ | refine leOwn ?_ | refine And.intro ?_ ?_)
      rw [hS, ← mset]
      simp only [Int.toNat_natCast, Nat.zero_add, Nat.mul_one]
      rfl
    · have : t = 16 := by omega
      subst this
      repeat' ((conv => whnf); first | exact trivial | refine now_T ?_ | refine aE1 ?_ | refine aE0 ?_ | refine aN1 ?_ | refine aN0 ?_ | refine aD1 ?_ | refine aD0 ?_ | refine now_E (fun hq => ?_) (fun hq => ?_) | refine now_N (fun hq => ?_) (fun hq => ?_) | refine now_D (fun hq => ?_) (fun hq => ?_) | refine rb1 ?_ | refine rb0 ?_ | refine rbx ?_ | refine rix ?_ | refine aS ?_ | fail)
      exact ⟨(), trivial, by repeat' (first | exact trivial | exact LeV.same _ | exact LeB.same _ | exact rfl | exact fun _ _ _ => trivial | exact lI | exact LeV.nil _ _ _ | exact lB | refine leBd ?_ | refine leOwn ?_ | refine And.intro ?_ ?_)⟩
  rintro - -
  repeat' ((conv => whnf); first | exact trivial | refine now_T ?_ | refine aE1 ?_ | refine aE0 ?_ | refine aN1 ?_ | refine aN0 ?_ | refine aD1 ?_ | refine aD0 ?_ | refine now_E (fun hq => ?_) (fun hq => ?_) | refine now_N (fun hq => ?_) (fun hq => ?_) | refine now_D (fun hq => ?_) (fun hq => ?_) | refine rb1 ?_ | refine rb0 ?_ | refine rbx ?_ | refine rix ?_ | refine aS ?_ | fail)
  refine wpC_loop (α := Nat) (fun t => {sl := [(2, .ptr 2 0), (3, .ptr 3 0), (5, .t (I t))], bx := [(2, .d 64 z64), (3, .d 64 ((SC2 bs t).map W))]})
    (fun t => 16 ≤ t ∧ t ≤ 64) (fun t => 64 - t) 16 (by omega) ?_ ?_
  · repeat' (first | exact trivial | exact LeV.same _ | exact LeB.same _ | exact rfl | exact fun _ _ _ => trivial | exact lI | exact LeV.nil _ _ _ | exact lB | refine leBd ?_ | refine leOwn ?_ | refine And.intro ?_ ?_)
  rintro t ⟨h16, ht⟩
  have hl := SC2_len bs t
  rcases Nat.lt_or_ge t 64 with h | h
  · have hS := SC2_n bs t (by omega)
    generalize SC2 bs t = ws at hl hS
    repeat' ((conv => whnf); first | exact trivial | (refine now_v (W (ws.getD (t - 15) 0)) (by first | (exact mgetk (t - 15) (by simp (disch := omega) only [wrap_id, w32, w8, w64]; omega) (by omega); done) | fail) ?_) | (refine now_v (W (ws.getD (t - 2) 0)) (by first | (exact mgetk (t - 2) (by simp (disch := omega) only [wrap_id, w32, w8, w64]; omega) (by omega); done) | fail) ?_) | (refine now_v (W (ws.getD (t - 16) 0)) (by first | (exact mgetk (t - 16) (by simp (disch := omega) only [wrap_id, w32, w8, w64]; omega) (by omega); done) | fail) ?_) | (refine now_v (W (ws.getD (t - 7) 0)) (by first | (exact mgetk (t - 7) (by simp (disch := omega) only [wrap_id, w32, w8, w64]; omega) (by omega); done) | fail) ?_) | refine k_call _ (t_rotr (ws.getD (t - 15) 0) 7 (by omega) (by omega)) ?_ | refine k_call _ (t_rotr (ws.getD (t - 15) 0) 18 (by omega) (by omega)) ?_ | refine k_call _ (t_rotr (ws.getD (t - 2) 0) 17 (by omega) (by omega)) ?_ | refine k_call _ (t_rotr (ws.getD (t - 2) 0) 19 (by omega) (by omega)) ?_ | refine now_T ?_ | refine aE1 ?_ | refine aE0 ?_ | refine aN1 ?_ | refine aN0 ?_ | refine aD1 ?_ | refine aD0 ?_ | refine now_E (fun hq => ?_) (fun hq => ?_) | refine now_N (fun hq => ?_) (fun hq => ?_) | refine now_D (fun hq => ?_) (fun hq => ?_) | refine rb1 ?_ | refine rb0 ?_ | refine rbx ?_ | refine rix ?_ | (refine And.intro (by first | ((simp (disch := omega) only [wrap_id, w32, w8, w64]; omega); done) | fail) ?_) | refine aS ?_ | fail)
    refine ⟨t + 1, by omega, by omega, ?_⟩
    repeat' (first | exact trivial | exact LeV.same _ | exact LeB.same _ | exact rfl | exact fun _ _ _ => trivial | exact lI | exact LeV.nil _ _ _ | exact lB | refine leBd ?_ | refine leOwn ?_ | refine And.intro ?_ ?_)
    rw [hS, ← mset]
    simp only [Int.toNat_natCast, Nat.zero_add, Nat.mul_one]
    rfl
  · have : t = 64 := by omega
    subst this
    generalize SC2 bs 64 = ws at hl
    repeat' ((conv => whnf); first | exact trivial | refine now_T ?_ | refine aE1 ?_ | refine aE0 ?_ | refine aN1 ?_ | refine aN0 ?_ | refine aD1 ?_ | refine aD0 ?_ | refine now_E (fun hq => ?_) (fun hq => ?_) | refine now_N (fun hq => ?_) (fun hq => ?_) | refine now_D (fun hq => ?_) (fun hq => ?_) | refine rb1 ?_ | refine rb0 ?_ | refine rbx ?_ | refine rix ?_ | (refine And.intro (by first | (exact ⟨by first | (simp; done) | simpa using hl, by decide⟩; done) | (first | (simp; done) | simpa using hl; done) | fail) ?_) | refine aS ?_ | refine rt ?_ trivial | fail)
    exact congrArg T.agg (putL_all rfl)
end Go.RC
end
section
/- Receipts: the compression of a block. -/
namespace Go.RC
open Go Go.DL Go.Proofs
set_option maxRecDepth 100000
set_option maxHeartbeats 1000000
attribute [local irreducible] rr
def nt (a : Int) : Int := bitsI .xor .u32 (if IntKind.signed .u32 = true then -1 else IntKind.max .u32) a
structure V8 where
  (a b c d e f g h : Int)
def V8.list (v : V8) : List Int := [v.a, v.b, v.c, v.d, v.e, v.f, v.g, v.h]
abbrev V8.lo (v : V8) : List Int := [v.a, v.b, v.c, v.d]
abbrev V8.hi (v : V8) : List Int := [v.e, v.f, v.g, v.h]
def xx (v : V8) (k w : Int) : Int := ad (ad (ad (ad v.h (mx v.e 6 11 25)) (xo (an v.e v.f) (an (nt v.e) v.g))) k) w
def yy (v : V8) : Int := ad (mx v.a 2 13 22) (xo (xo (an v.a v.b) (an v.a v.c)) (an v.b v.c))
def V8.step (v : V8) (k w : Int) : V8 := ⟨ad (xx v k w) (yy v), v.a, v.b, v.c, ad v.d (xx v k w), v.e, v.f, v.g⟩
/-- The rounds. -/
def RN (v : V8) (ws : List Int) : Nat → V8
  | 0 => v
  | t + 1 => (RN v ws t).step (kons.getD t 0) (ws.getD t 0)
def FI (s lo hi : List Int) : Nat → List Int
  | 0 => s
  | i + 1 => ((FI s lo hi i).set i (ad ((FI s lo hi i).getD i 0) (lo.getD i 0))).set (i + 4) (ad (((FI s lo hi i).set i (ad ((FI s lo hi i).getD i 0) (lo.getD i 0))).getD (i + 4) 0) (hi.getD i 0))
theorem FI_len (s lo hi : List Int) : ∀ i, (FI s lo hi i).length = s.length
  | 0 => rfl
  | i + 1 => by unfold FI; simp [FI_len s lo hi i]
/-- The compression. -/
def cpr (s : V8) (bs : List Int) : V8 := let v := RN s (SCH bs 64) 64; ⟨ad s.a v.a, ad s.b v.b, ad s.c v.c, ad s.d v.d, ad s.e v.e, ad s.f v.f, ad s.g v.g, ad s.h v.h⟩
theorem FI_4 (s v : V8) : FI s.list v.lo v.hi 4 = [ad s.a v.a, ad s.b v.b, ad s.c v.c, ad s.d v.d, ad s.e v.e, ad s.f v.f, ad s.g v.g, ad s.h v.h] := rfl
attribute [local irreducible] RN
theorem t_compress (s : V8) (bs : List Int) (hb : bs.length = 64) : DCalls Tryd.prog 92 [.agg (s.list.map W), .slice 1 (bs.map Y)] (.agg ((cpr s bs).list.map W)) := by
  refine dcalls_low (rs := [.cell 4 118]) mixed Tryd.func92 l92 rfl rfl rfl (r := [.agg _]) (Nat.le_of_ble_eq_true rfl) ?_
  have hc := t_schedule bs hb
  have hwl := SCH_len bs 64
  unfold cpr
  generalize SCH bs 64 = ws at hc hwl
  repeat' ((conv => whnf); first | exact trivial | refine k_call _ (hc) ?_ | refine now_T ?_ | refine aE1 ?_ | refine aE0 ?_ | refine aN1 ?_ | refine aN0 ?_ | refine aD1 ?_ | refine aD0 ?_ | refine now_E (fun hq => ?_) (fun hq => ?_) | refine now_N (fun hq => ?_) (fun hq => ?_) | refine now_D (fun hq => ?_) (fun hq => ?_) | refine rb1 ?_ | refine rb0 ?_ | refine rbx ?_ | refine rix ?_ | (refine And.intro (by first | (exact ⟨by first | (simp; done) | simpa using hwl, by decide⟩; done) | fail) ?_) | refine aS ?_ | fail)
  refine wpC_loopE 0 (α := Nat) (β := Unit) (fun t => {sl := [(2, .ptr 2 0), (4, .ptr 4 0), (5, .ptr 5 0), (6, .ptr 6 0), (7, .ptr 7 0), (21, .t (.agg (kons.map W))), (22, .t (I t))], bx := [(2, .d 8 (s.list.map W)), (4, .d 8 (List.replicate 8 (W 0))), (5, .d 64 (ws.map W)), (6, .d 4 ((RN s ws t).lo.map W)), (7, .d 4 ((RN s ws t).hi.map W))]})
    (fun t => t ≤ 64) (fun t => 64 - t) (fun _ => {sl := [(2, .ptr 2 0), (4, .ptr 4 0), (6, .ptr 6 0), (7, .ptr 7 0)], bx := [(2, .d 8 (s.list.map W)), (4, .d 8 (List.replicate 8 (W 0))), (6, .d 4 ((RN s ws 64).lo.map W)), (7, .d 4 ((RN s ws 64).hi.map W))]}) (fun _ => True) 0 (by omega) ?_ ?_ ?_
  · repeat' (first | exact trivial | exact LeV.same _ | exact LeB.same _ | exact rfl | exact fun _ _ _ => trivial | exact lI | exact LeV.nil _ _ _ | exact lB | refine leBd ?_ | refine leOwn ?_ | refine And.intro ?_ ?_)
    · exact (putL_all rfl).symm
    · unfold RN; rfl
    · unfold RN; rfl
  · intro t ht
    rcases Nat.lt_or_ge t 64 with h | h
    · have hS : RN s ws (t + 1) = (RN s ws t).step (kons.getD t 0) (ws.getD t 0) := by conv => lhs; unfold RN
      generalize RN s ws t = v at hS
      generalize hkk : kons = kk
      have hkl : kk.length = 64 := by rw [← hkk]; rfl
      rw [hkk] at hS
      repeat' ((conv => whnf); first | exact trivial | (refine now_v (W (kk.getD t 0)) (by first | (exact mgetk t (by omega) (by omega); done) | fail) ?_) | (refine now_v (W (ws.getD t 0)) (by first | (exact mgetk t (by omega) (by omega); done) | fail) ?_) | refine k_call _ (t_mix v.e 6 11 25 (by decide)) ?_ | refine k_call _ (t_mix v.a 2 13 22 (by decide)) ?_ | refine now_T ?_ | refine aE1 ?_ | refine aE0 ?_ | refine aN1 ?_ | refine aN0 ?_ | refine aD1 ?_ | refine aD0 ?_ | refine now_E (fun hq => ?_) (fun hq => ?_) | refine now_N (fun hq => ?_) (fun hq => ?_) | refine now_D (fun hq => ?_) (fun hq => ?_) | refine rb1 ?_ | refine rb0 ?_ | refine rbx ?_ | refine rix ?_ | (refine And.intro (by first | ((simp [hkl]; omega); done) | ((omega); done) | fail) ?_) | refine aS ?_ | fail)
      refine ⟨t + 1, by omega, by omega, ?_⟩
      repeat' (first | exact trivial | exact LeV.same _ | exact LeB.same _ | exact rfl | exact fun _ _ _ => trivial | exact lI | exact LeV.nil _ _ _ | exact lB | refine leBd ?_ | refine leOwn ?_ | refine And.intro ?_ ?_)
      · rw [hS]; rfl
      · rw [hS]; rfl
    · have : t = 64 := by omega
      subst this
      repeat' ((conv => whnf); first | exact trivial | refine now_T ?_ | refine aE1 ?_ | refine aE0 ?_ | refine aN1 ?_ | refine aN0 ?_ | refine aD1 ?_ | refine aD0 ?_ | refine now_E (fun hq => ?_) (fun hq => ?_) | refine now_N (fun hq => ?_) (fun hq => ?_) | refine now_D (fun hq => ?_) (fun hq => ?_) | refine rb1 ?_ | refine rb0 ?_ | refine rbx ?_ | refine rix ?_ | refine aS ?_ | fail)
      exact ⟨(), trivial, by repeat' (first | exact trivial | exact LeV.same _ | exact LeB.same _ | exact rfl | exact fun _ _ _ => trivial | exact lI | exact LeV.nil _ _ _ | exact lB | refine leBd ?_ | refine leOwn ?_ | refine And.intro ?_ ?_)⟩
  rintro - -
  generalize RN s ws 64 = v
  repeat' ((conv => whnf); first | exact trivial | refine now_T ?_ | refine aE1 ?_ | refine aE0 ?_ | refine aN1 ?_ | refine aN0 ?_ | refine aD1 ?_ | refine aD0 ?_ | refine now_E (fun hq => ?_) (fun hq => ?_) | refine now_N (fun hq => ?_) (fun hq => ?_) | refine now_D (fun hq => ?_) (fun hq => ?_) | refine rb1 ?_ | refine rb0 ?_ | refine rbx ?_ | refine rix ?_ | refine aS ?_ | fail)
  refine wpC_loopE 2 (α := Nat) (β := Unit) (fun i => {sl := [(2, .ptr 2 0), (4, .ptr 4 0), (6, .ptr 6 0), (7, .ptr 7 0), (94, .t (I i))], bx := [(2, .d 8 ((FI s.list v.lo v.hi i).map W)), (4, .d 8 (List.replicate 8 (W 0))), (6, .d 4 (v.lo.map W)), (7, .d 4 (v.hi.map W))]})
    (fun i => i ≤ 4) (fun i => 4 - i) (fun _ => {sl := [(2, .ptr 2 0), (4, .ptr 4 0)], bx := [(2, .d 8 ((FI s.list v.lo v.hi 4).map W)), (4, .d 8 (List.replicate 8 (W 0)))]}) (fun _ => True) 0 (by omega) ?_ ?_ ?_
  · repeat' (first | exact trivial | exact LeV.same _ | exact LeB.same _ | exact rfl | exact fun _ _ _ => trivial | exact lI | exact LeV.nil _ _ _ | exact lB | refine leBd ?_ | refine leOwn ?_ | refine And.intro ?_ ?_)
  · intro i hi
    have hl : (FI s.list v.lo v.hi i).length = 8 := FI_len _ _ _ i
    rcases Nat.lt_or_ge i 4 with h | h
    · have hS : FI s.list v.lo v.hi (i + 1) = ((FI s.list v.lo v.hi i).set i (ad ((FI s.list v.lo v.hi i).getD i 0) (v.lo.getD i 0))).set (i + 4) (ad (((FI s.list v.lo v.hi i).set i (ad ((FI s.list v.lo v.hi i).getD i 0) (v.lo.getD i 0))).getD (i + 4) 0) (v.hi.getD i 0)) := rfl
      generalize FI s.list v.lo v.hi i = cur at hl hS
      have hlo : v.lo.length = 4 := rfl
      have hhi : v.hi.length = 4 := rfl
      generalize v.lo = lo at hlo hS
      generalize v.hi = hh at hhi hS
      generalize hcur : cur.set i (ad (cur.getD i 0) (lo.getD i 0)) = cur2 at hS
      have hl2 : cur2.length = 8 := by rw [← hcur]; simpa using hl
      have e2 : (cur.map W).set (0 + (↑i : Int).toNat * 1) (W (ad (cur.getD i 0) (lo.getD i 0))) = cur2.map W := by
        rw [mset, ← hcur]; simp
      repeat' ((conv => whnf); first | exact trivial | (refine now_v (W (cur.getD i 0)) (by first | (exact mgetk i (by omega) (by omega); done) | fail) ?_) | (refine now_v (W (lo.getD i 0)) (by first | (exact mgetk i (by omega) (by omega); done) | fail) ?_) | (refine now_v (W (hh.getD i 0)) (by first | (exact mgetk i (by omega) (by omega); done) | fail) ?_) | (refine now_v (W (cur2.getD (i + 4) 0)) (by first | ((refine (congrArg (fun l : List T => l[_]?.getD _) e2).trans ?_; exact mgetk (i + 4) (by simp (disch := omega) only [wrap_id, w32, w8, w64]; omega) (by omega)); done) | fail) ?_) | refine now_T ?_ | refine aE1 ?_ | refine aE0 ?_ | refine aN1 ?_ | refine aN0 ?_ | refine aD1 ?_ | refine aD0 ?_ | refine now_E (fun hq => ?_) (fun hq => ?_) | refine now_N (fun hq => ?_) (fun hq => ?_) | refine now_D (fun hq => ?_) (fun hq => ?_) | refine rb1 ?_ | refine rb0 ?_ | refine rbx ?_ | refine rix ?_ | (refine And.intro (by first | ((simp (disch := omega) only [wrap_id, w32, w8, w64]; omega); done) | fail) ?_) | refine aS ?_ | fail)
      refine ⟨i + 1, by omega, by omega, ?_⟩
      repeat' (first | exact trivial | exact LeV.same _ | exact LeB.same _ | exact rfl | exact fun _ _ _ => trivial | exact lI | exact LeV.nil _ _ _ | exact lB | refine leBd ?_ | refine leOwn ?_ | refine And.intro ?_ ?_)
      rw [hS]
      have e3 : 0 + (IntKind.i64.wrap ((i : Int) + 4)).toNat * 1 = i + 4 := by simp (disch := omega) only [wrap_id, w32, w8, w64]; omega
      show _ = List.set (List.set (cur.map W) (0 + (↑i : Int).toNat * 1) (W (ad (cur.getD i 0) (lo.getD i 0)))) (0 + (IntKind.i64.wrap (↑i + 4)).toNat * 1) (W (ad (cur2.getD (i + 4) 0) (hh.getD i 0)))
      rw [e2, e3, mset]
    · have : i = 4 := by omega
      subst this
      repeat' ((conv => whnf); first | exact trivial | refine now_T ?_ | refine aE1 ?_ | refine aE0 ?_ | refine aN1 ?_ | refine aN0 ?_ | refine aD1 ?_ | refine aD0 ?_ | refine now_E (fun hq => ?_) (fun hq => ?_) | refine now_N (fun hq => ?_) (fun hq => ?_) | refine now_D (fun hq => ?_) (fun hq => ?_) | refine rb1 ?_ | refine rb0 ?_ | refine rbx ?_ | refine rix ?_ | refine aS ?_ | fail)
      exact ⟨(), trivial, by repeat' (first | exact trivial | exact LeV.same _ | exact LeB.same _ | exact rfl | exact fun _ _ _ => trivial | exact lI | exact LeV.nil _ _ _ | exact lB | refine leBd ?_ | refine leOwn ?_ | refine And.intro ?_ ?_)⟩
  rintro - -
  rw [FI_4]
  repeat' ((conv => whnf); first | exact trivial | refine now_T ?_ | refine aE1 ?_ | refine aE0 ?_ | refine aN1 ?_ | refine aN0 ?_ | refine aD1 ?_ | refine aD0 ?_ | refine now_E (fun hq => ?_) (fun hq => ?_) | refine now_N (fun hq => ?_) (fun hq => ?_) | refine now_D (fun hq => ?_) (fun hq => ?_) | refine rb1 ?_ | refine rb0 ?_ | refine rbx ?_ | refine rix ?_ | refine aS ?_ | refine rt ?_ trivial | fail)
end Go.RC
end
