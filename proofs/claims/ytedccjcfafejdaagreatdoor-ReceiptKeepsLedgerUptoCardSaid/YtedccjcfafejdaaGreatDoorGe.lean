/- Joined by program: parts of a data level over the model, of the program's functions over it, and of the statement's proof. -/
import Derived.Test.YtedccjcfafejdaaGreatDoorGd
section
namespace Go.RC
open Go Go.DL Go.Proofs
set_option maxRecDepth 100000
set_option maxHeartbeats 1000000
attribute [local irreducible] rr
def bits8 (n : Nat) : Int := IntKind.u64.wrap (8 * IntKind.u64.wrap n)
def ln8 (m : Int) (i : Nat) : Int := IntKind.u8.wrap (m.fdiv (2 ^ (56 - 8 * i)))
def zer (n : Nat) : Nat := (119 - n % 64) % 64
def tail (n : Nat) : List Int := 128 :: (List.replicate (zer n) 0 ++ (List.range 8).map (ln8 (bits8 n)))
theorem zer_spec (n : Nat) : (n + 1 + zer n) % 64 = 56 ∧ zer n < 64 := by unfold zer; omega
theorem zer_lt (n z : Nat) (h : z < zer n) : (n + 1 + z) % 64 ≠ 56 := by unfold zer at h; omega
theorem tail_len (n : Nat) : (tail n).length = 9 + zer n := by simp [tail]; omega
theorem t_padded (bs : List Int) (hb : bs.length < 2 ^ 40) : DCalls Tryz.prog 181 [.slice 1 (bs.map Y)] (.slice 1 ((bs ++ tail bs.length).map Y)) := by
  refine dcalls_low (rs := [.tmp 2]) mixed Tryz.func181 l181 rfl rfl rfl (r := [.slice 1 _]) (Nat.le_of_ble_eq_true rfl) ?_
  repeat' ((conv => whnf); first | (refine And.intro (by first | ((simp; omega); done) | fail) ?_) | refine aS ?_ | fail)
  refine wpC_loopE 0 (α := Nat × Nat) (β := Nat) (fun q => {sl := [(0, .t (.slice 1 (bs.map Y))), (3, .own q.1 5 1 ((bs ++ 128 :: List.replicate q.2 0).map Y))], bx := []})
    (fun q => q.2 ≤ zer bs.length) (fun q => zer bs.length - q.2) (fun q => {sl := [(0, .t (.slice 1 (bs.map Y))), (3, .own q 5 1 ((bs ++ 128 :: List.replicate (zer bs.length) 0).map Y))], bx := []}) (fun _ => True) (11, 0) (by simp) ?_ ?_ ?_
  · repeat' (first | exact trivial | exact LeV.same _ | exact rfl | exact fun _ _ _ => trivial | refine leOwn ?_ | refine And.intro ?_ ?_)
    simp
  · rintro ⟨q, z⟩ hz
    dsimp only at hz
    rcases Nat.lt_or_ge z (zer bs.length) with h | h
    · have hne : ((((bs ++ 128 :: List.replicate z 0).map Y).length : Int).tmod 64) ≠ 56 := by
        have := zer_lt bs.length z h
        simp only [List.length_map, List.length_append, List.length_cons, List.length_replicate]
        rw [Int.tmod_eq_emod_of_nonneg (by omega)]
        omega
      have := (zer_spec bs.length).2
      repeat' ((conv => whnf); first | refine now_N1 hne ?_ | (refine And.intro (by first | ((simp; omega); done) | fail) ?_) | refine aS ?_ | fail)
      refine ⟨(18, z + 1), by dsimp only; omega, by dsimp only; omega, ?_⟩
      repeat' (first | exact trivial | exact LeV.same _ | exact rfl | exact fun _ _ _ => trivial | refine leOwn ?_ | refine And.intro ?_ ?_)
      simp [List.replicate_succ']
    · have : z = zer bs.length := by omega
      subst this
      have heq : ((((bs ++ 128 :: List.replicate (zer bs.length) 0).map Y).length : Int).tmod 64) = 56 := by
        have := (zer_spec bs.length).1
        simp only [List.length_map, List.length_append, List.length_cons, List.length_replicate]
        rw [Int.tmod_eq_emod_of_nonneg (by omega)]
        omega
      repeat' ((conv => whnf); first | refine now_N0 heq ?_ | refine aS ?_ | fail)
      exact ⟨q, trivial, by repeat' (first | exact trivial | exact LeV.same _ | exact rfl | exact fun _ _ _ => trivial | refine And.intro ?_ ?_)⟩
  rintro q -
  have hz := (zer_spec bs.length).2
  skip
  refine wpC_loopE 2 (α := Nat × Nat) (β := Nat) (fun q => {sl := [(3, .own q.1 5 1 ((bs ++ 128 :: (List.replicate (zer bs.length) 0 ++ (List.range q.2).map (ln8 (bits8 bs.length)))).map Y)), (4, .t (Q (bits8 bs.length))), (5, .t (I q.2))], bx := []})
    (fun q => q.2 ≤ 8) (fun q => 8 - q.2) (fun q => {sl := [(3, .own q 5 1 ((bs ++ tail bs.length).map Y))], bx := []}) (fun _ => True) (q, 0) (by simp) ?_ ?_ ?_
  · repeat' (first | (exact leOwn (by simp)) | (exact leT (by simp [bits8]; done)) | exact trivial | exact rfl | exact fun _ _ _ => trivial | refine And.intro ?_ ?_)
  · rintro ⟨q, i⟩ hi
    dsimp only at hi
    rcases Nat.lt_or_ge i 8 with h | h
    · repeat' ((conv => whnf); first | refine aD1 ?_ | (refine And.intro (by first | ((simp (disch := omega) only [wrap_id, w32, w8, w64]; omega); done) | ((simp; omega); done) | fail) ?_) | refine aS ?_ | fail)
      refine ⟨(35, i + 1), by dsimp only; omega, by dsimp only; omega, ?_⟩
      repeat' (first | exact trivial | exact LeV.same _ | exact rfl | exact fun _ _ _ => trivial | exact lI | refine leOwn ?_ | refine And.intro ?_ ?_)
      have e1 : IntKind.i64.wrap (8 * (i : Int)) = 8 * i := by simp (disch := omega) only [wrap_id, w32, w8, w64]
      have e2 : IntKind.i64.wrap (56 - 8 * (i : Int)) = 56 - 8 * i := by simp (disch := omega) only [wrap_id, w32, w8, w64]
      have e3 : min ((56 : Int) - 8 * i).toNat IntKind.u64.bits = 56 - 8 * i := by
        rw [show IntKind.u64.bits = 64 from rfl]; omega
      rw [e1, e2, e3]
      simp [List.range_succ, ln8]
    · have : i = 8 := by omega
      subst this
      repeat' ((conv => whnf); first | refine aD0 ?_ | refine aS ?_ | fail)
      exact ⟨q, trivial, by repeat' (first | exact trivial | exact LeV.same _ | exact rfl | exact fun _ _ _ => trivial | refine And.intro ?_ ?_)⟩
  rintro q -
  repeat' ((conv => whnf); first | exact trivial | refine aS ?_ | fail)
end Go.RC
end
section
namespace Go.RC
open Go Go.DL Go.Proofs
set_option maxRecDepth 100000
set_option maxHeartbeats 1000000
attribute [local irreducible] rr
def V0 : V8 := ⟨1779033703, 3144134277, 1013904242, 2773480762, 1359893119, 2600822924, 528734635, 1541459225⟩
def xx2 (v : V8) (k w : Int) : Int := ad (ad (ad (ad v.h (mx v.e 6 11 25)) (xo (an v.e v.f) (an (xo v.e 4294967295) v.g))) k) w
def V8.step2 (v : V8) (k w : Int) : V8 := ⟨ad (xx2 v k w) (yy v), v.a, v.b, v.c, ad v.d (xx2 v k w), v.e, v.f, v.g⟩
theorem nt_eq (a : Int) : nt a = xo a 4294967295 := by
  unfold nt xo bitsI
  simp only [BitVec.xor_comm]
  rfl
theorem step2_eq (v : V8) (k w : Int) : v.step2 k w = v.step k w := by
  unfold V8.step2 V8.step xx2 xx
  rw [nt_eq]
def RN2 (v : V8) (ws : List Int) : Nat → V8
  | 0 => v
  | t + 1 => (RN2 v ws t).step2 (kons.getD t 0) (ws.getD t 0)
theorem RN2_eq (v : V8) (ws : List Int) : ∀ t, RN2 v ws t = RN v ws t
  | 0 => rfl
  | t + 1 => by unfold RN2 RN; rw [RN2_eq v ws t, step2_eq]
def V8.plus (s v : V8) : V8 := ⟨ad s.a v.a, ad s.b v.b, ad s.c v.c, ad s.d v.d, ad s.e v.e, ad s.f v.f, ad s.g v.g, ad s.h v.h⟩
def cpr2 (s : V8) (bs : List Int) : V8 := s.plus (RN2 s (SC2 bs 64) 64)
def bl2 (m : List Int) : Nat → V8
  | 0 => V0
  | k + 1 => cpr2 (bl2 m k) ((m.drop (64 * k)).take 64)
def FJ (s v : List Int) : Nat → List Int
  | 0 => s
  | i + 1 => (FJ s v i).set i (ad ((FJ s v i).getD i 0) (v.getD i 0))
theorem FJ_len (s v : List Int) : ∀ i, (FJ s v i).length = s.length
  | 0 => rfl
  | i + 1 => by unfold FJ; simp [FJ_len s v i]
theorem FJ_8 (s v : V8) : FJ s.list v.list 8 = (s.plus v).list := rfl
def dgB (s : List Int) (i : Nat) : Int := IntKind.u8.wrap ((s.getD (i / 4) 0).fdiv (2 ^ (24 - 8 * (i % 4))))
def dig (s : V8) : List Int := (List.range 32).map (dgB s.list)
def DJ (s : List Int) : Nat → List Int
  | 0 => List.replicate 32 0
  | i + 1 => (DJ s i).set i (dgB s i)
theorem DJ_len (s : List Int) : ∀ i, (DJ s i).length = 32
  | 0 => rfl
  | i + 1 => by unfold DJ; simp [DJ_len s i]
theorem DJ_get (s : List Int) : ∀ i j, j < i → j < 32 → (DJ s i)[j]? = some (dgB s j)
  | 0, j, h, _ => by omega
  | i + 1, j, h, h2 => by
    unfold DJ
    rw [List.getElem?_set]
    by_cases e : i = j
    · subst e; rw [if_pos rfl, if_pos (by rw [DJ_len]; exact h2)]
    · rw [if_neg e]; exact DJ_get s i j (by omega) h2
theorem DJ_32 (s : V8) : DJ s.list 32 = dig s := by
  apply List.ext_getElem?
  intro i
  by_cases h : i < 32
  · rw [DJ_get _ 32 i h h]; simp [dig, h]
  · rw [List.getElem?_eq_none (by rw [DJ_len]; omega), List.getElem?_eq_none (by simp [dig]; omega)]
attribute [local irreducible] RN2 bl2
abbrev z32 : List T := List.replicate 32 (Y 0)
theorem t_refSum (bs : List Int) (hb : bs.length < 2 ^ 40) : DCalls Tryz.prog 152 [.slice 1 (bs.map Y)] (.agg ((dig (bl2 (bs ++ tail bs.length) ((bs ++ tail bs.length).length / 64))).map Y)) := by
  refine dcalls_low (rs := [.cell 2 184]) mixed Tryz.func152 l152 rfl rfl rfl (r := [.agg _]) (Nat.le_of_ble_eq_true rfl) ?_
  have hp := t_padded bs hb
  have hm : (bs ++ tail bs.length).length % 64 = 0 ∧ (bs ++ tail bs.length).length < 2 ^ 41 := by
    have := zer_spec bs.length
    rw [List.length_append, tail_len]
    omega
  generalize bs ++ tail bs.length = m at hp hm
  repeat' ((conv => whnf); first | refine k_call _ (hp) ?_ | refine aS ?_ | fail)
  refine wpC_loopE 0 (α := Nat) (β := Unit) (fun k => {sl := [(2, .ptr 2 0), (3, .ptr 3 0), (4, .t (.slice 1 (m.map Y))), (5, .t (I (64 * k : Nat)))], bx := [(2, .d 32 z32), (3, .d 8 ((bl2 m k).list.map W))]})
    (fun k => 64 * k ≤ m.length) (fun k => m.length - k) (fun _ => {sl := [(2, .ptr 2 0), (3, .ptr 3 0)], bx := [(2, .d 32 z32), (3, .d 8 ((bl2 m (m.length / 64)).list.map W))]}) (fun _ => True) 0 (by omega) ?_ ?_ ?_
  · repeat' (first | exact trivial | exact LeV.same _ | exact LeB.same _ | exact rfl | exact fun _ _ _ => trivial | refine leBd ?_ | refine And.intro ?_ ?_)
    unfold bl2; rfl
  · intro k hk
    rcases Nat.lt_or_ge (64 * k) m.length with h | h
    · have hS : bl2 m (k + 1) = cpr2 (bl2 m k) ((m.drop (64 * k)).take 64) := by conv => lhs; unfold bl2
      generalize bl2 m k = s at hS
      generalize hes : (m.drop (64 * k)).take 64 = es at hS
      have hel : es.length = 64 := by rw [← hes]; simp; omega
      have hw := t_words es hel
      have hwl := SC2_len es 64
      unfold cpr2 at hS
      generalize SC2 es 64 = ws at hw hwl hS
      repeat' ((conv => whnf); first | (refine nv_ (.slice 1 (es.map Y)) (by first | ((rw [← hes]; simp (disch := omega) only [wrap_id, w32, w8, w64]; rw [← List.map_take, ← List.map_drop]; congr 2; simp only [List.drop_take]; congr 1 <;> omega); done) | fail) ?_) | refine k_call _ (hw) ?_ | refine aD1 ?_ | (refine And.intro (by first | ((simp (disch := omega) only [wrap_id, w32, w8, w64]; simp; omega); done) | (exact ⟨by simpa using hwl, by decide⟩; done) | fail) ?_) | refine aS ?_ | fail)
      refine wpC_loopE 2 (α := Nat) (β := Unit) (fun t => {sl := [(2, .ptr 2 0), (3, .ptr 3 0), (4, .t (.slice 1 (m.map Y))), (5, .t (I (64 * k : Nat))), (6, .ptr 6 0), (7, .ptr 7 0), (8, .t (I t))], bx := [(2, .d 32 z32), (3, .d 8 (s.list.map W)), (6, .d 64 (ws.map W)), (7, .d 8 ((RN2 s ws t).list.map W))]})
        (fun t => t ≤ 64) (fun t => 64 - t) (fun _ => {sl := [(2, .ptr 2 0), (3, .ptr 3 0), (4, .t (.slice 1 (m.map Y))), (5, .t (I (64 * k : Nat))), (7, .ptr 7 0)], bx := [(2, .d 32 z32), (3, .d 8 (s.list.map W)), (7, .d 8 ((RN2 s ws 64).list.map W))]}) (fun _ => True) 0 (by omega) ?_ ?_ ?_
      · repeat' (first | exact trivial | exact LeV.same _ | exact LeB.same _ | exact rfl | exact fun _ _ _ => trivial | refine leBd ?_ | refine And.intro ?_ ?_)
        · exact (putL_all rfl).symm
        · unfold RN2; rfl
      · intro t ht
        rcases Nat.lt_or_ge t 64 with h2 | h2
        · have hR : RN2 s ws (t + 1) = (RN2 s ws t).step2 (kons.getD t 0) (ws.getD t 0) := by conv => lhs; unfold RN2
          generalize RN2 s ws t = v at hR
          have hkl : kons.length = 64 := rfl
          repeat' ((conv => whnf); first | (refine nv_ (W (kons.getD t 0)) (by first | (exact mgetk t (by omega) (by omega); done) | fail) ?_) | (refine nv_ (W (ws.getD t 0)) (by first | (exact mgetk t (by omega) (by omega); done) | fail) ?_) | refine k_call _ (t_rotr v.e 6 (by decide) (by decide)) ?_ | refine k_call _ (t_rotr v.e 11 (by decide) (by decide)) ?_ | refine k_call _ (t_rotr v.e 25 (by decide) (by decide)) ?_ | refine k_call _ (t_rotr v.a 2 (by decide) (by decide)) ?_ | refine k_call _ (t_rotr v.a 13 (by decide) (by decide)) ?_ | refine k_call _ (t_rotr v.a 22 (by decide) (by decide)) ?_ | refine nT_ ?_ | refine aD1 ?_ | (refine And.intro (by first | (omega; done) | (exact ⟨by omega, by omega⟩; done) | fail) ?_) | refine aS ?_ | fail)
          refine ⟨t + 1, by omega, by omega, ?_⟩
          repeat' (first | exact trivial | exact LeV.same _ | exact LeB.same _ | exact rfl | exact fun _ _ _ => trivial | exact lI | refine leBd ?_ | refine And.intro ?_ ?_)
          rw [hR]; rfl
        · have : t = 64 := by omega
          subst this
          repeat' ((conv => whnf); first | refine aD0 ?_ | refine aS ?_ | fail)
          exact ⟨(), trivial, by repeat' (first | exact trivial | exact LeV.same _ | exact LeB.same _ | exact rfl | exact fun _ _ _ => trivial | refine And.intro ?_ ?_)⟩
      rintro - -
      generalize RN2 s ws 64 = v at hS
      skip
      refine wpC_loopE 4 (α := Nat) (β := Unit) (fun i => {sl := [(2, .ptr 2 0), (3, .ptr 3 0), (4, .t (.slice 1 (m.map Y))), (5, .t (I (64 * k : Nat))), (7, .ptr 7 0), (11, .t (I i))], bx := [(2, .d 32 z32), (3, .d 8 ((FJ s.list v.list i).map W)), (7, .d 8 (v.list.map W))]})
        (fun i => i ≤ 8) (fun i => 8 - i) (fun _ => {sl := [(2, .ptr 2 0), (3, .ptr 3 0), (4, .t (.slice 1 (m.map Y))), (5, .t (I (64 * k : Nat)))], bx := [(2, .d 32 z32), (3, .d 8 ((FJ s.list v.list 8).map W))]}) (fun _ => True) 0 (by omega) ?_ ?_ ?_
      · repeat' (first | exact trivial | exact LeV.same _ | exact LeB.same _ | exact rfl | exact fun _ _ _ => trivial | refine And.intro ?_ ?_)
      · intro i hi
        have hl : (FJ s.list v.list i).length = 8 := FJ_len _ _ i
        have hvl : v.list.length = 8 := rfl
        rcases Nat.lt_or_ge i 8 with h2 | h2
        · have hR : FJ s.list v.list (i + 1) = (FJ s.list v.list i).set i (ad ((FJ s.list v.list i).getD i 0) (v.list.getD i 0)) := rfl
          generalize FJ s.list v.list i = cur at hl hR
          generalize v.list = vl at hvl hR
          repeat' ((conv => whnf); first | (refine nv_ (W (cur.getD i 0)) (by first | (exact mgetk i (by omega) (by omega); done) | fail) ?_) | (refine nv_ (W (vl.getD i 0)) (by first | (exact mgetk i (by omega) (by omega); done) | fail) ?_) | refine aD1 ?_ | (refine And.intro (by first | (omega; done) | fail) ?_) | refine aS ?_ | fail)
          refine ⟨i + 1, by omega, by omega, ?_⟩
          repeat' (first | exact trivial | exact LeV.same _ | exact LeB.same _ | exact rfl | exact fun _ _ _ => trivial | exact lI | refine leBd ?_ | refine And.intro ?_ ?_)
          rw [hR, ← mset]
          simp only [Int.toNat_natCast, Nat.zero_add, Nat.mul_one]
          rfl
        · have : i = 8 := by omega
          subst this
          repeat' ((conv => whnf); first | refine aD0 ?_ | refine aS ?_ | fail)
          exact ⟨(), trivial, by repeat' (first | exact trivial | exact LeV.same _ | exact LeB.same _ | exact rfl | exact fun _ _ _ => trivial | refine And.intro ?_ ?_)⟩
      rintro - -
      rw [FJ_8, ← hS]
      skip
      refine ⟨k + 1, by omega, by omega, ?_⟩
      repeat' (first | (exact leI (by simp (disch := omega) only [wrap_id, w32, w8, w64]; omega)) | exact trivial | exact LeV.same _ | exact LeB.same _ | exact rfl | exact fun _ _ _ => trivial | refine And.intro ?_ ?_)
    · have e : m.length / 64 = k := by omega
      rw [e]
      repeat' ((conv => whnf); first | refine aD0 ?_ | refine aS ?_ | fail)
      exact ⟨(), trivial, by repeat' (first | exact trivial | exact LeV.same _ | exact LeB.same _ | exact rfl | exact fun _ _ _ => trivial | refine And.intro ?_ ?_)⟩
  rintro - -
  generalize bl2 m (m.length / 64) = s
  skip
  refine wpC_loopE 6 (α := Nat) (β := Unit) (fun i => {sl := [(2, .ptr 2 0), (3, .ptr 3 0), (12, .ptr 12 0), (13, .t (I i))], bx := [(2, .d 32 z32), (3, .d 8 (s.list.map W)), (12, .d 32 ((DJ s.list i).map Y))]})
    (fun i => i ≤ 32) (fun i => 32 - i) (fun _ => {sl := [(2, .ptr 2 0), (12, .ptr 12 0)], bx := [(2, .d 32 z32), (12, .d 32 ((DJ s.list 32).map Y))]}) (fun _ => True) 0 (by omega) ?_ ?_ ?_
  · repeat' (first | exact trivial | exact LeV.same _ | exact LeB.same _ | exact rfl | exact fun _ _ _ => trivial | refine And.intro ?_ ?_)
  · intro i hi
    rcases Nat.lt_or_ge i 32 with h2 | h2
    · have hR : DJ s.list (i + 1) = (DJ s.list i).set i (dgB s.list i) := rfl
      have hl := DJ_len s.list i
      generalize DJ s.list i = cur at hR hl
      have hsl : s.list.length = 8 := rfl
      unfold dgB at hR
      generalize s.list = sl at hsl hR
      have q1 : (i : Int).tdiv 4 = (i / 4 : Nat) := rfl
      have q2 : (i : Int).tmod 4 = (i % 4 : Nat) := rfl
      have w1 : IntKind.i64.wrap ((i / 4 : Nat) : Int) = (i / 4 : Nat) := by simp (disch := omega) only [wrap_id, w32, w8, w64]
      have w2 : IntKind.i64.wrap (8 * ((i % 4 : Nat) : Int)) = (8 * (i % 4) : Nat) := by simp (disch := omega) only [wrap_id, w32, w8, w64]; omega
      have w3 : IntKind.i64.wrap (24 - ((8 * (i % 4) : Nat) : Int)) = (24 - 8 * (i % 4) : Nat) := by simp (disch := omega) only [wrap_id, w32, w8, w64]; omega
      repeat' ((conv => whnf); first | (refine nv_ (W (sl.getD (i / 4) 0)) (by first | (exact mgetk (i / 4) (by rw [q1, w1]; omega) (by omega); done) | fail) ?_) | refine aD1 ?_ | (refine And.intro (by first | (omega; done) | ((rw [q1, w1]; omega); done) | ((rw [q2, w2, w3]; omega); done) | fail) ?_) | refine aS ?_ | fail)
      refine ⟨i + 1, by omega, by omega, ?_⟩
      repeat' (first | exact trivial | exact LeV.same _ | exact LeB.same _ | exact rfl | exact fun _ _ _ => trivial | exact lI | refine leBd ?_ | refine And.intro ?_ ?_)
      rw [hR, ← mset]
      rw [q2, w2, w3]
      have w4 : min (((24 - 8 * (i % 4) : Nat) : Int).toNat) IntKind.u32.bits = 24 - 8 * (i % 4) := by
        rw [show IntKind.u32.bits = 32 from rfl]; omega
      rw [w4]
      simp only [Int.toNat_natCast, Nat.zero_add, Nat.mul_one]
    · have : i = 32 := by omega
      subst this
      repeat' ((conv => whnf); first | refine aD0 ?_ | refine aS ?_ | fail)
      exact ⟨(), trivial, by repeat' (first | exact trivial | exact LeV.same _ | exact LeB.same _ | exact rfl | exact fun _ _ _ => trivial | refine And.intro ?_ ?_)⟩
  rintro - -
  rw [DJ_32]
  have hdl : (dig s).length = 32 := by simp [dig]
  generalize dig s = ds at hdl
  repeat' ((conv => whnf); first | (refine And.intro (by first | (exact ⟨by simpa using hdl, by decide⟩; done) | (simpa using hdl; done) | fail) ?_) | refine rt ?_ trivial | fail)
  exact congrArg T.agg (putL_all rfl)
end Go.RC
end
section
namespace Go.RC
open Go Go.DL Go.Proofs
set_option maxRecDepth 100000
set_option maxHeartbeats 1000000
attribute [local irreducible] rr
def areB (bs : List Int) : Prop := ∀ b ∈ bs, 0 ≤ b ∧ b < 256
theorem or_add {a b : Int} (k : Nat) (ha : 0 ≤ a) (ha2 : a < 4294967296) (hd : a % 2 ^ k = 0) (hb : 0 ≤ b) (hb2 : b < 2 ^ k) (hk : k ≤ 32) : bitsI .or .u32 a b = a + b := by
  obtain ⟨a, rfl⟩ := Int.eq_ofNat_of_zero_le ha
  obtain ⟨b, rfl⟩ := Int.eq_ofNat_of_zero_le hb
  have hk2 : (2 : Nat) ^ k ≤ 2 ^ 32 := Nat.pow_le_pow_right (by decide) hk
  have hb3 : b < 2 ^ k := by exact_mod_cast hb2
  have hd2 : a % 2 ^ k = 0 := by exact_mod_cast hd
  have ha3 : a < 2 ^ 32 := by omega
  have hb4 : b < 2 ^ 32 := by omega
  have e : a ||| b = a + b := by
    have := Nat.two_pow_add_eq_or_of_lt hb3 (a / 2 ^ k)
    have h2 : 2 ^ k * (a / 2 ^ k) = a := Nat.mul_div_cancel' (Nat.dvd_of_mod_eq_zero hd2)
    rw [h2] at this
    exact this.symm
  have hor : a ||| b < 2 ^ 32 := Nat.or_lt_two_pow ha3 hb4
  unfold bitsI
  have e1 : (BitVec.ofInt 32 ((a : Nat) : Int)).toNat = a := by
    rw [BitVec.ofInt_natCast, BitVec.toNat_ofNat, Nat.mod_eq_of_lt ha3]
  have e2 : (BitVec.ofInt 32 ((b : Nat) : Int)).toNat = b := by
    rw [BitVec.ofInt_natCast, BitVec.toNat_ofNat, Nat.mod_eq_of_lt hb4]
  show IntKind.u32.wrap ((BitVec.ofInt 32 ((a : Nat) : Int) ||| BitVec.ofInt 32 ((b : Nat) : Int)).toNat : Int) = _
  rw [BitVec.toNat_or, e1, e2, e, w32 (by omega) (by omega)]
  rfl
theorem sb_eq {w b : Int} (h0 : 0 ≤ w) (h1 : w < 16777216) (hb : 0 ≤ b ∧ b < 256) : sb w b = w * 256 + b := by
  unfold sb
  rw [show (2 : Int) ^ 8 = 256 from rfl, w32 (by omega) (by omega), w32 (by omega) (by omega), or_add 8 (by omega) (by omega) (by omega) (by omega) (by omega) (by omega)]
theorem word_eq (bs : List Int) (t : Nat) (hb : areB bs) (hl : bs.length = 64) (ht : t < 16) : ((bs.drop (4 * t)).take 4).foldl sb 0 = wd bs t := by
  have g : ∀ i, i < 64 → bs[i]? = some (bs.getD i 0) ∧ 0 ≤ bs.getD i 0 ∧ bs.getD i 0 < 256 := fun i hi => by
    have hi : i < bs.length := by omega
    rw [List.getD_eq_getElem?_getD, List.getElem?_eq_getElem hi]
    exact ⟨rfl, hb _ (List.getElem_mem hi)⟩
  have e : (bs.drop (4 * t)).take 4 = [bs.getD (4 * t) 0, bs.getD (4 * t + 1) 0, bs.getD (4 * t + 2) 0, bs.getD (4 * t + 3) 0] := by
    apply List.ext_getElem?
    intro i
    rw [List.getElem?_take]
    by_cases hi : i < 4
    · rw [if_pos hi, List.getElem?_drop, (g (4 * t + i) (by omega)).1]
      match i, hi with
      | 0, _ => rfl
      | 1, _ => rfl
      | 2, _ => rfl
      | 3, _ => rfl
    · rw [if_neg hi, List.getElem?_eq_none (by simp; omega)]
  obtain ⟨_, a0, a1⟩ := g (4 * t) (by omega)
  obtain ⟨_, b0, b1⟩ := g (4 * t + 1) (by omega)
  obtain ⟨_, c0, c1⟩ := g (4 * t + 2) (by omega)
  obtain ⟨_, d0, d1⟩ := g (4 * t + 3) (by omega)
  rw [e]
  unfold wd
  generalize bs.getD (4 * t) 0 = a at *
  generalize bs.getD (4 * t + 1) 0 = b at *
  generalize bs.getD (4 * t + 2) 0 = c at *
  generalize bs.getD (4 * t + 3) 0 = d at *
  simp only [List.foldl]
  rw [sb_eq (w := 0) (by omega) (by omega) ⟨a0, a1⟩, sb_eq (by omega) (by omega) ⟨b0, b1⟩, sb_eq (by omega) (by omega) ⟨c0, c1⟩, sb_eq (by omega) (by omega) ⟨d0, d1⟩]
  rw [show (2 : Int) ^ 24 = 16777216 from rfl, show (2 : Int) ^ 16 = 65536 from rfl, show (2 : Int) ^ 8 = 256 from rfl]
  rw [w32 (n := a) (by omega) (by omega), w32 (n := b) (by omega) (by omega), w32 (n := c) (by omega) (by omega), w32 (n := d) (by omega) (by omega), w32 (n := a * 16777216) (by omega) (by omega), w32 (n := b * 65536) (by omega) (by omega), w32 (n := c * 256) (by omega) (by omega)]
  rw [or_add (a := a * 16777216) (b := b * 65536) 24 (by omega) (by omega) (by omega) (by omega) (by omega) (by omega), or_add (a := a * 16777216 + b * 65536) (b := c * 256) 16 (by omega) (by omega) (by omega) (by omega) (by omega) (by omega), or_add (b := d) 8 (by omega) (by omega) (by omega) (by omega) (by omega) (by omega)]
  omega
theorem SCH_zero (bs : List Int) : ∀ t u, t ≤ u → u < 64 → t ≤ 16 → (SCH bs t).getD u 0 = 0
  | 0, u, _, h, _ => by
    unfold SCH
    rw [List.getD_eq_getElem?_getD, List.getElem?_replicate, if_pos h]
    rfl
  | t + 1, u, h, h2, h3 => by
    unfold SCH
    have := SCH_zero bs t u (by omega) h2 (by omega)
    rw [List.getD_eq_getElem?_getD, List.getElem?_set_ne (by omega), ← List.getD_eq_getElem?_getD]
    exact this
theorem SCH_eq (bs : List Int) (hb : areB bs) (hl : bs.length = 64) : ∀ t, SCH bs t = SC2 bs t
  | 0 => by unfold SCH SC2; rfl
  | t + 1 => by
    by_cases h : t < 16
    · rw [SCH_s bs t h, SC2_s bs t h, SCH_zero bs t t (Nat.le_refl _) (by omega) (by omega), word_eq bs t hb hl h, SCH_eq bs hb hl t]
    · rw [SCH_n bs t h, SC2_n bs t h, SCH_eq bs hb hl t]
theorem cpr_eq (s : V8) (bs : List Int) (hb : areB bs) (hl : bs.length = 64) : cpr2 s bs = cpr s bs := by
  unfold cpr2 cpr
  rw [RN2_eq, SCH_eq bs hb hl]
  rfl
end Go.RC
end
section
namespace Go.RC
open Go Go.DL Go.Proofs
set_option maxRecDepth 100000
set_option maxHeartbeats 1000000
attribute [local irreducible] rr
structure Str where
  (s : V8) (blk : List Int) (n : Nat)
abbrev Str.cells (x : Str) : List T := x.s.list.map W ++ (x.blk.map Y ++ [Q x.n])
abbrev Str.T (x : Str) : T := .agg x.cells
def Str.put1 (x : Str) (b : Int) : Str :=
  if x.n % 64 = 63 then ⟨cpr x.s (x.blk.set (x.n % 64) b), x.blk.set (x.n % 64) b, x.n + 1⟩ else ⟨x.s, x.blk.set (x.n % 64) b, x.n + 1⟩
def Str.add (x : Str) (bs : List Int) : Str := bs.foldl Str.put1 x
def putI (blk : List Int) (a : Nat) (vs : List Int) : List Int := blk.take a ++ (vs ++ blk.drop (a + vs.length))
theorem put1_blk (x : Str) (b : Int) : (x.put1 b).blk.length = x.blk.length ∧ (x.put1 b).n = x.n + 1 := by
  unfold Str.put1
  split <;> simp
theorem add_blk : ∀ (bs : List Int) (x : Str), (x.add bs).blk.length = x.blk.length ∧ (x.add bs).n = x.n + bs.length
  | [], x => ⟨rfl, rfl⟩
  | b :: bs, x => by
    have h1 := put1_blk x b
    have h2 := add_blk bs (x.put1 b)
    show ((x.put1 b).add bs).blk.length = _ ∧ ((x.put1 b).add bs).n = _
    rw [h2.1, h2.2, h1.1, h1.2]
    refine ⟨rfl, ?_⟩
    rw [List.length_cons]; omega
theorem putI_cons (blk : List Int) (a : Nat) (b : Int) (vs : List Int) (h : a < blk.length) : putI (blk.set a b) (a + 1) vs = putI blk a (b :: vs) := by
  unfold putI
  rw [List.take_set, List.drop_set]
  rw [if_pos (by omega)]
  have e1 : (blk.take (a + 1)).set a b = blk.take a ++ [b] := by
    rw [List.take_succ_eq_append_getElem h, List.set_append, if_neg (by simp; omega)]
    simp [List.length_take, Nat.min_eq_left (Nat.le_of_lt h)]
  rw [e1, List.append_assoc, List.length_cons]
  have e2 : a + 1 + vs.length = a + (vs.length + 1) := by omega
  rw [e2]
  rfl
theorem add_chunk : ∀ (bs : List Int) (x : Str), bs ≠ [] → x.blk.length = 64 → x.n % 64 + bs.length ≤ 64 →
    x.add bs = if x.n % 64 + bs.length = 64 then ⟨cpr x.s (putI x.blk (x.n % 64) bs), putI x.blk (x.n % 64) bs, x.n + bs.length⟩ else ⟨x.s, putI x.blk (x.n % 64) bs, x.n + bs.length⟩
  | [], _, h, _, _ => absurd rfl h
  | [b], x, _, hl, hle => by
    show x.put1 b = _
    have e : x.blk.set (x.n % 64) b = putI x.blk (x.n % 64) [b] := by
      have := putI_cons x.blk (x.n % 64) b [] (by omega)
      rw [← this]
      unfold putI
      simp
    unfold Str.put1
    rw [e]
    by_cases h : x.n % 64 = 63
    · rw [if_pos h, if_pos (by simp; omega)]; rfl
    · rw [if_neg h, if_neg (by simp; omega)]; rfl
  | b :: c :: bs, x, _, hl, hle => by
    have hlt : x.n % 64 + 1 < 64 := by simp at hle; omega
    show (x.put1 b).add (c :: bs) = _
    have e1 : x.put1 b = ⟨x.s, x.blk.set (x.n % 64) b, x.n + 1⟩ := by unfold Str.put1; rw [if_neg (by omega)]
    have hm : (x.n + 1) % 64 = x.n % 64 + 1 := by omega
    rw [e1, add_chunk (c :: bs) _ (by simp) (by simpa using hl) (by simp at hle ⊢; omega)]
    simp only [hm]
    rw [putI_cons _ _ _ _ (by omega)]
    have e2 : x.n % 64 + 1 + (c :: bs).length = x.n % 64 + (b :: c :: bs).length := by simp; omega
    have e3 : x.n + 1 + (c :: bs).length = x.n + (b :: c :: bs).length := by simp; omega
    rw [e2, e3]
def sB (x : ByteArray) : List Int := x.data.toList.map fun b => (b.toNat : Int)
theorem bytesT_sB (x : ByteArray) : bytesT x = (sB x).map Y := by
  unfold bytesT sB
  rw [List.map_map]; rfl
theorem sB_len (x : ByteArray) : (sB x).length = x.size := by
  unfold sB
  rw [List.length_map, Array.length_toList]
  rfl
theorem ne_empty (x : ByteArray) : (!(x.toList == (⟨#[]⟩ : ByteArray).toList)) = decide (x.size ≠ 0) := by
  rw [ByteArray.toList_eq, ByteArray.toList_eq]
  have h : x.data.toList.length = x.size := rfl
  generalize x.data.toList = l at h
  rw [← h]
  cases l <;> rfl
theorem sB_areB (x : ByteArray) : areB (sB x) := fun b hb => by
  obtain ⟨u, _, rfl⟩ := List.mem_map.1 hb
  have := u.toNat_lt
  omega
theorem sB_extract (x : ByteArray) (k : Nat) (h : k ≤ x.size) : sB (x.extract k x.size) = (sB x).drop k := by
  unfold sB
  rw [ByteArray.data_extract, Array.toList_extract, ← List.map_drop]
  have e : x.data.toList.extract k x.size = x.data.toList.drop k := by
    unfold List.extract
    refine List.take_of_length_le ?_
    rw [List.length_drop, Array.length_toList]
    exact Nat.le_refl _
  rw [e]
theorem chunk1a {f : Int → T} : ∀ (ws : List Int) (n : Nat) (r : List T), ws.length = n → chunk 1 n (ws.map f ++ r) = ws.map f
  | [], 0, _, _ => rfl
  | x :: ws, n + 1, r, h => by
    show f x :: chunk 1 n (ws.map f ++ r) = f x :: ws.map f
    rw [chunk1a ws n r (by simpa using h)]
  | x :: ws, 0, _, h => by simp at h
  | [], n + 1, _, h => by simp at h
theorem putL_blk (x : Str) (a : Nat) (vs : List Int) (ha : a + vs.length ≤ x.blk.length) : putL x.cells (8 + a) vs.length (vs.map Y) = x.s.list.map W ++ ((putI x.blk a vs).map Y ++ [Q x.n]) := by
  unfold putL putI
  have h8 : (x.s.list.map W).length = 8 := rfl
  rw [List.take_append, h8, List.take_of_length_le (by rw [h8]; omega), show 8 + a - 8 = a by omega, List.take_append_of_le_length (by simp; omega)]
  rw [List.drop_append, h8, List.drop_eq_nil_of_le (by rw [h8]; omega), List.nil_append, show 8 + a + vs.length - 8 = a + vs.length by omega, List.drop_append_of_le_length (by simp; omega)]
  simp [List.append_assoc]
theorem cell72 (x : Str) (hl : x.blk.length = 64) (d : T) : x.cells[0 + 72]?.getD d = Q x.n := by
  show (x.s.list.map W ++ (x.blk.map Y ++ [Q x.n]))[72]?.getD d = _
  have h8 : (x.s.list.map W).length = 8 := rfl
  rw [List.getElem?_append_right (by rw [h8]; omega), h8, List.getElem?_append_right (by simp [hl])]
  simp [hl]
theorem set72 (x : Str) (hl : x.blk.length = 64) (m : Nat) : x.cells.set (0 + 72) (Q m) = Str.cells ⟨x.s, x.blk, m⟩ := by
  have h8 : (x.s.list.map W).length = 8 := rfl
  show (x.s.list.map W ++ (x.blk.map Y ++ [Q x.n])).set 72 (Q m) = x.s.list.map W ++ (x.blk.map Y ++ [Q m])
  rw [List.set_append, if_neg (by rw [h8]; omega), h8, List.set_append, if_neg (by simp [hl])]
  simp [hl]
theorem chunk64 (x : Str) (hl : x.blk.length = 64) : chunk 1 64 (x.cells.drop (0 + 8)) = x.blk.map Y := chunk1a x.blk 64 _ hl
theorem cells_len (x : Str) (hl : x.blk.length = 64) : x.cells.length = 73 := by
  simp [Str.cells, V8.list, hl]
theorem t_Add (x0 : Str) (text0 : ByteArray) (hx : x0.blk.length = 64) (hn : x0.n + text0.size < 2 ^ 62) : DCalls Tryz.prog 129 [x0.T, .str text0] (x0.add (sB text0)).T := by
  refine dcalls_low (rs := [.cell 4 181]) mixed Tryz.func129 l129 rfl rfl rfl (r := [.agg _]) (Nat.le_of_ble_eq_true rfl) ?_
  repeat' ((conv => whnf); first | (refine And.intro (by first | (exact cells_len x0 hx; done) | fail) ?_) | fail)
  refine wpC_loopE 0 (α := Str × ByteArray) (β := Unit) (fun q => {sl := [(1, .t (.str q.2)), (2, .ptr 2 0), (4, .ptr 4 0)], bx := [(2, .d 73 q.1.cells), (4, .d 73 (List.replicate 8 (W 0) ++ (List.replicate 64 (Y 0) ++ [Q 0])))]})
    (fun q => q.1.blk.length = 64 ∧ q.1.n + q.2.size < 2 ^ 62 ∧ q.1.add (sB q.2) = x0.add (sB text0)) (fun q => q.2.size) (fun _ => {sl := [(2, .ptr 2 0), (4, .ptr 4 0)], bx := [(2, .d 73 (x0.add (sB text0)).cells), (4, .d 73 (List.replicate 8 (W 0) ++ (List.replicate 64 (Y 0) ++ [Q 0])))]}) (fun _ => True) (x0, text0) ⟨hx, hn, rfl⟩ ?_ ?_ ?_
  · repeat' (first | exact trivial | exact LeV.same _ | exact LeB.same _ | exact rfl | exact fun _ _ _ => trivial | refine And.intro ?_ ?_)
  · rintro ⟨x, text⟩ ⟨h1, h2, h3⟩
    dsimp only at h1 h2 h3
    have hsz := sB_len text
    by_cases he : text.size = 0
    · have hnil : sB text = [] := List.eq_nil_of_length_eq_zero (by omega)
      repeat' ((conv => whnf); first | refine nb_ false (by rw [ne_empty, decide_eq_false (by simpa using he)]) ?_ | refine aS ?_ | fail)
      exact ⟨(), trivial, by repeat' (first | (refine leBd (by rw [← h3, hnil]; rfl)) | exact trivial | exact LeV.same _ | exact LeB.same _ | exact rfl | exact fun _ _ _ => trivial | refine And.intro ?_ ?_)⟩
    · have hat : x.n % 64 < 64 := Nat.mod_lt _ (by decide)
      have m1 : ((x.n : Int).tmod 64) = (x.n % 64 : Nat) := rfl
      have w1 : IntKind.i64.wrap ((x.n % 64 : Nat) : Int) = (x.n % 64 : Nat) := by simp (disch := omega) only [wrap_id, w32, w8, w64]
      have hcl := cells_len x h1
      generalize hk : Nat.min text.size (64 - x.n % 64) = k
      have hk1 : k ≤ text.size := by rw [← hk]; exact Nat.min_le_left _ _
      have hk2 : k ≤ 64 - x.n % 64 := by rw [← hk]; exact Nat.min_le_right _ _
      have hk0 : 0 < k := by rw [← hk]; exact Nat.lt_min.2 ⟨by omega, by omega⟩
      generalize hb' : putI x.blk (x.n % 64) ((sB text).take k) = blk'
      repeat' ((conv => whnf); first | refine nb_ true (by rw [ne_empty, decide_eq_true (by simpa using he)]) ?_ | (refine nv_ (Q x.n) (by first | (exact cell72 x h1 _; done) | fail) ?_) | (refine And.intro (by first | (omega; done) | fail) ?_) | refine aS ?_ | fail)
      refine wpC_cut (β := Unit) (fun _ => {sl := [(1, .t (.str text)), (2, .ptr 2 0), (4, .ptr 4 0), (5, .t (I (x.n % 64 : Nat))), (6, .t (I k))], bx := [(2, .d 73 (x.s.list.map W ++ (blk'.map Y ++ [Q x.n]))), (4, .d 73 (List.replicate 8 (W 0) ++ (List.replicate 64 (Y 0) ++ [Q 0])))]}) (fun _ => True) ?_ ?_
      · have hbl : (bytesT text).length = text.size := by rw [bytesT_sB, List.length_map, hsz]
        have hv : ((64 : Nat) : Int).toNat - (IntKind.i64.wrap ((x.n : Int).tmod 64)).toNat = 64 - x.n % 64 := by rw [m1, w1]; omega
        have hall : (bytesT text).all T.one = true := by
          rw [List.all_eq_true, bytesT_sB]
          exact mones (fun _ => rfl) _
        repeat' ((conv => whnf); first | (refine And.intro (by first | ((rw [m1, w1]; omega); done) | (exact ⟨by rw [m1, w1]; omega, hall⟩; done) | fail) ?_) | fail)
        refine ⟨(), trivial, ?_⟩
        repeat' (first | ((refine leI ?_; dsimp only; rw [hbl, hv, hk]; done)) | ((refine leI ?_; rw [m1, w1]; done)) | exact trivial | exact LeV.same _ | exact LeB.same _ | exact rfl | exact fun _ _ _ => trivial | refine leBd ?_ | refine And.intro ?_ ?_)
        rw [hbl, hv, hk, m1, w1, bytesT_sB, ← List.map_take, ← hb']
        have hp := putL_blk x (x.n % 64) ((sB text).take k) (by rw [List.length_take, hsz, h1]; omega)
        rw [List.length_take, hsz, Nat.min_eq_left hk1] at hp
        rw [← hp]
        show _ = putL x.cells (0 + 8 + (x.n % 64) * 1) k _
        rw [show 0 + 8 + x.n % 64 * 1 = 8 + x.n % 64 by omega]
      rintro - -
      have hbl : blk'.length = 64 := by rw [← hb']; simp [putI, hsz]; omega
      have w2 : IntKind.u64.wrap ((x.n : Int) + IntKind.u64.wrap (k : Int)) = (x.n + k : Nat) := by
        rw [w64 (n := (k : Int)) (by omega) (by omega), w64 (by omega) (by omega)]
        omega
      repeat' ((conv => whnf); first | refine nT_ ?_ | (refine And.intro (by first | ((simp; omega); done) | fail) ?_) | fail)
      refine wpC_cut (β := Unit) (fun _ => {sl := [(1, .t (.str (text.extract k text.size))), (2, .ptr 2 0), (4, .ptr 4 0), (5, .t (I (x.n % 64 : Nat))), (6, .t (I k))], bx := [(2, .d 73 (Str.cells ⟨x.s, blk', x.n + k⟩)), (4, .d 73 (List.replicate 8 (W 0) ++ (List.replicate 64 (Y 0) ++ [Q 0])))]}) (fun _ => True) ?_ ?_
      · repeat' ((conv => whnf); first | (refine nv_ (Q x.n) (by first | (exact cell72 ⟨x.s, blk', x.n⟩ hbl _; done) | fail) ?_) | refine aS ?_ | fail)
        refine ⟨(), trivial, ?_⟩
        repeat' (first | exact trivial | exact LeV.same _ | exact LeB.same _ | exact rfl | exact fun _ _ _ => trivial | refine leBd ?_ | refine And.intro ?_ ?_)
        rw [w2]
        exact (set72 ⟨x.s, blk', x.n⟩ hbl (x.n + k)).symm
      rintro - -
      have hadd := add_chunk ((sB text).take k) x (by intro h; have := congrArg List.length h; rw [List.length_take, hsz, Nat.min_eq_left hk1] at this; exact absurd this (by simp; omega)) h1 (by rw [List.length_take]; omega)
      rw [List.length_take, hsz, Nat.min_eq_left hk1, hb'] at hadd
      have hrest : (x.add ((sB text).take k)).add (sB (text.extract k text.size)) = x0.add (sB text0) := by
        rw [sB_extract text k hk1, ← h3]
        unfold Str.add
        rw [← List.foldl_append, List.take_append_drop]
      have hes : (text.extract k text.size).size = text.size - k := by simp [ByteArray.size_extract]
      have w3 : IntKind.i64.wrap (((x.n % 64 : Nat) : Int) + (k : Int)) = (x.n % 64 + k : Nat) := by simp (disch := omega) only [wrap_id, w32, w8, w64]; omega
      by_cases hf : x.n % 64 + k = 64
      · rw [if_pos hf] at hadd
        rw [hadd] at hrest
        repeat' ((conv => whnf); first | (refine now_E1 (by rw [w3, hf]; rfl) ?_) | (refine nv_ (.agg (x.s.list.map W)) (by first | (rfl; done) | fail) ?_) | (refine ⟨_, (by rw [chunk64 ⟨x.s, blk', x.n + k⟩ hbl]; exact t_compress x.s blk' hbl), rfl, ?_⟩) | refine aS ?_ | fail)
        refine ⟨(⟨cpr x.s blk', blk', x.n + k⟩, text.extract k text.size), ⟨hbl, by dsimp only; rw [hes]; omega, hrest⟩, by dsimp only; rw [hes]; omega, ?_⟩
        repeat' (first | exact trivial | exact LeV.same _ | exact LeB.same _ | exact rfl | exact fun _ _ _ => trivial | refine And.intro ?_ ?_)
      · rw [if_neg hf] at hadd
        rw [hadd] at hrest
        repeat' ((conv => whnf); first | (refine now_E0 (by rw [w3]; omega) ?_) | refine aS ?_ | fail)
        refine ⟨(⟨x.s, blk', x.n + k⟩, text.extract k text.size), ⟨hbl, by dsimp only; rw [hes]; omega, hrest⟩, by dsimp only; rw [hes]; omega, ?_⟩
        repeat' (first | exact trivial | exact LeV.same _ | exact LeB.same _ | exact rfl | exact fun _ _ _ => trivial | refine And.intro ?_ ?_)
  rintro - -
  have hbl := (add_blk (sB text0) x0).1
  rw [hx] at hbl
  generalize x0.add (sB text0) = y at hbl
  repeat' ((conv => whnf); first | (refine And.intro (by first | (exact cells_len y hbl; done) | (exact ⟨cells_len y hbl, by decide⟩; done) | fail) ?_) | refine rt ?_ trivial | fail)
  exact congrArg T.agg (putL_all rfl)
end Go.RC
end
