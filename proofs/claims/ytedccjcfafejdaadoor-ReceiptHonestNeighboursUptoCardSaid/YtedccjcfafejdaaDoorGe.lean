/- Joined by program: parts of a data level over the model, of the program's functions over it, and of the statement's proof. -/
import Derived.Test.YtedccjcfafejdaaDoorGd
section
namespace Go.RC
open Go Go.DL Go.Proofs
set_option maxRecDepth 100000
set_option maxHeartbeats 1000000
attribute [local irreducible] rr
def bits8 (n : Nat) : Int := IntKind.u64.wrap (8 * IntKind.u64.wrap n)
def ln8 (m : Int) (i : Nat) : Int := IntKind.u8.wrap (m.fdiv (2 ^ (56 - 8 * i)))
def zer (n : Nat) : Nat := (119 - n % 64) % 64
def tail (n : Nat) : List Int := 128 :: (List.replicate (zer n) 0 ++ (List.range 8).map (ln8 (bits8 n)))
theorem zer_spec (n : Nat) : (n + 1 + zer n) % 64 = 56 ∧ zer n < 64 := by unfold zer; omega
theorem zer_lt (n z : Nat) (h : z < zer n) : (n + 1 + z) % 64 ≠ 56 := by unfold zer at h; omega
theorem tail_len (n : Nat) : (tail n).length = 9 + zer n := by simp [tail]; omega
end Go.RC
end
section
namespace Go.RC
open Go Go.DL Go.Proofs
set_option maxRecDepth 100000
set_option maxHeartbeats 1000000
attribute [local irreducible] rr
def V0 : V8 := ⟨1779033703, 3144134277, 1013904242, 2773480762, 1359893119, 2600822924, 528734635, 1541459225⟩
def xx2 (v : V8) (k w : Int) : Int := ad (ad (ad (ad v.h (mx v.e 6 11 25)) (xo (an v.e v.f) (an (xo v.e 4294967295) v.g))) k) w
def V8.step2 (v : V8) (k w : Int) : V8 := ⟨ad (xx2 v k w) (yy v), v.a, v.b, v.c, ad v.d (xx2 v k w), v.e, v.f, v.g⟩
def RN2 (v : V8) (ws : List Int) : Nat → V8
  | 0 => v
  | t + 1 => (RN2 v ws t).step2 (kons.getD t 0) (ws.getD t 0)
def V8.plus (s v : V8) : V8 := ⟨ad s.a v.a, ad s.b v.b, ad s.c v.c, ad s.d v.d, ad s.e v.e, ad s.f v.f, ad s.g v.g, ad s.h v.h⟩
def cpr2 (s : V8) (bs : List Int) : V8 := s.plus (RN2 s (SC2 bs 64) 64)
def bl2 (m : List Int) : Nat → V8
  | 0 => V0
  | k + 1 => cpr2 (bl2 m k) ((m.drop (64 * k)).take 64)
def dgB (s : List Int) (i : Nat) : Int := IntKind.u8.wrap ((s.getD (i / 4) 0).fdiv (2 ^ (24 - 8 * (i % 4))))
def dig (s : V8) : List Int := (List.range 32).map (dgB s.list)
def DJ (s : List Int) : Nat → List Int
  | 0 => List.replicate 32 0
  | i + 1 => (DJ s i).set i (dgB s i)
theorem DJ_len (s : List Int) : ∀ i, (DJ s i).length = 32
  | 0 => rfl
  | i + 1 => by unfold DJ; simp [DJ_len s i]
theorem DJ_get (s : List Int) : ∀ i j, j < i → j < 32 → (DJ s i)[j]? = some (dgB s j)
  | 0, j, h, _ => by omega
  | i + 1, j, h, h2 => by
    unfold DJ
    rw [List.getElem?_set]
    by_cases e : i = j
    · subst e; rw [if_pos rfl, if_pos (by rw [DJ_len]; exact h2)]
    · rw [if_neg e]; exact DJ_get s i j (by omega) h2
theorem DJ_32 (s : V8) : DJ s.list 32 = dig s := by
  apply List.ext_getElem?
  intro i
  by_cases h : i < 32
  · rw [DJ_get _ 32 i h h]; simp [dig, h]
  · rw [List.getElem?_eq_none (by rw [DJ_len]; omega), List.getElem?_eq_none (by simp [dig]; omega)]
attribute [local irreducible] RN2 bl2
abbrev z32 : List T := List.replicate 32 (Y 0)
end Go.RC
end
section
namespace Go.RC
open Go Go.DL Go.Proofs
set_option maxRecDepth 100000
set_option maxHeartbeats 1000000
attribute [local irreducible] rr
def areB (bs : List Int) : Prop := ∀ b ∈ bs, 0 ≤ b ∧ b < 256
end Go.RC
end
section
namespace Go.RC
open Go Go.DL Go.Proofs
set_option maxRecDepth 100000
set_option maxHeartbeats 1000000
attribute [local irreducible] rr
structure Str where
  (s : V8) (blk : List Int) (n : Nat)
abbrev Str.cells (x : Str) : List T := x.s.list.map W ++ (x.blk.map Y ++ [Q x.n])
abbrev Str.T (x : Str) : T := .agg x.cells
def Str.put1 (x : Str) (b : Int) : Str :=
  if x.n % 64 = 63 then ⟨cpr x.s (x.blk.set (x.n % 64) b), x.blk.set (x.n % 64) b, x.n + 1⟩ else ⟨x.s, x.blk.set (x.n % 64) b, x.n + 1⟩
def Str.add (x : Str) (bs : List Int) : Str := bs.foldl Str.put1 x
def putI (blk : List Int) (a : Nat) (vs : List Int) : List Int := blk.take a ++ (vs ++ blk.drop (a + vs.length))
theorem put1_blk (x : Str) (b : Int) : (x.put1 b).blk.length = x.blk.length ∧ (x.put1 b).n = x.n + 1 := by
  unfold Str.put1
  split <;> simp
theorem add_blk : ∀ (bs : List Int) (x : Str), (x.add bs).blk.length = x.blk.length ∧ (x.add bs).n = x.n + bs.length
  | [], x => ⟨rfl, rfl⟩
  | b :: bs, x => by
    have h1 := put1_blk x b
    have h2 := add_blk bs (x.put1 b)
    show ((x.put1 b).add bs).blk.length = _ ∧ ((x.put1 b).add bs).n = _
    rw [h2.1, h2.2, h1.1, h1.2]
    refine ⟨rfl, ?_⟩
    rw [List.length_cons]; omega
theorem putI_cons (blk : List Int) (a : Nat) (b : Int) (vs : List Int) (h : a < blk.length) : putI (blk.set a b) (a + 1) vs = putI blk a (b :: vs) := by
  unfold putI
  rw [List.take_set, List.drop_set]
  rw [if_pos (by omega)]
  have e1 : (blk.take (a + 1)).set a b = blk.take a ++ [b] := by
    rw [List.take_succ_eq_append_getElem h, List.set_append, if_neg (by simp; omega)]
    simp [List.length_take, Nat.min_eq_left (Nat.le_of_lt h)]
  rw [e1, List.append_assoc, List.length_cons]
  have e2 : a + 1 + vs.length = a + (vs.length + 1) := by omega
  rw [e2]
  rfl
theorem add_chunk : ∀ (bs : List Int) (x : Str), bs ≠ [] → x.blk.length = 64 → x.n % 64 + bs.length ≤ 64 →
    x.add bs = if x.n % 64 + bs.length = 64 then ⟨cpr x.s (putI x.blk (x.n % 64) bs), putI x.blk (x.n % 64) bs, x.n + bs.length⟩ else ⟨x.s, putI x.blk (x.n % 64) bs, x.n + bs.length⟩
  | [], _, h, _, _ => absurd rfl h
  | [b], x, _, hl, hle => by
    show x.put1 b = _
    have e : x.blk.set (x.n % 64) b = putI x.blk (x.n % 64) [b] := by
      have := putI_cons x.blk (x.n % 64) b [] (by omega)
      rw [← this]
      unfold putI
      simp
    unfold Str.put1
    rw [e]
    by_cases h : x.n % 64 = 63
    · rw [if_pos h, if_pos (by simp; omega)]; rfl
    · rw [if_neg h, if_neg (by simp; omega)]; rfl
  | b :: c :: bs, x, _, hl, hle => by
    have hlt : x.n % 64 + 1 < 64 := by simp at hle; omega
    show (x.put1 b).add (c :: bs) = _
    have e1 : x.put1 b = ⟨x.s, x.blk.set (x.n % 64) b, x.n + 1⟩ := by unfold Str.put1; rw [if_neg (by omega)]
    have hm : (x.n + 1) % 64 = x.n % 64 + 1 := by omega
    rw [e1, add_chunk (c :: bs) _ (by simp) (by simpa using hl) (by simp at hle ⊢; omega)]
    simp only [hm]
    rw [putI_cons _ _ _ _ (by omega)]
    have e2 : x.n % 64 + 1 + (c :: bs).length = x.n % 64 + (b :: c :: bs).length := by simp; omega
    have e3 : x.n + 1 + (c :: bs).length = x.n + (b :: c :: bs).length := by simp; omega
    rw [e2, e3]
def sB (x : ByteArray) : List Int := x.data.toList.map fun b => (b.toNat : Int)
theorem bytesT_sB (x : ByteArray) : bytesT x = (sB x).map Y := by
  unfold bytesT sB
  rw [List.map_map]; rfl
theorem sB_len (x : ByteArray) : (sB x).length = x.size := by
  unfold sB
  rw [List.length_map, Array.length_toList]
  rfl
theorem ne_empty (x : ByteArray) : (!(x.toList == (⟨#[]⟩ : ByteArray).toList)) = decide (x.size ≠ 0) := by
  rw [ByteArray.toList_eq, ByteArray.toList_eq]
  have h : x.data.toList.length = x.size := rfl
  generalize x.data.toList = l at h
  rw [← h]
  cases l <;> rfl
theorem sB_areB (x : ByteArray) : areB (sB x) := fun b hb => by
  obtain ⟨u, _, rfl⟩ := List.mem_map.1 hb
  have := u.toNat_lt
  omega
theorem sB_extract (x : ByteArray) (k : Nat) (h : k ≤ x.size) : sB (x.extract k x.size) = (sB x).drop k := by
  unfold sB
  rw [ByteArray.data_extract, Array.toList_extract, ← List.map_drop]
  have e : x.data.toList.extract k x.size = x.data.toList.drop k := by
    unfold List.extract
    refine List.take_of_length_le ?_
    rw [List.length_drop, Array.length_toList]
    exact Nat.le_refl _
  rw [e]
theorem chunk1a {f : Int → T} : ∀ (ws : List Int) (n : Nat) (r : List T), ws.length = n → chunk 1 n (ws.map f ++ r) = ws.map f
  | [], 0, _, _ => rfl
  | x :: ws, n + 1, r, h => by
    show f x :: chunk 1 n (ws.map f ++ r) = f x :: ws.map f
    rw [chunk1a ws n r (by simpa using h)]
  | x :: ws, 0, _, h => by simp at h
  | [], n + 1, _, h => by simp at h
theorem putL_blk (x : Str) (a : Nat) (vs : List Int) (ha : a + vs.length ≤ x.blk.length) : putL x.cells (8 + a) vs.length (vs.map Y) = x.s.list.map W ++ ((putI x.blk a vs).map Y ++ [Q x.n]) := by
  unfold putL putI
  have h8 : (x.s.list.map W).length = 8 := rfl
  rw [List.take_append, h8, List.take_of_length_le (by rw [h8]; omega), show 8 + a - 8 = a by omega, List.take_append_of_le_length (by simp; omega)]
  rw [List.drop_append, h8, List.drop_eq_nil_of_le (by rw [h8]; omega), List.nil_append, show 8 + a + vs.length - 8 = a + vs.length by omega, List.drop_append_of_le_length (by simp; omega)]
  simp [List.append_assoc]
theorem cell72 (x : Str) (hl : x.blk.length = 64) (d : T) : x.cells[0 + 72]?.getD d = Q x.n := by
  show (x.s.list.map W ++ (x.blk.map Y ++ [Q x.n]))[72]?.getD d = _
  have h8 : (x.s.list.map W).length = 8 := rfl
  rw [List.getElem?_append_right (by rw [h8]; omega), h8, List.getElem?_append_right (by simp [hl])]
  simp [hl]
theorem set72 (x : Str) (hl : x.blk.length = 64) (m : Nat) : x.cells.set (0 + 72) (Q m) = Str.cells ⟨x.s, x.blk, m⟩ := by
  have h8 : (x.s.list.map W).length = 8 := rfl
  show (x.s.list.map W ++ (x.blk.map Y ++ [Q x.n])).set 72 (Q m) = x.s.list.map W ++ (x.blk.map Y ++ [Q m])
  rw [List.set_append, if_neg (by rw [h8]; omega), h8, List.set_append, if_neg (by simp [hl])]
  simp [hl]
theorem chunk64 (x : Str) (hl : x.blk.length = 64) : chunk 1 64 (x.cells.drop (0 + 8)) = x.blk.map Y := chunk1a x.blk 64 _ hl
theorem cells_len (x : Str) (hl : x.blk.length = 64) : x.cells.length = 73 := by
  simp [Str.cells, V8.list, hl]
theorem t_Add (x0 : Str) (text0 : ByteArray) (hx : x0.blk.length = 64) (hn : x0.n + text0.size < 2 ^ 62) : DCalls Tryd.prog 73 [x0.T, .str text0] (x0.add (sB text0)).T := by
  refine dcalls_low (rs := [.cell 4 121]) mixed Tryd.func73 l73 rfl rfl rfl (r := [.agg _]) (Nat.le_of_ble_eq_true rfl) ?_
  repeat' ((conv => whnf); first | exact trivial | refine nT_ ?_ | refine aE1 ?_ | refine aE0 ?_ | refine aN1 ?_ | refine aN0 ?_ | refine aD1 ?_ | refine aD0 ?_ | refine nE_ (fun hq => ?_) (fun hq => ?_) | refine nN_ (fun hq => ?_) (fun hq => ?_) | refine nD_ (fun hq => ?_) (fun hq => ?_) | refine rb1 ?_ | refine rb0 ?_ | refine rbx ?_ | refine rix ?_ | (refine And.intro (by first | (exact cells_len x0 hx; done) | fail) ?_) | refine aS ?_ | fail)
  refine wpC_loopE 0 (α := Str × ByteArray) (β := Unit) (fun q => {sl := [(1, .t (.str q.2)), (2, .ptr 2 0), (4, .ptr 4 0)], bx := [(2, .d 73 q.1.cells), (4, .d 73 (List.replicate 8 (W 0) ++ (List.replicate 64 (Y 0) ++ [Q 0])))]})
    (fun q => q.1.blk.length = 64 ∧ q.1.n + q.2.size < 2 ^ 62 ∧ q.1.add (sB q.2) = x0.add (sB text0)) (fun q => q.2.size) (fun _ => {sl := [(2, .ptr 2 0), (4, .ptr 4 0)], bx := [(2, .d 73 (x0.add (sB text0)).cells), (4, .d 73 (List.replicate 8 (W 0) ++ (List.replicate 64 (Y 0) ++ [Q 0])))]}) (fun _ => True) (x0, text0) ⟨hx, hn, rfl⟩ ?_ ?_ ?_
  · repeat' (first | exact trivial | exact LeV.same _ | exact LeB.same _ | exact rfl | exact fun _ _ _ => trivial | exact lI | exact LeV.nil _ _ _ | exact lB | refine leBd ?_ | refine leOwn ?_ | refine And.intro ?_ ?_)
  · rintro ⟨x, text⟩ ⟨h1, h2, h3⟩
    dsimp only at h1 h2 h3
    have hsz := sB_len text
    by_cases he : text.size = 0
    · have hnil : sB text = [] := List.eq_nil_of_length_eq_zero (by omega)
      repeat' ((conv => whnf); first | exact trivial | refine nb_ false (by rw [ne_empty, decide_eq_false (by simpa using he)]) ?_ | refine nT_ ?_ | refine aE1 ?_ | refine aE0 ?_ | refine aN1 ?_ | refine aN0 ?_ | refine aD1 ?_ | refine aD0 ?_ | refine nE_ (fun hq => ?_) (fun hq => ?_) | refine nN_ (fun hq => ?_) (fun hq => ?_) | refine nD_ (fun hq => ?_) (fun hq => ?_) | refine rb1 ?_ | refine rb0 ?_ | refine rbx ?_ | refine rix ?_ | refine aS ?_ | fail)
      exact ⟨(), trivial, by repeat' (first | (refine leBd (by rw [← h3, hnil]; rfl)) | exact trivial | exact LeV.same _ | exact LeB.same _ | exact rfl | exact fun _ _ _ => trivial | exact lI | exact LeV.nil _ _ _ | exact lB | refine leBd ?_ | refine leOwn ?_ | refine And.intro ?_ ?_)⟩
    · have hat : x.n % 64 < 64 := Nat.mod_lt _ (by decide)
      have m1 : ((x.n : Int).tmod 64) = (x.n % 64 : Nat) := rfl
      have w1 : IntKind.i64.wrap ((x.n % 64 : Nat) : Int) = (x.n % 64 : Nat) := by simp (disch := omega) only [wrap_id, w32, w8, w64]
      have hcl := cells_len x h1
      generalize hk : Nat.min text.size (64 - x.n % 64) = k
      have hk1 : k ≤ text.size := by rw [← hk]; exact Nat.min_le_left _ _
      have hk2 : k ≤ 64 - x.n % 64 := by rw [← hk]; exact Nat.min_le_right _ _
      have hk0 : 0 < k := by rw [← hk]; exact Nat.lt_min.2 ⟨by omega, by omega⟩
      generalize hb' : putI x.blk (x.n % 64) ((sB text).take k) = blk'
      repeat' ((conv => whnf); first | exact trivial | refine nb_ true (by rw [ne_empty, decide_eq_true (by simpa using he)]) ?_ | (refine nv_ (Q x.n) (by first | (exact cell72 x h1 _; done) | fail) ?_) | refine nT_ ?_ | refine aE1 ?_ | refine aE0 ?_ | refine aN1 ?_ | refine aN0 ?_ | refine aD1 ?_ | refine aD0 ?_ | refine nE_ (fun hq => ?_) (fun hq => ?_) | refine nN_ (fun hq => ?_) (fun hq => ?_) | refine nD_ (fun hq => ?_) (fun hq => ?_) | refine rb1 ?_ | refine rb0 ?_ | refine rbx ?_ | refine rix ?_ | (refine And.intro (by first | (omega; done) | fail) ?_) | refine aS ?_ | fail)
      refine wpC_cut (β := Unit) (fun _ => {sl := [(1, .t (.str text)), (2, .ptr 2 0), (4, .ptr 4 0), (5, .t (I (x.n % 64 : Nat))), (6, .t (I k))], bx := [(2, .d 73 (x.s.list.map W ++ (blk'.map Y ++ [Q x.n]))), (4, .d 73 (List.replicate 8 (W 0) ++ (List.replicate 64 (Y 0) ++ [Q 0])))]}) (fun _ => True) ?_ ?_
      · have hbl : (bytesT text).length = text.size := by rw [bytesT_sB, List.length_map, hsz]
        have hv : ((64 : Nat) : Int).toNat - (IntKind.i64.wrap ((x.n : Int).tmod 64)).toNat = 64 - x.n % 64 := by rw [m1, w1]; omega
        have hall : (bytesT text).all T.one = true := by
          rw [List.all_eq_true, bytesT_sB]
          exact mones (fun _ => rfl) _
        repeat' ((conv => whnf); first | exact trivial | refine nT_ ?_ | refine aE1 ?_ | refine aE0 ?_ | refine aN1 ?_ | refine aN0 ?_ | refine aD1 ?_ | refine aD0 ?_ | refine nE_ (fun hq => ?_) (fun hq => ?_) | refine nN_ (fun hq => ?_) (fun hq => ?_) | refine nD_ (fun hq => ?_) (fun hq => ?_) | refine rb1 ?_ | refine rb0 ?_ | refine rbx ?_ | refine rix ?_ | (refine And.intro (by first | ((rw [m1, w1]; omega); done) | (exact ⟨by rw [m1, w1]; omega, hall⟩; done) | fail) ?_) | refine aS ?_ | fail)
        refine ⟨(), trivial, ?_⟩
        repeat' (first | ((refine leI ?_; dsimp only; rw [hbl, hv, hk]; done)) | ((refine leI ?_; rw [m1, w1]; done)) | exact trivial | exact LeV.same _ | exact LeB.same _ | exact rfl | exact fun _ _ _ => trivial | exact lI | exact LeV.nil _ _ _ | exact lB | refine leBd ?_ | refine leOwn ?_ | refine And.intro ?_ ?_)
        rw [hbl, hv, hk, m1, w1, bytesT_sB, ← List.map_take, ← hb']
        have hp := putL_blk x (x.n % 64) ((sB text).take k) (by rw [List.length_take, hsz, h1]; omega)
        rw [List.length_take, hsz, Nat.min_eq_left hk1] at hp
        rw [← hp]
        show _ = putL x.cells (0 + 8 + (x.n % 64) * 1) k _
        rw [show 0 + 8 + x.n % 64 * 1 = 8 + x.n % 64 by omega]
      rintro - -
      have hbl : blk'.length = 64 := by rw [← hb']; simp [putI, hsz]; omega
      have w2 : IntKind.u64.wrap ((x.n : Int) + IntKind.u64.wrap (k : Int)) = (x.n + k : Nat) := by
        rw [w64 (n := (k : Int)) (by omega) (by omega), w64 (by omega) (by omega)]
        omega
      repeat' ((conv => whnf); first | exact trivial | (refine nv_ (Q x.n) (by first | (exact cell72 ⟨x.s, blk', x.n⟩ hbl _; done) | fail) ?_) | refine nT_ ?_ | refine aE1 ?_ | refine aE0 ?_ | refine aN1 ?_ | refine aN0 ?_ | refine aD1 ?_ | refine aD0 ?_ | refine nE_ (fun hq => ?_) (fun hq => ?_) | refine nN_ (fun hq => ?_) (fun hq => ?_) | refine nD_ (fun hq => ?_) (fun hq => ?_) | refine rb1 ?_ | refine rb0 ?_ | refine rbx ?_ | refine rix ?_ | (refine And.intro (by first | ((simp; omega); done) | fail) ?_) | refine aS ?_ | fail)
      refine wpC_cut (β := Unit) (fun _ => {sl := [(1, .t (.str (text.extract k text.size))), (2, .ptr 2 0), (4, .ptr 4 0), (5, .t (I (x.n % 64 : Nat))), (6, .t (I k))], bx := [(2, .d 73 (Str.cells ⟨x.s, blk', x.n + k⟩)), (4, .d 73 (List.replicate 8 (W 0) ++ (List.replicate 64 (Y 0) ++ [Q 0])))]}) (fun _ => True) ?_ ?_
      · repeat' ((conv => whnf); first | exact trivial | (refine nv_ (Q x.n) (by first | (exact cell72 ⟨x.s, blk', x.n⟩ hbl _; done) | fail) ?_) | refine nT_ ?_ | refine aE1 ?_ | refine aE0 ?_ | refine aN1 ?_ | refine aN0 ?_ | refine aD1 ?_ | refine aD0 ?_ | refine nE_ (fun hq => ?_) (fun hq => ?_) | refine nN_ (fun hq => ?_) (fun hq => ?_) | refine nD_ (fun hq => ?_) (fun hq => ?_) | refine rb1 ?_ | refine rb0 ?_ | refine rbx ?_ | refine rix ?_ | (refine And.intro (by first | ((simp; omega); done) | fail) ?_) | refine aS ?_ | fail)
        refine ⟨(), trivial, ?_⟩
        repeat' (first | exact trivial | exact LeV.same _ | exact LeB.same _ | exact rfl | exact fun _ _ _ => trivial | exact lI | exact LeV.nil _ _ _ | exact lB | refine leBd ?_ | refine leOwn ?_ | refine And.intro ?_ ?_)
        rw [w2]
        exact (set72 ⟨x.s, blk', x.n⟩ hbl (x.n + k)).symm
      rintro - -
      have hadd := add_chunk ((sB text).take k) x (by intro h; have := congrArg List.length h; rw [List.length_take, hsz, Nat.min_eq_left hk1] at this; exact absurd this (by simp; omega)) h1 (by rw [List.length_take]; omega)
      rw [List.length_take, hsz, Nat.min_eq_left hk1, hb'] at hadd
      have hrest : (x.add ((sB text).take k)).add (sB (text.extract k text.size)) = x0.add (sB text0) := by
        rw [sB_extract text k hk1, ← h3]
        unfold Str.add
        rw [← List.foldl_append, List.take_append_drop]
      have hes : (text.extract k text.size).size = text.size - k := by simp [ByteArray.size_extract]
      have w3 : IntKind.i64.wrap (((x.n % 64 : Nat) : Int) + (k : Int)) = (x.n % 64 + k : Nat) := by simp (disch := omega) only [wrap_id, w32, w8, w64]; omega
      by_cases hf : x.n % 64 + k = 64
      · rw [if_pos hf] at hadd
        rw [hadd] at hrest
        repeat' ((conv => whnf); first | exact trivial | (refine now_E1 (by rw [w3, hf]; rfl) ?_) | (refine nv_ (.agg (x.s.list.map W)) (by first | (rfl; done) | fail) ?_) | (refine ⟨_, (by rw [chunk64 ⟨x.s, blk', x.n + k⟩ hbl]; exact t_compress x.s blk' hbl), rfl, ?_⟩) | refine nT_ ?_ | refine aE1 ?_ | refine aE0 ?_ | refine aN1 ?_ | refine aN0 ?_ | refine aD1 ?_ | refine aD0 ?_ | refine nE_ (fun hq => ?_) (fun hq => ?_) | refine nN_ (fun hq => ?_) (fun hq => ?_) | refine nD_ (fun hq => ?_) (fun hq => ?_) | refine rb1 ?_ | refine rb0 ?_ | refine rbx ?_ | refine rix ?_ | refine aS ?_ | fail)
        refine ⟨(⟨cpr x.s blk', blk', x.n + k⟩, text.extract k text.size), ⟨hbl, by dsimp only; rw [hes]; omega, hrest⟩, by dsimp only; rw [hes]; omega, ?_⟩
        repeat' (first | exact trivial | exact LeV.same _ | exact LeB.same _ | exact rfl | exact fun _ _ _ => trivial | exact lI | exact LeV.nil _ _ _ | exact lB | refine leBd ?_ | refine leOwn ?_ | refine And.intro ?_ ?_)
      · rw [if_neg hf] at hadd
        rw [hadd] at hrest
        repeat' ((conv => whnf); first | exact trivial | (refine now_E0 (by rw [w3]; omega) ?_) | refine nT_ ?_ | refine aE1 ?_ | refine aE0 ?_ | refine aN1 ?_ | refine aN0 ?_ | refine aD1 ?_ | refine aD0 ?_ | refine nE_ (fun hq => ?_) (fun hq => ?_) | refine nN_ (fun hq => ?_) (fun hq => ?_) | refine nD_ (fun hq => ?_) (fun hq => ?_) | refine rb1 ?_ | refine rb0 ?_ | refine rbx ?_ | refine rix ?_ | refine aS ?_ | fail)
        refine ⟨(⟨x.s, blk', x.n + k⟩, text.extract k text.size), ⟨hbl, by dsimp only; rw [hes]; omega, hrest⟩, by dsimp only; rw [hes]; omega, ?_⟩
        repeat' (first | exact trivial | exact LeV.same _ | exact LeB.same _ | exact rfl | exact fun _ _ _ => trivial | exact lI | exact LeV.nil _ _ _ | exact lB | refine leBd ?_ | refine leOwn ?_ | refine And.intro ?_ ?_)
  rintro - -
  have hbl := (add_blk (sB text0) x0).1
  rw [hx] at hbl
  generalize x0.add (sB text0) = y at hbl
  repeat' ((conv => whnf); first | exact trivial | refine nT_ ?_ | refine aE1 ?_ | refine aE0 ?_ | refine aN1 ?_ | refine aN0 ?_ | refine aD1 ?_ | refine aD0 ?_ | refine nE_ (fun hq => ?_) (fun hq => ?_) | refine nN_ (fun hq => ?_) (fun hq => ?_) | refine nD_ (fun hq => ?_) (fun hq => ?_) | refine rb1 ?_ | refine rb0 ?_ | refine rbx ?_ | refine rix ?_ | (refine And.intro (by first | (exact cells_len y hbl; done) | (exact ⟨cells_len y hbl, by decide⟩; done) | fail) ?_) | refine aS ?_ | refine rt ?_ trivial | fail)
  exact congrArg T.agg (putL_all rfl)
end Go.RC
end
