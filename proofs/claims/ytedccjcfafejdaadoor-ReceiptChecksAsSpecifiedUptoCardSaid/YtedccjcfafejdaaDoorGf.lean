/- Joined by program: parts of a data level over the model, of the program's functions over it, and of the statement's proof. -/
import Derived.Test.YtedccjcfafejdaaDoorGe
import Derived.Test.YtedccjcfafejdaaDoorProg
import Derived.Test.YtedccjcfafejdaaDoorGd
import Derived.KernelRfl
section
namespace Go.RC
open Go Go.DL Go.Proofs
set_option maxRecDepth 100000
set_option maxHeartbeats 1000000
attribute [local irreducible] rr
theorem areU8_Y : ∀ l : List Int, areU8 (l.map Y)
  | [] => trivial
  | _ :: l => areU8_Y l
theorem sB_strT (l : List Int) (h : areB l) : sB (strT (l.map Y)) = l := by
  unfold sB strT
  simp only [List.map_map]
  refine (List.map_congr_left (g := id) fun b hb => ?_).trans (List.map_id l)
  obtain ⟨h0, h1⟩ := h b hb
  show (((UInt8.ofNat b.toNat).toNat : Nat) : Int) = b
  rw [UInt8.toNat_ofNat', Nat.mod_eq_of_lt (by omega)]
  omega
theorem areB_tail (n : Nat) : areB (tail n) := by
  intro b hb
  have u8 : ∀ x : Int, 0 ≤ IntKind.u8.wrap x ∧ IntKind.u8.wrap x < 256 := fun x => by
    unfold IntKind.wrap
    simp [IntKind.bits, IntKind.signed]
    omega
  unfold tail at hb
  rcases List.mem_cons.1 hb with rfl | hb
  · omega
  rcases List.mem_append.1 hb with hb | hb
  · rw [List.eq_of_mem_replicate hb]; omega
  · obtain ⟨i, _, rfl⟩ := List.mem_map.1 hb
    exact u8 _
theorem aget {f : Int → T} {ws : List Int} {r : List T} {k' : Nat} {d : T} (k : Nat) (e : k' = k) (h : k < ws.length) : (ws.map f ++ r)[k']?.getD d = f (ws.getD k 0) := by
  rw [e, List.getElem?_append_left (by simpa using h)]
  exact mget h
def S0 : Str := ⟨V0, List.replicate 64 0, 0⟩
theorem t_Begin : DCalls Tryd.prog 72 [] S0.T := by
  refine dcalls_low (rs := [.cell 0 121]) mixed Tryd.func72 l72 rfl rfl rfl (r := [.agg _]) (Nat.le_of_ble_eq_true rfl) ?_
  repeat' ((conv => whnf); first | exact trivial | refine nT_ ?_ | refine aE1 ?_ | refine aE0 ?_ | refine aN1 ?_ | refine aN0 ?_ | refine aD1 ?_ | refine aD0 ?_ | refine nE_ (fun hq => ?_) (fun hq => ?_) | refine nN_ (fun hq => ?_) (fun hq => ?_) | refine nD_ (fun hq => ?_) (fun hq => ?_) | refine rb1 ?_ | refine rb0 ?_ | refine rbx ?_ | refine rix ?_ | refine aS ?_ | fail)
theorem t_Sum (x : Str) (hx : x.blk.length = 64) (hn : x.n < 2 ^ 60) : DCalls Tryd.prog 75 [x.T] (.agg ((dig (x.add (tail x.n)).s).map Y)) := by
  refine dcalls_low (rs := [.cell 2 125]) mixed Tryd.func75 l75 rfl rfl rfl (r := [.agg _]) (Nat.le_of_ble_eq_true rfl) ?_
  have hcl := cells_len x hx
  have hz := (zer_spec x.n).2
  have hb8 : IntKind.u64.wrap (8 * (x.n : Int)) = bits8 x.n := by unfold bits8; rw [w64 (n := (x.n : Int)) (by omega) (by omega)]
  have hwn : IntKind.i64.wrap (x.n : Int) = x.n := by simp (disch := omega) only [wrap_id, w32, w8, w64]
  unfold Str.T
  generalize hcs : x.cells = cs at hcl
  have h72 : ∀ d, cs[0 + 72]?.getD d = Q x.n := fun d => by rw [← hcs]; exact cell72 x hx d
  repeat' ((conv => whnf); first | exact trivial | (refine nv_ (Q x.n) (by first | (exact h72 _; done) | fail) ?_) | refine nT_ ?_ | refine aE1 ?_ | refine aE0 ?_ | refine aN1 ?_ | refine aN0 ?_ | refine aD1 ?_ | refine aD0 ?_ | refine nE_ (fun hq => ?_) (fun hq => ?_) | refine nN_ (fun hq => ?_) (fun hq => ?_) | refine nD_ (fun hq => ?_) (fun hq => ?_) | refine rb1 ?_ | refine rb0 ?_ | refine rbx ?_ | refine rix ?_ | (refine And.intro (by first | (exact hcl; done) | (omega; done) | fail) ?_) | refine aS ?_ | fail)
  refine wpC_loopE 0 (α := Nat × Nat) (β := Nat) (fun q => {sl := [(1, .ptr 1 0), (2, .ptr 2 0), (3, .t (Q (bits8 x.n))), (4, .own q.1 5 1 ((128 :: List.replicate q.2 0).map Y))], bx := [(1, .d 73 cs), (2, .d 32 z32)]})
    (fun q => q.2 ≤ zer x.n) (fun q => zer x.n - q.2) (fun q => {sl := [(1, .ptr 1 0), (2, .ptr 2 0), (3, .t (Q (bits8 x.n))), (4, .own q 5 1 ((128 :: List.replicate (zer x.n) 0).map Y))], bx := [(1, .d 73 cs), (2, .d 32 z32)]}) (fun _ => True) (11, 0) (by simp) ?_ ?_ ?_
  · repeat' (first | ((refine leT ?_; rw [hb8]; done)) | exact trivial | exact LeV.same _ | exact LeB.same _ | exact rfl | exact fun _ _ _ => trivial | exact lI | exact LeV.nil _ _ _ | exact lB | refine leBd ?_ | refine leOwn ?_ | refine And.intro ?_ ?_)
  · rintro ⟨q, z⟩ hzz
    dsimp only at hzz
    have hlen : ((((128 :: List.replicate z 0) : List Int).map Y).length : Int) = z + 1 := by simp
    have hw : IntKind.i64.wrap ((x.n : Int) + (z + 1)) = x.n + (z + 1) := by simp (disch := omega) only [wrap_id, w32, w8, w64]
    rcases Nat.lt_or_ge z (zer x.n) with h | h
    · have hne : (IntKind.i64.wrap (IntKind.i64.wrap (x.n : Int) + ((((128 :: List.replicate z 0) : List Int).map Y).length : Int))).tmod 64 ≠ 56 := by
        have := zer_lt x.n z h
        rw [hwn, hlen, hw, Int.tmod_eq_emod_of_nonneg (by omega)]
        omega
      repeat' ((conv => whnf); first | exact trivial | (refine nv_ (Q x.n) (by first | (exact h72 _; done) | fail) ?_) | refine now_N1 hne ?_ | refine nT_ ?_ | refine aE1 ?_ | refine aE0 ?_ | refine aN1 ?_ | refine aN0 ?_ | refine aD1 ?_ | refine aD0 ?_ | refine nE_ (fun hq => ?_) (fun hq => ?_) | refine nN_ (fun hq => ?_) (fun hq => ?_) | refine nD_ (fun hq => ?_) (fun hq => ?_) | refine rb1 ?_ | refine rb0 ?_ | refine rbx ?_ | refine rix ?_ | (refine And.intro (by first | (omega; done) | ((simp; omega); done) | fail) ?_) | refine aS ?_ | fail)
      refine ⟨(22, z + 1), by dsimp only; omega, by dsimp only; omega, ?_⟩
      repeat' (first | exact trivial | exact LeV.same _ | exact LeB.same _ | exact rfl | exact fun _ _ _ => trivial | exact lI | exact LeV.nil _ _ _ | exact lB | refine leBd ?_ | refine leOwn ?_ | refine And.intro ?_ ?_)
      simp [List.replicate_succ']
    · have : z = zer x.n := by omega
      subst this
      have heq : (IntKind.i64.wrap (IntKind.i64.wrap (x.n : Int) + ((((128 :: List.replicate (zer x.n) 0) : List Int).map Y).length : Int))).tmod 64 = 56 := by
        have := (zer_spec x.n).1
        rw [hwn, hlen, hw, Int.tmod_eq_emod_of_nonneg (by omega)]
        omega
      repeat' ((conv => whnf); first | exact trivial | (refine nv_ (Q x.n) (by first | (exact h72 _; done) | fail) ?_) | refine now_N0 heq ?_ | refine nT_ ?_ | refine aE1 ?_ | refine aE0 ?_ | refine aN1 ?_ | refine aN0 ?_ | refine aD1 ?_ | refine aD0 ?_ | refine nE_ (fun hq => ?_) (fun hq => ?_) | refine nN_ (fun hq => ?_) (fun hq => ?_) | refine nD_ (fun hq => ?_) (fun hq => ?_) | refine rb1 ?_ | refine rb0 ?_ | refine rbx ?_ | refine rix ?_ | (refine And.intro (by first | (omega; done) | fail) ?_) | refine aS ?_ | fail)
      exact ⟨q, trivial, by repeat' (first | exact trivial | exact LeV.same _ | exact LeB.same _ | exact rfl | exact fun _ _ _ => trivial | exact lI | exact LeV.nil _ _ _ | exact lB | refine leBd ?_ | refine leOwn ?_ | refine And.intro ?_ ?_)⟩
  rintro q -
  repeat' ((conv => whnf); first | exact trivial | refine nT_ ?_ | refine aE1 ?_ | refine aE0 ?_ | refine aN1 ?_ | refine aN0 ?_ | refine aD1 ?_ | refine aD0 ?_ | refine nE_ (fun hq => ?_) (fun hq => ?_) | refine nN_ (fun hq => ?_) (fun hq => ?_) | refine nD_ (fun hq => ?_) (fun hq => ?_) | refine rb1 ?_ | refine rb0 ?_ | refine rbx ?_ | refine rix ?_ | refine aS ?_ | fail)
  refine wpC_loopE 2 (α := Nat × Nat) (β := Nat) (fun q => {sl := [(1, .ptr 1 0), (2, .ptr 2 0), (3, .t (Q (bits8 x.n))), (4, .own q.1 5 1 ((128 :: (List.replicate (zer x.n) 0 ++ (List.range q.2).map (ln8 (bits8 x.n)))).map Y)), (23, .t (I q.2))], bx := [(1, .d 73 cs), (2, .d 32 z32)]})
    (fun q => q.2 ≤ 8) (fun q => 8 - q.2) (fun q => {sl := [(1, .ptr 1 0), (2, .ptr 2 0), (4, .own q 5 1 ((tail x.n).map Y))], bx := [(1, .d 73 cs), (2, .d 32 z32)]}) (fun _ => True) (q, 0) (by simp) ?_ ?_ ?_
  · repeat' (first | exact trivial | exact LeV.same _ | exact LeB.same _ | exact rfl | exact fun _ _ _ => trivial | exact lI | exact LeV.nil _ _ _ | exact lB | refine leBd ?_ | refine leOwn ?_ | refine And.intro ?_ ?_)
    simp
  · rintro ⟨q, i⟩ hi
    dsimp only at hi
    rcases Nat.lt_or_ge i 8 with h | h
    · repeat' ((conv => whnf); first | exact trivial | refine nT_ ?_ | refine aE1 ?_ | refine aE0 ?_ | refine aN1 ?_ | refine aN0 ?_ | refine aD1 ?_ | refine aD0 ?_ | refine nE_ (fun hq => ?_) (fun hq => ?_) | refine nN_ (fun hq => ?_) (fun hq => ?_) | refine nD_ (fun hq => ?_) (fun hq => ?_) | refine rb1 ?_ | refine rb0 ?_ | refine rbx ?_ | refine rix ?_ | (refine And.intro (by first | ((simp (disch := omega) only [wrap_id, w32, w8, w64]; omega); done) | ((simp; omega); done) | fail) ?_) | refine aS ?_ | fail)
      refine ⟨(34, i + 1), by dsimp only; omega, by dsimp only; omega, ?_⟩
      repeat' (first | exact trivial | exact LeV.same _ | exact LeB.same _ | exact rfl | exact fun _ _ _ => trivial | exact lI | exact LeV.nil _ _ _ | exact lB | refine leBd ?_ | refine leOwn ?_ | refine And.intro ?_ ?_)
      have e1 : IntKind.i64.wrap (8 * (i : Int)) = 8 * i := by simp (disch := omega) only [wrap_id, w32, w8, w64]
      have e2 : IntKind.i64.wrap (56 - 8 * (i : Int)) = 56 - 8 * i := by simp (disch := omega) only [wrap_id, w32, w8, w64]
      have e3 : min ((56 : Int) - 8 * i).toNat IntKind.u64.bits = 56 - 8 * i := by
        rw [show IntKind.u64.bits = 64 from rfl]; omega
      rw [e1, e2, e3]
      simp [List.range_succ, ln8]
    · have : i = 8 := by omega
      subst this
      repeat' ((conv => whnf); first | exact trivial | refine nT_ ?_ | refine aE1 ?_ | refine aE0 ?_ | refine aN1 ?_ | refine aN0 ?_ | refine aD1 ?_ | refine aD0 ?_ | refine nE_ (fun hq => ?_) (fun hq => ?_) | refine nN_ (fun hq => ?_) (fun hq => ?_) | refine nD_ (fun hq => ?_) (fun hq => ?_) | refine rb1 ?_ | refine rb0 ?_ | refine rbx ?_ | refine rix ?_ | refine aS ?_ | fail)
      exact ⟨q, trivial, by repeat' (first | exact trivial | exact LeV.same _ | exact LeB.same _ | exact rfl | exact fun _ _ _ => trivial | exact lI | exact LeV.nil _ _ _ | exact lB | refine leBd ?_ | refine leOwn ?_ | refine And.intro ?_ ?_)⟩
  rintro q -
  have htl := tail_len x.n
  have hsb := sB_strT (tail x.n) (areB_tail x.n)
  have hss : (strT ((tail x.n).map Y)).size = 9 + zer x.n := by rw [← sB_len, hsb, htl]
  have hadd := t_Add x (strT ((tail x.n).map Y)) hx (by rw [hss]; omega)
  rw [hsb] at hadd
  have hyl := (add_blk (tail x.n) x).1
  rw [hx] at hyl
  generalize x.add (tail x.n) = y at hadd hyl
  have hycl := cells_len y hyl
  have ha8 := areU8_Y (tail x.n)
  generalize hpad : (tail x.n).map Y = pad at hadd ha8
  unfold Str.T at hadd
  rw [hcs] at hadd
  repeat' ((conv => whnf); first | exact trivial | (refine nv_ (.agg cs) (by first | (exact congrArg T.agg (by simp [hcl]); done) | fail) ?_) | refine k_call _ (hadd) ?_ | refine nT_ ?_ | refine aE1 ?_ | refine aE0 ?_ | refine aN1 ?_ | refine aN0 ?_ | refine aD1 ?_ | refine aD0 ?_ | refine nE_ (fun hq => ?_) (fun hq => ?_) | refine nN_ (fun hq => ?_) (fun hq => ?_) | refine nD_ (fun hq => ?_) (fun hq => ?_) | refine rb1 ?_ | refine rb0 ?_ | refine rbx ?_ | refine rix ?_ | (refine And.intro (by first | (exact hcl; done) | (exact ha8; done) | (exact ⟨hycl, by simp [hcl]⟩; done) | ((simp [hycl]; done); done) | fail) ?_) | refine aS ?_ | fail)
  refine wpC_loopE 4 (α := Nat) (β := Unit) (fun i => {sl := [(1, .ptr 1 0), (2, .ptr 2 0), (6, .ptr 6 0), (40, .t (I i))], bx := [(1, .d 73 y.cells), (2, .d 32 z32), (6, .d 32 ((DJ y.s.list i).map Y))]})
    (fun i => i ≤ 32) (fun i => 32 - i) (fun _ => {sl := [(2, .ptr 2 0), (6, .ptr 6 0)], bx := [(2, .d 32 z32), (6, .d 32 ((DJ y.s.list 32).map Y))]}) (fun _ => True) 0 (by omega) ?_ ?_ ?_
  · repeat' (first | exact trivial | exact LeV.same _ | exact LeB.same _ | exact rfl | exact fun _ _ _ => trivial | exact lI | exact LeV.nil _ _ _ | exact lB | refine leBd ?_ | refine leOwn ?_ | refine And.intro ?_ ?_)
    exact (putL_all hcl).symm
  · intro i hi
    rcases Nat.lt_or_ge i 32 with h2 | h2
    · have hR : DJ y.s.list (i + 1) = (DJ y.s.list i).set i (dgB y.s.list i) := rfl
      have hl := DJ_len y.s.list i
      generalize DJ y.s.list i = cur at hR hl
      have hsl : y.s.list.length = 8 := rfl
      unfold dgB at hR
      have q1 : (i : Int).tdiv 4 = (i / 4 : Nat) := rfl
      have q2 : (i : Int).tmod 4 = (i % 4 : Nat) := rfl
      have w1 : IntKind.i64.wrap ((i / 4 : Nat) : Int) = (i / 4 : Nat) := by simp (disch := omega) only [wrap_id, w32, w8, w64]
      have w2 : IntKind.i64.wrap (8 * ((i % 4 : Nat) : Int)) = (8 * (i % 4) : Nat) := by simp (disch := omega) only [wrap_id, w32, w8, w64]; omega
      have w3 : IntKind.i64.wrap (24 - ((8 * (i % 4) : Nat) : Int)) = (24 - 8 * (i % 4) : Nat) := by simp (disch := omega) only [wrap_id, w32, w8, w64]; omega
      repeat' ((conv => whnf); first | exact trivial | (refine nv_ (W (y.s.list.getD (i / 4) 0)) (by first | (exact aget (i / 4) (by rw [q1, w1]; omega) (by omega); done) | fail) ?_) | refine nT_ ?_ | refine aE1 ?_ | refine aE0 ?_ | refine aN1 ?_ | refine aN0 ?_ | refine aD1 ?_ | refine aD0 ?_ | refine nE_ (fun hq => ?_) (fun hq => ?_) | refine nN_ (fun hq => ?_) (fun hq => ?_) | refine nD_ (fun hq => ?_) (fun hq => ?_) | refine rb1 ?_ | refine rb0 ?_ | refine rbx ?_ | refine rix ?_ | (refine And.intro (by first | (omega; done) | ((rw [q1, w1]; omega); done) | ((rw [q2, w2, w3]; omega); done) | fail) ?_) | refine aS ?_ | fail)
      refine ⟨i + 1, by omega, by omega, ?_⟩
      repeat' (first | exact trivial | exact LeV.same _ | exact LeB.same _ | exact rfl | exact fun _ _ _ => trivial | exact lI | exact LeV.nil _ _ _ | exact lB | refine leBd ?_ | refine leOwn ?_ | refine And.intro ?_ ?_)
      rw [hR, ← mset]
      rw [q2, w2, w3]
      have w4 : min (((24 - 8 * (i % 4) : Nat) : Int).toNat) IntKind.u32.bits = 24 - 8 * (i % 4) := by
        rw [show IntKind.u32.bits = 32 from rfl]; omega
      rw [w4]
      simp only [Int.toNat_natCast, Nat.zero_add, Nat.mul_one]
    · have : i = 32 := by omega
      subst this
      repeat' ((conv => whnf); first | exact trivial | refine nT_ ?_ | refine aE1 ?_ | refine aE0 ?_ | refine aN1 ?_ | refine aN0 ?_ | refine aD1 ?_ | refine aD0 ?_ | refine nE_ (fun hq => ?_) (fun hq => ?_) | refine nN_ (fun hq => ?_) (fun hq => ?_) | refine nD_ (fun hq => ?_) (fun hq => ?_) | refine rb1 ?_ | refine rb0 ?_ | refine rbx ?_ | refine rix ?_ | refine aS ?_ | fail)
      exact ⟨(), trivial, by repeat' (first | exact trivial | exact LeV.same _ | exact LeB.same _ | exact rfl | exact fun _ _ _ => trivial | exact lI | exact LeV.nil _ _ _ | exact lB | refine leBd ?_ | refine leOwn ?_ | refine And.intro ?_ ?_)⟩
  rintro - -
  rw [DJ_32]
  have hdl : (dig y.s).length = 32 := by simp [dig]
  generalize dig y.s = ds at hdl
  repeat' ((conv => whnf); first | exact trivial | refine nT_ ?_ | refine aE1 ?_ | refine aE0 ?_ | refine aN1 ?_ | refine aN0 ?_ | refine aD1 ?_ | refine aD0 ?_ | refine nE_ (fun hq => ?_) (fun hq => ?_) | refine nN_ (fun hq => ?_) (fun hq => ?_) | refine nD_ (fun hq => ?_) (fun hq => ?_) | refine rb1 ?_ | refine rb0 ?_ | refine rbx ?_ | refine rix ?_ | (refine And.intro (by first | (exact ⟨by simpa using hdl, by decide⟩; done) | (simpa using hdl; done) | fail) ?_) | refine aS ?_ | refine rt ?_ trivial | fail)
  exact congrArg T.agg (putL_all rfl)
end Go.RC
end
section
namespace Go.RC
open Go Go.DL Go.Proofs
set_option maxRecDepth 100000
noncomputable def c58 : DCode := (.seq (.region [⟨some 2, .mov (.const .nil), none, []⟩] []) (.seq (.region [⟨some 5, .mov (.tmp 0), none, []⟩,
  ⟨some 6, .conv .u64 (.tmp 5), none, []⟩,
  ⟨some 7, .bin .shl (.tmp 6) (.const (.int .u64 1)), none, []⟩,
  ⟨some 8, .mov (.tmp 0), none, []⟩,
  ⟨some 9, .bin .shr (.tmp 8) (.const (.int .u64 63)), none, []⟩,
  ⟨some 10, .conv .u64 (.tmp 9), none, []⟩,
  ⟨some 11, .bin .xor (.tmp 7) (.tmp 10), none, []⟩,
  ⟨some 3, .mov (.tmp 11), none, []⟩] []) (.seq (.region [⟨some 4, .mov (.const .nil), none, []⟩] []) (.seq (.block 0 (.loop (.seq (.seq (.region [⟨some 12, .mov (.tmp 3), none, []⟩,
  ⟨some 13, .bin .gtr (.tmp 12) (.const (.int .u64 127)), none, []⟩] []) (.cond (.tmp 13) .skip (.exit 0))) (.seq (.block 1 (.region [⟨some 16, .mov (.tmp 4), none, []⟩,
  ⟨some 17, .mov (.tmp 3), none, []⟩,
  ⟨some 18, .conv .u8 (.tmp 17), none, []⟩,
  ⟨some 19, .bin .or (.tmp 18) (.const (.int .u8 128)), none, []⟩,
  ⟨some 20, .buildF 1 1 [(.int .u8 0)] [(0, (.tmp 19))], none, []⟩,
  ⟨some 21, .append 61 5 1 1 (.tmp 16) (.tmp 20), none, []⟩,
  ⟨some 4, .mov (.tmp 21), none, []⟩] [])) (.region [⟨some 14, .mov (.tmp 3), none, []⟩,
  ⟨some 15, .bin .shr (.tmp 14) (.const (.int .u64 7)), none, []⟩,
  ⟨some 3, .mov (.tmp 15), none, []⟩] []))))) (.seq (.region [⟨some 22, .mov (.tmp 4), none, []⟩,
  ⟨some 23, .mov (.tmp 3), none, []⟩,
  ⟨some 24, .conv .u8 (.tmp 23), none, []⟩,
  ⟨some 25, .buildF 1 1 [(.int .u8 0)] [(0, (.tmp 24))], none, []⟩,
  ⟨some 26, .append 61 5 1 1 (.tmp 22) (.tmp 25), none, []⟩,
  ⟨some 2, .mov (.tmp 26), none, []⟩] []) .ret)))))
theorem l58 : (Tryd.f58.body.bind (lowC Tryd.prog 27 [8000020, 8000025])) = some c58 := by kernel_rfl
noncomputable def c74 : DCode := (.seq (.region [⟨some 2, .mov (.const .nil), none, []⟩] []) (.seq (.region [⟨some 3, .mov (.tmp 0), none, []⟩,
  ⟨some 4, .lenS (.tmp 3), none, []⟩,
  ⟨some 5, .inl 58 [(.tmp 4)], none, []⟩,
  ⟨some 6, .mov (.tmp 0), none, []⟩,
  ⟨some 7, .append 61 5 1 1 (.tmp 5) (.tmp 6), none, []⟩,
  ⟨some 2, .mov (.tmp 7), none, []⟩] []) .ret))
theorem l74 : (Tryd.f74.body.bind (lowC Tryd.prog 8 [58])) = some c74 := by kernel_rfl
noncomputable def c76 : DCode := (.seq (.region [⟨some 4, .mov (.const .nil), none, []⟩] []) (.seq (.region [⟨some 8, .mov (.tmp 0), none, []⟩,
  ⟨some 9, .len (.tmp 8), none, []⟩,
  ⟨some 10, .inl 58 [(.tmp 9)], none, []⟩,
  ⟨some 5, .mov (.tmp 10), none, []⟩] []) (.seq (.seq (.region [⟨some 11, .mov (.tmp 0), none, []⟩,
  ⟨some 12, .len (.tmp 11), none, []⟩,
  ⟨some 13, .mov (.const (.int .i64 0)), none, []⟩] []) (.block 0 (.loop (.seq (.region [⟨some 14, .bin .lss (.tmp 13) (.tmp 12), none, []⟩] []) (.seq (.cond (.tmp 14) .skip (.exit 0)) (.seq (.block 1 (.seq (.region [⟨some 15, .idxL 1 (.tmp 11) (.tmp 13), none, []⟩,
  ⟨some 16, .load 1 false (.tmp 15), none, []⟩,
  ⟨some 7, .mov (.tmp 16), none, []⟩] []) (.region [⟨some 17, .mov (.tmp 5), none, []⟩,
  ⟨some 18, .mov (.tmp 1), none, []⟩,
  ⟨some 19, .mov (.tmp 7), none, []⟩,
  ⟨some 20, .callv (.tmp 18) [(.tmp 19)], none, []⟩,
  ⟨some 21, .append 61 5 1 1 (.tmp 17) (.tmp 20), none, []⟩,
  ⟨some 5, .mov (.tmp 21), none, []⟩] []))) (.region [⟨some 22, .bin .add (.tmp 13) (.const (.int .i64 1)), none, []⟩,
  ⟨some 13, .mov (.tmp 22), none, []⟩] []))))))) (.seq (.region [⟨some 23, .mov (.tmp 5), none, []⟩,
  ⟨some 4, .mov (.tmp 23), none, []⟩] []) .ret))))
theorem l76 : (Tryd.f76.body.bind (lowC Tryd.prog 24 [58])) = some c76 := by kernel_rfl
noncomputable def c83 : DCode := (.seq (.region [⟨some 4, .mov (.const .nil), none, []⟩] []) (.seq (.region [⟨some 8, .mov (.tmp 0), none, []⟩,
  ⟨some 9, .len (.tmp 8), none, []⟩,
  ⟨some 10, .inl 58 [(.tmp 9)], none, []⟩,
  ⟨some 5, .mov (.tmp 10), none, []⟩] []) (.seq (.seq (.region [⟨some 11, .mov (.tmp 0), none, []⟩,
  ⟨some 12, .len (.tmp 11), none, []⟩,
  ⟨some 13, .mov (.const (.int .i64 0)), none, []⟩] []) (.block 0 (.loop (.seq (.region [⟨some 14, .bin .lss (.tmp 13) (.tmp 12), none, []⟩] []) (.seq (.cond (.tmp 14) .skip (.exit 0)) (.seq (.block 1 (.seq (.region [⟨some 15, .idxL 16 (.tmp 11) (.tmp 13), none, []⟩,
  ⟨some 16, .load 16 true (.tmp 15), none, []⟩,
  ⟨some 7, .alloc [(.int .u8 0), (.int .u8 0), (.int .u8 0), (.int .u8 0), (.int .u8 0), (.int .u8 0), (.int .u8 0), (.int .u8 0), (.int .u8 0), (.int .u8 0), (.int .u8 0), (.int .u8 0), (.int .u8 0), (.int .u8 0), (.int .u8 0), (.int .u8 0)], none, []⟩,
  ⟨none, .store 16 (.tmp 7) (.tmp 16), none, []⟩] []) (.region [⟨some 17, .mov (.tmp 5), none, []⟩,
  ⟨some 18, .mov (.tmp 1), none, []⟩,
  ⟨some 19, .load 16 true (.tmp 7), none, []⟩,
  ⟨some 20, .callv (.tmp 18) [(.tmp 19)], none, []⟩,
  ⟨some 21, .append 61 5 1 1 (.tmp 17) (.tmp 20), none, []⟩,
  ⟨some 5, .mov (.tmp 21), none, []⟩] []))) (.region [⟨some 22, .bin .add (.tmp 13) (.const (.int .i64 1)), none, []⟩,
  ⟨some 13, .mov (.tmp 22), none, []⟩] []))))))) (.seq (.region [⟨some 23, .mov (.tmp 5), none, []⟩,
  ⟨some 4, .mov (.tmp 23), none, []⟩] []) .ret))))
theorem l83 : (Tryd.f83.body.bind (lowC Tryd.prog 24 [58])) = some c83 := by kernel_rfl
noncomputable def c84 : DCode := (.seq (.region [⟨some 1, .box 16 (.tmp 0), none, []⟩,
  ⟨some 2, .mov (.const .nil), none, []⟩] []) (.seq (.region [⟨some 3, .sliceA 16 1 (.tmp 1) none none, none, []⟩,
  ⟨some 4, .inl 96 [(.tmp 3)], none, []⟩,
  ⟨some 2, .mov (.tmp 4), none, []⟩] []) .ret))
theorem l84 : (Tryd.f84.body.bind (lowC Tryd.prog 5 [96])) = some c84 := by kernel_rfl
noncomputable def c44 : DCode := (.seq (.region [⟨some 2, .mov (.const .nil), none, []⟩] []) (.seq (.region [⟨some 3, .mov (.tmp 0), none, []⟩,
  ⟨some 4, .inl 76 [(.tmp 3), (.const (.clos 58 []))], none, []⟩,
  ⟨some 2, .mov (.tmp 4), none, []⟩] []) .ret))
theorem l44 : (Tryd.f44.body.bind (lowC Tryd.prog 5 [76])) = some c44 := by kernel_rfl
noncomputable def c59 : DCode := (.seq (.region [⟨some 2, .mov (.const .nil), none, []⟩] []) (.seq (.region [⟨some 3, .mov (.tmp 0), none, []⟩,
  ⟨some 4, .inl 83 [(.tmp 3), (.const (.clos 84 []))], none, []⟩,
  ⟨some 2, .mov (.tmp 4), none, []⟩] []) .ret))
theorem l59 : (Tryd.f59.body.bind (lowC Tryd.prog 5 [83])) = some c59 := by kernel_rfl
noncomputable def c96 : DCode := (.seq (.region [⟨some 2, .mov (.const .nil), none, []⟩] []) (.seq (.seq (.region [⟨some 3, .mov (.tmp 0), none, []⟩,
  ⟨some 4, .isnil 1 false (.tmp 3), none, []⟩] []) (.cond (.tmp 4) (.seq (.region [⟨some 2, .mov (.const .nil), none, []⟩] []) .ret) .skip)) (.seq (.region [⟨some 5, .buildS 5 1 0 [(.int .u8 0)] [], none, []⟩,
  ⟨some 6, .mov (.tmp 0), none, []⟩,
  ⟨some 7, .append 61 5 1 1 (.tmp 5) (.tmp 6), none, []⟩,
  ⟨some 2, .mov (.tmp 7), none, []⟩] []) .ret)))
theorem l96 : (Tryd.f96.body.bind (lowC Tryd.prog 8 [])) = some c96 := by kernel_rfl
noncomputable def c67 : DCode := (.seq (.region [⟨some 2, .mov (.const .nil), none, []⟩] []) (.seq (.region [⟨some 5, .mov (.tmp 0), none, []⟩,
  ⟨some 6, .conv .u64 (.tmp 5), none, []⟩,
  ⟨some 7, .bin .mul (.tmp 6) (.const (.int .u64 2)), none, []⟩,
  ⟨some 3, .mov (.tmp 7), none, []⟩] []) (.seq (.cut (.seq (.region [⟨some 8, .mov (.tmp 0), none, []⟩,
  ⟨some 9, .bin .lss (.tmp 8) (.const (.int .i64 0)), none, []⟩] []) (.cond (.tmp 9) (.region [⟨some 10, .mov (.tmp 0), none, []⟩,
  ⟨some 11, .bin .sub (.const (.int .i64 (-1))) (.tmp 10), none, []⟩,
  ⟨some 12, .conv .u64 (.tmp 11), none, []⟩,
  ⟨some 13, .bin .mul (.tmp 12) (.const (.int .u64 2)), none, []⟩,
  ⟨some 14, .bin .add (.tmp 13) (.const (.int .u64 1)), none, []⟩,
  ⟨some 3, .mov (.tmp 14), none, []⟩] []) .skip))) (.seq (.region [⟨some 4, .mov (.const .nil), none, []⟩] []) (.seq (.block 0 (.loop (.seq (.seq (.region [⟨some 15, .mov (.tmp 3), none, []⟩,
  ⟨some 16, .bin .geq (.tmp 15) (.const (.int .u64 128)), none, []⟩] []) (.cond (.tmp 16) .skip (.exit 0))) (.block 1 (.seq (.region [⟨some 17, .mov (.tmp 4), none, []⟩,
  ⟨some 18, .mov (.tmp 3), none, []⟩,
  ⟨some 19, .bin .rem (.tmp 18) (.const (.int .u64 128)), none, []⟩,
  ⟨some 20, .conv .u8 (.tmp 19), none, []⟩,
  ⟨some 21, .bin .add (.tmp 20) (.const (.int .u8 128)), none, []⟩,
  ⟨some 22, .buildF 1 1 [(.int .u8 0)] [(0, (.tmp 21))], none, []⟩,
  ⟨some 23, .append 61 5 1 1 (.tmp 17) (.tmp 22), none, []⟩,
  ⟨some 4, .mov (.tmp 23), none, []⟩] []) (.region [⟨some 24, .mov (.tmp 3), none, []⟩,
  ⟨some 25, .bin .quo (.tmp 24) (.const (.int .u64 128)), none, []⟩,
  ⟨some 3, .mov (.tmp 25), none, []⟩] [])))))) (.seq (.region [⟨some 26, .mov (.tmp 4), none, []⟩,
  ⟨some 27, .mov (.tmp 3), none, []⟩,
  ⟨some 28, .conv .u8 (.tmp 27), none, []⟩,
  ⟨some 29, .buildF 1 1 [(.int .u8 0)] [(0, (.tmp 28))], none, []⟩,
  ⟨some 30, .append 61 5 1 1 (.tmp 26) (.tmp 29), none, []⟩,
  ⟨some 2, .mov (.tmp 30), none, []⟩] []) .ret))))))
theorem l67 : (Tryd.f67.body.bind (lowC Tryd.prog 31 [8000022, 8000029, 5000002])) = some c67 := by kernel_rfl
noncomputable def c94 : DCode := (.seq (.region [⟨some 2, .mov (.const .nil), none, []⟩] []) (.seq (.region [⟨some 3, .mov (.tmp 0), none, []⟩,
  ⟨some 4, .lenS (.tmp 3), none, []⟩,
  ⟨some 5, .inl 67 [(.tmp 4)], none, []⟩,
  ⟨some 6, .mov (.tmp 0), none, []⟩,
  ⟨some 7, .append 61 5 1 1 (.tmp 5) (.tmp 6), none, []⟩,
  ⟨some 2, .mov (.tmp 7), none, []⟩] []) .ret))
theorem l94 : (Tryd.f94.body.bind (lowC Tryd.prog 8 [67])) = some c94 := by kernel_rfl
noncomputable def c66 : DCode := (.seq (.region [⟨some 2, .mov (.const .nil), none, []⟩] []) (.seq (.region [⟨some 5, .mov (.tmp 0), none, []⟩,
  ⟨some 6, .len (.tmp 5), none, []⟩,
  ⟨some 7, .inl 67 [(.tmp 6)], none, []⟩,
  ⟨some 3, .mov (.tmp 7), none, []⟩] []) (.seq (.seq (.region [⟨some 4, .mov (.const (.int .i64 0)), none, []⟩] []) (.block 0 (.loop (.seq (.seq (.region [⟨some 8, .mov (.tmp 4), none, []⟩,
  ⟨some 9, .mov (.tmp 0), none, []⟩,
  ⟨some 10, .len (.tmp 9), none, []⟩,
  ⟨some 11, .bin .lss (.tmp 8) (.tmp 10), none, []⟩] []) (.cond (.tmp 11) .skip (.exit 0))) (.seq (.block 1 (.region [⟨some 14, .mov (.tmp 3), none, []⟩,
  ⟨some 15, .mov (.tmp 0), none, []⟩,
  ⟨some 16, .mov (.tmp 4), none, []⟩,
  ⟨some 17, .idxL 1 (.tmp 15) (.tmp 16), none, []⟩,
  ⟨some 18, .load 1 false (.tmp 17), none, []⟩,
  ⟨some 19, .inl 67 [(.tmp 18)], none, []⟩,
  ⟨some 20, .append 61 5 1 1 (.tmp 14) (.tmp 19), none, []⟩,
  ⟨some 3, .mov (.tmp 20), none, []⟩] [])) (.region [⟨some 12, .mov (.tmp 4), none, []⟩,
  ⟨some 13, .bin .add (.tmp 12) (.const (.int .i64 1)), none, []⟩,
  ⟨some 4, .mov (.tmp 13), none, []⟩] [])))))) (.seq (.region [⟨some 21, .mov (.tmp 3), none, []⟩,
  ⟨some 2, .mov (.tmp 21), none, []⟩] []) .ret))))
theorem l66 : (Tryd.f66.body.bind (lowC Tryd.prog 22 [67])) = some c66 := by kernel_rfl
noncomputable def c68 : DCode := (.seq (.region [⟨some 2, .mov (.const .nil), none, []⟩] []) (.seq (.region [⟨some 5, .mov (.tmp 0), none, []⟩,
  ⟨some 6, .len (.tmp 5), none, []⟩,
  ⟨some 7, .inl 67 [(.tmp 6)], none, []⟩,
  ⟨some 3, .mov (.tmp 7), none, []⟩] []) (.seq (.seq (.region [⟨some 4, .mov (.const (.int .i64 0)), none, []⟩] []) (.block 0 (.loop (.seq (.seq (.region [⟨some 8, .mov (.tmp 4), none, []⟩,
  ⟨some 9, .mov (.tmp 0), none, []⟩,
  ⟨some 10, .len (.tmp 9), none, []⟩,
  ⟨some 11, .bin .lss (.tmp 8) (.tmp 10), none, []⟩] []) (.cond (.tmp 11) .skip (.exit 0))) (.seq (.block 1 (.region [⟨some 14, .mov (.tmp 3), none, []⟩,
  ⟨some 15, .mov (.tmp 0), none, []⟩,
  ⟨some 16, .mov (.tmp 4), none, []⟩,
  ⟨some 17, .idxL 16 (.tmp 15) (.tmp 16), none, []⟩,
  ⟨some 18, .sliceA 16 1 (.tmp 17) none none, none, []⟩,
  ⟨some 19, .append 61 5 1 1 (.tmp 14) (.tmp 18), none, []⟩,
  ⟨some 3, .mov (.tmp 19), none, []⟩] [])) (.region [⟨some 12, .mov (.tmp 4), none, []⟩,
  ⟨some 13, .bin .add (.tmp 12) (.const (.int .i64 1)), none, []⟩,
  ⟨some 4, .mov (.tmp 13), none, []⟩] [])))))) (.seq (.region [⟨some 20, .mov (.tmp 3), none, []⟩,
  ⟨some 2, .mov (.tmp 20), none, []⟩] []) .ret))))
theorem l68 : (Tryd.f68.body.bind (lowC Tryd.prog 21 [67])) = some c68 := by kernel_rfl
end Go.RC
end
section
namespace Go.RC
open Go Go.DL Go.Proofs
set_option maxRecDepth 100000
set_option maxHeartbeats 1000000
def vb (z : Nat) : List Int := if h : z < 128 then [(z : Int)] else ((z % 128 + 128 : Nat) : Int) :: vb (z / 128)
termination_by z
decreasing_by omega
theorem vb_lt {z : Nat} (h : z < 128) : vb z = [(z : Int)] := by rw [vb, dif_pos h]
theorem vb_ge {z : Nat} (h : ¬ z < 128) : vb z = ((z % 128 + 128 : Nat) : Int) :: vb (z / 128) := by rw [vb, dif_neg h]
theorem vb_areB (z : Nat) : areB (vb z) := by
  induction z using Nat.strongRecOn with
  | ind z ih =>
    intro b hb
    by_cases h : z < 128
    · rw [vb_lt h] at hb
      rw [List.mem_singleton.1 hb]; omega
    · rw [vb_ge h] at hb
      rcases List.mem_cons.1 hb with rfl | hb
      · omega
      · exact ih (z / 128) (by omega) b hb
theorem vb_len : ∀ (k z : Nat), z < 128 ^ (k + 1) → (vb z).length ≤ k + 1
  | 0, z, h => by rw [vb_lt (by simpa using h)]; simp
  | k + 1, z, h => by
    by_cases h1 : z < 128
    · rw [vb_lt h1]; simp
    · rw [vb_ge h1, List.length_cons]
      have := vb_len k (z / 128) (Nat.div_lt_of_lt_mul (by rw [← Nat.pow_succ']; exact h))
      omega
def zz (n : Int) : Nat := if 0 ≤ n then (2 * n).toNat else (2 * (-1 - n) + 1).toNat
def i64 (n : Int) : Prop := -9223372036854775808 ≤ n ∧ n < 9223372036854775808
theorem zz_lt {n : Int} (h : i64 n) : zz n < 18446744073709551616 := by
  unfold zz; obtain ⟨h1, h2⟩ := h; split <;> omega
def vi (n : Int) : List Int := vb (zz n)
theorem vi_areB (n : Int) : areB (vi n) := vb_areB _
theorem vi_len {n : Int} (h : i64 n) : (vi n).length ≤ 10 := vb_len 9 _ (Nat.lt_of_lt_of_le (zz_lt h) (by decide))
theorem xor_ones {a : Int} (h0 : 0 ≤ a) (h1 : a < 18446744073709551616) : bitsI .xor .u64 a 18446744073709551615 = 18446744073709551615 - a := by
  obtain ⟨a, rfl⟩ := Int.eq_ofNat_of_zero_le h0
  have ha : a < 2 ^ 64 := by omega
  have e1 : (BitVec.ofInt 64 18446744073709551615) = BitVec.allOnes 64 := by decide
  have e2 : (BitVec.ofInt 64 ((a : Nat) : Int)).toNat = a := by
    rw [BitVec.ofInt_natCast, BitVec.toNat_ofNat, Nat.mod_eq_of_lt ha]
  show IntKind.u64.wrap ((BitVec.ofInt 64 ((a : Nat) : Int) ^^^ BitVec.ofInt 64 18446744073709551615).toNat : Int) = _
  rw [e1, BitVec.xor_allOnes, BitVec.toNat_not, e2, w64 (by omega) (by omega)]
  omega
theorem xor_zero {a : Int} (h0 : 0 ≤ a) (h1 : a < 18446744073709551616) : bitsI .xor .u64 a 0 = a := by
  obtain ⟨a, rfl⟩ := Int.eq_ofNat_of_zero_le h0
  have ha : a < 2 ^ 64 := by omega
  have e2 : (BitVec.ofInt 64 ((a : Nat) : Int)).toNat = a := by
    rw [BitVec.ofInt_natCast, BitVec.toNat_ofNat, Nat.mod_eq_of_lt ha]
  show IntKind.u64.wrap ((BitVec.ofInt 64 ((a : Nat) : Int) ^^^ BitVec.ofInt 64 0).toNat : Int) = _
  rw [show BitVec.ofInt 64 0 = 0#64 from rfl, BitVec.xor_zero, e2, w64 (by omega) (by omega)]
theorem wrap64m (n : Int) : IntKind.u64.wrap n = n % 18446744073709551616 := by
  unfold IntKind.wrap
  simp [IntKind.bits, IntKind.signed]
theorem zig {n : Int} (h : i64 n) : bitsI .xor .u64 (IntKind.u64.wrap (IntKind.u64.wrap n * 2 ^ 1)) (IntKind.u64.wrap (n.fdiv (2 ^ 63))) = zz n := by
  obtain ⟨h1, h2⟩ := h
  unfold zz
  rw [show (2 : Int) ^ 1 = 2 from rfl, show (2 : Int) ^ 63 = 9223372036854775808 from rfl]
  rw [Int.fdiv_eq_ediv_of_nonneg _ (by decide)]
  by_cases h0 : 0 ≤ n
  · rw [if_pos h0, show n / 9223372036854775808 = 0 by omega, w64 (n := n) h0 (by omega), w64 (n := n * 2) (by omega) (by omega), w64 (n := 0) (by omega) (by omega), xor_zero (by omega) (by omega)]
    omega
  · rw [if_neg h0, show n / 9223372036854775808 = -1 by omega]
    rw [show IntKind.u64.wrap (-1) = 18446744073709551615 from rfl, xor_ones (by rw [wrap64m]; omega) (by rw [wrap64m]; omega), wrap64m, wrap64m]
    omega
theorem or128 : ∀ b : Fin 256, bitsI .or .u8 (b.val : Int) 128 = ((b.val % 128 + 128 : Nat) : Int) := by decide +kernel
theorem dig128 (z : Nat) : bitsI .or .u8 (IntKind.u8.wrap (z : Int)) 128 = ((z % 128 + 128 : Nat) : Int) := by
  have e : IntKind.u8.wrap (z : Int) = ((z % 256 : Nat) : Int) := by
    unfold IntKind.wrap
    simp [IntKind.bits, IntKind.signed]
  have := or128 ⟨z % 256, Nat.mod_lt _ (by decide)⟩
  dsimp only at this
  rw [e, this]
  omega
theorem flY (xs : List Int) : ∀ t ∈ (xs.map Y).flatMap T.cells, t.flat = true := fun t ht => by
  obtain ⟨x, hx, ht⟩ := List.mem_flatMap.1 ht
  obtain ⟨n, _, rfl⟩ := List.mem_map.1 hx
  rw [List.mem_singleton.1 ht]; rfl
theorem f_Int (n : Int) (h : i64 n) : FCalls Tryd.prog 58 [I n] 5 1 ((vi n).map Y) [] := by
  refine fcalls_low (rs := [.tmp 2]) mixed Tryd.func58 l58 rfl rfl rfl (Nat.le_of_ble_eq_true rfl) ?_
  have hz := zz_lt h
  have hl := vi_len h
  have hzig := zig h
  unfold vi at hl ⊢
  generalize zz n = z0 at hz hl hzig
  repeat' ((conv => whnf); first | exact trivial | refine nT_ ?_ | refine aE1 ?_ | refine aE0 ?_ | refine aN1 ?_ | refine aN0 ?_ | refine aD1 ?_ | refine aD0 ?_ | refine nE_ (fun hq => ?_) (fun hq => ?_) | refine nN_ (fun hq => ?_) (fun hq => ?_) | refine nD_ (fun hq => ?_) (fun hq => ?_) | refine rb1 ?_ | refine rb0 ?_ | refine rbx ?_ | refine rix ?_ | refine aS ?_ | fail)
  refine wpC_loopE 0 (α := Nat × Nat × List Int) (β := Nat × Nat × List Int) (fun q => {sl := [(3, .t (Q q.2.1)), (4, .own q.1 5 1 (q.2.2.map Y))], bx := []})
    (fun q => q.2.1 < 18446744073709551616 ∧ q.2.2 ++ vb q.2.1 = vb z0) (fun q => q.2.1) (fun q => {sl := [(3, .t (Q q.2.1)), (4, .own q.1 5 1 (q.2.2.map Y))], bx := []}) (fun q => q.2.1 < 128 ∧ q.2.2 ++ vb q.2.1 = vb z0) (21, z0, []) (by dsimp only; exact ⟨hz, rfl⟩) ?_ ?_ ?_
  · repeat' (first | ((refine leT (congrArg Q ?_); rw [← hzig]; rfl)) | exact trivial | exact LeV.same _ | exact LeB.same _ | exact rfl | exact fun _ _ _ => trivial | exact lI | exact LeV.nil _ _ _ | exact lB | refine leBd ?_ | refine leOwn ?_ | refine And.intro ?_ ?_)
  · rintro ⟨q, z, out⟩ ⟨h1, h2⟩
    dsimp only at h1 h2
    rcases Nat.lt_or_ge z 128 with h | h
    · repeat' ((conv => whnf); first | exact trivial | refine now_D0 (by omega) ?_ | refine nT_ ?_ | refine aE1 ?_ | refine aE0 ?_ | refine aN1 ?_ | refine aN0 ?_ | refine aD1 ?_ | refine aD0 ?_ | refine nE_ (fun hq => ?_) (fun hq => ?_) | refine nN_ (fun hq => ?_) (fun hq => ?_) | refine nD_ (fun hq => ?_) (fun hq => ?_) | refine rb1 ?_ | refine rb0 ?_ | refine rbx ?_ | refine rix ?_ | refine aS ?_ | fail)
      exact ⟨(q, z, out), ⟨h, h2⟩, by repeat' (first | exact trivial | exact LeV.same _ | exact LeB.same _ | exact rfl | exact fun _ _ _ => trivial | exact lI | exact LeV.nil _ _ _ | exact lB | refine leBd ?_ | refine leOwn ?_ | refine And.intro ?_ ?_)⟩
    · have e := vb_ge (z := z) (by omega)
      rw [e] at h2
      have hol := congrArg List.length h2
      rw [List.length_append, List.length_cons] at hol
      have hdiv : (z : Int).fdiv (2 ^ 7) = (z / 128 : Nat) := by
        rw [Int.fdiv_eq_ediv_of_nonneg _ (by decide)]; rfl
      repeat' ((conv => whnf); first | exact trivial | refine now_D1 (by omega) ?_ | refine nT_ ?_ | refine aE1 ?_ | refine aE0 ?_ | refine aN1 ?_ | refine aN0 ?_ | refine aD1 ?_ | refine aD0 ?_ | refine nE_ (fun hq => ?_) (fun hq => ?_) | refine nN_ (fun hq => ?_) (fun hq => ?_) | refine nD_ (fun hq => ?_) (fun hq => ?_) | refine rb1 ?_ | refine rb0 ?_ | refine rbx ?_ | refine rix ?_ | (refine And.intro (by first | ((simp; omega); done) | fail) ?_) | refine aS ?_ | fail)
      refine ⟨(21, z / 128, out ++ [((z % 128 + 128 : Nat) : Int)]), ⟨by dsimp only; omega, by simpa using h2⟩, by dsimp only; omega, ?_⟩
      repeat' (first | ((refine leT (congrArg Q ?_); exact hdiv.symm)) | exact trivial | exact LeV.same _ | exact LeB.same _ | exact rfl | exact fun _ _ _ => trivial | exact lI | exact LeV.nil _ _ _ | exact lB | refine leBd ?_ | refine leOwn ?_ | refine And.intro ?_ ?_)
      rw [List.map_append, List.map_singleton, ← dig128]
      rfl
  rintro ⟨q, z, out⟩ ⟨h1, h2⟩
  dsimp only at h1 h2
  rw [vb_lt h1] at h2
  have hol := congrArg List.length h2
  rw [List.length_append, List.length_singleton] at hol
  have e1 : IntKind.u8.wrap (z : Int) = z := w8 (by omega) (by omega)
  rw [← h2]
  repeat' ((conv => whnf); first | exact trivial | refine nT_ ?_ | refine aE1 ?_ | refine aE0 ?_ | refine aN1 ?_ | refine aN0 ?_ | refine aD1 ?_ | refine aD0 ?_ | refine nE_ (fun hq => ?_) (fun hq => ?_) | refine nN_ (fun hq => ?_) (fun hq => ?_) | refine nD_ (fun hq => ?_) (fun hq => ?_) | refine rb1 ?_ | refine rb0 ?_ | refine rbx ?_ | refine rix ?_ | (refine And.intro (by first | (exact flY _; done) | ((simp; omega); done) | fail) ?_) | refine aS ?_ | fail)
  refine ⟨_, rfl, .inl ⟨26, congrArg (V.own 26 5 1) ?_⟩⟩
  dsimp only
  rw [e1, List.map_append]
  rfl
theorem or_plus : ∀ b : Fin 128, IntKind.u8.wrap (IntKind.u8.wrap (b.val : Int) + 128) = ((b.val + 128 : Nat) : Int) := by decide +kernel
theorem zig2 {n : Int} (h : i64 n) : (n < 0 → IntKind.u64.wrap (IntKind.u64.wrap (IntKind.u64.wrap (IntKind.i64.wrap (-1 - n)) * 2) + 1) = zz n) ∧ (¬ n < 0 → IntKind.u64.wrap (IntKind.u64.wrap n * 2) = zz n) := by
  obtain ⟨h1, h2⟩ := h
  unfold zz
  refine ⟨fun h0 => ?_, fun h0 => ?_⟩
  · rw [if_neg (by omega), wrap_id (by omega) (by omega), w64 (n := -1 - n) (by omega) (by omega), w64 (n := (-1 - n) * 2) (by omega) (by omega), w64 (by omega) (by omega)]
    omega
  · rw [if_pos (by omega), w64 (n := n) (by omega) (by omega), w64 (by omega) (by omega)]
    omega
theorem f_refInt (n : Int) (h : i64 n) : FCalls Tryd.prog 67 [I n] 5 1 ((vi n).map Y) [] := by
  refine fcalls_low (rs := [.tmp 2]) mixed Tryd.func67 l67 rfl rfl rfl (Nat.le_of_ble_eq_true rfl) ?_
  have hz := zz_lt h
  have hl := vi_len h
  obtain ⟨hz1, hz2⟩ := zig2 h
  unfold vi at hl ⊢
  generalize zz n = z0 at hz hl hz1 hz2
  refine wpC_cut (β := Unit) (fun _ => {sl := [(3, .t (Q z0))], bx := []}) (fun _ => True) ?_ ?_
  · repeat' ((conv => whnf); first | exact trivial | refine nT_ ?_ | refine aE1 ?_ | refine aE0 ?_ | refine aN1 ?_ | refine aN0 ?_ | refine aD1 ?_ | refine aD0 ?_ | refine nE_ (fun hq => ?_) (fun hq => ?_) | refine nN_ (fun hq => ?_) (fun hq => ?_) | refine nD_ (fun hq => ?_) (fun hq => ?_) | refine rb1 ?_ | refine rb0 ?_ | refine rbx ?_ | refine rix ?_ | refine aS ?_ | fail)
    · exact ⟨(), trivial, by repeat' (first | ((refine leT (congrArg Q ?_); exact (hz1 hq).symm)) | exact trivial | exact LeV.same _ | exact LeB.same _ | exact rfl | exact fun _ _ _ => trivial | exact lI | exact LeV.nil _ _ _ | exact lB | refine leBd ?_ | refine leOwn ?_ | refine And.intro ?_ ?_)⟩
    · exact ⟨(), trivial, by repeat' (first | ((refine leT (congrArg Q ?_); exact (hz2 hq).symm)) | exact trivial | exact LeV.same _ | exact LeB.same _ | exact rfl | exact fun _ _ _ => trivial | exact lI | exact LeV.nil _ _ _ | exact lB | refine leBd ?_ | refine leOwn ?_ | refine And.intro ?_ ?_)⟩
  rintro - -
  repeat' ((conv => whnf); first | exact trivial | refine nT_ ?_ | refine aE1 ?_ | refine aE0 ?_ | refine aN1 ?_ | refine aN0 ?_ | refine aD1 ?_ | refine aD0 ?_ | refine nE_ (fun hq => ?_) (fun hq => ?_) | refine nN_ (fun hq => ?_) (fun hq => ?_) | refine nD_ (fun hq => ?_) (fun hq => ?_) | refine rb1 ?_ | refine rb0 ?_ | refine rbx ?_ | refine rix ?_ | refine aS ?_ | fail)
  refine wpC_loopE 0 (α := Nat × Nat × List Int) (β := Nat × Nat × List Int) (fun q => {sl := [(3, .t (Q q.2.1)), (4, .own q.1 5 1 (q.2.2.map Y))], bx := []})
    (fun q => q.2.1 < 18446744073709551616 ∧ q.2.2 ++ vb q.2.1 = vb z0) (fun q => q.2.1) (fun q => {sl := [(3, .t (Q q.2.1)), (4, .own q.1 5 1 (q.2.2.map Y))], bx := []}) (fun q => q.2.1 < 128 ∧ q.2.2 ++ vb q.2.1 = vb z0) (23, z0, []) (by dsimp only; exact ⟨hz, rfl⟩) ?_ ?_ ?_
  · repeat' (first | exact trivial | exact LeV.same _ | exact LeB.same _ | exact rfl | exact fun _ _ _ => trivial | exact lI | exact LeV.nil _ _ _ | exact lB | refine leBd ?_ | refine leOwn ?_ | refine And.intro ?_ ?_)
  · rintro ⟨q, z, out⟩ ⟨h1, h2⟩
    dsimp only at h1 h2
    rcases Nat.lt_or_ge z 128 with h | h
    · repeat' ((conv => whnf); first | exact trivial | refine now_D0 (by omega) ?_ | refine nT_ ?_ | refine aE1 ?_ | refine aE0 ?_ | refine aN1 ?_ | refine aN0 ?_ | refine aD1 ?_ | refine aD0 ?_ | refine nE_ (fun hq => ?_) (fun hq => ?_) | refine nN_ (fun hq => ?_) (fun hq => ?_) | refine nD_ (fun hq => ?_) (fun hq => ?_) | refine rb1 ?_ | refine rb0 ?_ | refine rbx ?_ | refine rix ?_ | refine aS ?_ | fail)
      exact ⟨(q, z, out), ⟨h, h2⟩, by repeat' (first | exact trivial | exact LeV.same _ | exact LeB.same _ | exact rfl | exact fun _ _ _ => trivial | exact lI | exact LeV.nil _ _ _ | exact lB | refine leBd ?_ | refine leOwn ?_ | refine And.intro ?_ ?_)⟩
    · have e := vb_ge (z := z) (by omega)
      rw [e] at h2
      have hol := congrArg List.length h2
      rw [List.length_append, List.length_cons] at hol
      have hdiv : IntKind.u64.wrap ((z : Int).tdiv 128) = (z / 128 : Nat) := by
        rw [show (z : Int).tdiv 128 = (z / 128 : Nat) from rfl, w64 (by omega) (by omega)]
      have hrem : IntKind.u8.wrap (IntKind.u8.wrap ((z : Int).tmod 128) + 128) = (z % 128 + 128 : Nat) := or_plus ⟨z % 128, Nat.mod_lt _ (by decide)⟩
      repeat' ((conv => whnf); first | exact trivial | refine now_D1 (by omega) ?_ | refine nT_ ?_ | refine aE1 ?_ | refine aE0 ?_ | refine aN1 ?_ | refine aN0 ?_ | refine aD1 ?_ | refine aD0 ?_ | refine nE_ (fun hq => ?_) (fun hq => ?_) | refine nN_ (fun hq => ?_) (fun hq => ?_) | refine nD_ (fun hq => ?_) (fun hq => ?_) | refine rb1 ?_ | refine rb0 ?_ | refine rbx ?_ | refine rix ?_ | (refine And.intro (by first | ((simp; omega); done) | fail) ?_) | refine aS ?_ | fail)
      refine ⟨(23, z / 128, out ++ [((z % 128 + 128 : Nat) : Int)]), ⟨by dsimp only; omega, by simpa using h2⟩, by dsimp only; omega, ?_⟩
      repeat' (first | ((refine leT (congrArg Q ?_); exact hdiv.symm)) | exact trivial | exact LeV.same _ | exact LeB.same _ | exact rfl | exact fun _ _ _ => trivial | exact lI | exact LeV.nil _ _ _ | exact lB | refine leBd ?_ | refine leOwn ?_ | refine And.intro ?_ ?_)
      rw [List.map_append, List.map_singleton, ← hrem]
      rfl
  rintro ⟨q, z, out⟩ ⟨h1, h2⟩
  dsimp only at h1 h2
  rw [vb_lt h1] at h2
  have hol := congrArg List.length h2
  rw [List.length_append, List.length_singleton] at hol
  have e1 : IntKind.u8.wrap (z : Int) = z := w8 (by omega) (by omega)
  rw [← h2]
  repeat' ((conv => whnf); first | exact trivial | refine nT_ ?_ | refine aE1 ?_ | refine aE0 ?_ | refine aN1 ?_ | refine aN0 ?_ | refine aD1 ?_ | refine aD0 ?_ | refine nE_ (fun hq => ?_) (fun hq => ?_) | refine nN_ (fun hq => ?_) (fun hq => ?_) | refine nD_ (fun hq => ?_) (fun hq => ?_) | refine rb1 ?_ | refine rb0 ?_ | refine rbx ?_ | refine rix ?_ | (refine And.intro (by first | (exact flY _; done) | ((simp; omega); done) | fail) ?_) | refine aS ?_ | fail)
  refine ⟨_, rfl, .inl ⟨30, congrArg (V.own 30 5 1) ?_⟩⟩
  dsimp only
  rw [e1, List.map_append]
  rfl
end Go.RC
end
section
namespace Go.RC
open Go Go.DL Go.Proofs
set_option maxRecDepth 100000
set_option maxHeartbeats 1000000
def vs (s : ByteArray) : List Int := vi s.size ++ sB s
theorem i64_nat {n : Nat} (h : n < 2 ^ 62) : i64 (n : Int) := by unfold i64; omega
theorem f_Bytes (s : ByteArray) (h : s.size < 2 ^ 40) : FCalls Tryd.prog 74 [.str s] 5 1 ((vs s).map Y) [] := by
  refine fcalls_low (rs := [.tmp 2]) mixed Tryd.func74 l74 rfl rfl rfl (Nat.le_of_ble_eq_true rfl) ?_
  have hi := i64_nat (n := s.size) (by omega)
  have hl := vi_len hi
  have hb : (bytesT s).length = s.size := by rw [bytesT_sB, List.length_map, sB_len]
  repeat' ((conv => whnf); first | exact trivial | refine WC_own rfl (f_Int s.size hi) ?_ | refine nT_ ?_ | refine aE1 ?_ | refine aE0 ?_ | refine aN1 ?_ | refine aN0 ?_ | refine aD1 ?_ | refine aD0 ?_ | refine nE_ (fun hq => ?_) (fun hq => ?_) | refine nN_ (fun hq => ?_) (fun hq => ?_) | refine nD_ (fun hq => ?_) (fun hq => ?_) | refine rb1 ?_ | refine rb0 ?_ | refine rbx ?_ | refine rix ?_ | (refine And.intro (by first | (exact flY _; done) | ((simp [hb]; omega); done) | fail) ?_) | refine aS ?_ | fail)
  refine ⟨_, rfl, .inl ⟨7, congrArg (V.own 7 5 1) ?_⟩⟩
  unfold vs
  rw [List.map_append, bytesT_sB]
theorem f_refBytes (s : ByteArray) (h : s.size < 2 ^ 40) : FCalls Tryd.prog 94 [.str s] 5 1 ((vs s).map Y) [] := by
  refine fcalls_low (rs := [.tmp 2]) mixed Tryd.func94 l94 rfl rfl rfl (Nat.le_of_ble_eq_true rfl) ?_
  have hi := i64_nat (n := s.size) (by omega)
  have hl := vi_len hi
  have hb : (bytesT s).length = s.size := by rw [bytesT_sB, List.length_map, sB_len]
  repeat' ((conv => whnf); first | exact trivial | refine WC_own rfl (f_refInt s.size hi) ?_ | refine nT_ ?_ | refine aE1 ?_ | refine aE0 ?_ | refine aN1 ?_ | refine aN0 ?_ | refine aD1 ?_ | refine aD0 ?_ | refine nE_ (fun hq => ?_) (fun hq => ?_) | refine nN_ (fun hq => ?_) (fun hq => ?_) | refine nD_ (fun hq => ?_) (fun hq => ?_) | refine rb1 ?_ | refine rb0 ?_ | refine rbx ?_ | refine rix ?_ | (refine And.intro (by first | (exact flY _; done) | ((simp [hb]; omega); done) | fail) ?_) | refine aS ?_ | fail)
  refine ⟨_, rfl, .inl ⟨7, congrArg (V.own 7 5 1) ?_⟩⟩
  unfold vs
  rw [List.map_append, bytesT_sB]
def vis (l : List Int) : List Int := vi l.length ++ l.flatMap vi
theorem flat_take {α : Type} (f : α → List Int) {l : List α} {i : Nat} (h : i < l.length) : (l.take (i + 1)).flatMap f = (l.take i).flatMap f ++ f l[i] := by
  rw [List.take_succ_eq_append_getElem h, List.flatMap_append]; simp
theorem flat_le {α : Type} (f : α → List Int) (k : Nat) : ∀ {l : List α}, (∀ x ∈ l, (f x).length ≤ k) → (l.flatMap f).length ≤ k * l.length
  | [], _ => by simp
  | x :: l, h => by
    have h1 := flat_le f k (l := l) (fun y hy => h y (by simp [hy]))
    have h2 := h x (by simp)
    rw [List.flatMap_cons, List.length_append, List.length_cons, Nat.mul_add]
    omega
theorem f_list (l : List Int) (h : l.length < 2 ^ 40) (hi : ∀ x ∈ l, i64 x) : FCalls Tryd.prog 76 [.slice 1 (l.map I), .clos 58 []] 5 1 ((vis l).map Y) [] := by
  refine fcalls_low (rs := [.tmp 4]) mixed Tryd.func76 l76 rfl rfl rfl (Nat.le_of_ble_eq_true rfl) ?_
  have h0 := i64_nat (n := l.length) (by omega)
  have hl0 := vi_len h0
  repeat' ((conv => whnf); first | exact trivial | (refine WC_own (ts := [I l.length]) (by simp; rfl) (f_Int l.length h0) ?_) | refine nT_ ?_ | refine aE1 ?_ | refine aE0 ?_ | refine aN1 ?_ | refine aN0 ?_ | refine aD1 ?_ | refine aD0 ?_ | refine nE_ (fun hq => ?_) (fun hq => ?_) | refine nN_ (fun hq => ?_) (fun hq => ?_) | refine nD_ (fun hq => ?_) (fun hq => ?_) | refine rb1 ?_ | refine rb0 ?_ | refine rbx ?_ | refine rix ?_ | refine aS ?_ | fail)
  refine wpC_loopE 0 (α := Nat × Nat) (β := Nat) (fun q => {sl := [(1, .t (.clos 58 [])), (5, .own q.1 5 1 ((vi l.length ++ (l.take q.2).flatMap vi).map Y)), (11, .t (.slice 1 (l.map I))), (12, .t (I l.length)), (13, .t (I q.2))], bx := []})
    (fun q => q.2 ≤ l.length) (fun q => l.length - q.2) (fun q => {sl := [(5, .own q 5 1 ((vis l).map Y))], bx := []}) (fun _ => True) (10, 0) (by simp) ?_ ?_ ?_
  · repeat' (first | ((refine leI ?_; simp; done)) | exact trivial | exact LeV.same _ | exact LeB.same _ | exact rfl | exact fun _ _ _ => trivial | exact lI | exact LeV.nil _ _ _ | exact lB | refine leBd ?_ | refine leOwn ?_ | refine And.intro ?_ ?_)
    simp
  · rintro ⟨q, i⟩ hq
    dsimp only at hq
    rcases Nat.lt_or_ge i l.length with h1 | h1
    · have hx := hi l[i] (List.getElem_mem h1)
      have hxl := vi_len hx
      have hfl := flat_le vi 10 (l := l.take i) (fun x hx => vi_len (hi x (List.mem_of_mem_take hx)))
      rw [List.length_take] at hfl
      repeat' ((conv => whnf); first | exact trivial | (refine nv_ (I l[i]) (by first | ((simp [h1]); done) | fail) ?_) | refine k_call _ ((f_Int l[i] hx).dcalls) ?_ | refine nT_ ?_ | refine aE1 ?_ | refine aE0 ?_ | refine aN1 ?_ | refine aN0 ?_ | refine aD1 ?_ | refine aD0 ?_ | refine nE_ (fun hq => ?_) (fun hq => ?_) | refine nN_ (fun hq => ?_) (fun hq => ?_) | refine nD_ (fun hq => ?_) (fun hq => ?_) | refine rb1 ?_ | refine rb0 ?_ | refine rbx ?_ | refine rix ?_ | (refine And.intro (by first | ((simp; omega); done) | ((simp only [List.length_map, List.length_append]; omega); done) | fail) ?_) | refine aS ?_ | fail)
      refine ⟨(21, i + 1), by dsimp only; omega, by dsimp only; omega, ?_⟩
      repeat' (first | exact trivial | exact LeV.same _ | exact LeB.same _ | exact rfl | exact fun _ _ _ => trivial | exact lI | exact LeV.nil _ _ _ | exact lB | refine leBd ?_ | refine leOwn ?_ | refine And.intro ?_ ?_)
      rw [flat_take vi h1]
      simp
    · have : i = l.length := by omega
      subst this
      repeat' ((conv => whnf); first | exact trivial | refine nT_ ?_ | refine aE1 ?_ | refine aE0 ?_ | refine aN1 ?_ | refine aN0 ?_ | refine aD1 ?_ | refine aD0 ?_ | refine nE_ (fun hq => ?_) (fun hq => ?_) | refine nN_ (fun hq => ?_) (fun hq => ?_) | refine nD_ (fun hq => ?_) (fun hq => ?_) | refine rb1 ?_ | refine rb0 ?_ | refine rbx ?_ | refine rix ?_ | refine aS ?_ | fail)
      exact ⟨q, trivial, by repeat' (first | ((refine leOwn ?_; rw [List.take_length]; rfl)) | exact trivial | exact LeV.same _ | exact LeB.same _ | exact rfl | exact fun _ _ _ => trivial | exact lI | exact LeV.nil _ _ _ | exact lB | refine leBd ?_ | refine leOwn ?_ | refine And.intro ?_ ?_)⟩
  rintro q -
  repeat' ((conv => whnf); first | exact trivial | refine nT_ ?_ | refine aE1 ?_ | refine aE0 ?_ | refine aN1 ?_ | refine aN0 ?_ | refine aD1 ?_ | refine aD0 ?_ | refine nE_ (fun hq => ?_) (fun hq => ?_) | refine nN_ (fun hq => ?_) (fun hq => ?_) | refine nD_ (fun hq => ?_) (fun hq => ?_) | refine rb1 ?_ | refine rb0 ?_ | refine rbx ?_ | refine rix ?_ | (refine And.intro (by first | (exact flY _; done) | fail) ?_) | refine aS ?_ | fail)
  exact ⟨_, rfl, .inl ⟨q, rfl⟩⟩
theorem f_Ints (l : List Int) (h : l.length < 2 ^ 40) (hi : ∀ x ∈ l, i64 x) : FCalls Tryd.prog 44 [.slice 1 (l.map I)] 5 1 ((vis l).map Y) [] := by
  refine fcalls_low (rs := [.tmp 2]) mixed Tryd.func44 l44 rfl rfl rfl (Nat.le_of_ble_eq_true rfl) ?_
  repeat' ((conv => whnf); first | exact trivial | refine WC_own rfl (f_list l h hi) ?_ | refine nT_ ?_ | refine aE1 ?_ | refine aE0 ?_ | refine aN1 ?_ | refine aN0 ?_ | refine aD1 ?_ | refine aD0 ?_ | refine nE_ (fun hq => ?_) (fun hq => ?_) | refine nN_ (fun hq => ?_) (fun hq => ?_) | refine nD_ (fun hq => ?_) (fun hq => ?_) | refine rb1 ?_ | refine rb0 ?_ | refine rbx ?_ | refine rix ?_ | (refine And.intro (by first | (exact flY _; done) | fail) ?_) | refine aS ?_ | fail)
  exact ⟨_, rfl, .inl ⟨_, rfl⟩⟩
theorem f_refInts (l : List Int) (h : l.length < 2 ^ 40) (hi : ∀ x ∈ l, i64 x) : FCalls Tryd.prog 66 [.slice 1 (l.map I)] 5 1 ((vis l).map Y) [] := by
  refine fcalls_low (rs := [.tmp 2]) mixed Tryd.func66 l66 rfl rfl rfl (Nat.le_of_ble_eq_true rfl) ?_
  have h0 := i64_nat (n := l.length) (by omega)
  have hl0 := vi_len h0
  repeat' ((conv => whnf); first | exact trivial | (refine WC_own (ts := [I l.length]) (by simp; rfl) (f_refInt l.length h0) ?_) | refine nT_ ?_ | refine aE1 ?_ | refine aE0 ?_ | refine aN1 ?_ | refine aN0 ?_ | refine aD1 ?_ | refine aD0 ?_ | refine nE_ (fun hq => ?_) (fun hq => ?_) | refine nN_ (fun hq => ?_) (fun hq => ?_) | refine nD_ (fun hq => ?_) (fun hq => ?_) | refine rb1 ?_ | refine rb0 ?_ | refine rbx ?_ | refine rix ?_ | refine aS ?_ | fail)
  refine wpC_loopE 0 (α := Nat × Nat) (β := Nat) (fun q => {sl := [(0, .t (.slice 1 (l.map I))), (3, .own q.1 5 1 ((vi l.length ++ (l.take q.2).flatMap vi).map Y)), (4, .t (I q.2))], bx := []})
    (fun q => q.2 ≤ l.length) (fun q => l.length - q.2) (fun q => {sl := [(3, .own q 5 1 ((vis l).map Y))], bx := []}) (fun _ => True) (7, 0) (by simp) ?_ ?_ ?_
  · repeat' (first | exact trivial | exact LeV.same _ | exact LeB.same _ | exact rfl | exact fun _ _ _ => trivial | exact lI | exact LeV.nil _ _ _ | exact lB | refine leBd ?_ | refine leOwn ?_ | refine And.intro ?_ ?_)
    simp
  · rintro ⟨q, i⟩ hq
    dsimp only at hq
    rcases Nat.lt_or_ge i l.length with h1 | h1
    · have hx := hi l[i] (List.getElem_mem h1)
      have hxl := vi_len hx
      have hfl := flat_le vi 10 (l := l.take i) (fun x hx => vi_len (hi x (List.mem_of_mem_take hx)))
      rw [List.length_take] at hfl
      repeat' ((conv => whnf); first | exact trivial | (refine nv_ (I l[i]) (by first | ((simp [h1]); done) | fail) ?_) | refine k_call _ ((f_refInt l[i] hx).dcalls) ?_ | refine WC_dc rfl (f_refInt l[i] hx).dcalls (.inl rfl) ?_ | refine now_D1 (by simpa using h1) ?_ | refine nT_ ?_ | refine aE1 ?_ | refine aE0 ?_ | refine aN1 ?_ | refine aN0 ?_ | refine aD1 ?_ | refine aD0 ?_ | refine nE_ (fun hq => ?_) (fun hq => ?_) | refine nN_ (fun hq => ?_) (fun hq => ?_) | refine nD_ (fun hq => ?_) (fun hq => ?_) | refine rb1 ?_ | refine rb0 ?_ | refine rbx ?_ | refine rix ?_ | (refine And.intro (by first | ((simp; omega); done) | ((simp only [List.length_map, List.length_append]; omega); done) | fail) ?_) | refine aS ?_ | fail)
      refine ⟨(20, i + 1), by dsimp only; omega, by dsimp only; omega, ?_⟩
      repeat' (first | exact trivial | exact LeV.same _ | exact LeB.same _ | exact rfl | exact fun _ _ _ => trivial | exact lI | exact LeV.nil _ _ _ | exact lB | refine leBd ?_ | refine leOwn ?_ | refine And.intro ?_ ?_)
      rw [flat_take vi h1]
      simp
    · have : i = l.length := by omega
      subst this
      repeat' ((conv => whnf); first | exact trivial | refine now_D0 (by simp) ?_ | refine nT_ ?_ | refine aE1 ?_ | refine aE0 ?_ | refine aN1 ?_ | refine aN0 ?_ | refine aD1 ?_ | refine aD0 ?_ | refine nE_ (fun hq => ?_) (fun hq => ?_) | refine nN_ (fun hq => ?_) (fun hq => ?_) | refine nD_ (fun hq => ?_) (fun hq => ?_) | refine rb1 ?_ | refine rb0 ?_ | refine rbx ?_ | refine rix ?_ | refine aS ?_ | fail)
      exact ⟨q, trivial, by repeat' (first | ((refine leOwn ?_; rw [List.take_length]; rfl)) | exact trivial | exact LeV.same _ | exact LeB.same _ | exact rfl | exact fun _ _ _ => trivial | exact lI | exact LeV.nil _ _ _ | exact lB | refine leBd ?_ | refine leOwn ?_ | refine And.intro ?_ ?_)⟩
  rintro q -
  repeat' ((conv => whnf); first | exact trivial | refine nT_ ?_ | refine aE1 ?_ | refine aE0 ?_ | refine aN1 ?_ | refine aN0 ?_ | refine aD1 ?_ | refine aD0 ?_ | refine nE_ (fun hq => ?_) (fun hq => ?_) | refine nN_ (fun hq => ?_) (fun hq => ?_) | refine nD_ (fun hq => ?_) (fun hq => ?_) | refine rb1 ?_ | refine rb0 ?_ | refine rbx ?_ | refine rix ?_ | (refine And.intro (by first | (exact flY _; done) | fail) ?_) | refine aS ?_ | fail)
  exact ⟨_, rfl, .inl ⟨q, rfl⟩⟩
abbrev dg16 (d : List Int) : T := .agg (d.map Y)
def digs (l : List (List Int)) : List Int := vi l.length ++ l.flatten
theorem f_Clone (d : List Int) (h0 : d ≠ []) (h : d.length < 2 ^ 40) : FCalls Tryd.prog 96 [.slice 1 (d.map Y)] 5 1 (d.map Y) [] := by
  refine fcalls_low (rs := [.tmp 2]) mixed Tryd.func96 l96 rfl rfl rfl (Nat.le_of_ble_eq_true rfl) ?_
  have hne : 0 < ((d.map Y).flatMap T.cells).length := by
    rw [flat_ones (mones (fun _ => rfl) d), List.length_map]
    exact List.length_pos_iff.2 h0
  repeat' ((conv => whnf); first | exact trivial | refine nT_ ?_ | refine aE1 ?_ | refine aE0 ?_ | refine aN1 ?_ | refine aN0 ?_ | refine aD1 ?_ | refine aD0 ?_ | refine nE_ (fun hq => ?_) (fun hq => ?_) | refine nN_ (fun hq => ?_) (fun hq => ?_) | refine nD_ (fun hq => ?_) (fun hq => ?_) | refine rb1 ?_ | refine rb0 ?_ | refine rbx ?_ | refine rix ?_ | (refine And.intro (by first | (exact hne; done) | (exact flY _; done) | ((simp; omega); done) | fail) ?_) | refine aS ?_ | fail)
  exact ⟨_, rfl, .inl ⟨7, rfl⟩⟩
theorem f_digest (d : List Int) (h : d.length = 16) : FCalls Tryd.prog 84 [dg16 d] 5 1 (d.map Y) [] := by
  refine fcalls_low (rs := [.tmp 2]) mixed Tryd.func84 l84 rfl rfl rfl (Nat.le_of_ble_eq_true rfl) ?_
  have hc : chunk 1 16 (d.map Y) = d.map Y := chunk1 d 16 h
  repeat' ((conv => whnf); first | exact trivial | (refine WC_own (ts := [.slice 1 (chunk 1 16 (d.map Y))]) rfl (by rw [hc]; exact f_Clone d (by intro e; rw [e] at h; cases h) (by omega)) ?_) | refine nT_ ?_ | refine aE1 ?_ | refine aE0 ?_ | refine aN1 ?_ | refine aN0 ?_ | refine aD1 ?_ | refine aD0 ?_ | refine nE_ (fun hq => ?_) (fun hq => ?_) | refine nN_ (fun hq => ?_) (fun hq => ?_) | refine nD_ (fun hq => ?_) (fun hq => ?_) | refine rb1 ?_ | refine rb0 ?_ | refine rbx ?_ | refine rix ?_ | (refine And.intro (by first | ((simp [h]; done); done) | (exact flY _; done) | fail) ?_) | refine aS ?_ | fail)
  exact ⟨_, rfl, .inl ⟨_, rfl⟩⟩
theorem flatten_take {l : List (List Int)} {i : Nat} (h : i < l.length) : (l.take (i + 1)).flatten = (l.take i).flatten ++ l[i] := by
  rw [List.take_succ_eq_append_getElem h, List.flatten_append]; simp
theorem flatten_le : ∀ {l : List (List Int)}, (∀ x ∈ l, x.length = 16) → l.flatten.length ≤ 16 * l.length
  | [], _ => by simp
  | x :: l, h => by
    have h1 := flatten_le (l := l) (fun y hy => h y (by simp [hy]))
    have h2 := h x (by simp)
    rw [List.flatten_cons, List.length_append, List.length_cons, Nat.mul_add]
    omega
theorem f_listD (l : List (List Int)) (h : l.length < 2 ^ 40) (hi : ∀ x ∈ l, x.length = 16) : FCalls Tryd.prog 83 [.slice 16 (l.map dg16), .clos 84 []] 5 1 ((digs l).map Y) [] := by
  refine fcalls_low (rs := [.tmp 4]) mixed Tryd.func83 l83 rfl rfl rfl (Nat.le_of_ble_eq_true rfl) ?_
  have h0 := i64_nat (n := l.length) (by omega)
  have hl0 := vi_len h0
  repeat' ((conv => whnf); first | exact trivial | (refine WC_own (ts := [I l.length]) (by simp; rfl) (f_Int l.length h0) ?_) | refine nT_ ?_ | refine aE1 ?_ | refine aE0 ?_ | refine aN1 ?_ | refine aN0 ?_ | refine aD1 ?_ | refine aD0 ?_ | refine nE_ (fun hq => ?_) (fun hq => ?_) | refine nN_ (fun hq => ?_) (fun hq => ?_) | refine nD_ (fun hq => ?_) (fun hq => ?_) | refine rb1 ?_ | refine rb0 ?_ | refine rbx ?_ | refine rix ?_ | refine aS ?_ | fail)
  refine wpC_loopE 0 (α := Nat × Nat) (β := Nat) (fun q => {sl := [(1, .t (.clos 84 [])), (5, .own q.1 5 1 ((vi l.length ++ (l.take q.2).flatten).map Y)), (11, .t (.slice 16 (l.map dg16))), (12, .t (I l.length)), (13, .t (I q.2))], bx := []})
    (fun q => q.2 ≤ l.length) (fun q => l.length - q.2) (fun q => {sl := [(5, .own q 5 1 ((digs l).map Y))], bx := []}) (fun _ => True) (10, 0) (by simp) ?_ ?_ ?_
  · repeat' (first | ((refine leI ?_; simp; done)) | exact trivial | exact LeV.same _ | exact LeB.same _ | exact rfl | exact fun _ _ _ => trivial | exact lI | exact LeV.nil _ _ _ | exact lB | refine leBd ?_ | refine leOwn ?_ | refine And.intro ?_ ?_)
    simp
  · rintro ⟨q, i⟩ hq
    dsimp only at hq
    rcases Nat.lt_or_ge i l.length with h1 | h1
    · have hx := hi l[i] (List.getElem_mem h1)
      have hfl := flatten_le (l := l.take i) (fun x hx => hi x (List.mem_of_mem_take hx))
      rw [List.length_take] at hfl
      have hd : DCalls Tryd.prog 84 [.agg (putL (List.replicate 16 (Y 0)) 0 16 (l[i].map Y))] (.slice 1 (l[i].map Y)) := by
        rw [putL_all (n := 16) (cs := List.replicate 16 (Y 0)) rfl]; exact (f_digest l[i] hx).dcalls
      repeat' ((conv => whnf); first | exact trivial | (refine nv_ (dg16 l[i]) (by first | ((simp [h1]; done); done) | fail) ?_) | refine k_call _ (hd) ?_ | refine nT_ ?_ | refine aE1 ?_ | refine aE0 ?_ | refine aN1 ?_ | refine aN0 ?_ | refine aD1 ?_ | refine aD0 ?_ | refine nE_ (fun hq => ?_) (fun hq => ?_) | refine nN_ (fun hq => ?_) (fun hq => ?_) | refine nD_ (fun hq => ?_) (fun hq => ?_) | refine rb1 ?_ | refine rb0 ?_ | refine rbx ?_ | refine rix ?_ | (refine And.intro (by first | ((simp; omega); done) | (exact (List.length_map _).trans hx; done) | (exact ⟨(List.length_map _).trans hx, by decide⟩; done) | ((simp only [List.length_map, List.length_append]; omega); done) | fail) ?_) | refine aS ?_ | fail)
      refine ⟨(21, i + 1), by dsimp only; omega, by dsimp only; omega, ?_⟩
      repeat' (first | exact trivial | exact LeV.same _ | exact LeB.same _ | exact rfl | exact fun _ _ _ => trivial | exact lI | exact LeV.nil _ _ _ | exact lB | refine leBd ?_ | refine leOwn ?_ | refine And.intro ?_ ?_)
      rw [flatten_take h1]
      simp
    · have : i = l.length := by omega
      subst this
      repeat' ((conv => whnf); first | exact trivial | refine nT_ ?_ | refine aE1 ?_ | refine aE0 ?_ | refine aN1 ?_ | refine aN0 ?_ | refine aD1 ?_ | refine aD0 ?_ | refine nE_ (fun hq => ?_) (fun hq => ?_) | refine nN_ (fun hq => ?_) (fun hq => ?_) | refine nD_ (fun hq => ?_) (fun hq => ?_) | refine rb1 ?_ | refine rb0 ?_ | refine rbx ?_ | refine rix ?_ | refine aS ?_ | fail)
      exact ⟨q, trivial, by repeat' (first | ((refine leOwn ?_; rw [List.take_length]; rfl)) | exact trivial | exact LeV.same _ | exact LeB.same _ | exact rfl | exact fun _ _ _ => trivial | exact lI | exact LeV.nil _ _ _ | exact lB | refine leBd ?_ | refine leOwn ?_ | refine And.intro ?_ ?_)⟩
  rintro q -
  repeat' ((conv => whnf); first | exact trivial | refine nT_ ?_ | refine aE1 ?_ | refine aE0 ?_ | refine aN1 ?_ | refine aN0 ?_ | refine aD1 ?_ | refine aD0 ?_ | refine nE_ (fun hq => ?_) (fun hq => ?_) | refine nN_ (fun hq => ?_) (fun hq => ?_) | refine nD_ (fun hq => ?_) (fun hq => ?_) | refine rb1 ?_ | refine rb0 ?_ | refine rbx ?_ | refine rix ?_ | (refine And.intro (by first | (exact flY _; done) | fail) ?_) | refine aS ?_ | fail)
  exact ⟨_, rfl, .inl ⟨q, rfl⟩⟩
theorem f_Digests (l : List (List Int)) (h : l.length < 2 ^ 40) (hi : ∀ x ∈ l, x.length = 16) : FCalls Tryd.prog 59 [.slice 16 (l.map dg16)] 5 1 ((digs l).map Y) [] := by
  refine fcalls_low (rs := [.tmp 2]) mixed Tryd.func59 l59 rfl rfl rfl (Nat.le_of_ble_eq_true rfl) ?_
  repeat' ((conv => whnf); first | exact trivial | refine WC_own rfl (f_listD l h hi) ?_ | refine nT_ ?_ | refine aE1 ?_ | refine aE0 ?_ | refine aN1 ?_ | refine aN0 ?_ | refine aD1 ?_ | refine aD0 ?_ | refine nE_ (fun hq => ?_) (fun hq => ?_) | refine nN_ (fun hq => ?_) (fun hq => ?_) | refine nD_ (fun hq => ?_) (fun hq => ?_) | refine rb1 ?_ | refine rb0 ?_ | refine rbx ?_ | refine rix ?_ | (refine And.intro (by first | (exact flY _; done) | fail) ?_) | refine aS ?_ | fail)
  exact ⟨_, rfl, .inl ⟨_, rfl⟩⟩
theorem f_refDigests (l : List (List Int)) (h : l.length < 2 ^ 40) (hi : ∀ x ∈ l, x.length = 16) : FCalls Tryd.prog 68 [.slice 16 (l.map dg16)] 5 1 ((digs l).map Y) [] := by
  refine fcalls_low (rs := [.tmp 2]) mixed Tryd.func68 l68 rfl rfl rfl (Nat.le_of_ble_eq_true rfl) ?_
  have h0 := i64_nat (n := l.length) (by omega)
  have hl0 := vi_len h0
  repeat' ((conv => whnf); first | exact trivial | (refine WC_own (ts := [I l.length]) (by simp; rfl) (f_refInt l.length h0) ?_) | refine nT_ ?_ | refine aE1 ?_ | refine aE0 ?_ | refine aN1 ?_ | refine aN0 ?_ | refine aD1 ?_ | refine aD0 ?_ | refine nE_ (fun hq => ?_) (fun hq => ?_) | refine nN_ (fun hq => ?_) (fun hq => ?_) | refine nD_ (fun hq => ?_) (fun hq => ?_) | refine rb1 ?_ | refine rb0 ?_ | refine rbx ?_ | refine rix ?_ | refine aS ?_ | fail)
  refine wpC_loopE 0 (α := Nat × Nat) (β := Nat) (fun q => {sl := [(0, .t (.slice 16 (l.map dg16))), (3, .own q.1 5 1 ((vi l.length ++ (l.take q.2).flatten).map Y)), (4, .t (I q.2))], bx := []})
    (fun q => q.2 ≤ l.length) (fun q => l.length - q.2) (fun q => {sl := [(3, .own q 5 1 ((digs l).map Y))], bx := []}) (fun _ => True) (7, 0) (by simp) ?_ ?_ ?_
  · repeat' (first | exact trivial | exact LeV.same _ | exact LeB.same _ | exact rfl | exact fun _ _ _ => trivial | exact lI | exact LeV.nil _ _ _ | exact lB | refine leBd ?_ | refine leOwn ?_ | refine And.intro ?_ ?_)
    simp
  · rintro ⟨q, i⟩ hq
    dsimp only at hq
    rcases Nat.lt_or_ge i l.length with h1 | h1
    · have hx := hi l[i] (List.getElem_mem h1)
      have hfl := flatten_le (l := l.take i) (fun x hx => hi x (List.mem_of_mem_take hx))
      rw [List.length_take] at hfl
      have hcl : (dg16 l[i]).cells.length = 16 := (List.length_map _).trans hx
      repeat' ((conv => whnf); first | exact trivial | (refine nv_ (dg16 l[i]) (by first | ((simp [h1]; done); done) | fail) ?_) | (refine nv_ (.slice 1 (l[i].map Y)) (by first | (exact congrArg (T.slice 1) (chunk1 l[i] 16 hx); done) | fail) ?_) | refine now_D1 (by simpa using h1) ?_ | refine nT_ ?_ | refine aE1 ?_ | refine aE0 ?_ | refine aN1 ?_ | refine aN0 ?_ | refine aD1 ?_ | refine aD0 ?_ | refine nE_ (fun hq => ?_) (fun hq => ?_) | refine nN_ (fun hq => ?_) (fun hq => ?_) | refine nD_ (fun hq => ?_) (fun hq => ?_) | refine rb1 ?_ | refine rb0 ?_ | refine rbx ?_ | refine rix ?_ | (refine And.intro (by first | ((simp; omega); done) | ((rw [hcl]; decide); done) | ((simp only [List.length_map, List.length_append]; omega); done) | fail) ?_) | refine aS ?_ | fail)
      refine ⟨(19, i + 1), by dsimp only; omega, by dsimp only; omega, ?_⟩
      repeat' (first | exact trivial | exact LeV.same _ | exact LeB.same _ | exact rfl | exact fun _ _ _ => trivial | exact lI | exact LeV.nil _ _ _ | exact lB | refine leBd ?_ | refine leOwn ?_ | refine And.intro ?_ ?_)
      rw [flatten_take h1]
      simp
    · have : i = l.length := by omega
      subst this
      repeat' ((conv => whnf); first | exact trivial | refine now_D0 (by simp) ?_ | refine nT_ ?_ | refine aE1 ?_ | refine aE0 ?_ | refine aN1 ?_ | refine aN0 ?_ | refine aD1 ?_ | refine aD0 ?_ | refine nE_ (fun hq => ?_) (fun hq => ?_) | refine nN_ (fun hq => ?_) (fun hq => ?_) | refine nD_ (fun hq => ?_) (fun hq => ?_) | refine rb1 ?_ | refine rb0 ?_ | refine rbx ?_ | refine rix ?_ | refine aS ?_ | fail)
      exact ⟨q, trivial, by repeat' (first | ((refine leOwn ?_; rw [List.take_length]; rfl)) | exact trivial | exact LeV.same _ | exact LeB.same _ | exact rfl | exact fun _ _ _ => trivial | exact lI | exact LeV.nil _ _ _ | exact lB | refine leBd ?_ | refine leOwn ?_ | refine And.intro ?_ ?_)⟩
  rintro q -
  repeat' ((conv => whnf); first | exact trivial | refine nT_ ?_ | refine aE1 ?_ | refine aE0 ?_ | refine aN1 ?_ | refine aN0 ?_ | refine aD1 ?_ | refine aD0 ?_ | refine nE_ (fun hq => ?_) (fun hq => ?_) | refine nN_ (fun hq => ?_) (fun hq => ?_) | refine nD_ (fun hq => ?_) (fun hq => ?_) | refine rb1 ?_ | refine rb0 ?_ | refine rbx ?_ | refine rix ?_ | (refine And.intro (by first | (exact flY _; done) | fail) ?_) | refine aS ?_ | fail)
  exact ⟨_, rfl, .inl ⟨q, rfl⟩⟩
def msg (tag : Int) (ps : List ByteArray) : List Int := IntKind.u8.wrap tag :: ps.flatMap vs
def H (m : List Int) : List Int := (dig ((S0.add m).add (tail m.length)).s).take 16
def H2 (m : List Int) : List Int := (dig (bl2 (m ++ tail m.length) ((m ++ tail m.length).length / 64))).take 16
theorem u8_range (x : Int) : 0 ≤ IntKind.u8.wrap x ∧ IntKind.u8.wrap x < 256 := by
  unfold IntKind.wrap
  simp [IntKind.bits, IntKind.signed]
  omega
theorem vs_areB (s : ByteArray) : areB (vs s) := fun b hb => by
  rcases List.mem_append.1 hb with h | h
  · exact vi_areB _ b h
  · exact sB_areB _ b h
theorem msg_areB (tag : Int) (ps : List ByteArray) : areB (msg tag ps) := fun b hb => by
  rcases List.mem_cons.1 hb with rfl | h
  · exact u8_range _
  · obtain ⟨s, _, hs⟩ := List.mem_flatMap.1 h
    exact vs_areB s b hs
theorem vs_len {s : ByteArray} (h : s.size < 2 ^ 40) : (vs s).length ≤ s.size + 10 := by
  have := vi_len (i64_nat (n := s.size) (by omega))
  unfold vs
  rw [List.length_append, sB_len]
  omega
theorem t_Of (tag : Int) (ps : List ByteArray) (hp : ∀ s ∈ ps, s.size < 2 ^ 40) (hl : ps.length < 2 ^ 10) : DCalls Tryd.prog 43 [I tag, .slice 1 (ps.map .str)] (.agg ((H (msg tag ps)).map Y)) := by
  refine dcalls_low (rs := [.cell 4 49]) mixed Tryd.func43 l43 rfl rfl rfl (r := [.agg _]) (Nat.le_of_ble_eq_true rfl) ?_
  have h1 : sB (strT [Y (IntKind.u8.wrap tag)]) = [IntKind.u8.wrap tag] := sB_strT [IntKind.u8.wrap tag] (fun b hb => by rw [List.mem_singleton.1 hb]; exact u8_range _)
  have hs1 : (strT [Y (IntKind.u8.wrap tag)]).size = 1 := by rw [← sB_len, h1]; rfl
  have hadd := t_Add S0 (strT [Y (IntKind.u8.wrap tag)]) rfl (by rw [hs1]; decide)
  rw [h1] at hadd
  repeat' ((conv => whnf); first | exact trivial | refine k_call _ (t_Begin) ?_ | refine k_call _ (hadd) ?_ | refine nT_ ?_ | refine aE1 ?_ | refine aE0 ?_ | refine aN1 ?_ | refine aN0 ?_ | refine aD1 ?_ | refine aD0 ?_ | refine nE_ (fun hq => ?_) (fun hq => ?_) | refine nN_ (fun hq => ?_) (fun hq => ?_) | refine nD_ (fun hq => ?_) (fun hq => ?_) | refine rb1 ?_ | refine rb0 ?_ | refine rbx ?_ | refine rix ?_ | refine aS ?_ | fail)
  have hX : ∀ k, ((S0.add [IntKind.u8.wrap tag]).add ((ps.take k).flatMap vs)).blk.length = 64 := fun k => by rw [(add_blk _ _).1, (add_blk _ _).1]; rfl
  have hXn : ∀ k, ((S0.add [IntKind.u8.wrap tag]).add ((ps.take k).flatMap vs)).n = 1 + ((ps.take k).flatMap vs).length := fun k => by rw [(add_blk _ _).2, (add_blk _ _).2]; show 0 + 1 + _ = _; omega
  have hfl : ∀ k, ((ps.take k).flatMap vs).length ≤ (2 ^ 40 + 10) * ps.length := fun k => by
    have := flat_le vs (2 ^ 40 + 10) (l := ps.take k) (fun s hs => by have := hp s (List.mem_of_mem_take hs); have := vs_len this; omega)
    refine Nat.le_trans this (Nat.mul_le_mul_left _ ?_)
    rw [List.length_take]; exact Nat.min_le_right _ _
  refine wpC_loopE 0 (α := Nat) (β := Unit) (fun k => {sl := [(4, .ptr 4 0), (5, .ptr 5 0), (15, .t (.slice 1 (ps.map .str))), (16, .t (I ps.length)), (17, .t (I k))], bx := [(4, .d 16 (List.replicate 16 (Y 0))), (5, .d 73 ((S0.add [IntKind.u8.wrap tag]).add ((ps.take k).flatMap vs)).cells)]})
    (fun k => k ≤ ps.length) (fun k => ps.length - k) (fun _ => {sl := [(4, .ptr 4 0), (5, .ptr 5 0)], bx := [(4, .d 16 (List.replicate 16 (Y 0))), (5, .d 73 (S0.add (msg tag ps)).cells)]}) (fun _ => True) 0 (by omega) ?_ ?_ ?_
  · repeat' (first | ((refine leI ?_; simp; done)) | ((refine leBd ?_; exact (putL_all rfl).symm)) | exact trivial | exact LeV.same _ | exact LeB.same _ | exact rfl | exact fun _ _ _ => trivial | exact lI | exact LeV.nil _ _ _ | exact lB | refine leBd ?_ | refine leOwn ?_ | refine And.intro ?_ ?_)
  · intro k hk
    rcases Nat.lt_or_ge k ps.length with h2 | h2
    · have hx := hp ps[k] (List.getElem_mem h2)
      have hvl := vs_len hx
      have hft := flat_take vs h2
      have hb := hX k
      have hn := hXn k
      have hfk := hfl k
      have ha : ((S0.add [IntKind.u8.wrap tag]).add ((ps.take (k + 1)).flatMap vs)) = ((S0.add [IntKind.u8.wrap tag]).add ((ps.take k).flatMap vs)).add (vs ps[k]) := by
        rw [hft]; unfold Str.add; rw [List.foldl_append]
      generalize (S0.add [IntKind.u8.wrap tag]).add ((ps.take k).flatMap vs) = x at hb hn ha
      have hsb := sB_strT (vs ps[k]) (vs_areB _)
      have hss : (strT ((vs ps[k]).map Y)).size = (vs ps[k]).length := by rw [← sB_len, hsb]
      have hcl := cells_len x hb
      have hcall := t_Add x (strT ((vs ps[k]).map Y)) hb (by rw [hss, hn]; omega)
      rw [hsb] at hcall
      repeat' ((conv => whnf); first | exact trivial | (refine nv_ (.str ps[k]) (by first | ((simp [h2]; done); done) | fail) ?_) | refine k_call _ ((f_Bytes ps[k] hx).dcalls) ?_ | refine k_call _ (hcall) ?_ | refine nT_ ?_ | refine aE1 ?_ | refine aE0 ?_ | refine aN1 ?_ | refine aN0 ?_ | refine aD1 ?_ | refine aD0 ?_ | refine nE_ (fun hq => ?_) (fun hq => ?_) | refine nN_ (fun hq => ?_) (fun hq => ?_) | refine nD_ (fun hq => ?_) (fun hq => ?_) | refine rb1 ?_ | refine rb0 ?_ | refine rbx ?_ | refine rix ?_ | (refine And.intro (by first | ((simp; omega); done) | (exact hcl; done) | (exact areU8_Y _; done) | (exact ⟨cells_len _ (by rw [(add_blk _ _).1]; exact hb), by decide⟩; done) | ((rw [hcl]; decide); done) | fail) ?_) | refine aS ?_ | fail)
      refine ⟨k + 1, by omega, by omega, ?_⟩
      repeat' (first | exact trivial | exact LeV.same _ | exact LeB.same _ | exact rfl | exact fun _ _ _ => trivial | exact lI | exact LeV.nil _ _ _ | exact lB | refine leBd ?_ | refine leOwn ?_ | refine And.intro ?_ ?_)
      rw [ha]
      exact (putL_all hcl).symm
    · have : k = ps.length := by omega
      subst this
      repeat' ((conv => whnf); first | exact trivial | refine nT_ ?_ | refine aE1 ?_ | refine aE0 ?_ | refine aN1 ?_ | refine aN0 ?_ | refine aD1 ?_ | refine aD0 ?_ | refine nE_ (fun hq => ?_) (fun hq => ?_) | refine nN_ (fun hq => ?_) (fun hq => ?_) | refine nD_ (fun hq => ?_) (fun hq => ?_) | refine rb1 ?_ | refine rb0 ?_ | refine rbx ?_ | refine rix ?_ | refine aS ?_ | fail)
      exact ⟨(), trivial, by repeat' (first | ((refine leBd ?_; rw [List.take_length]; rfl)) | exact trivial | exact LeV.same _ | exact LeB.same _ | exact rfl | exact fun _ _ _ => trivial | exact lI | exact LeV.nil _ _ _ | exact lB | refine leBd ?_ | refine leOwn ?_ | refine And.intro ?_ ?_)⟩
  rintro - -
  have hb := hX ps.length
  have hn := hXn ps.length
  have hfk := hfl ps.length
  rw [List.take_length] at hb hn hfk
  have hm : (S0.add [IntKind.u8.wrap tag]).add (ps.flatMap vs) = S0.add (msg tag ps) := rfl
  have hml : (msg tag ps).length = 1 + (ps.flatMap vs).length := by unfold msg; rw [List.length_cons]; omega
  rw [hm] at hb hn
  unfold H
  rw [hml]
  have hsum := t_Sum (S0.add (msg tag ps)) hb (by rw [hn]; omega)
  rw [hn] at hsum
  generalize S0.add (msg tag ps) = x at hb hsum
  have hcl := cells_len x hb
  unfold Str.T at hsum
  generalize x.cells = cs at hcl hsum
  have hdl : (dig (x.add (tail (1 + (ps.flatMap vs).length))).s).length = 32 := by simp [dig]
  generalize dig (x.add (tail (1 + (ps.flatMap vs).length))).s = ds at hdl hsum
  have hput : putL (List.replicate 32 (Y 0)) 0 32 (ds.map Y) = ds.map Y := putL_all rfl
  have hput2 : ((putL (List.replicate 32 (Y 0)) 0 32 (ds.map Y)).drop (0 + Int.toNat 0 * 1)).take 16 = (ds.take 16).map Y := by
    rw [hput, List.map_take]; rfl
  have hl16 : (((putL (List.replicate 32 (Y 0)) 0 32 (ds.map Y)).drop (0 + Int.toNat 0 * 1)).take 16).length = 16 := by
    rw [hput2]; simp [hdl]
  repeat' ((conv => whnf); first | exact trivial | refine k_call _ (hsum) ?_ | refine nT_ ?_ | refine aE1 ?_ | refine aE0 ?_ | refine aN1 ?_ | refine aN0 ?_ | refine aD1 ?_ | refine aD0 ?_ | refine nE_ (fun hq => ?_) (fun hq => ?_) | refine nN_ (fun hq => ?_) (fun hq => ?_) | refine nD_ (fun hq => ?_) (fun hq => ?_) | refine rb1 ?_ | refine rb0 ?_ | refine rbx ?_ | refine rix ?_ | (refine And.intro (by first | (exact hcl; done) | (exact ⟨(List.length_map _).trans hdl, by decide⟩; done) | (exact ⟨hl16, by decide⟩; done) | fail) ?_) | refine aS ?_ | refine rt ?_ trivial | fail)
  exact congrArg T.agg ((putL_all rfl).trans hput2)
end Go.RC
end
section
namespace Go.RC
open Go Go.DL Go.Proofs
set_option maxRecDepth 100000
set_option maxHeartbeats 1000000
attribute [local irreducible] bl2
theorem t_Input (tag : Int) (ps : List ByteArray) (hp : ∀ s ∈ ps, s.size < 2 ^ 40) (hl : ps.length < 2 ^ 5) : DCalls Tryd.prog 78 [I tag, .slice 1 (ps.map .str)] (.slice 1 ((msg tag ps).map Y)) := by
  refine dcalls_low (rs := [.tmp 4]) mixed Tryd.func78 l78 rfl rfl rfl (r := [.slice 1 _]) (Nat.le_of_ble_eq_true rfl) ?_
  have hfl : ∀ k, ((ps.take k).flatMap vs).length ≤ (2 ^ 40 + 10) * ps.length := fun k => by
    have := flat_le vs (2 ^ 40 + 10) (l := ps.take k) (fun s hs => by have := hp s (List.mem_of_mem_take hs); have := vs_len this; omega)
    refine Nat.le_trans this (Nat.mul_le_mul_left _ ?_)
    rw [List.length_take]; exact Nat.min_le_right _ _
  repeat' ((conv => whnf); first | exact trivial | refine nT_ ?_ | refine aE1 ?_ | refine aE0 ?_ | refine aN1 ?_ | refine aN0 ?_ | refine aD1 ?_ | refine aD0 ?_ | refine nE_ (fun hq => ?_) (fun hq => ?_) | refine nN_ (fun hq => ?_) (fun hq => ?_) | refine nD_ (fun hq => ?_) (fun hq => ?_) | refine rb1 ?_ | refine rb0 ?_ | refine rbx ?_ | refine rix ?_ | refine aS ?_ | fail)
  refine wpC_loopE 0 (α := Nat × Nat) (β := Nat) (fun q => {sl := [(1, .t (.slice 1 (ps.map .str))), (5, .own q.1 5 1 ((IntKind.u8.wrap tag :: (ps.take q.2).flatMap vs).map Y)), (6, .t (I q.2))], bx := []})
    (fun q => q.2 ≤ ps.length) (fun q => ps.length - q.2) (fun q => {sl := [(5, .own q 5 1 ((msg tag ps).map Y))], bx := []}) (fun _ => True) (9, 0) (by simp) ?_ ?_ ?_
  · repeat' (first | exact trivial | exact LeV.same _ | exact LeB.same _ | exact rfl | exact fun _ _ _ => trivial | exact lI | exact LeV.nil _ _ _ | exact lB | refine leBd ?_ | refine leOwn ?_ | refine And.intro ?_ ?_)
  · rintro ⟨q, k⟩ hk
    dsimp only at hk
    rcases Nat.lt_or_ge k ps.length with h2 | h2
    · have hx := hp ps[k] (List.getElem_mem h2)
      have hvl := vs_len hx
      have hft := flat_take vs h2
      have hfk := hfl k
      repeat' ((conv => whnf); first | exact trivial | refine now_D1 (by simpa using h2) ?_ | (refine nv_ (.str ps[k]) (by first | ((simp [h2]; done); done) | fail) ?_) | refine k_call _ ((f_refBytes ps[k] hx).dcalls) ?_ | refine nT_ ?_ | refine aE1 ?_ | refine aE0 ?_ | refine aN1 ?_ | refine aN0 ?_ | refine aD1 ?_ | refine aD0 ?_ | refine nE_ (fun hq => ?_) (fun hq => ?_) | refine nN_ (fun hq => ?_) (fun hq => ?_) | refine nD_ (fun hq => ?_) (fun hq => ?_) | refine rb1 ?_ | refine rb0 ?_ | refine rbx ?_ | refine rix ?_ | (refine And.intro (by first | ((simp; omega); done) | ((simp only [List.length_map, List.length_cons]; omega); done) | fail) ?_) | refine aS ?_ | fail)
      refine ⟨(22, k + 1), by dsimp only; omega, by dsimp only; omega, ?_⟩
      repeat' (first | exact trivial | exact LeV.same _ | exact LeB.same _ | exact rfl | exact fun _ _ _ => trivial | exact lI | exact LeV.nil _ _ _ | exact lB | refine leBd ?_ | refine leOwn ?_ | refine And.intro ?_ ?_)
      rw [hft]
      simp
    · have : k = ps.length := by omega
      subst this
      repeat' ((conv => whnf); first | exact trivial | refine now_D0 (by simp) ?_ | refine nT_ ?_ | refine aE1 ?_ | refine aE0 ?_ | refine aN1 ?_ | refine aN0 ?_ | refine aD1 ?_ | refine aD0 ?_ | refine nE_ (fun hq => ?_) (fun hq => ?_) | refine nN_ (fun hq => ?_) (fun hq => ?_) | refine nD_ (fun hq => ?_) (fun hq => ?_) | refine rb1 ?_ | refine rb0 ?_ | refine rbx ?_ | refine rix ?_ | refine aS ?_ | fail)
      exact ⟨q, trivial, by repeat' (first | ((refine leOwn ?_; rw [List.take_length]; rfl)) | exact trivial | exact LeV.same _ | exact LeB.same _ | exact rfl | exact fun _ _ _ => trivial | exact lI | exact LeV.nil _ _ _ | exact lB | refine leBd ?_ | refine leOwn ?_ | refine And.intro ?_ ?_)⟩
  rintro q -
  repeat' ((conv => whnf); first | exact trivial | refine nT_ ?_ | refine aE1 ?_ | refine aE0 ?_ | refine aN1 ?_ | refine aN0 ?_ | refine aD1 ?_ | refine aD0 ?_ | refine nE_ (fun hq => ?_) (fun hq => ?_) | refine nN_ (fun hq => ?_) (fun hq => ?_) | refine nD_ (fun hq => ?_) (fun hq => ?_) | refine rb1 ?_ | refine rb0 ?_ | refine rbx ?_ | refine rix ?_ | refine aS ?_ | fail)
theorem t_Short (bs : List Int) (hb : bs.length < 2 ^ 40) : DCalls Tryd.prog 77 [.slice 1 (bs.map Y)] (.agg ((H2 bs).map Y)) := by
  refine dcalls_low (rs := [.cell 2 49]) mixed Tryd.func77 l77 rfl rfl rfl (r := [.agg _]) (Nat.le_of_ble_eq_true rfl) ?_
  have hs := t_refSum bs hb
  unfold H2
  have hdl : (dig (bl2 (bs ++ tail bs.length) ((bs ++ tail bs.length).length / 64))).length = 32 := by simp [dig]
  generalize dig (bl2 (bs ++ tail bs.length) ((bs ++ tail bs.length).length / 64)) = ds at hs hdl
  repeat' ((conv => whnf); first | exact trivial | refine k_call _ (hs) ?_ | refine nT_ ?_ | refine aE1 ?_ | refine aE0 ?_ | refine aN1 ?_ | refine aN0 ?_ | refine aD1 ?_ | refine aD0 ?_ | refine nE_ (fun hq => ?_) (fun hq => ?_) | refine nN_ (fun hq => ?_) (fun hq => ?_) | refine nD_ (fun hq => ?_) (fun hq => ?_) | refine rb1 ?_ | refine rb0 ?_ | refine rbx ?_ | refine rix ?_ | (refine And.intro (by first | (exact ⟨(List.length_map _).trans hdl, by decide⟩; done) | fail) ?_) | refine aS ?_ | fail)
  refine wpC_loopE 0 (α := Nat) (β := Unit) (fun i => {sl := [(2, .ptr 2 0), (3, .ptr 3 0), (4, .ptr 4 0), (5, .t (I i))], bx := [(2, .d 16 (List.replicate 16 (Y 0))), (3, .d 32 (ds.map Y)), (4, .d 16 ((ds.take i ++ List.replicate (16 - i) 0).map Y))]})
    (fun i => i ≤ 16) (fun i => 16 - i) (fun _ => {sl := [(2, .ptr 2 0), (4, .ptr 4 0)], bx := [(2, .d 16 (List.replicate 16 (Y 0))), (4, .d 16 ((ds.take 16).map Y))]}) (fun _ => True) 0 (by omega) ?_ ?_ ?_
  · repeat' (first | ((refine leBd ?_; exact (putL_all rfl).symm)) | exact trivial | exact LeV.same _ | exact LeB.same _ | exact rfl | exact fun _ _ _ => trivial | exact lI | exact LeV.nil _ _ _ | exact lB | refine leBd ?_ | refine leOwn ?_ | refine And.intro ?_ ?_)
  · intro i hi
    rcases Nat.lt_or_ge i 16 with h2 | h2
    · repeat' ((conv => whnf); first | exact trivial | (refine nv_ (Y (ds.getD i 0)) (by first | (exact mgetk i (by omega) (by omega); done) | fail) ?_) | refine nT_ ?_ | refine aE1 ?_ | refine aE0 ?_ | refine aN1 ?_ | refine aN0 ?_ | refine aD1 ?_ | refine aD0 ?_ | refine nE_ (fun hq => ?_) (fun hq => ?_) | refine nN_ (fun hq => ?_) (fun hq => ?_) | refine nD_ (fun hq => ?_) (fun hq => ?_) | refine rb1 ?_ | refine rb0 ?_ | refine rbx ?_ | refine rix ?_ | (refine And.intro (by first | ((simp; omega); done) | fail) ?_) | refine aS ?_ | fail)
      refine ⟨i + 1, by omega, by omega, ?_⟩
      repeat' (first | exact trivial | exact LeV.same _ | exact LeB.same _ | exact rfl | exact fun _ _ _ => trivial | exact lI | exact LeV.nil _ _ _ | exact lB | refine leBd ?_ | refine leOwn ?_ | refine And.intro ?_ ?_)
      show _ = List.set _ (0 + (i : Int).toNat * 1) (Y (ds.getD i 0))
      rw [mset]
      congr 1
      have e1 : ds.take (i + 1) = ds.take i ++ [ds.getD i 0] := by
        rw [List.take_succ_eq_append_getElem (by omega), List.getD_eq_getElem?_getD, List.getElem?_eq_getElem (by omega)]; rfl
      have e2 : List.replicate (16 - i) (0 : Int) = 0 :: List.replicate (16 - (i + 1)) 0 := by
        rw [show 16 - i = (16 - (i + 1)) + 1 by omega, List.replicate_succ]
      have e3 : (ds.take i).length = i := by rw [List.length_take]; omega
      rw [e1, e2, List.set_append, if_neg (by rw [e3]; omega), e3]
      simp
    · have : i = 16 := by omega
      subst this
      repeat' ((conv => whnf); first | exact trivial | refine nT_ ?_ | refine aE1 ?_ | refine aE0 ?_ | refine aN1 ?_ | refine aN0 ?_ | refine aD1 ?_ | refine aD0 ?_ | refine nE_ (fun hq => ?_) (fun hq => ?_) | refine nN_ (fun hq => ?_) (fun hq => ?_) | refine nD_ (fun hq => ?_) (fun hq => ?_) | refine rb1 ?_ | refine rb0 ?_ | refine rbx ?_ | refine rix ?_ | refine aS ?_ | fail)
      exact ⟨(), trivial, by repeat' (first | ((refine leBd ?_; simp; done)) | exact trivial | exact LeV.same _ | exact LeB.same _ | exact rfl | exact fun _ _ _ => trivial | exact lI | exact LeV.nil _ _ _ | exact lB | refine leBd ?_ | refine leOwn ?_ | refine And.intro ?_ ?_)⟩
  rintro - -
  have hl16 : ((ds.take 16).map Y).length = 16 := by simp [hdl]
  repeat' ((conv => whnf); first | exact trivial | refine nT_ ?_ | refine aE1 ?_ | refine aE0 ?_ | refine aN1 ?_ | refine aN0 ?_ | refine aD1 ?_ | refine aD0 ?_ | refine nE_ (fun hq => ?_) (fun hq => ?_) | refine nN_ (fun hq => ?_) (fun hq => ?_) | refine nD_ (fun hq => ?_) (fun hq => ?_) | refine rb1 ?_ | refine rb0 ?_ | refine rbx ?_ | refine rix ?_ | (refine And.intro (by first | (exact ⟨hl16, by decide⟩; done) | fail) ?_) | refine aS ?_ | refine rt ?_ trivial | fail)
  exact congrArg T.agg (putL_all rfl)
theorem t_refOf (tag : Int) (ps : List ByteArray) (hp : ∀ s ∈ ps, s.size < 2 ^ 34) (hl : ps.length < 2 ^ 5) : DCalls Tryd.prog 45 [I tag, .slice 1 (ps.map .str)] (.agg ((H2 (msg tag ps)).map Y)) := by
  refine dcalls_low (rs := [.cell 4 49]) mixed Tryd.func45 l45 rfl rfl rfl (r := [.agg _]) (Nat.le_of_ble_eq_true rfl) ?_
  have hi := t_Input tag ps (fun s hs => by have := hp s hs; omega) hl
  have hml : (msg tag ps).length < 2 ^ 40 := by
    have := flat_le vs (2 ^ 34 + 10) (l := ps) (fun s hs => by have := hp s hs; have := vs_len (s := s) (by omega); omega)
    have h2 : (2 ^ 34 + 10) * ps.length ≤ (2 ^ 34 + 10) * 32 := Nat.mul_le_mul_left _ (by omega)
    unfold msg
    rw [List.length_cons]
    omega
  have hs := t_Short (msg tag ps) hml
  have hdl : (H2 (msg tag ps)).length = 16 := by simp [H2, dig]
  generalize H2 (msg tag ps) = ds at hs hdl
  repeat' ((conv => whnf); first | exact trivial | refine k_call _ (hi) ?_ | refine k_call _ (hs) ?_ | refine nT_ ?_ | refine aE1 ?_ | refine aE0 ?_ | refine aN1 ?_ | refine aN0 ?_ | refine aD1 ?_ | refine aD0 ?_ | refine nE_ (fun hq => ?_) (fun hq => ?_) | refine nN_ (fun hq => ?_) (fun hq => ?_) | refine nD_ (fun hq => ?_) (fun hq => ?_) | refine rb1 ?_ | refine rb0 ?_ | refine rbx ?_ | refine rix ?_ | (refine And.intro (by first | (exact ⟨(List.length_map _).trans hdl, by decide⟩; done) | fail) ?_) | refine aS ?_ | refine rt ?_ trivial | fail)
  exact congrArg T.agg (putL_all rfl)
end Go.RC
end
section
namespace Go.RC
open Go Go.DL Go.Proofs
def bl1 (m : List Int) : Nat → V8
  | 0 => V0
  | k + 1 => cpr (bl1 m k) ((m.drop (64 * k)).take 64)
theorem bl1_pre (m r : List Int) : ∀ k, 64 * k ≤ m.length → bl1 (m ++ r) k = bl1 m k
  | 0, _ => rfl
  | k + 1, h => by
    unfold bl1
    rw [bl1_pre m r k (by omega), List.drop_append_of_le_length (by omega), List.take_append_of_le_length (by rw [List.length_drop]; omega)]
theorem bl12 (m : List Int) (hb : areB m) : ∀ k, 64 * k ≤ m.length → bl2 m k = bl1 m k
  | 0, _ => by unfold bl2 bl1; rfl
  | k + 1, h => by
    unfold bl2 bl1
    rw [bl12 m hb k (by omega)]
    exact cpr_eq _ _ (fun b hb' => hb b (List.mem_of_mem_drop (List.mem_of_mem_take hb'))) (by rw [List.length_take, List.length_drop]; omega)
structure Knows (x : Str) (m : List Int) : Prop where
  n : x.n = m.length
  blk : x.blk.length = 64
  s : x.s = bl1 m (m.length / 64)
  part : x.blk.take (m.length % 64) = m.drop (64 * (m.length / 64))
theorem Knows.put {x : Str} {m : List Int} (h : Knows x m) (b : Int) : Knows (x.put1 b) (m ++ [b]) := by
  obtain ⟨hn, hb, hs, hp⟩ := h
  have hlen : (m ++ [b]).length = m.length + 1 := by simp
  have hq : 64 * (m.length / 64) ≤ m.length := Nat.mul_div_le _ _
  have hpre := bl1_pre m [b] (m.length / 64) hq
  have ha : m.length % 64 < 64 := Nat.mod_lt _ (by decide)
  have hset : (x.blk.set (m.length % 64) b).take (m.length % 64 + 1) = x.blk.take (m.length % 64) ++ [b] := by
    rw [List.take_set, List.take_succ_eq_append_getElem (by omega), List.set_append, if_neg (by rw [List.length_take]; omega)]
    simp [List.length_take, hb, Nat.min_eq_left (Nat.le_of_lt ha)]
  have hdrop : (m ++ [b]).drop (64 * (m.length / 64)) = m.drop (64 * (m.length / 64)) ++ [b] := List.drop_append_of_le_length hq
  unfold Str.put1
  rw [hn]
  by_cases hf : m.length % 64 = 63
  · rw [if_pos hf]
    have h1 : (m.length + 1) / 64 = m.length / 64 + 1 := by omega
    have h2 : (m.length + 1) % 64 = 0 := by omega
    refine ⟨hlen.symm, by simpa using hb, ?_, ?_⟩
    · show cpr x.s (x.blk.set (m.length % 64) b) = bl1 (m ++ [b]) ((m ++ [b]).length / 64)
      rw [hlen, h1]
      show _ = cpr (bl1 (m ++ [b]) (m.length / 64)) (((m ++ [b]).drop (64 * (m.length / 64))).take 64)
      rw [hpre, ← hs, hdrop, ← hp, ← hset]
      congr 1
      rw [List.take_take, List.take_of_length_le (by rw [List.length_set]; omega)]
    · rw [hlen, h2, h1, List.take_zero, List.drop_eq_nil_of_le (by rw [hlen]; omega)]
  · rw [if_neg hf]
    have h1 : (m.length + 1) / 64 = m.length / 64 := by omega
    have h2 : (m.length + 1) % 64 = m.length % 64 + 1 := by omega
    refine ⟨hlen.symm, by simpa using hb, ?_, ?_⟩
    · show x.s = _
      rw [hlen, h1, hpre, hs]
    · show (x.blk.set (m.length % 64) b).take _ = _
      rw [hlen, h1, h2, hset, hp, hdrop]
theorem knows_add : ∀ (bs m : List Int) (x : Str), Knows x m → Knows (x.add bs) (m ++ bs)
  | [], m, x, h => by simpa [Str.add] using h
  | b :: bs, m, x, h => by
    have := knows_add bs (m ++ [b]) (x.put1 b) (h.put b)
    rw [List.append_assoc] at this
    exact this
theorem knows_0 (bs : List Int) : Knows (S0.add bs) bs := by
  have := knows_add bs [] S0 ⟨rfl, rfl, rfl, rfl⟩
  simpa using this
theorem H_eq (m : List Int) (hb : areB m) : H m = H2 m := by
  unfold H H2
  have h1 : (S0.add m).add (tail m.length) = S0.add (m ++ tail m.length) := by
    unfold Str.add; rw [List.foldl_append]
  have hall : areB (m ++ tail m.length) := fun b h => (List.mem_append.1 h).elim (hb b) (areB_tail _ b)
  rw [h1, (knows_0 (m ++ tail m.length)).s, bl12 _ hall _ (Nat.mul_div_le _ _)]
theorem H_len (m : List Int) : (H m).length = 16 := by simp [H, dig]
theorem H_areB (m : List Int) : areB (H m) := fun b hb => by
  have := List.mem_of_mem_take hb
  obtain ⟨i, _, rfl⟩ := List.mem_map.1 this
  exact u8_range _
end Go.RC
end
section
namespace Go.RC
open Go Go.DL Go.Proofs
set_option maxRecDepth 100000
noncomputable def c95 : DCode := (.seq (.region [⟨some 2, .mov (.const (.bool false)), none, []⟩] []) (.seq (.region [⟨some 3, .mov (.tmp 0), none, []⟩,
  ⟨some 4, .mov (.tmp 0), none, []⟩,
  ⟨some 5, .bin .neq (.tmp 3) (.tmp 4), none, []⟩,
  ⟨some 2, .mov (.tmp 5), none, []⟩] []) .ret))
theorem l95 : (Tryd.f95.body.bind (lowC Tryd.prog 6 [])) = some c95 := by kernel_rfl
noncomputable def c81 : DCode := (.seq (.region [⟨some 4, .mov (.const (.int .i64 0)), none, []⟩] []) (.seq (.region [⟨some 7, .mov (.tmp 0), none, []⟩,
  ⟨some 8, .call 95 [(.tmp 7)], none, []⟩,
  ⟨some 5, .mov (.tmp 8), none, []⟩] []) (.seq (.region [⟨some 9, .mov (.tmp 1), none, []⟩,
  ⟨some 10, .call 95 [(.tmp 9)], none, []⟩,
  ⟨some 6, .mov (.tmp 10), none, []⟩] []) (.seq (.seq (.region [⟨some 11, .mov (.tmp 5), none, []⟩] []) (.cond (.tmp 11) (.seq (.seq (.region [⟨some 12, .mov (.tmp 6), none, []⟩] []) (.cond (.tmp 12) (.seq (.region [⟨some 4, .mov (.const (.int .i64 0)), none, []⟩] []) .ret) .skip)) (.seq (.region [⟨some 4, .mov (.const (.int .i64 (-1))), none, []⟩] []) .ret)) .skip)) (.seq (.seq (.region [⟨some 13, .mov (.tmp 6), none, []⟩] []) (.cond (.tmp 13) (.seq (.region [⟨some 4, .mov (.const (.int .i64 1)), none, []⟩] []) .ret) .skip)) (.seq (.seq (.region [⟨some 14, .mov (.tmp 0), none, []⟩,
  ⟨some 15, .mov (.tmp 1), none, []⟩,
  ⟨some 16, .bin .lss (.tmp 14) (.tmp 15), none, []⟩] []) (.cond (.tmp 16) (.seq (.region [⟨some 4, .mov (.const (.int .i64 (-1))), none, []⟩] []) .ret) .skip)) (.seq (.seq (.region [⟨some 17, .mov (.tmp 0), none, []⟩,
  ⟨some 18, .mov (.tmp 1), none, []⟩,
  ⟨some 19, .bin .gtr (.tmp 17) (.tmp 18), none, []⟩] []) (.cond (.tmp 19) (.seq (.region [⟨some 4, .mov (.const (.int .i64 1)), none, []⟩] []) .ret) .skip)) (.seq (.region [⟨some 4, .mov (.const (.int .i64 0)), none, []⟩] []) .ret))))))))
theorem l81 : (Tryd.f81.body.bind (lowC Tryd.prog 20 [])) = some c81 := by kernel_rfl
noncomputable def c80 : DCode := (.seq (.region [⟨some 2, .mov (.const (.int .i64 0)), none, []⟩] []) (.seq (.region [⟨some 3, .mov (.const (.int .i64 0)), none, []⟩] []) (.seq (.seq (.region [⟨some 6, .mov (.tmp 0), none, []⟩,
  ⟨some 7, .len (.tmp 6), none, []⟩,
  ⟨some 8, .mov (.const (.int .i64 0)), none, []⟩] []) (.block 0 (.loop (.seq (.region [⟨some 9, .bin .lss (.tmp 8) (.tmp 7), none, []⟩] []) (.seq (.cond (.tmp 9) .skip (.exit 0)) (.seq (.block 1 (.seq (.region [⟨some 10, .idxL 1 (.tmp 6) (.tmp 8), none, []⟩,
  ⟨some 11, .load 1 false (.tmp 10), none, []⟩,
  ⟨some 5, .mov (.tmp 11), none, []⟩] []) (.seq (.region [⟨some 12, .mov (.tmp 5), none, []⟩,
  ⟨some 13, .mov (.tmp 3), none, []⟩,
  ⟨some 14, .bin .neq (.tmp 12) (.tmp 13), none, []⟩] []) (.cond (.tmp 14) (.seq (.region [⟨some 15, .mov (.tmp 5), none, []⟩,
  ⟨some 2, .mov (.tmp 15), none, []⟩] []) .ret) .skip)))) (.region [⟨some 16, .bin .add (.tmp 8) (.const (.int .i64 1)), none, []⟩,
  ⟨some 8, .mov (.tmp 16), none, []⟩] []))))))) (.seq (.region [⟨some 17, .mov (.tmp 3), none, []⟩,
  ⟨some 2, .mov (.tmp 17), none, []⟩] []) .ret))))
theorem l80 : (Tryd.f80.body.bind (lowC Tryd.prog 18 [])) = some c80 := by kernel_rfl
noncomputable def c79 : DCode := (.seq (.region [⟨some 4, .mov (.const (.int .i64 0)), none, []⟩] []) (.seq (.seq (.region [⟨some 6, .mov (.tmp 0), none, []⟩,
  ⟨some 7, .len (.tmp 6), none, []⟩,
  ⟨some 8, .mov (.const (.int .i64 0)), none, []⟩] []) (.block 0 (.loop (.seq (.region [⟨some 9, .bin .lss (.tmp 8) (.tmp 7), none, []⟩] []) (.seq (.cond (.tmp 9) .skip (.exit 0)) (.seq (.block 1 (.seq (.region [⟨some 10, .mov (.tmp 8), none, []⟩,
  ⟨some 5, .mov (.tmp 10), none, []⟩] []) (.seq (.region [⟨some 11, .mov (.tmp 1), none, []⟩,
  ⟨some 12, .mov (.tmp 0), none, []⟩,
  ⟨some 13, .mov (.tmp 5), none, []⟩,
  ⟨some 14, .idxL 1 (.tmp 12) (.tmp 13), none, []⟩,
  ⟨some 15, .load 1 false (.tmp 14), none, []⟩,
  ⟨some 16, .callv (.tmp 11) [(.tmp 15)], none, []⟩] []) (.cond (.tmp 16) (.seq (.region [⟨some 17, .mov (.tmp 5), none, []⟩,
  ⟨some 4, .mov (.tmp 17), none, []⟩] []) .ret) .skip)))) (.region [⟨some 18, .bin .add (.tmp 8) (.const (.int .i64 1)), none, []⟩,
  ⟨some 8, .mov (.tmp 18), none, []⟩] []))))))) (.seq (.region [⟨some 4, .mov (.const (.int .i64 (-1))), none, []⟩] []) .ret)))
theorem l79 : (Tryd.f79.body.bind (lowC Tryd.prog 19 [])) = some c79 := by kernel_rfl
noncomputable def c51 : DCode := (.seq (.region [⟨some 4, .mov (.const (.bool false)), none, []⟩] []) (.seq (.region [⟨some 5, .mov (.tmp 0), none, []⟩,
  ⟨some 6, .mov (.tmp 1), none, []⟩,
  ⟨some 7, .call 79 [(.tmp 5), (.tmp 6)], none, []⟩,
  ⟨some 8, .bin .geq (.tmp 7) (.const (.int .i64 0)), none, []⟩,
  ⟨some 4, .mov (.tmp 8), none, []⟩] []) .ret))
theorem l51 : (Tryd.f51.body.bind (lowC Tryd.prog 9 [])) = some c51 := by kernel_rfl
noncomputable def c47 : DCode := (.seq (.region [⟨some 4, .mov (.const (.bool false)), none, []⟩] []) (.seq (.seq (.region [⟨some 6, .mov (.tmp 0), none, []⟩,
  ⟨some 7, .len (.tmp 6), none, []⟩,
  ⟨some 8, .mov (.tmp 1), none, []⟩,
  ⟨some 9, .len (.tmp 8), none, []⟩,
  ⟨some 10, .bin .neq (.tmp 7) (.tmp 9), none, []⟩] []) (.cond (.tmp 10) (.seq (.region [⟨some 4, .mov (.const (.bool false)), none, []⟩] []) .ret) .skip)) (.seq (.seq (.region [⟨some 11, .mov (.tmp 0), none, []⟩,
  ⟨some 12, .len (.tmp 11), none, []⟩,
  ⟨some 13, .mov (.const (.int .i64 0)), none, []⟩] []) (.block 0 (.loop (.seq (.region [⟨some 14, .bin .lss (.tmp 13) (.tmp 12), none, []⟩] []) (.seq (.cond (.tmp 14) .skip (.exit 0)) (.seq (.block 1 (.seq (.region [⟨some 15, .mov (.tmp 13), none, []⟩,
  ⟨some 5, .mov (.tmp 15), none, []⟩] []) (.seq (.region [⟨some 16, .mov (.tmp 0), none, []⟩,
  ⟨some 17, .mov (.tmp 5), none, []⟩,
  ⟨some 18, .idxL 8 (.tmp 16) (.tmp 17), none, []⟩,
  ⟨some 19, .load 8 true (.tmp 18), none, []⟩,
  ⟨some 20, .mov (.tmp 1), none, []⟩,
  ⟨some 21, .mov (.tmp 5), none, []⟩,
  ⟨some 22, .idxL 8 (.tmp 20) (.tmp 21), none, []⟩,
  ⟨some 23, .load 8 true (.tmp 22), none, []⟩,
  ⟨some 24, .eqv true [.int .i64, .int .i64, .int .i64, .int .i64, .int .i64, .int .i64, .int .i64, .int .i64] (.tmp 19) (.tmp 23), none, []⟩] []) (.cond (.tmp 24) (.seq (.region [⟨some 4, .mov (.const (.bool false)), none, []⟩] []) .ret) .skip)))) (.region [⟨some 25, .bin .add (.tmp 13) (.const (.int .i64 1)), none, []⟩,
  ⟨some 13, .mov (.tmp 25), none, []⟩] []))))))) (.seq (.region [⟨some 4, .mov (.const (.bool true)), none, []⟩] []) .ret))))
theorem l47 : (Tryd.f47.body.bind (lowC Tryd.prog 26 [])) = some c47 := by kernel_rfl
noncomputable def c55 : DCode := (.seq (.region [⟨some 4, .mov (.const (.int .i64 0)), none, []⟩] []) (.seq (.seq (.region [⟨some 6, .mov (.tmp 0), none, []⟩,
  ⟨some 7, .len (.tmp 6), none, []⟩,
  ⟨some 8, .mov (.const (.int .i64 0)), none, []⟩] []) (.block 0 (.loop (.seq (.region [⟨some 9, .bin .lss (.tmp 8) (.tmp 7), none, []⟩] []) (.seq (.cond (.tmp 9) .skip (.exit 0)) (.seq (.block 1 (.seq (.region [⟨some 10, .mov (.tmp 8), none, []⟩,
  ⟨some 5, .mov (.tmp 10), none, []⟩] []) (.seq (.region [⟨some 11, .mov (.tmp 1), none, []⟩,
  ⟨some 12, .mov (.tmp 0), none, []⟩,
  ⟨some 13, .mov (.tmp 5), none, []⟩,
  ⟨some 14, .idxL 8 (.tmp 12) (.tmp 13), none, []⟩,
  ⟨some 15, .load 8 true (.tmp 14), none, []⟩,
  ⟨some 16, .callv (.tmp 11) [(.tmp 15)], none, []⟩] []) (.cond (.tmp 16) (.seq (.region [⟨some 17, .mov (.tmp 5), none, []⟩,
  ⟨some 4, .mov (.tmp 17), none, []⟩] []) .ret) .skip)))) (.region [⟨some 18, .bin .add (.tmp 8) (.const (.int .i64 1)), none, []⟩,
  ⟨some 8, .mov (.tmp 18), none, []⟩] []))))))) (.seq (.region [⟨some 4, .mov (.const (.int .i64 (-1))), none, []⟩] []) .ret)))
theorem l55 : (Tryd.f55.body.bind (lowC Tryd.prog 19 [])) = some c55 := by kernel_rfl
noncomputable def c12 : DCode := (.seq (.region [⟨some 1, .box 10 (.tmp 0), none, []⟩,
  ⟨some 2, .alloc [(.int .i64 0), (.int .i64 0), (.int .i64 0), (.int .i64 0)], none, []⟩] []) (.seq (.region [⟨some 6, .sliceA 10 1 (.tmp 1) none none, none, []⟩,
  ⟨some 7, .inl 44 [(.tmp 6)], none, []⟩,
  ⟨some 8, .prim .strB (.tmp 7), none, []⟩,
  ⟨some 9, .buildS 9 1 1 [(.str ⟨#[]⟩)] [(0, (.tmp 8))], none, []⟩,
  ⟨some 10, .call 43 [(.const (.int .i64 4)), (.tmp 9)], none, []⟩,
  ⟨some 3, .alloc [(.int .u8 0), (.int .u8 0), (.int .u8 0), (.int .u8 0), (.int .u8 0), (.int .u8 0), (.int .u8 0), (.int .u8 0), (.int .u8 0), (.int .u8 0), (.int .u8 0), (.int .u8 0), (.int .u8 0), (.int .u8 0), (.int .u8 0), (.int .u8 0)], none, []⟩,
  ⟨none, .store 16 (.tmp 3) (.tmp 10), none, []⟩] []) (.seq (.region [⟨some 4, .alloc [(.int .i64 0), (.int .i64 0), (.int .i64 0), (.int .i64 0)], none, []⟩] []) (.seq (.seq (.region [⟨some 11, .mov (.const (.int .i64 0)), none, []⟩] []) (.block 0 (.loop (.seq (.region [⟨some 12, .bin .lss (.tmp 11) (.const (.int .i64 16)), none, []⟩] []) (.seq (.cond (.tmp 12) .skip (.exit 0)) (.seq (.block 1 (.seq (.region [⟨some 13, .mov (.tmp 11), none, []⟩,
  ⟨some 5, .mov (.tmp 13), none, []⟩] []) (.region [⟨some 14, .mov (.tmp 5), none, []⟩,
  ⟨some 15, .bin .quo (.tmp 14) (.const (.int .i64 4)), none, []⟩,
  ⟨some 16, .mov (.tmp 5), none, []⟩,
  ⟨some 17, .bin .quo (.tmp 16) (.const (.int .i64 4)), none, []⟩,
  ⟨some 18, .idxA 4 1 (.tmp 4) (.tmp 17), none, []⟩,
  ⟨some 19, .load 1 false (.tmp 18), none, []⟩,
  ⟨some 20, .bin .shl (.tmp 19) (.const (.int .u64 8)), none, []⟩,
  ⟨some 21, .mov (.tmp 5), none, []⟩,
  ⟨some 22, .idxA 16 1 (.tmp 3) (.tmp 21), none, []⟩,
  ⟨some 23, .load 1 false (.tmp 22), none, []⟩,
  ⟨some 24, .conv .i64 (.tmp 23), none, []⟩,
  ⟨some 25, .bin .or (.tmp 20) (.tmp 24), none, []⟩,
  ⟨some 26, .idxA 4 1 (.tmp 4) (.tmp 15), none, []⟩,
  ⟨none, .store 1 (.tmp 26) (.tmp 25), none, []⟩] []))) (.region [⟨some 27, .bin .add (.tmp 11) (.const (.int .i64 1)), none, []⟩,
  ⟨some 11, .mov (.tmp 27), none, []⟩] []))))))) (.seq (.region [⟨some 28, .load 4 true (.tmp 4), none, []⟩,
  ⟨none, .store 4 (.tmp 2) (.tmp 28), none, []⟩] []) .ret)))))
theorem l12 : (Tryd.f12.body.bind (lowC Tryd.prog 29 [44])) = some c12 := by kernel_rfl
noncomputable def c14 : DCode := (.seq (.region [⟨some 2, .box 4 (.tmp 0), none, []⟩,
  ⟨some 3, .box 4 (.tmp 1), none, []⟩,
  ⟨some 4, .alloc [(.int .i64 0), (.int .i64 0), (.int .i64 0), (.int .i64 0)], none, []⟩] []) (.seq (.seq (.region [⟨some 6, .mov (.const (.int .i64 0)), none, []⟩] []) (.block 0 (.loop (.seq (.region [⟨some 7, .bin .lss (.tmp 6) (.const (.int .i64 4)), none, []⟩] []) (.seq (.cond (.tmp 7) .skip (.exit 0)) (.seq (.block 1 (.seq (.region [⟨some 8, .mov (.tmp 6), none, []⟩,
  ⟨some 5, .mov (.tmp 8), none, []⟩] []) (.region [⟨some 9, .mov (.tmp 5), none, []⟩,
  ⟨some 10, .mov (.tmp 5), none, []⟩,
  ⟨some 11, .idxA 4 1 (.tmp 2) (.tmp 10), none, []⟩,
  ⟨some 12, .load 1 false (.tmp 11), none, []⟩,
  ⟨some 13, .mov (.tmp 5), none, []⟩,
  ⟨some 14, .idxA 4 1 (.tmp 3) (.tmp 13), none, []⟩,
  ⟨some 15, .load 1 false (.tmp 14), none, []⟩,
  ⟨some 16, .bin .add (.tmp 12) (.tmp 15), none, []⟩,
  ⟨some 17, .bin .and (.tmp 16) (.const (.int .i64 4294967295)), none, []⟩,
  ⟨some 18, .idxA 4 1 (.tmp 2) (.tmp 9), none, []⟩,
  ⟨none, .store 1 (.tmp 18) (.tmp 17), none, []⟩] []))) (.region [⟨some 19, .bin .add (.tmp 6) (.const (.int .i64 1)), none, []⟩,
  ⟨some 6, .mov (.tmp 19), none, []⟩] []))))))) (.seq (.region [⟨some 20, .load 4 true (.tmp 2), none, []⟩,
  ⟨none, .store 4 (.tmp 4) (.tmp 20), none, []⟩] []) .ret)))
theorem l14 : (Tryd.f14.body.bind (lowC Tryd.prog 21 [])) = some c14 := by kernel_rfl
noncomputable def c16 : DCode := (.seq (.region [⟨some 2, .box 4 (.tmp 0), none, []⟩,
  ⟨some 3, .box 4 (.tmp 1), none, []⟩,
  ⟨some 4, .alloc [(.int .i64 0), (.int .i64 0), (.int .i64 0), (.int .i64 0)], none, []⟩] []) (.seq (.seq (.region [⟨some 6, .mov (.const (.int .i64 0)), none, []⟩] []) (.block 0 (.loop (.seq (.region [⟨some 7, .bin .lss (.tmp 6) (.const (.int .i64 4)), none, []⟩] []) (.seq (.cond (.tmp 7) .skip (.exit 0)) (.seq (.block 1 (.seq (.region [⟨some 8, .mov (.tmp 6), none, []⟩,
  ⟨some 5, .mov (.tmp 8), none, []⟩] []) (.region [⟨some 9, .mov (.tmp 5), none, []⟩,
  ⟨some 10, .mov (.tmp 5), none, []⟩,
  ⟨some 11, .idxA 4 1 (.tmp 2) (.tmp 10), none, []⟩,
  ⟨some 12, .load 1 false (.tmp 11), none, []⟩,
  ⟨some 13, .mov (.tmp 5), none, []⟩,
  ⟨some 14, .idxA 4 1 (.tmp 3) (.tmp 13), none, []⟩,
  ⟨some 15, .load 1 false (.tmp 14), none, []⟩,
  ⟨some 16, .bin .sub (.tmp 12) (.tmp 15), none, []⟩,
  ⟨some 17, .bin .and (.tmp 16) (.const (.int .i64 4294967295)), none, []⟩,
  ⟨some 18, .idxA 4 1 (.tmp 2) (.tmp 9), none, []⟩,
  ⟨none, .store 1 (.tmp 18) (.tmp 17), none, []⟩] []))) (.region [⟨some 19, .bin .add (.tmp 6) (.const (.int .i64 1)), none, []⟩,
  ⟨some 6, .mov (.tmp 19), none, []⟩] []))))))) (.seq (.region [⟨some 20, .load 4 true (.tmp 2), none, []⟩,
  ⟨none, .store 4 (.tmp 4) (.tmp 20), none, []⟩] []) .ret)))
theorem l16 : (Tryd.f16.body.bind (lowC Tryd.prog 21 [])) = some c16 := by kernel_rfl
noncomputable def c19 : DCode := (.seq (.region [⟨some 2, .box 8 (.tmp 0), none, []⟩,
  ⟨some 3, .box 8 (.tmp 1), none, []⟩,
  ⟨some 4, .mov (.const (.int .i64 0)), none, []⟩,
  ⟨some 5, .mov (.const (.int .i64 0)), none, []⟩] []) (.seq (.region [⟨some 7, .offA 3 (.tmp 2), none, []⟩,
  ⟨some 8, .load 1 false (.tmp 7), none, []⟩,
  ⟨some 9, .offA 3 (.tmp 3), none, []⟩,
  ⟨some 10, .load 1 false (.tmp 9), none, []⟩,
  ⟨some 11, .bin .sub (.tmp 8) (.tmp 10), none, []⟩,
  ⟨some 6, .mov (.tmp 11), none, []⟩] []) (.seq (.seq (.region [⟨some 12, .mov (.tmp 6), none, []⟩,
  ⟨some 13, .bin .lss (.tmp 12) (.const (.int .i64 0)), none, []⟩,
  ⟨some 14, .mov (.tmp 13), none, []⟩,
  ⟨some 15, .mov (.tmp 6), some (14, false), []⟩,
  ⟨some 16, .bin .eql (.tmp 15) (.const (.int .i64 0)), some (14, false), []⟩,
  ⟨some 17, .mov (.tmp 16), some (14, false), []⟩,
  ⟨some 18, .offA 4 (.tmp 2), some (17, true), []⟩,
  ⟨some 19, .load 4 true (.tmp 18), some (17, true), []⟩,
  ⟨some 20, .offA 4 (.tmp 3), some (17, true), []⟩,
  ⟨some 21, .load 4 true (.tmp 20), some (17, true), []⟩,
  ⟨some 22, .eqv true [.int .i64, .int .i64, .int .i64, .int .i64] (.tmp 19) (.tmp 21), some (17, true), []⟩,
  ⟨some 23, .pick (.tmp 17) (.tmp 22) (.const (.bool false)), some (14, false), []⟩,
  ⟨some 24, .pick (.tmp 14) (.const (.bool true)) (.tmp 23), none, []⟩] []) (.cond (.tmp 24) (.seq (.region [⟨some 4, .mov (.const (.int .i64 0)), none, []⟩,
  ⟨some 5, .mov (.const (.int .i64 26)), none, []⟩] []) .ret) .skip)) (.seq (.region [⟨some 25, .mov (.tmp 6), none, []⟩,
  ⟨some 4, .mov (.tmp 25), none, []⟩,
  ⟨some 5, .mov (.const (.int .i64 0)), none, []⟩] []) .ret))))
theorem l19 : (Tryd.f19.body.bind (lowC Tryd.prog 26 [])) = some c19 := by kernel_rfl
noncomputable def c49 : DCode := (.seq (.region [⟨some 1, .box 8 (.tmp 0), none, []⟩,
  ⟨some 2, .alloc [(.int .i64 0), (.int .i64 0), (.int .i64 0)], none, []⟩] []) (.seq (.region [⟨some 3, .offA 0 (.tmp 1), none, []⟩,
  ⟨some 4, .load 1 false (.tmp 3), none, []⟩,
  ⟨some 5, .offA 1 (.tmp 1), none, []⟩,
  ⟨some 6, .load 1 false (.tmp 5), none, []⟩,
  ⟨some 7, .offA 2 (.tmp 1), none, []⟩,
  ⟨some 8, .load 1 false (.tmp 7), none, []⟩,
  ⟨some 9, .build [(.int .i64 0), (.int .i64 0), (.int .i64 0)] [(0, 1, (.tmp 4)), (1, 1, (.tmp 6)), (2, 1, (.tmp 8))], none, []⟩,
  ⟨none, .store 3 (.tmp 2) (.tmp 9), none, []⟩] []) .ret))
theorem l49 : (Tryd.f49.body.bind (lowC Tryd.prog 10 [])) = some c49 := by kernel_rfl
noncomputable def c50 : DCode := (.seq (.region [⟨some 1, .box 3 (.tmp 0), none, []⟩,
  ⟨some 2, .mov (.const (.bool false)), none, []⟩] []) (.seq (.region [⟨some 3, .offA 0 (.tmp 1), none, []⟩,
  ⟨some 4, .load 1 false (.tmp 3), none, []⟩,
  ⟨some 5, .bin .geq (.tmp 4) (.const (.int .i64 1)), none, []⟩,
  ⟨some 6, .mov (.tmp 5), none, []⟩,
  ⟨some 7, .offA 0 (.tmp 1), some (6, true), []⟩,
  ⟨some 8, .load 1 false (.tmp 7), some (6, true), []⟩,
  ⟨some 9, .bin .leq (.tmp 8) (.const (.int .i64 2)), some (6, true), []⟩,
  ⟨some 10, .pick (.tmp 6) (.tmp 9) (.const (.bool false)), none, []⟩,
  ⟨some 11, .mov (.tmp 10), none, []⟩,
  ⟨some 12, .offA 1 (.tmp 1), some (11, true), []⟩,
  ⟨some 13, .load 1 false (.tmp 12), some (11, true), []⟩,
  ⟨some 14, .bin .geq (.tmp 13) (.const (.int .i64 0)), some (11, true), []⟩,
  ⟨some 15, .pick (.tmp 11) (.tmp 14) (.const (.bool false)), none, []⟩,
  ⟨some 16, .mov (.tmp 15), none, []⟩,
  ⟨some 17, .offA 1 (.tmp 1), some (16, true), []⟩,
  ⟨some 18, .load 1 false (.tmp 17), some (16, true), []⟩,
  ⟨some 19, .bin .leq (.tmp 18) (.const (.int .i64 65535)), some (16, true), []⟩,
  ⟨some 20, .pick (.tmp 16) (.tmp 19) (.const (.bool false)), none, []⟩,
  ⟨some 21, .mov (.tmp 20), none, []⟩,
  ⟨some 22, .offA 2 (.tmp 1), some (21, true), []⟩,
  ⟨some 23, .load 1 false (.tmp 22), some (21, true), []⟩,
  ⟨some 24, .bin .geq (.tmp 23) (.const (.int .i64 0)), some (21, true), []⟩,
  ⟨some 25, .pick (.tmp 21) (.tmp 24) (.const (.bool false)), none, []⟩,
  ⟨some 26, .mov (.tmp 25), none, []⟩,
  ⟨some 27, .offA 2 (.tmp 1), some (26, true), []⟩,
  ⟨some 28, .load 1 false (.tmp 27), some (26, true), []⟩,
  ⟨some 29, .bin .leq (.tmp 28) (.const (.int .i64 1073741824)), some (26, true), []⟩,
  ⟨some 30, .pick (.tmp 26) (.tmp 29) (.const (.bool false)), none, []⟩,
  ⟨some 2, .mov (.tmp 30), none, []⟩] []) .ret))
theorem l50 : (Tryd.f50.body.bind (lowC Tryd.prog 31 [])) = some c50 := by kernel_rfl
noncomputable def c52 : DCode := (.seq (.region [⟨some 2, .box 3 (.tmp 0), none, []⟩,
  ⟨some 3, .box 3 (.tmp 1), none, []⟩,
  ⟨some 4, .mov (.const (.int .i64 0)), none, []⟩] []) (.seq (.region [⟨some 5, .offA 0 (.tmp 2), none, []⟩,
  ⟨some 6, .load 1 false (.tmp 5), none, []⟩,
  ⟨some 7, .offA 0 (.tmp 3), none, []⟩,
  ⟨some 8, .load 1 false (.tmp 7), none, []⟩,
  ⟨some 9, .call 81 [(.tmp 6), (.tmp 8)], none, []⟩,
  ⟨some 10, .offA 1 (.tmp 2), none, []⟩,
  ⟨some 11, .load 1 false (.tmp 10), none, []⟩,
  ⟨some 12, .offA 1 (.tmp 3), none, []⟩,
  ⟨some 13, .load 1 false (.tmp 12), none, []⟩,
  ⟨some 14, .call 81 [(.tmp 11), (.tmp 13)], none, []⟩,
  ⟨some 15, .offA 2 (.tmp 2), none, []⟩,
  ⟨some 16, .load 1 false (.tmp 15), none, []⟩,
  ⟨some 17, .offA 2 (.tmp 3), none, []⟩,
  ⟨some 18, .load 1 false (.tmp 17), none, []⟩,
  ⟨some 19, .call 81 [(.tmp 16), (.tmp 18)], none, []⟩,
  ⟨some 20, .buildT 1 3 [(.int .i64 0)] [(0, (.tmp 9)), (1, (.tmp 14)), (2, (.tmp 19))], none, []⟩,
  ⟨some 21, .call 80 [(.tmp 20)], none, []⟩,
  ⟨some 4, .mov (.tmp 21), none, []⟩] []) .ret))
theorem l52 : (Tryd.f52.body.bind (lowC Tryd.prog 22 [])) = some c52 := by kernel_rfl
noncomputable def c28 : DCode := (.seq (.region [⟨some 1, .box 19 (.tmp 0), none, []⟩,
  ⟨some 2, .mov (.const (.int .i64 0)), none, []⟩] []) (.seq (.seq (.region [⟨some 6, .offA 2 (.tmp 1), none, []⟩,
  ⟨some 7, .load 1 false (.tmp 6), none, []⟩,
  ⟨some 8, .len (.tmp 7), none, []⟩,
  ⟨some 9, .bin .gtr (.tmp 8) (.const (.int .i64 1000)), none, []⟩] []) (.cond (.tmp 9) (.seq (.region [⟨some 2, .mov (.const (.int .i64 2)), none, []⟩] []) .ret) .skip)) (.seq (.seq (.region [⟨some 10, .offA 0 (.tmp 1), none, []⟩,
  ⟨some 11, .load 1 false (.tmp 10), none, []⟩,
  ⟨some 12, .bin .lss (.tmp 11) (.const (.int .i64 0)), none, []⟩,
  ⟨some 13, .mov (.tmp 12), none, []⟩,
  ⟨some 14, .offA 0 (.tmp 1), some (13, false), []⟩,
  ⟨some 15, .load 1 false (.tmp 14), some (13, false), []⟩,
  ⟨some 16, .bin .geq (.tmp 15) (.const (.int .i64 200)), some (13, false), []⟩,
  ⟨some 17, .pick (.tmp 13) (.const (.bool true)) (.tmp 16), none, []⟩,
  ⟨some 18, .mov (.tmp 17), none, []⟩,
  ⟨some 19, .offA 1 (.tmp 1), some (18, false), []⟩,
  ⟨some 20, .load 1 false (.tmp 19), some (18, false), []⟩,
  ⟨some 21, .bin .lss (.tmp 20) (.const (.int .i64 0)), some (18, false), []⟩,
  ⟨some 22, .pick (.tmp 18) (.const (.bool true)) (.tmp 21), none, []⟩,
  ⟨some 23, .mov (.tmp 22), none, []⟩,
  ⟨some 24, .offA 1 (.tmp 1), some (23, false), []⟩,
  ⟨some 25, .load 1 false (.tmp 24), some (23, false), []⟩,
  ⟨some 26, .bin .gtr (.tmp 25) (.const (.int .i64 1048576)), some (23, false), []⟩,
  ⟨some 27, .pick (.tmp 23) (.const (.bool true)) (.tmp 26), none, []⟩] []) (.cond (.tmp 27) (.seq (.region [⟨some 2, .mov (.const (.int .i64 1)), none, []⟩] []) .ret) .skip)) (.seq (.region [⟨some 3, .mov (.const (.clos 48 [])), none, []⟩] []) (.seq (.seq (.region [⟨some 28, .offA 2 (.tmp 1), none, []⟩,
  ⟨some 29, .load 1 false (.tmp 28), none, []⟩,
  ⟨some 30, .len (.tmp 29), none, []⟩,
  ⟨some 31, .mov (.const (.int .i64 0)), none, []⟩] []) (.block 0 (.loop (.seq (.region [⟨some 32, .bin .lss (.tmp 31) (.tmp 30), none, []⟩] []) (.seq (.cond (.tmp 32) .skip (.exit 0)) (.seq (.block 1 (.seq (.region [⟨some 33, .mov (.tmp 31), none, []⟩,
  ⟨some 34, .idxL 8 (.tmp 29) (.tmp 31), none, []⟩,
  ⟨some 35, .load 8 true (.tmp 34), none, []⟩,
  ⟨some 5, .alloc [(.int .i64 0), (.int .i64 0), (.int .i64 0), (.int .i64 0), (.int .i64 0), (.int .i64 0), (.int .i64 0), (.int .i64 0)], none, []⟩,
  ⟨some 4, .mov (.tmp 33), none, []⟩,
  ⟨none, .store 8 (.tmp 5) (.tmp 35), none, []⟩] []) (.seq (.region [⟨some 36, .load 8 true (.tmp 5), none, []⟩,
  ⟨some 37, .call 49 [(.tmp 36)], none, []⟩,
  ⟨some 38, .call 50 [(.tmp 37)], none, []⟩,
  ⟨some 39, .not (.tmp 38), none, []⟩,
  ⟨some 40, .mov (.tmp 39), none, []⟩,
  ⟨some 41, .offA 3 (.tmp 5), some (40, false), []⟩,
  ⟨some 42, .load 1 false (.tmp 41), some (40, false), []⟩,
  ⟨some 43, .bin .lss (.tmp 42) (.const (.int .i64 1)), some (40, false), []⟩,
  ⟨some 44, .pick (.tmp 40) (.const (.bool true)) (.tmp 43), none, []⟩,
  ⟨some 45, .mov (.tmp 44), none, []⟩,
  ⟨some 46, .offA 3 (.tmp 5), some (45, false), []⟩,
  ⟨some 47, .load 1 false (.tmp 46), some (45, false), []⟩,
  ⟨some 48, .bin .gtr (.tmp 47) (.const (.int .i64 1073741824)), some (45, false), []⟩,
  ⟨some 49, .pick (.tmp 45) (.const (.bool true)) (.tmp 48), none, []⟩,
  ⟨some 50, .mov (.tmp 49), none, []⟩,
  ⟨some 51, .offA 4 (.tmp 5), some (50, false), []⟩,
  ⟨some 52, .sliceA 4 1 (.tmp 51) none none, some (50, false), []⟩,
  ⟨some 53, .mov (.tmp 3), some (50, false), []⟩,
  ⟨some 54, .call 51 [(.tmp 52), (.tmp 53)], some (50, false), []⟩,
  ⟨some 55, .pick (.tmp 50) (.const (.bool true)) (.tmp 54), none, []⟩,
  ⟨some 56, .mov (.tmp 55), none, []⟩,
  ⟨some 57, .mov (.tmp 4), some (56, false), []⟩,
  ⟨some 58, .bin .gtr (.tmp 57) (.const (.int .i64 0)), some (56, false), []⟩,
  ⟨some 59, .mov (.tmp 58), some (56, false), []⟩,
  ⟨some 60, .offA 2 (.tmp 1), some (59, true), []⟩,
  ⟨some 61, .load 1 false (.tmp 60), some (59, true), []⟩,
  ⟨some 62, .mov (.tmp 4), some (59, true), []⟩,
  ⟨some 63, .bin .sub (.tmp 62) (.const (.int .i64 1)), some (59, true), []⟩,
  ⟨some 64, .idxL 8 (.tmp 61) (.tmp 63), some (59, true), []⟩,
  ⟨some 65, .load 8 true (.tmp 64), some (59, true), []⟩,
  ⟨some 66, .call 49 [(.tmp 65)], some (59, true), []⟩,
  ⟨some 67, .load 8 true (.tmp 5), some (59, true), []⟩,
  ⟨some 68, .call 49 [(.tmp 67)], some (59, true), []⟩,
  ⟨some 69, .call 52 [(.tmp 66), (.tmp 68)], some (59, true), []⟩,
  ⟨some 70, .bin .geq (.tmp 69) (.const (.int .i64 0)), some (59, true), []⟩,
  ⟨some 71, .pick (.tmp 59) (.tmp 70) (.const (.bool false)), some (56, false), []⟩,
  ⟨some 72, .pick (.tmp 56) (.const (.bool true)) (.tmp 71), none, []⟩] []) (.cond (.tmp 72) (.seq (.region [⟨some 2, .mov (.const (.int .i64 1)), none, []⟩] []) .ret) .skip)))) (.region [⟨some 73, .bin .add (.tmp 31) (.const (.int .i64 1)), none, []⟩,
  ⟨some 31, .mov (.tmp 73), none, []⟩] []))))))) (.seq (.region [⟨some 2, .mov (.const (.int .i64 0)), none, []⟩] []) .ret))))))
theorem l28 : (Tryd.f28.body.bind (lowC Tryd.prog 74 [])) = some c28 := by kernel_rfl
noncomputable def c48 : DCode := (.seq (.region [⟨some 2, .mov (.const (.bool false)), none, []⟩] []) (.seq (.region [⟨some 3, .mov (.tmp 0), none, []⟩,
  ⟨some 4, .bin .lss (.tmp 3) (.const (.int .i64 0)), none, []⟩,
  ⟨some 5, .mov (.tmp 4), none, []⟩,
  ⟨some 6, .mov (.tmp 0), some (5, false), []⟩,
  ⟨some 7, .bin .gtr (.tmp 6) (.const (.int .i64 4294967295)), some (5, false), []⟩,
  ⟨some 8, .pick (.tmp 5) (.const (.bool true)) (.tmp 7), none, []⟩,
  ⟨some 2, .mov (.tmp 8), none, []⟩] []) .ret))
theorem l48 : (Tryd.f48.body.bind (lowC Tryd.prog 9 [])) = some c48 := by kernel_rfl
noncomputable def c30 : DCode := (.seq (.region [⟨some 4, .box 19 (.tmp 0), none, []⟩,
  ⟨some 5, .box 1 (.tmp 1), none, []⟩,
  ⟨some 6, .box 1 (.tmp 2), none, []⟩,
  ⟨some 7, .box 1 (.tmp 3), none, []⟩,
  ⟨some 8, .alloc [(.int .i64 0), (.int .i64 0), (.int .i64 0), (.int .i64 0), (.int .i64 0), (.int .i64 0), (.int .i64 0), (.int .i64 0)], none, []⟩,
  ⟨some 9, .mov (.const (.bool false)), none, []⟩] []) (.seq (.region [⟨some 11, .offA 2 (.tmp 4), none, []⟩,
  ⟨some 12, .load 1 false (.tmp 11), none, []⟩,
  ⟨some 13, .mkfn 56 [(.tmp 5), (.tmp 6), (.tmp 7)], none, []⟩,
  ⟨some 14, .call 55 [(.tmp 12), (.tmp 13)], none, []⟩,
  ⟨some 10, .mov (.tmp 14), none, []⟩] []) (.seq (.seq (.region [⟨some 15, .mov (.tmp 10), none, []⟩,
  ⟨some 16, .bin .lss (.tmp 15) (.const (.int .i64 0)), none, []⟩] []) (.cond (.tmp 16) (.seq (.region [⟨some 17, .build [(.int .i64 0), (.int .i64 0), (.int .i64 0), (.int .i64 0), (.int .i64 0), (.int .i64 0), (.int .i64 0), (.int .i64 0)] [], none, []⟩,
  ⟨none, .store 8 (.tmp 8) (.tmp 17), none, []⟩,
  ⟨some 9, .mov (.const (.bool false)), none, []⟩] []) .ret) .skip)) (.seq (.region [⟨some 18, .offA 2 (.tmp 4), none, []⟩,
  ⟨some 19, .load 1 false (.tmp 18), none, []⟩,
  ⟨some 20, .mov (.tmp 10), none, []⟩,
  ⟨some 21, .idxL 8 (.tmp 19) (.tmp 20), none, []⟩,
  ⟨some 22, .load 8 true (.tmp 21), none, []⟩,
  ⟨none, .store 8 (.tmp 8) (.tmp 22), none, []⟩,
  ⟨some 9, .mov (.const (.bool true)), none, []⟩] []) .ret))))
theorem l30 : (Tryd.f30.body.bind (lowC Tryd.prog 23 [])) = some c30 := by kernel_rfl
noncomputable def c56 : DCode := (.seq (.region [⟨some 4, .box 8 (.tmp 0), none, []⟩,
  ⟨some 5, .mov (.const (.bool false)), none, []⟩] []) (.seq (.region [⟨some 6, .load 8 true (.tmp 4), none, []⟩,
  ⟨some 7, .call 49 [(.tmp 6)], none, []⟩,
  ⟨some 8, .load 1 false (.tmp 1), none, []⟩,
  ⟨some 9, .load 1 false (.tmp 2), none, []⟩,
  ⟨some 10, .load 1 false (.tmp 3), none, []⟩,
  ⟨some 11, .build [(.int .i64 0), (.int .i64 0), (.int .i64 0)] [(0, 1, (.tmp 8)), (1, 1, (.tmp 9)), (2, 1, (.tmp 10))], none, []⟩,
  ⟨some 12, .eqv false [.int .i64, .int .i64, .int .i64] (.tmp 7) (.tmp 11), none, []⟩,
  ⟨some 5, .mov (.tmp 12), none, []⟩] []) .ret))
theorem l56 : (Tryd.f56.body.bind (lowC Tryd.prog 13 [])) = some c56 := by kernel_rfl
noncomputable def c23 : DCode := (.seq (.region [⟨some 2, .box 19 (.tmp 0), none, []⟩,
  ⟨some 3, .box 19 (.tmp 1), none, []⟩,
  ⟨some 4, .mov (.const (.bool false)), none, []⟩] []) (.seq (.region [⟨some 5, .offA 0 (.tmp 2), none, []⟩,
  ⟨some 6, .load 1 false (.tmp 5), none, []⟩,
  ⟨some 7, .offA 0 (.tmp 3), none, []⟩,
  ⟨some 8, .load 1 false (.tmp 7), none, []⟩,
  ⟨some 9, .bin .eql (.tmp 6) (.tmp 8), none, []⟩,
  ⟨some 10, .mov (.tmp 9), none, []⟩,
  ⟨some 11, .offA 1 (.tmp 2), some (10, true), []⟩,
  ⟨some 12, .load 1 false (.tmp 11), some (10, true), []⟩,
  ⟨some 13, .offA 1 (.tmp 3), some (10, true), []⟩,
  ⟨some 14, .load 1 false (.tmp 13), some (10, true), []⟩,
  ⟨some 15, .bin .eql (.tmp 12) (.tmp 14), some (10, true), []⟩,
  ⟨some 16, .pick (.tmp 10) (.tmp 15) (.const (.bool false)), none, []⟩,
  ⟨some 17, .mov (.tmp 16), none, []⟩,
  ⟨some 18, .offA 3 (.tmp 2), some (17, true), []⟩,
  ⟨some 19, .load 16 true (.tmp 18), some (17, true), []⟩,
  ⟨some 20, .offA 3 (.tmp 3), some (17, true), []⟩,
  ⟨some 21, .load 16 true (.tmp 20), some (17, true), []⟩,
  ⟨some 22, .eqv false [.int .u8, .int .u8, .int .u8, .int .u8, .int .u8, .int .u8, .int .u8, .int .u8, .int .u8, .int .u8, .int .u8, .int .u8, .int .u8, .int .u8, .int .u8, .int .u8] (.tmp 19) (.tmp 21), some (17, true), []⟩,
  ⟨some 23, .pick (.tmp 17) (.tmp 22) (.const (.bool false)), none, []⟩,
  ⟨some 24, .mov (.tmp 23), none, []⟩,
  ⟨some 25, .offA 2 (.tmp 2), some (24, true), []⟩,
  ⟨some 26, .load 1 false (.tmp 25), some (24, true), []⟩,
  ⟨some 27, .offA 2 (.tmp 3), some (24, true), []⟩,
  ⟨some 28, .load 1 false (.tmp 27), some (24, true), []⟩,
  ⟨some 29, .call 47 [(.tmp 26), (.tmp 28)], some (24, true), []⟩,
  ⟨some 30, .pick (.tmp 24) (.tmp 29) (.const (.bool false)), none, []⟩,
  ⟨some 4, .mov (.tmp 30), none, []⟩] []) .ret))
theorem l23 : (Tryd.f23.body.bind (lowC Tryd.prog 31 [])) = some c23 := by kernel_rfl
noncomputable def c22 : DCode := (.seq (.region [⟨some 4, .mov (.const (.int .i64 0)), none, []⟩,
  ⟨some 5, .mov (.const (.int .i64 0)), none, []⟩] []) (.seq (.region [⟨some 6, .alloc [(.int .u8 0), (.int .u8 0), (.int .u8 0), (.int .u8 0), (.int .u8 0), (.int .u8 0), (.int .u8 0), (.int .u8 0), (.int .u8 0), (.int .u8 0), (.int .u8 0), (.int .u8 0), (.int .u8 0), (.int .u8 0), (.int .u8 0), (.int .u8 0)], none, []⟩] []) (.seq (.seq (.region [⟨some 10, .mov (.tmp 1), none, []⟩,
  ⟨some 11, .len (.tmp 10), none, []⟩,
  ⟨some 12, .mov (.const (.int .i64 0)), none, []⟩] []) (.block 0 (.loop (.seq (.region [⟨some 13, .bin .lss (.tmp 12) (.tmp 11), none, []⟩] []) (.seq (.cond (.tmp 13) .skip (.exit 0)) (.seq (.block 1 (.seq (.region [⟨some 14, .mov (.tmp 12), none, []⟩,
  ⟨some 15, .idxL 19 (.tmp 10) (.tmp 12), none, []⟩,
  ⟨some 16, .load 19 true (.tmp 15), none, []⟩,
  ⟨some 8, .alloc [(.int .i64 0), (.int .i64 0), .nil, (.int .u8 0), (.int .u8 0), (.int .u8 0), (.int .u8 0), (.int .u8 0), (.int .u8 0), (.int .u8 0), (.int .u8 0), (.int .u8 0), (.int .u8 0), (.int .u8 0), (.int .u8 0), (.int .u8 0), (.int .u8 0), (.int .u8 0), (.int .u8 0)], none, []⟩,
  ⟨some 7, .mov (.tmp 14), none, []⟩,
  ⟨none, .store 19 (.tmp 8) (.tmp 16), none, []⟩] []) (.seq (.region [⟨some 17, .load 19 true (.tmp 8), none, []⟩,
  ⟨some 18, .call 28 [(.tmp 17)], none, []⟩,
  ⟨some 9, .mov (.tmp 18), none, []⟩] []) (.seq (.block 2 (.seq (.region [⟨some 20, .mov (.tmp 9), none, []⟩,
  ⟨some 21, .bin .neq (.tmp 20) (.const (.int .i64 0)), none, []⟩,
  ⟨some 19, .mov (.tmp 21), none, []⟩] []) (.cond (.tmp 19) .skip (.seq (.region [⟨some 23, .offA 0 (.tmp 8), none, []⟩,
  ⟨some 24, .load 1 false (.tmp 23), none, []⟩,
  ⟨some 25, .mov (.tmp 0), none, []⟩,
  ⟨some 26, .bin .neq (.tmp 24) (.tmp 25), none, []⟩,
  ⟨some 22, .mov (.tmp 26), none, []⟩] []) (.cond (.tmp 22) (.region [⟨some 9, .mov (.const (.int .i64 1)), none, []⟩] []) (.seq (.region [⟨some 28, .offA 1 (.tmp 8), none, []⟩,
  ⟨some 29, .load 1 false (.tmp 28), none, []⟩,
  ⟨some 30, .mov (.tmp 7), none, []⟩,
  ⟨some 31, .bin .neq (.tmp 29) (.tmp 30), none, []⟩,
  ⟨some 27, .mov (.tmp 31), none, []⟩] []) (.cond (.tmp 27) (.region [⟨some 9, .mov (.const (.int .i64 25)), none, []⟩] []) (.seq (.region [⟨some 33, .offA 3 (.tmp 8), none, []⟩,
  ⟨some 34, .load 16 true (.tmp 33), none, []⟩,
  ⟨some 35, .load 16 true (.tmp 6), none, []⟩,
  ⟨some 36, .eqv true [.int .u8, .int .u8, .int .u8, .int .u8, .int .u8, .int .u8, .int .u8, .int .u8, .int .u8, .int .u8, .int .u8, .int .u8, .int .u8, .int .u8, .int .u8, .int .u8] (.tmp 34) (.tmp 35), none, []⟩,
  ⟨some 32, .mov (.tmp 36), none, []⟩] []) (.cond (.tmp 32) (.region [⟨some 9, .mov (.const (.int .i64 7)), none, []⟩] []) .skip))))))))) (.seq (.seq (.region [⟨some 37, .mov (.tmp 9), none, []⟩,
  ⟨some 38, .bin .neq (.tmp 37) (.const (.int .i64 0)), none, []⟩] []) (.cond (.tmp 38) (.seq (.region [⟨some 39, .mov (.tmp 7), none, []⟩,
  ⟨some 40, .mov (.tmp 9), none, []⟩,
  ⟨some 4, .mov (.tmp 39), none, []⟩,
  ⟨some 5, .mov (.tmp 40), none, []⟩] []) .ret) .skip)) (.region [⟨some 41, .load 19 true (.tmp 8), none, []⟩,
  ⟨some 42, .call 24 [(.tmp 41)], none, []⟩,
  ⟨none, .store 16 (.tmp 6) (.tmp 42), none, []⟩] [])))))) (.region [⟨some 43, .bin .add (.tmp 12) (.const (.int .i64 1)), none, []⟩,
  ⟨some 12, .mov (.tmp 43), none, []⟩] []))))))) (.seq (.region [⟨some 44, .mov (.tmp 1), none, []⟩,
  ⟨some 45, .len (.tmp 44), none, []⟩,
  ⟨some 4, .mov (.tmp 45), none, []⟩,
  ⟨some 5, .mov (.const (.int .i64 0)), none, []⟩] []) .ret))))
theorem l22 : (Tryd.f22.body.bind (lowC Tryd.prog 46 [])) = some c22 := by kernel_rfl
noncomputable def c32 : DCode := (.seq (.region [⟨some 8, .alloc [(.int .i64 0), (.int .i64 0), (.int .i64 0), (.int .i64 0), (.int .i64 0), (.int .i64 0), (.int .i64 0), (.int .i64 0)], none, []⟩] []) (.seq (.region [⟨some 14, .mov (.tmp 1), none, []⟩,
  ⟨some 15, .mov (.tmp 2), none, []⟩,
  ⟨some 16, .mov (.tmp 3), none, []⟩,
  ⟨some 17, .build [(.int .i64 0), (.int .i64 0), (.int .i64 0), (.int .i64 0), (.int .i64 0), (.int .i64 0), (.int .i64 0), (.int .i64 0)] [(0, 1, (.tmp 14)), (1, 1, (.tmp 15)), (2, 1, (.tmp 16))], none, []⟩,
  ⟨some 9, .alloc [(.int .i64 0), (.int .i64 0), (.int .i64 0), (.int .i64 0), (.int .i64 0), (.int .i64 0), (.int .i64 0), (.int .i64 0)], none, []⟩,
  ⟨none, .store 8 (.tmp 9) (.tmp 17), none, []⟩] []) (.seq (.seq (.region [⟨some 18, .mov (.tmp 0), none, []⟩,
  ⟨some 19, .len (.tmp 18), none, []⟩,
  ⟨some 20, .mov (.const (.int .i64 0)), none, []⟩] []) (.block 0 (.loop (.seq (.region [⟨some 21, .bin .lss (.tmp 20) (.tmp 19), none, []⟩] []) (.seq (.cond (.tmp 21) .skip (.exit 0)) (.seq (.block 1 (.seq (.region [⟨some 22, .idxL 19 (.tmp 18) (.tmp 20), none, []⟩,
  ⟨some 23, .load 19 true (.tmp 22), none, []⟩,
  ⟨some 11, .alloc [(.int .i64 0), (.int .i64 0), .nil, (.int .u8 0), (.int .u8 0), (.int .u8 0), (.int .u8 0), (.int .u8 0), (.int .u8 0), (.int .u8 0), (.int .u8 0), (.int .u8 0), (.int .u8 0), (.int .u8 0), (.int .u8 0), (.int .u8 0), (.int .u8 0), (.int .u8 0), (.int .u8 0)], none, []⟩,
  ⟨none, .store 19 (.tmp 11) (.tmp 23), none, []⟩] []) (.seq (.region [⟨some 25, .load 19 true (.tmp 11), none, []⟩,
  ⟨some 26, .mov (.tmp 1), none, []⟩,
  ⟨some 27, .mov (.tmp 2), none, []⟩,
  ⟨some 28, .mov (.tmp 3), none, []⟩,
  ⟨some 29, .call 30 [(.tmp 25), (.tmp 26), (.tmp 27), (.tmp 28)], none, []⟩,
  ⟨some 24, .mov (.tmp 29), none, []⟩,
  ⟨some 30, .ext (.tmp 24) 0, none, []⟩,
  ⟨some 31, .ext (.tmp 24) 1, none, []⟩,
  ⟨some 12, .alloc [(.int .i64 0), (.int .i64 0), (.int .i64 0), (.int .i64 0), (.int .i64 0), (.int .i64 0), (.int .i64 0), (.int .i64 0)], none, []⟩,
  ⟨none, .store 8 (.tmp 12) (.tmp 30), none, []⟩,
  ⟨some 13, .mov (.tmp 31), none, []⟩] []) (.seq (.region [⟨some 32, .mov (.tmp 13), none, []⟩] []) (.cond (.tmp 32) (.seq (.region [⟨some 33, .offA 3 (.tmp 9), none, []⟩,
  ⟨some 34, .load 1 false (.tmp 33), none, []⟩,
  ⟨some 35, .offA 3 (.tmp 12), none, []⟩,
  ⟨some 36, .load 1 false (.tmp 35), none, []⟩,
  ⟨some 37, .bin .add (.tmp 34) (.tmp 36), none, []⟩,
  ⟨some 38, .offA 3 (.tmp 9), none, []⟩,
  ⟨none, .store 1 (.tmp 38) (.tmp 37), none, []⟩] []) (.region [⟨some 39, .offA 4 (.tmp 9), none, []⟩,
  ⟨some 40, .load 4 true (.tmp 39), none, []⟩,
  ⟨some 41, .offA 4 (.tmp 12), none, []⟩,
  ⟨some 42, .load 4 true (.tmp 41), none, []⟩,
  ⟨some 43, .call 14 [(.tmp 40), (.tmp 42)], none, []⟩,
  ⟨some 44, .offA 4 (.tmp 9), none, []⟩,
  ⟨none, .store 4 (.tmp 44) (.tmp 43), none, []⟩] [])) .skip))))) (.region [⟨some 45, .bin .add (.tmp 20) (.const (.int .i64 1)), none, []⟩,
  ⟨some 20, .mov (.tmp 45), none, []⟩] []))))))) (.seq (.region [⟨some 46, .load 8 true (.tmp 9), none, []⟩,
  ⟨none, .store 8 (.tmp 8) (.tmp 46), none, []⟩] []) .ret))))
theorem l32 : (Tryd.f32.body.bind (lowC Tryd.prog 47 [])) = some c32 := by kernel_rfl
noncomputable def c34 : DCode := (.seq (.region [⟨some 1, .box 19 (.tmp 0), none, []⟩,
  ⟨some 2, .mov (.const .nil), none, []⟩] []) (.seq (.region [⟨some 6, .offA 0 (.tmp 1), none, []⟩,
  ⟨some 7, .load 1 false (.tmp 6), none, []⟩,
  ⟨some 8, .offA 1 (.tmp 1), none, []⟩,
  ⟨some 9, .load 1 false (.tmp 8), none, []⟩,
  ⟨some 10, .buildT 1 2 [(.int .i64 0)] [(0, (.tmp 7)), (1, (.tmp 9))], none, []⟩,
  ⟨some 11, .fcall 44 [(.tmp 10)], none, []⟩,
  ⟨some 12, .offA 2 (.tmp 1), none, []⟩,
  ⟨some 13, .load 1 false (.tmp 12), none, []⟩,
  ⟨some 14, .len (.tmp 13), none, []⟩,
  ⟨some 15, .call 58 [(.tmp 14)], none, []⟩,
  ⟨some 16, .append 61 5 1 1 (.tmp 11) (.tmp 15), none, []⟩,
  ⟨some 3, .mov (.tmp 16), none, []⟩] []) (.seq (.seq (.region [⟨some 17, .offA 2 (.tmp 1), none, []⟩,
  ⟨some 18, .load 1 false (.tmp 17), none, []⟩,
  ⟨some 19, .len (.tmp 18), none, []⟩,
  ⟨some 20, .mov (.const (.int .i64 0)), none, []⟩] []) (.block 0 (.loop (.seq (.region [⟨some 21, .bin .lss (.tmp 20) (.tmp 19), none, []⟩] []) (.seq (.cond (.tmp 21) .skip (.exit 0)) (.seq (.block 1 (.seq (.region [⟨some 22, .idxL 8 (.tmp 18) (.tmp 20), none, []⟩,
  ⟨some 23, .load 8 true (.tmp 22), none, []⟩,
  ⟨some 5, .alloc [(.int .i64 0), (.int .i64 0), (.int .i64 0), (.int .i64 0), (.int .i64 0), (.int .i64 0), (.int .i64 0), (.int .i64 0)], none, []⟩,
  ⟨none, .store 8 (.tmp 5) (.tmp 23), none, []⟩] []) (.region [⟨some 24, .mov (.tmp 3), none, []⟩,
  ⟨some 25, .offA 0 (.tmp 5), none, []⟩,
  ⟨some 26, .load 1 false (.tmp 25), none, []⟩,
  ⟨some 27, .offA 1 (.tmp 5), none, []⟩,
  ⟨some 28, .load 1 false (.tmp 27), none, []⟩,
  ⟨some 29, .offA 2 (.tmp 5), none, []⟩,
  ⟨some 30, .load 1 false (.tmp 29), none, []⟩,
  ⟨some 31, .offA 3 (.tmp 5), none, []⟩,
  ⟨some 32, .load 1 false (.tmp 31), none, []⟩,
  ⟨some 33, .buildF 1 4 [(.int .i64 0)] [(0, (.tmp 26)), (1, (.tmp 28)), (2, (.tmp 30)), (3, (.tmp 32))], none, []⟩,
  ⟨some 34, .offA 4 (.tmp 5), none, []⟩,
  ⟨some 35, .sliceA 4 1 (.tmp 34) none none, none, []⟩,
  ⟨some 36, .appT 1 8 (.tmp 33) (.tmp 35), none, []⟩,
  ⟨some 37, .call 44 [(.tmp 36)], none, []⟩,
  ⟨some 38, .append 61 5 1 1 (.tmp 24) (.tmp 37), none, []⟩,
  ⟨some 3, .mov (.tmp 38), none, []⟩] []))) (.region [⟨some 39, .bin .add (.tmp 20) (.const (.int .i64 1)), none, []⟩,
  ⟨some 20, .mov (.tmp 39), none, []⟩] []))))))) (.seq (.region [⟨some 40, .mov (.tmp 3), none, []⟩,
  ⟨some 41, .offA 3 (.tmp 1), none, []⟩,
  ⟨some 42, .load 16 true (.tmp 41), none, []⟩,
  ⟨some 43, .buildS 49 16 1 [(.int .u8 0), (.int .u8 0), (.int .u8 0), (.int .u8 0), (.int .u8 0), (.int .u8 0), (.int .u8 0), (.int .u8 0), (.int .u8 0), (.int .u8 0), (.int .u8 0), (.int .u8 0), (.int .u8 0), (.int .u8 0), (.int .u8 0), (.int .u8 0)] [(0, (.tmp 42))], none, []⟩,
  ⟨some 44, .call 59 [(.tmp 43)], none, []⟩,
  ⟨some 45, .append 61 5 1 1 (.tmp 40) (.tmp 44), none, []⟩,
  ⟨some 2, .mov (.tmp 45), none, []⟩] []) .ret))))
theorem l34 : (Tryd.f34.body.bind (lowC Tryd.prog 46 [8000033, 3000011])) = some c34 := by kernel_rfl
noncomputable def c24 : DCode := (.seq (.region [⟨some 1, .box 19 (.tmp 0), none, []⟩,
  ⟨some 2, .alloc [(.int .u8 0), (.int .u8 0), (.int .u8 0), (.int .u8 0), (.int .u8 0), (.int .u8 0), (.int .u8 0), (.int .u8 0), (.int .u8 0), (.int .u8 0), (.int .u8 0), (.int .u8 0), (.int .u8 0), (.int .u8 0), (.int .u8 0), (.int .u8 0)], none, []⟩] []) (.seq (.region [⟨some 3, .load 19 true (.tmp 1), none, []⟩,
  ⟨some 4, .call 34 [(.tmp 3)], none, []⟩,
  ⟨some 5, .prim .strB (.tmp 4), none, []⟩,
  ⟨some 6, .buildS 9 1 1 [(.str ⟨#[]⟩)] [(0, (.tmp 5))], none, []⟩,
  ⟨some 7, .call 43 [(.const (.int .i64 5)), (.tmp 6)], none, []⟩,
  ⟨none, .store 16 (.tmp 2) (.tmp 7), none, []⟩] []) .ret))
theorem l24 : (Tryd.f24.body.bind (lowC Tryd.prog 8 [])) = some c24 := by kernel_rfl
noncomputable def c40 : DCode := (.seq (.region [⟨some 2, .mov (.const .nilptr), none, []⟩,
  ⟨some 3, .mov (.const (.int .i64 0)), none, []⟩] []) (.seq (.seq (.region [⟨some 4, .mov (.tmp 0), none, []⟩,
  ⟨some 5, .bin .lss (.tmp 4) (.const (.int .i64 0)), none, []⟩,
  ⟨some 6, .mov (.tmp 5), none, []⟩,
  ⟨some 7, .mov (.tmp 0), some (6, false), []⟩,
  ⟨some 8, .bin .geq (.tmp 7) (.const (.int .i64 200)), some (6, false), []⟩,
  ⟨some 9, .pick (.tmp 6) (.const (.bool true)) (.tmp 8), none, []⟩] []) (.cond (.tmp 9) (.seq (.region [⟨some 2, .mov (.const .nilptr), none, []⟩,
  ⟨some 3, .mov (.const (.int .i64 1)), none, []⟩] []) .ret) .skip)) (.seq (.region [⟨some 10, .mov (.tmp 0), none, []⟩,
  ⟨some 11, .mkmap true [.int .i64, .int .i64, .int .i64], none, []⟩,
  ⟨some 12, .build [(.int .i64 0), (.int .i64 0), .nilmap, (.int .u8 0), (.int .u8 0), (.int .u8 0), (.int .u8 0), (.int .u8 0), (.int .u8 0), (.int .u8 0), (.int .u8 0), (.int .u8 0), (.int .u8 0), (.int .u8 0), (.int .u8 0), (.int .u8 0), (.int .u8 0), (.int .u8 0), (.int .u8 0)] [(0, 1, (.tmp 10)), (2, 1, (.tmp 11))], none, []⟩,
  ⟨some 13, .box 19 (.tmp 12), none, []⟩,
  ⟨some 2, .mov (.tmp 13), none, []⟩,
  ⟨some 3, .mov (.const (.int .i64 0)), none, []⟩] []) .ret)))
theorem l40 : (Tryd.f40.body.bind (lowC Tryd.prog 14 [])) = some c40 := by kernel_rfl
noncomputable def c41 : DCode := (.seq (.region [⟨some 9, .box 10 (.tmp 4), none, []⟩,
  ⟨some 10, .mov (.const (.int .i64 0)), none, []⟩] []) (.seq (.region [⟨some 14, .mov (.tmp 1), none, []⟩,
  ⟨some 15, .mov (.tmp 2), none, []⟩,
  ⟨some 16, .mov (.tmp 3), none, []⟩,
  ⟨some 17, .build [(.int .i64 0), (.int .i64 0), (.int .i64 0)] [(0, 1, (.tmp 14)), (1, 1, (.tmp 15)), (2, 1, (.tmp 16))], none, []⟩,
  ⟨some 11, .alloc [(.int .i64 0), (.int .i64 0), (.int .i64 0)], none, []⟩,
  ⟨none, .store 3 (.tmp 11) (.tmp 17), none, []⟩] []) (.seq (.seq (.region [⟨some 18, .load 3 true (.tmp 11), none, []⟩,
  ⟨some 19, .call 50 [(.tmp 18)], none, []⟩,
  ⟨some 20, .not (.tmp 19), none, []⟩,
  ⟨some 21, .mov (.tmp 20), none, []⟩,
  ⟨some 22, .sliceA 10 1 (.tmp 9) none none, some (21, false), []⟩,
  ⟨some 23, .call 51 [(.tmp 22), (.const (.clos 69 []))], some (21, false), []⟩,
  ⟨some 24, .pick (.tmp 21) (.const (.bool true)) (.tmp 23), none, []⟩] []) (.cond (.tmp 24) (.seq (.region [⟨some 10, .mov (.const (.int .i64 1)), none, []⟩] []) .ret) .skip)) (.seq (.region [⟨some 26, .mov (.tmp 0), none, []⟩,
  ⟨some 27, .nilck (.tmp 26), none, []⟩,
  ⟨some 28, .offA 2 (.tmp 27), none, []⟩,
  ⟨some 29, .load 1 false (.tmp 28), none, []⟩,
  ⟨some 30, .load 3 true (.tmp 11), none, []⟩,
  ⟨some 31, .mlook true [.int .i64, .int .i64, .int .i64] (.agg [(.int .i64 0), (.int .i64 0), (.int .i64 0), (.int .i64 0), (.int .i64 0)]) true (.tmp 29) (.tmp 30), none, []⟩,
  ⟨some 25, .mov (.tmp 31), none, []⟩,
  ⟨some 32, .ext (.tmp 25) 0, none, []⟩,
  ⟨some 33, .ext (.tmp 25) 1, none, []⟩,
  ⟨some 12, .alloc [(.int .i64 0), (.int .i64 0), (.int .i64 0), (.int .i64 0), (.int .i64 0)], none, []⟩,
  ⟨none, .store 5 (.tmp 12) (.tmp 32), none, []⟩,
  ⟨some 13, .mov (.tmp 33), none, []⟩] []) (.seq (.seq (.region [⟨some 34, .mov (.tmp 13), none, []⟩,
  ⟨some 35, .not (.tmp 34), none, []⟩,
  ⟨some 36, .mov (.tmp 35), none, []⟩,
  ⟨some 37, .mov (.tmp 0), some (36, true), []⟩,
  ⟨some 38, .nilck (.tmp 37), some (36, true), []⟩,
  ⟨some 39, .offA 2 (.tmp 38), some (36, true), []⟩,
  ⟨some 40, .load 1 false (.tmp 39), some (36, true), []⟩,
  ⟨some 41, .mlen (.tmp 40), some (36, true), []⟩,
  ⟨some 42, .bin .geq (.tmp 41) (.const (.int .i64 1000)), some (36, true), []⟩,
  ⟨some 43, .pick (.tmp 36) (.tmp 42) (.const (.bool false)), none, []⟩,
  ⟨some 44, .mov (.tmp 43), none, []⟩,
  ⟨some 45, .offA 0 (.tmp 12), some (44, false), []⟩,
  ⟨some 46, .load 1 false (.tmp 45), some (44, false), []⟩,
  ⟨some 47, .bin .geq (.tmp 46) (.const (.int .i64 1073741824)), some (44, false), []⟩,
  ⟨some 48, .pick (.tmp 44) (.const (.bool true)) (.tmp 47), none, []⟩] []) (.cond (.tmp 48) (.seq (.region [⟨some 10, .mov (.const (.int .i64 2)), none, []⟩] []) .ret) .skip)) (.seq (.region [⟨some 49, .mov (.tmp 0), none, []⟩,
  ⟨some 50, .nilck (.tmp 49), none, []⟩,
  ⟨some 51, .offA 2 (.tmp 50), none, []⟩,
  ⟨some 52, .load 1 false (.tmp 51), none, []⟩,
  ⟨some 53, .load 3 true (.tmp 11), none, []⟩,
  ⟨some 54, .offA 0 (.tmp 12), none, []⟩,
  ⟨some 55, .load 1 false (.tmp 54), none, []⟩,
  ⟨some 56, .bin .add (.tmp 55) (.const (.int .i64 1)), none, []⟩,
  ⟨some 57, .offA 1 (.tmp 12), none, []⟩,
  ⟨some 58, .load 4 true (.tmp 57), none, []⟩,
  ⟨some 59, .load 10 true (.tmp 9), none, []⟩,
  ⟨some 60, .call 12 [(.tmp 59)], none, []⟩,
  ⟨some 61, .call 14 [(.tmp 58), (.tmp 60)], none, []⟩,
  ⟨some 62, .build [(.int .i64 0), (.int .i64 0), (.int .i64 0), (.int .i64 0), (.int .i64 0)] [(0, 1, (.tmp 56)), (1, 4, (.tmp 61))], none, []⟩,
  ⟨none, .mput true [.int .i64, .int .i64, .int .i64] (.tmp 52) (.tmp 53) (.tmp 62), none, []⟩] []) (.seq (.region [⟨some 10, .mov (.const (.int .i64 0)), none, []⟩] []) .ret)))))))
theorem l41 : (Tryd.f41.body.bind (lowC Tryd.prog 63 [])) = some c41 := by kernel_rfl
noncomputable def c69 : DCode := (.seq (.region [⟨some 2, .mov (.const (.bool false)), none, []⟩] []) (.seq (.region [⟨some 3, .mov (.tmp 0), none, []⟩,
  ⟨some 4, .bin .lss (.tmp 3) (.const (.int .i64 0)), none, []⟩,
  ⟨some 5, .mov (.tmp 4), none, []⟩,
  ⟨some 6, .mov (.tmp 0), some (5, false), []⟩,
  ⟨some 7, .bin .gtr (.tmp 6) (.const (.int .i64 65535)), some (5, false), []⟩,
  ⟨some 8, .pick (.tmp 5) (.const (.bool true)) (.tmp 7), none, []⟩,
  ⟨some 2, .mov (.tmp 8), none, []⟩] []) .ret))
theorem l69 : (Tryd.f69.body.bind (lowC Tryd.prog 9 [])) = some c69 := by kernel_rfl
noncomputable def c42 : DCode := (.seq (.region [⟨some 2, .alloc [(.int .i64 0), (.int .i64 0), .nil, (.int .u8 0), (.int .u8 0), (.int .u8 0), (.int .u8 0), (.int .u8 0), (.int .u8 0), (.int .u8 0), (.int .u8 0), (.int .u8 0), (.int .u8 0), (.int .u8 0), (.int .u8 0), (.int .u8 0), (.int .u8 0), (.int .u8 0), (.int .u8 0)], none, []⟩,
  ⟨some 3, .mov (.const (.int .i64 0)), none, []⟩] []) (.seq (.seq (.region [⟨some 8, .mov (.tmp 0), none, []⟩,
  ⟨some 9, .nilck (.tmp 8), none, []⟩,
  ⟨some 10, .offA 1 (.tmp 9), none, []⟩,
  ⟨some 11, .load 1 false (.tmp 10), none, []⟩,
  ⟨some 12, .bin .gtr (.tmp 11) (.const (.int .i64 1048576)), none, []⟩] []) (.cond (.tmp 12) (.seq (.region [⟨some 13, .build [(.int .i64 0), (.int .i64 0), .nil, (.int .u8 0), (.int .u8 0), (.int .u8 0), (.int .u8 0), (.int .u8 0), (.int .u8 0), (.int .u8 0), (.int .u8 0), (.int .u8 0), (.int .u8 0), (.int .u8 0), (.int .u8 0), (.int .u8 0), (.int .u8 0), (.int .u8 0), (.int .u8 0)] [], none, []⟩,
  ⟨none, .store 19 (.tmp 2) (.tmp 13), none, []⟩,
  ⟨some 3, .mov (.const (.int .i64 2)), none, []⟩] []) .ret) .skip)) (.seq (.region [⟨some 14, .mov (.tmp 0), none, []⟩,
  ⟨some 15, .nilck (.tmp 14), none, []⟩,
  ⟨some 16, .offA 0 (.tmp 15), none, []⟩,
  ⟨some 17, .load 1 false (.tmp 16), none, []⟩,
  ⟨some 18, .mov (.tmp 0), none, []⟩,
  ⟨some 19, .nilck (.tmp 18), none, []⟩,
  ⟨some 20, .offA 1 (.tmp 19), none, []⟩,
  ⟨some 21, .load 1 false (.tmp 20), none, []⟩,
  ⟨some 22, .mov (.tmp 0), none, []⟩,
  ⟨some 23, .nilck (.tmp 22), none, []⟩,
  ⟨some 24, .offA 3 (.tmp 23), none, []⟩,
  ⟨some 25, .load 16 true (.tmp 24), none, []⟩,
  ⟨some 26, .build [(.int .i64 0), (.int .i64 0), .nil, (.int .u8 0), (.int .u8 0), (.int .u8 0), (.int .u8 0), (.int .u8 0), (.int .u8 0), (.int .u8 0), (.int .u8 0), (.int .u8 0), (.int .u8 0), (.int .u8 0), (.int .u8 0), (.int .u8 0), (.int .u8 0), (.int .u8 0), (.int .u8 0)] [(0, 1, (.tmp 17)), (1, 1, (.tmp 21)), (3, 16, (.tmp 25))], none, []⟩,
  ⟨some 4, .alloc [(.int .i64 0), (.int .i64 0), .nil, (.int .u8 0), (.int .u8 0), (.int .u8 0), (.int .u8 0), (.int .u8 0), (.int .u8 0), (.int .u8 0), (.int .u8 0), (.int .u8 0), (.int .u8 0), (.int .u8 0), (.int .u8 0), (.int .u8 0), (.int .u8 0), (.int .u8 0), (.int .u8 0)], none, []⟩,
  ⟨none, .store 19 (.tmp 4) (.tmp 26), none, []⟩] []) (.seq (.seq (.region [⟨some 27, .mov (.tmp 0), none, []⟩,
  ⟨some 28, .nilck (.tmp 27), none, []⟩,
  ⟨some 29, .offA 2 (.tmp 28), none, []⟩,
  ⟨some 30, .load 1 false (.tmp 29), none, []⟩,
  ⟨some 31, .inl 71 [(.tmp 30)], none, []⟩,
  ⟨some 32, .inl 70 [(.tmp 31), (.const (.clos 52 []))], none, []⟩,
  ⟨some 33, .len (.tmp 32), none, []⟩,
  ⟨some 34, .mov (.const (.int .i64 0)), none, []⟩] []) (.block 0 (.loop (.seq (.region [⟨some 35, .bin .lss (.tmp 34) (.tmp 33), none, []⟩] []) (.seq (.cond (.tmp 35) .skip (.exit 0)) (.seq (.block 1 (.seq (.region [⟨some 36, .idxL 3 (.tmp 32) (.tmp 34), none, []⟩,
  ⟨some 37, .load 3 true (.tmp 36), none, []⟩,
  ⟨some 6, .alloc [(.int .i64 0), (.int .i64 0), (.int .i64 0)], none, []⟩,
  ⟨none, .store 3 (.tmp 6) (.tmp 37), none, []⟩] []) (.seq (.region [⟨some 38, .mov (.tmp 0), none, []⟩,
  ⟨some 39, .nilck (.tmp 38), none, []⟩,
  ⟨some 40, .offA 2 (.tmp 39), none, []⟩,
  ⟨some 41, .load 1 false (.tmp 40), none, []⟩,
  ⟨some 42, .load 3 true (.tmp 6), none, []⟩,
  ⟨some 43, .mlook true [.int .i64, .int .i64, .int .i64] (.agg [(.int .i64 0), (.int .i64 0), (.int .i64 0), (.int .i64 0), (.int .i64 0)]) false (.tmp 41) (.tmp 42), none, []⟩,
  ⟨some 7, .alloc [(.int .i64 0), (.int .i64 0), (.int .i64 0), (.int .i64 0), (.int .i64 0)], none, []⟩,
  ⟨none, .store 5 (.tmp 7) (.tmp 43), none, []⟩] []) (.region [⟨some 44, .offA 2 (.tmp 4), none, []⟩,
  ⟨some 45, .load 1 false (.tmp 44), none, []⟩,
  ⟨some 46, .offA 0 (.tmp 6), none, []⟩,
  ⟨some 47, .load 1 false (.tmp 46), none, []⟩,
  ⟨some 48, .offA 1 (.tmp 6), none, []⟩,
  ⟨some 49, .load 1 false (.tmp 48), none, []⟩,
  ⟨some 50, .offA 2 (.tmp 6), none, []⟩,
  ⟨some 51, .load 1 false (.tmp 50), none, []⟩,
  ⟨some 52, .offA 0 (.tmp 7), none, []⟩,
  ⟨some 53, .load 1 false (.tmp 52), none, []⟩,
  ⟨some 54, .offA 1 (.tmp 7), none, []⟩,
  ⟨some 55, .load 4 true (.tmp 54), none, []⟩,
  ⟨some 56, .build [(.int .i64 0), (.int .i64 0), (.int .i64 0), (.int .i64 0), (.int .i64 0), (.int .i64 0), (.int .i64 0), (.int .i64 0)] [(0, 1, (.tmp 47)), (1, 1, (.tmp 49)), (2, 1, (.tmp 51)), (3, 1, (.tmp 53)), (4, 4, (.tmp 55))], none, []⟩,
  ⟨some 57, .buildF 8 1 [(.int .i64 0), (.int .i64 0), (.int .i64 0), (.int .i64 0), (.int .i64 0), (.int .i64 0), (.int .i64 0), (.int .i64 0)] [(0, (.tmp 56))], none, []⟩,
  ⟨some 58, .append 47 36 8 64 (.tmp 45) (.tmp 57), none, []⟩,
  ⟨some 59, .offA 2 (.tmp 4), none, []⟩,
  ⟨none, .store 1 (.tmp 59) (.tmp 58), none, []⟩] [])))) (.region [⟨some 60, .bin .add (.tmp 34) (.const (.int .i64 1)), none, []⟩,
  ⟨some 34, .mov (.tmp 60), none, []⟩] []))))))) (.seq (.region [⟨some 61, .mov (.tmp 0), none, []⟩,
  ⟨some 62, .nilck (.tmp 61), none, []⟩,
  ⟨some 63, .offA 2 (.tmp 62), none, []⟩,
  ⟨some 64, .load 1 false (.tmp 63), none, []⟩,
  ⟨none, .mclr (.tmp 64), none, []⟩] []) (.seq (.region [⟨some 65, .mov (.tmp 0), none, []⟩,
  ⟨some 66, .load 19 true (.tmp 4), none, []⟩,
  ⟨some 67, .call 24 [(.tmp 66)], none, []⟩,
  ⟨some 68, .nilck (.tmp 65), none, []⟩,
  ⟨some 69, .offA 3 (.tmp 68), none, []⟩,
  ⟨none, .store 16 (.tmp 69) (.tmp 67), none, []⟩] []) (.seq (.region [⟨some 70, .mov (.tmp 0), none, []⟩,
  ⟨some 71, .nilck (.tmp 70), none, []⟩,
  ⟨some 72, .offA 1 (.tmp 71), none, []⟩,
  ⟨some 73, .load 1 false (.tmp 72), none, []⟩,
  ⟨some 74, .bin .add (.tmp 73) (.const (.int .i64 1)), none, []⟩,
  ⟨some 75, .nilck (.tmp 70), none, []⟩,
  ⟨some 76, .offA 1 (.tmp 75), none, []⟩,
  ⟨none, .store 1 (.tmp 76) (.tmp 74), none, []⟩] []) (.seq (.region [⟨some 77, .load 19 true (.tmp 4), none, []⟩,
  ⟨none, .store 19 (.tmp 2) (.tmp 77), none, []⟩,
  ⟨some 3, .mov (.const (.int .i64 0)), none, []⟩] []) .ret))))))))
theorem l42 : (Tryd.f42.body.bind (lowC Tryd.prog 78 [70, 71, 8000057])) = some c42 := by kernel_rfl
noncomputable def c10 : DCode := (.seq (.region [⟨some 1, .box 4 (.tmp 0), none, []⟩,
  ⟨some 2, .mov (.const (.bool false)), none, []⟩] []) (.seq (.seq (.region [⟨some 3, .mov (.const (.int .i64 0)), none, []⟩] []) (.block 0 (.loop (.seq (.seq (.region [⟨some 4, .mov (.tmp 3), none, []⟩,
  ⟨some 5, .bin .lss (.tmp 4) (.const (.int .i64 4)), none, []⟩] []) (.cond (.tmp 5) .skip (.exit 0))) (.seq (.block 1 (.seq (.region [⟨some 8, .mov (.tmp 3), none, []⟩,
  ⟨some 9, .idxA 4 1 (.tmp 1) (.tmp 8), none, []⟩,
  ⟨some 10, .load 1 false (.tmp 9), none, []⟩,
  ⟨some 11, .bin .lss (.tmp 10) (.const (.int .i64 0)), none, []⟩,
  ⟨some 12, .mov (.tmp 11), none, []⟩,
  ⟨some 13, .mov (.tmp 3), some (12, false), []⟩,
  ⟨some 14, .idxA 4 1 (.tmp 1) (.tmp 13), some (12, false), []⟩,
  ⟨some 15, .load 1 false (.tmp 14), some (12, false), []⟩,
  ⟨some 16, .bin .geq (.tmp 15) (.const (.int .i64 4294967296)), some (12, false), []⟩,
  ⟨some 17, .pick (.tmp 12) (.const (.bool true)) (.tmp 16), none, []⟩] []) (.cond (.tmp 17) (.seq (.region [⟨some 2, .mov (.const (.bool false)), none, []⟩] []) .ret) .skip))) (.region [⟨some 6, .mov (.tmp 3), none, []⟩,
  ⟨some 7, .bin .add (.tmp 6) (.const (.int .i64 1)), none, []⟩,
  ⟨some 3, .mov (.tmp 7), none, []⟩] [])))))) (.seq (.region [⟨some 2, .mov (.const (.bool true)), none, []⟩] []) .ret)))
theorem l10 : (Tryd.f10.body.bind (lowC Tryd.prog 18 [])) = some c10 := by kernel_rfl
noncomputable def c15 : DCode := (.seq (.region [⟨some 2, .box 4 (.tmp 0), none, []⟩,
  ⟨some 3, .box 4 (.tmp 1), none, []⟩,
  ⟨some 4, .alloc [(.int .i64 0), (.int .i64 0), (.int .i64 0), (.int .i64 0)], none, []⟩] []) (.seq (.region [⟨some 5, .alloc [(.int .i64 0), (.int .i64 0), (.int .i64 0), (.int .i64 0)], none, []⟩] []) (.seq (.seq (.region [⟨some 6, .mov (.const (.int .i64 0)), none, []⟩] []) (.block 0 (.loop (.seq (.seq (.region [⟨some 7, .mov (.tmp 6), none, []⟩,
  ⟨some 8, .bin .lss (.tmp 7) (.const (.int .i64 4)), none, []⟩] []) (.cond (.tmp 8) .skip (.exit 0))) (.seq (.block 1 (.region [⟨some 11, .mov (.tmp 6), none, []⟩,
  ⟨some 12, .mov (.tmp 6), none, []⟩,
  ⟨some 13, .idxA 4 1 (.tmp 2) (.tmp 12), none, []⟩,
  ⟨some 14, .load 1 false (.tmp 13), none, []⟩,
  ⟨some 15, .mov (.tmp 6), none, []⟩,
  ⟨some 16, .idxA 4 1 (.tmp 3) (.tmp 15), none, []⟩,
  ⟨some 17, .load 1 false (.tmp 16), none, []⟩,
  ⟨some 18, .bin .add (.tmp 14) (.tmp 17), none, []⟩,
  ⟨some 19, .bin .rem (.tmp 18) (.const (.int .i64 4294967296)), none, []⟩,
  ⟨some 20, .idxA 4 1 (.tmp 5) (.tmp 11), none, []⟩,
  ⟨none, .store 1 (.tmp 20) (.tmp 19), none, []⟩] [])) (.region [⟨some 9, .mov (.tmp 6), none, []⟩,
  ⟨some 10, .bin .add (.tmp 9) (.const (.int .i64 1)), none, []⟩,
  ⟨some 6, .mov (.tmp 10), none, []⟩] [])))))) (.seq (.region [⟨some 21, .load 4 true (.tmp 5), none, []⟩,
  ⟨none, .store 4 (.tmp 4) (.tmp 21), none, []⟩] []) .ret))))
theorem l15 : (Tryd.f15.body.bind (lowC Tryd.prog 22 [])) = some c15 := by kernel_rfl
noncomputable def c27 : DCode := (.seq (.region [⟨some 2, .box 8 (.tmp 0), none, []⟩,
  ⟨some 3, .box 8 (.tmp 1), none, []⟩,
  ⟨some 4, .mov (.const (.int .i64 0)), none, []⟩,
  ⟨some 5, .mov (.const (.int .i64 0)), none, []⟩] []) (.seq (.seq (.region [⟨some 6, .offA 3 (.tmp 3), none, []⟩,
  ⟨some 7, .load 1 false (.tmp 6), none, []⟩,
  ⟨some 8, .offA 3 (.tmp 2), none, []⟩,
  ⟨some 9, .load 1 false (.tmp 8), none, []⟩,
  ⟨some 10, .bin .gtr (.tmp 7) (.tmp 9), none, []⟩,
  ⟨some 11, .mov (.tmp 10), none, []⟩,
  ⟨some 12, .offA 3 (.tmp 3), some (11, false), []⟩,
  ⟨some 13, .load 1 false (.tmp 12), some (11, false), []⟩,
  ⟨some 14, .offA 3 (.tmp 2), some (11, false), []⟩,
  ⟨some 15, .load 1 false (.tmp 14), some (11, false), []⟩,
  ⟨some 16, .bin .eql (.tmp 13) (.tmp 15), some (11, false), []⟩,
  ⟨some 17, .mov (.tmp 16), some (11, false), []⟩,
  ⟨some 18, .offA 4 (.tmp 3), some (17, true), []⟩,
  ⟨some 19, .load 4 true (.tmp 18), some (17, true), []⟩,
  ⟨some 20, .offA 4 (.tmp 2), some (17, true), []⟩,
  ⟨some 21, .load 4 true (.tmp 20), some (17, true), []⟩,
  ⟨some 22, .eqv true [.int .i64, .int .i64, .int .i64, .int .i64] (.tmp 19) (.tmp 21), some (17, true), []⟩,
  ⟨some 23, .pick (.tmp 17) (.tmp 22) (.const (.bool false)), some (11, false), []⟩,
  ⟨some 24, .pick (.tmp 11) (.const (.bool true)) (.tmp 23), none, []⟩] []) (.cond (.tmp 24) (.seq (.region [⟨some 4, .mov (.const (.int .i64 0)), none, []⟩,
  ⟨some 5, .mov (.const (.int .i64 26)), none, []⟩] []) .ret) .skip)) (.seq (.region [⟨some 25, .offA 3 (.tmp 2), none, []⟩,
  ⟨some 26, .load 1 false (.tmp 25), none, []⟩,
  ⟨some 27, .offA 3 (.tmp 3), none, []⟩,
  ⟨some 28, .load 1 false (.tmp 27), none, []⟩,
  ⟨some 29, .bin .sub (.tmp 26) (.tmp 28), none, []⟩,
  ⟨some 4, .mov (.tmp 29), none, []⟩,
  ⟨some 5, .mov (.const (.int .i64 0)), none, []⟩] []) .ret)))
theorem l27 : (Tryd.f27.body.bind (lowC Tryd.prog 30 [])) = some c27 := by kernel_rfl
noncomputable def c20 : DCode := (.seq (.region [⟨some 4, .mov (.const (.bool false)), none, []⟩] []) (.seq (.seq (.region [⟨some 5, .mov (.const (.int .i64 0)), none, []⟩] []) (.block 0 (.loop (.seq (.seq (.region [⟨some 6, .mov (.tmp 5), none, []⟩,
  ⟨some 7, .mov (.tmp 0), none, []⟩,
  ⟨some 8, .len (.tmp 7), none, []⟩,
  ⟨some 9, .bin .lss (.tmp 6) (.tmp 8), none, []⟩] []) (.cond (.tmp 9) .skip (.exit 0))) (.seq (.block 1 (.seq (.region [⟨some 12, .mov (.tmp 0), none, []⟩,
  ⟨some 13, .mov (.tmp 5), none, []⟩,
  ⟨some 14, .idxL 19 (.tmp 12) (.tmp 13), none, []⟩,
  ⟨some 15, .offA 2 (.tmp 14), none, []⟩,
  ⟨some 16, .load 1 false (.tmp 15), none, []⟩,
  ⟨some 17, .len (.tmp 16), none, []⟩,
  ⟨some 18, .bin .gtr (.tmp 17) (.const (.int .i64 12)), none, []⟩] []) (.cond (.tmp 18) (.seq (.region [⟨some 4, .mov (.const (.bool false)), none, []⟩] []) .ret) .skip))) (.region [⟨some 10, .mov (.tmp 5), none, []⟩,
  ⟨some 11, .bin .add (.tmp 10) (.const (.int .i64 1)), none, []⟩,
  ⟨some 5, .mov (.tmp 11), none, []⟩] [])))))) (.seq (.region [⟨some 19, .mov (.tmp 0), none, []⟩,
  ⟨some 20, .len (.tmp 19), none, []⟩,
  ⟨some 21, .mov (.tmp 1), none, []⟩,
  ⟨some 22, .bin .leq (.tmp 20) (.tmp 21), none, []⟩,
  ⟨some 4, .mov (.tmp 22), none, []⟩] []) .ret)))
theorem l20 : (Tryd.f20.body.bind (lowC Tryd.prog 23 [])) = some c20 := by kernel_rfl
noncomputable def c21 : DCode := (.seq (.region [⟨some 2, .box 19 (.tmp 0), none, []⟩,
  ⟨some 3, .box 19 (.tmp 1), none, []⟩,
  ⟨some 4, .mov (.const (.bool false)), none, []⟩] []) (.seq (.seq (.region [⟨some 6, .offA 0 (.tmp 2), none, []⟩,
  ⟨some 7, .load 1 false (.tmp 6), none, []⟩,
  ⟨some 8, .offA 0 (.tmp 3), none, []⟩,
  ⟨some 9, .load 1 false (.tmp 8), none, []⟩,
  ⟨some 10, .bin .neq (.tmp 7) (.tmp 9), none, []⟩,
  ⟨some 11, .mov (.tmp 10), none, []⟩,
  ⟨some 12, .offA 1 (.tmp 2), some (11, false), []⟩,
  ⟨some 13, .load 1 false (.tmp 12), some (11, false), []⟩,
  ⟨some 14, .offA 1 (.tmp 3), some (11, false), []⟩,
  ⟨some 15, .load 1 false (.tmp 14), some (11, false), []⟩,
  ⟨some 16, .bin .neq (.tmp 13) (.tmp 15), some (11, false), []⟩,
  ⟨some 17, .pick (.tmp 11) (.const (.bool true)) (.tmp 16), none, []⟩,
  ⟨some 18, .mov (.tmp 17), none, []⟩,
  ⟨some 19, .offA 3 (.tmp 2), some (18, false), []⟩,
  ⟨some 20, .load 16 true (.tmp 19), some (18, false), []⟩,
  ⟨some 21, .offA 3 (.tmp 3), some (18, false), []⟩,
  ⟨some 22, .load 16 true (.tmp 21), some (18, false), []⟩,
  ⟨some 23, .eqv true [.int .u8, .int .u8, .int .u8, .int .u8, .int .u8, .int .u8, .int .u8, .int .u8, .int .u8, .int .u8, .int .u8, .int .u8, .int .u8, .int .u8, .int .u8, .int .u8] (.tmp 20) (.tmp 22), some (18, false), []⟩,
  ⟨some 24, .pick (.tmp 18) (.const (.bool true)) (.tmp 23), none, []⟩,
  ⟨some 25, .mov (.tmp 24), none, []⟩,
  ⟨some 26, .offA 2 (.tmp 2), some (25, false), []⟩,
  ⟨some 27, .load 1 false (.tmp 26), some (25, false), []⟩,
  ⟨some 28, .len (.tmp 27), some (25, false), []⟩,
  ⟨some 29, .offA 2 (.tmp 3), some (25, false), []⟩,
  ⟨some 30, .load 1 false (.tmp 29), some (25, false), []⟩,
  ⟨some 31, .len (.tmp 30), some (25, false), []⟩,
  ⟨some 32, .bin .neq (.tmp 28) (.tmp 31), some (25, false), []⟩,
  ⟨some 33, .pick (.tmp 25) (.const (.bool true)) (.tmp 32), none, []⟩] []) (.cond (.tmp 33) (.seq (.region [⟨some 4, .mov (.const (.bool false)), none, []⟩] []) .ret) .skip)) (.seq (.seq (.region [⟨some 5, .mov (.const (.int .i64 0)), none, []⟩] []) (.block 0 (.loop (.seq (.seq (.region [⟨some 34, .mov (.tmp 5), none, []⟩,
  ⟨some 35, .offA 2 (.tmp 2), none, []⟩,
  ⟨some 36, .load 1 false (.tmp 35), none, []⟩,
  ⟨some 37, .len (.tmp 36), none, []⟩,
  ⟨some 38, .bin .lss (.tmp 34) (.tmp 37), none, []⟩] []) (.cond (.tmp 38) .skip (.exit 0))) (.seq (.block 1 (.seq (.region [⟨some 41, .offA 2 (.tmp 2), none, []⟩,
  ⟨some 42, .load 1 false (.tmp 41), none, []⟩,
  ⟨some 43, .mov (.tmp 5), none, []⟩,
  ⟨some 44, .idxL 8 (.tmp 42) (.tmp 43), none, []⟩,
  ⟨some 45, .load 8 true (.tmp 44), none, []⟩,
  ⟨some 46, .offA 2 (.tmp 3), none, []⟩,
  ⟨some 47, .load 1 false (.tmp 46), none, []⟩,
  ⟨some 48, .mov (.tmp 5), none, []⟩,
  ⟨some 49, .idxL 8 (.tmp 47) (.tmp 48), none, []⟩,
  ⟨some 50, .load 8 true (.tmp 49), none, []⟩,
  ⟨some 51, .eqv true [.int .i64, .int .i64, .int .i64, .int .i64, .int .i64, .int .i64, .int .i64, .int .i64] (.tmp 45) (.tmp 50), none, []⟩] []) (.cond (.tmp 51) (.seq (.region [⟨some 4, .mov (.const (.bool false)), none, []⟩] []) .ret) .skip))) (.region [⟨some 39, .mov (.tmp 5), none, []⟩,
  ⟨some 40, .bin .add (.tmp 39) (.const (.int .i64 1)), none, []⟩,
  ⟨some 5, .mov (.tmp 40), none, []⟩] [])))))) (.seq (.region [⟨some 4, .mov (.const (.bool true)), none, []⟩] []) .ret))))
theorem l21 : (Tryd.f21.body.bind (lowC Tryd.prog 52 [])) = some c21 := by kernel_rfl
noncomputable def c26 : DCode := (.seq (.region [⟨some 4, .mov (.const (.int .i64 0)), none, []⟩,
  ⟨some 5, .mov (.const (.int .i64 0)), none, []⟩] []) (.seq (.region [⟨some 9, .build [(.int .u8 0), (.int .u8 0), (.int .u8 0), (.int .u8 0), (.int .u8 0), (.int .u8 0), (.int .u8 0), (.int .u8 0), (.int .u8 0), (.int .u8 0), (.int .u8 0), (.int .u8 0), (.int .u8 0), (.int .u8 0), (.int .u8 0), (.int .u8 0)] [], none, []⟩,
  ⟨some 6, .alloc [(.int .u8 0), (.int .u8 0), (.int .u8 0), (.int .u8 0), (.int .u8 0), (.int .u8 0), (.int .u8 0), (.int .u8 0), (.int .u8 0), (.int .u8 0), (.int .u8 0), (.int .u8 0), (.int .u8 0), (.int .u8 0), (.int .u8 0), (.int .u8 0)], none, []⟩,
  ⟨none, .store 16 (.tmp 6) (.tmp 9), none, []⟩] []) (.seq (.seq (.region [⟨some 7, .mov (.const (.int .i64 0)), none, []⟩] []) (.block 0 (.loop (.seq (.seq (.region [⟨some 10, .mov (.tmp 7), none, []⟩,
  ⟨some 11, .mov (.tmp 1), none, []⟩,
  ⟨some 12, .len (.tmp 11), none, []⟩,
  ⟨some 13, .bin .lss (.tmp 10) (.tmp 12), none, []⟩] []) (.cond (.tmp 13) .skip (.exit 0))) (.seq (.block 1 (.seq (.region [⟨some 16, .mov (.tmp 1), none, []⟩,
  ⟨some 17, .mov (.tmp 7), none, []⟩,
  ⟨some 18, .idxL 19 (.tmp 16) (.tmp 17), none, []⟩,
  ⟨some 19, .load 19 true (.tmp 18), none, []⟩,
  ⟨some 20, .call 29 [(.tmp 19)], none, []⟩,
  ⟨some 8, .mov (.tmp 20), none, []⟩] []) (.seq (.seq (.region [⟨some 21, .mov (.tmp 8), none, []⟩,
  ⟨some 22, .bin .neq (.tmp 21) (.const (.int .i64 0)), none, []⟩] []) (.cond (.tmp 22) (.seq (.region [⟨some 23, .mov (.tmp 7), none, []⟩,
  ⟨some 24, .mov (.tmp 8), none, []⟩,
  ⟨some 4, .mov (.tmp 23), none, []⟩,
  ⟨some 5, .mov (.tmp 24), none, []⟩] []) .ret) .skip)) (.seq (.seq (.region [⟨some 25, .mov (.tmp 1), none, []⟩,
  ⟨some 26, .mov (.tmp 7), none, []⟩,
  ⟨some 27, .idxL 19 (.tmp 25) (.tmp 26), none, []⟩,
  ⟨some 28, .offA 0 (.tmp 27), none, []⟩,
  ⟨some 29, .load 1 false (.tmp 28), none, []⟩,
  ⟨some 30, .mov (.tmp 0), none, []⟩,
  ⟨some 31, .bin .neq (.tmp 29) (.tmp 30), none, []⟩] []) (.cond (.tmp 31) (.seq (.region [⟨some 32, .mov (.tmp 7), none, []⟩,
  ⟨some 4, .mov (.tmp 32), none, []⟩,
  ⟨some 5, .mov (.const (.int .i64 1)), none, []⟩] []) .ret) .skip)) (.seq (.seq (.region [⟨some 33, .mov (.tmp 1), none, []⟩,
  ⟨some 34, .mov (.tmp 7), none, []⟩,
  ⟨some 35, .idxL 19 (.tmp 33) (.tmp 34), none, []⟩,
  ⟨some 36, .offA 1 (.tmp 35), none, []⟩,
  ⟨some 37, .load 1 false (.tmp 36), none, []⟩,
  ⟨some 38, .mov (.tmp 7), none, []⟩,
  ⟨some 39, .bin .neq (.tmp 37) (.tmp 38), none, []⟩] []) (.cond (.tmp 39) (.seq (.region [⟨some 40, .mov (.tmp 7), none, []⟩,
  ⟨some 4, .mov (.tmp 40), none, []⟩,
  ⟨some 5, .mov (.const (.int .i64 25)), none, []⟩] []) .ret) .skip)) (.seq (.seq (.region [⟨some 41, .mov (.tmp 1), none, []⟩,
  ⟨some 42, .mov (.tmp 7), none, []⟩,
  ⟨some 43, .idxL 19 (.tmp 41) (.tmp 42), none, []⟩,
  ⟨some 44, .offA 3 (.tmp 43), none, []⟩,
  ⟨some 45, .load 16 true (.tmp 44), none, []⟩,
  ⟨some 46, .load 16 true (.tmp 6), none, []⟩,
  ⟨some 47, .eqv true [.int .u8, .int .u8, .int .u8, .int .u8, .int .u8, .int .u8, .int .u8, .int .u8, .int .u8, .int .u8, .int .u8, .int .u8, .int .u8, .int .u8, .int .u8, .int .u8] (.tmp 45) (.tmp 46), none, []⟩] []) (.cond (.tmp 47) (.seq (.region [⟨some 48, .mov (.tmp 7), none, []⟩,
  ⟨some 4, .mov (.tmp 48), none, []⟩,
  ⟨some 5, .mov (.const (.int .i64 7)), none, []⟩] []) .ret) .skip)) (.region [⟨some 49, .mov (.tmp 1), none, []⟩,
  ⟨some 50, .mov (.tmp 7), none, []⟩,
  ⟨some 51, .idxL 19 (.tmp 49) (.tmp 50), none, []⟩,
  ⟨some 52, .load 19 true (.tmp 51), none, []⟩,
  ⟨some 53, .call 39 [(.tmp 52)], none, []⟩,
  ⟨none, .store 16 (.tmp 6) (.tmp 53), none, []⟩] []))))))) (.region [⟨some 14, .mov (.tmp 7), none, []⟩,
  ⟨some 15, .bin .add (.tmp 14) (.const (.int .i64 1)), none, []⟩,
  ⟨some 7, .mov (.tmp 15), none, []⟩] [])))))) (.seq (.region [⟨some 54, .mov (.tmp 1), none, []⟩,
  ⟨some 55, .len (.tmp 54), none, []⟩,
  ⟨some 4, .mov (.tmp 55), none, []⟩,
  ⟨some 5, .mov (.const (.int .i64 0)), none, []⟩] []) .ret))))
theorem l26 : (Tryd.f26.body.bind (lowC Tryd.prog 56 [])) = some c26 := by kernel_rfl
noncomputable def c29 : DCode := (.seq (.region [⟨some 1, .box 19 (.tmp 0), none, []⟩,
  ⟨some 2, .mov (.const (.int .i64 0)), none, []⟩] []) (.seq (.seq (.region [⟨some 6, .offA 2 (.tmp 1), none, []⟩,
  ⟨some 7, .load 1 false (.tmp 6), none, []⟩,
  ⟨some 8, .len (.tmp 7), none, []⟩,
  ⟨some 9, .bin .gtr (.tmp 8) (.const (.int .i64 1000)), none, []⟩] []) (.cond (.tmp 9) (.seq (.region [⟨some 2, .mov (.const (.int .i64 2)), none, []⟩] []) .ret) .skip)) (.seq (.seq (.region [⟨some 10, .offA 0 (.tmp 1), none, []⟩,
  ⟨some 11, .load 1 false (.tmp 10), none, []⟩,
  ⟨some 12, .bin .lss (.tmp 11) (.const (.int .i64 0)), none, []⟩,
  ⟨some 13, .mov (.tmp 12), none, []⟩,
  ⟨some 14, .offA 0 (.tmp 1), some (13, false), []⟩,
  ⟨some 15, .load 1 false (.tmp 14), some (13, false), []⟩,
  ⟨some 16, .bin .gtr (.tmp 15) (.const (.int .i64 199)), some (13, false), []⟩,
  ⟨some 17, .pick (.tmp 13) (.const (.bool true)) (.tmp 16), none, []⟩,
  ⟨some 18, .mov (.tmp 17), none, []⟩,
  ⟨some 19, .offA 1 (.tmp 1), some (18, false), []⟩,
  ⟨some 20, .load 1 false (.tmp 19), some (18, false), []⟩,
  ⟨some 21, .bin .lss (.tmp 20) (.const (.int .i64 0)), some (18, false), []⟩,
  ⟨some 22, .pick (.tmp 18) (.const (.bool true)) (.tmp 21), none, []⟩,
  ⟨some 23, .mov (.tmp 22), none, []⟩,
  ⟨some 24, .offA 1 (.tmp 1), some (23, false), []⟩,
  ⟨some 25, .load 1 false (.tmp 24), some (23, false), []⟩,
  ⟨some 26, .bin .gtr (.tmp 25) (.const (.int .i64 1048576)), some (23, false), []⟩,
  ⟨some 27, .pick (.tmp 23) (.const (.bool true)) (.tmp 26), none, []⟩] []) (.cond (.tmp 27) (.seq (.region [⟨some 2, .mov (.const (.int .i64 1)), none, []⟩] []) .ret) .skip)) (.seq (.seq (.region [⟨some 3, .mov (.const (.int .i64 0)), none, []⟩] []) (.block 0 (.loop (.seq (.seq (.region [⟨some 28, .mov (.tmp 3), none, []⟩,
  ⟨some 29, .offA 2 (.tmp 1), none, []⟩,
  ⟨some 30, .load 1 false (.tmp 29), none, []⟩,
  ⟨some 31, .len (.tmp 30), none, []⟩,
  ⟨some 32, .bin .lss (.tmp 28) (.tmp 31), none, []⟩] []) (.cond (.tmp 32) .skip (.exit 0))) (.seq (.block 1 (.seq (.region [⟨some 35, .offA 2 (.tmp 1), none, []⟩,
  ⟨some 36, .load 1 false (.tmp 35), none, []⟩,
  ⟨some 37, .mov (.tmp 3), none, []⟩,
  ⟨some 38, .idxL 8 (.tmp 36) (.tmp 37), none, []⟩,
  ⟨some 39, .load 8 true (.tmp 38), none, []⟩,
  ⟨some 40, .call 53 [(.tmp 39)], none, []⟩,
  ⟨some 4, .mov (.tmp 40), none, []⟩] []) (.seq (.seq (.region [⟨some 41, .mov (.tmp 4), none, []⟩,
  ⟨some 42, .not (.tmp 41), none, []⟩] []) (.cond (.tmp 42) (.seq (.region [⟨some 2, .mov (.const (.int .i64 1)), none, []⟩] []) .ret) .skip)) (.seq (.region [⟨some 43, .mov (.tmp 3), none, []⟩,
  ⟨some 44, .bin .gtr (.tmp 43) (.const (.int .i64 0)), none, []⟩] []) (.cond (.tmp 44) (.seq (.region [⟨some 45, .offA 2 (.tmp 1), none, []⟩,
  ⟨some 46, .load 1 false (.tmp 45), none, []⟩,
  ⟨some 47, .mov (.tmp 3), none, []⟩,
  ⟨some 48, .bin .sub (.tmp 47) (.const (.int .i64 1)), none, []⟩,
  ⟨some 49, .idxL 8 (.tmp 46) (.tmp 48), none, []⟩,
  ⟨some 50, .load 8 true (.tmp 49), none, []⟩,
  ⟨some 51, .offA 2 (.tmp 1), none, []⟩,
  ⟨some 52, .load 1 false (.tmp 51), none, []⟩,
  ⟨some 53, .mov (.tmp 3), none, []⟩,
  ⟨some 54, .idxL 8 (.tmp 52) (.tmp 53), none, []⟩,
  ⟨some 55, .load 8 true (.tmp 54), none, []⟩,
  ⟨some 56, .call 54 [(.tmp 50), (.tmp 55)], none, []⟩,
  ⟨some 5, .mov (.tmp 56), none, []⟩] []) (.seq (.region [⟨some 57, .mov (.tmp 5), none, []⟩,
  ⟨some 58, .not (.tmp 57), none, []⟩] []) (.cond (.tmp 58) (.seq (.region [⟨some 2, .mov (.const (.int .i64 1)), none, []⟩] []) .ret) .skip))) .skip))))) (.region [⟨some 33, .mov (.tmp 3), none, []⟩,
  ⟨some 34, .bin .add (.tmp 33) (.const (.int .i64 1)), none, []⟩,
  ⟨some 3, .mov (.tmp 34), none, []⟩] [])))))) (.seq (.region [⟨some 2, .mov (.const (.int .i64 0)), none, []⟩] []) .ret)))))
theorem l29 : (Tryd.f29.body.bind (lowC Tryd.prog 59 [])) = some c29 := by kernel_rfl
noncomputable def c31 : DCode := (.seq (.region [⟨some 4, .box 19 (.tmp 0), none, []⟩,
  ⟨some 8, .alloc [(.int .i64 0), (.int .i64 0), (.int .i64 0), (.int .i64 0), (.int .i64 0), (.int .i64 0), (.int .i64 0), (.int .i64 0)], none, []⟩,
  ⟨some 9, .mov (.const (.bool false)), none, []⟩] []) (.seq (.region [⟨some 11, .offA 2 (.tmp 4), none, []⟩,
  ⟨some 12, .load 1 false (.tmp 11), none, []⟩,
  ⟨some 13, .mov (.tmp 1), none, []⟩,
  ⟨some 14, .mov (.tmp 2), none, []⟩,
  ⟨some 15, .mov (.tmp 3), none, []⟩,
  ⟨some 16, .call 57 [(.tmp 12), (.tmp 13), (.tmp 14), (.tmp 15)], none, []⟩,
  ⟨some 10, .mov (.tmp 16), none, []⟩] []) (.seq (.seq (.region [⟨some 17, .mov (.tmp 10), none, []⟩,
  ⟨some 18, .bin .lss (.tmp 17) (.const (.int .i64 0)), none, []⟩] []) (.cond (.tmp 18) (.seq (.region [⟨some 19, .build [(.int .i64 0), (.int .i64 0), (.int .i64 0), (.int .i64 0), (.int .i64 0), (.int .i64 0), (.int .i64 0), (.int .i64 0)] [], none, []⟩,
  ⟨none, .store 8 (.tmp 8) (.tmp 19), none, []⟩,
  ⟨some 9, .mov (.const (.bool false)), none, []⟩] []) .ret) .skip)) (.seq (.region [⟨some 20, .offA 2 (.tmp 4), none, []⟩,
  ⟨some 21, .load 1 false (.tmp 20), none, []⟩,
  ⟨some 22, .mov (.tmp 10), none, []⟩,
  ⟨some 23, .idxL 8 (.tmp 21) (.tmp 22), none, []⟩,
  ⟨some 24, .load 8 true (.tmp 23), none, []⟩,
  ⟨none, .store 8 (.tmp 8) (.tmp 24), none, []⟩,
  ⟨some 9, .mov (.const (.bool true)), none, []⟩] []) .ret))))
theorem l31 : (Tryd.f31.body.bind (lowC Tryd.prog 25 [])) = some c31 := by kernel_rfl
noncomputable def c33 : DCode := (.seq (.region [⟨some 8, .alloc [(.int .i64 0), (.int .i64 0), (.int .i64 0), (.int .i64 0), (.int .i64 0), (.int .i64 0), (.int .i64 0), (.int .i64 0)], none, []⟩] []) (.seq (.region [⟨some 13, .mov (.tmp 1), none, []⟩,
  ⟨some 14, .mov (.tmp 2), none, []⟩,
  ⟨some 15, .mov (.tmp 3), none, []⟩,
  ⟨some 16, .build [(.int .i64 0), (.int .i64 0), (.int .i64 0), (.int .i64 0), (.int .i64 0), (.int .i64 0), (.int .i64 0), (.int .i64 0)] [(0, 1, (.tmp 13)), (1, 1, (.tmp 14)), (2, 1, (.tmp 15))], none, []⟩,
  ⟨some 9, .alloc [(.int .i64 0), (.int .i64 0), (.int .i64 0), (.int .i64 0), (.int .i64 0), (.int .i64 0), (.int .i64 0), (.int .i64 0)], none, []⟩,
  ⟨none, .store 8 (.tmp 9) (.tmp 16), none, []⟩] []) (.seq (.seq (.region [⟨some 10, .mov (.const (.int .i64 0)), none, []⟩] []) (.block 0 (.loop (.seq (.seq (.region [⟨some 17, .mov (.tmp 10), none, []⟩,
  ⟨some 18, .mov (.tmp 0), none, []⟩,
  ⟨some 19, .len (.tmp 18), none, []⟩,
  ⟨some 20, .bin .lss (.tmp 17) (.tmp 19), none, []⟩] []) (.cond (.tmp 20) .skip (.exit 0))) (.seq (.block 1 (.seq (.region [⟨some 24, .mov (.tmp 0), none, []⟩,
  ⟨some 25, .mov (.tmp 10), none, []⟩,
  ⟨some 26, .idxL 19 (.tmp 24) (.tmp 25), none, []⟩,
  ⟨some 27, .load 19 true (.tmp 26), none, []⟩,
  ⟨some 28, .mov (.tmp 1), none, []⟩,
  ⟨some 29, .mov (.tmp 2), none, []⟩,
  ⟨some 30, .mov (.tmp 3), none, []⟩,
  ⟨some 31, .call 31 [(.tmp 27), (.tmp 28), (.tmp 29), (.tmp 30)], none, []⟩,
  ⟨some 23, .mov (.tmp 31), none, []⟩,
  ⟨some 32, .ext (.tmp 23) 0, none, []⟩,
  ⟨some 33, .ext (.tmp 23) 1, none, []⟩,
  ⟨some 11, .alloc [(.int .i64 0), (.int .i64 0), (.int .i64 0), (.int .i64 0), (.int .i64 0), (.int .i64 0), (.int .i64 0), (.int .i64 0)], none, []⟩,
  ⟨none, .store 8 (.tmp 11) (.tmp 32), none, []⟩,
  ⟨some 12, .mov (.tmp 33), none, []⟩] []) (.seq (.region [⟨some 34, .mov (.tmp 12), none, []⟩] []) (.cond (.tmp 34) (.seq (.region [⟨some 35, .offA 3 (.tmp 9), none, []⟩,
  ⟨some 36, .load 1 false (.tmp 35), none, []⟩,
  ⟨some 37, .offA 3 (.tmp 11), none, []⟩,
  ⟨some 38, .load 1 false (.tmp 37), none, []⟩,
  ⟨some 39, .bin .add (.tmp 36) (.tmp 38), none, []⟩,
  ⟨some 40, .offA 3 (.tmp 9), none, []⟩,
  ⟨none, .store 1 (.tmp 40) (.tmp 39), none, []⟩] []) (.region [⟨some 41, .offA 4 (.tmp 9), none, []⟩,
  ⟨some 42, .load 4 true (.tmp 41), none, []⟩,
  ⟨some 43, .offA 4 (.tmp 11), none, []⟩,
  ⟨some 44, .load 4 true (.tmp 43), none, []⟩,
  ⟨some 45, .call 15 [(.tmp 42), (.tmp 44)], none, []⟩,
  ⟨some 46, .offA 4 (.tmp 9), none, []⟩,
  ⟨none, .store 4 (.tmp 46) (.tmp 45), none, []⟩] [])) .skip)))) (.region [⟨some 21, .mov (.tmp 10), none, []⟩,
  ⟨some 22, .bin .add (.tmp 21) (.const (.int .i64 1)), none, []⟩,
  ⟨some 10, .mov (.tmp 22), none, []⟩] [])))))) (.seq (.region [⟨some 47, .load 8 true (.tmp 9), none, []⟩,
  ⟨none, .store 8 (.tmp 8) (.tmp 47), none, []⟩] []) .ret))))
theorem l33 : (Tryd.f33.body.bind (lowC Tryd.prog 48 [])) = some c33 := by kernel_rfl
noncomputable def c38 : DCode := (.seq (.region [⟨some 1, .box 19 (.tmp 0), none, []⟩,
  ⟨some 2, .mov (.const .nil), none, []⟩] []) (.seq (.region [⟨some 6, .offA 0 (.tmp 1), none, []⟩,
  ⟨some 7, .load 1 false (.tmp 6), none, []⟩,
  ⟨some 8, .offA 1 (.tmp 1), none, []⟩,
  ⟨some 9, .load 1 false (.tmp 8), none, []⟩,
  ⟨some 10, .buildS 3 1 2 [(.int .i64 0)] [(0, (.tmp 7)), (1, (.tmp 9))], none, []⟩,
  ⟨some 11, .inl 66 [(.tmp 10)], none, []⟩,
  ⟨some 3, .mov (.tmp 11), none, []⟩] []) (.seq (.region [⟨some 12, .mov (.tmp 3), none, []⟩,
  ⟨some 13, .offA 2 (.tmp 1), none, []⟩,
  ⟨some 14, .load 1 false (.tmp 13), none, []⟩,
  ⟨some 15, .len (.tmp 14), none, []⟩,
  ⟨some 16, .call 67 [(.tmp 15)], none, []⟩,
  ⟨some 17, .append 61 5 1 1 (.tmp 12) (.tmp 16), none, []⟩,
  ⟨some 3, .mov (.tmp 17), none, []⟩] []) (.seq (.seq (.region [⟨some 4, .mov (.const (.int .i64 0)), none, []⟩] []) (.block 0 (.loop (.seq (.seq (.region [⟨some 18, .mov (.tmp 4), none, []⟩,
  ⟨some 19, .offA 2 (.tmp 1), none, []⟩,
  ⟨some 20, .load 1 false (.tmp 19), none, []⟩,
  ⟨some 21, .len (.tmp 20), none, []⟩,
  ⟨some 22, .bin .lss (.tmp 18) (.tmp 21), none, []⟩] []) (.cond (.tmp 22) .skip (.exit 0))) (.seq (.block 1 (.seq (.region [⟨some 25, .offA 2 (.tmp 1), none, []⟩,
  ⟨some 26, .load 1 false (.tmp 25), none, []⟩,
  ⟨some 27, .mov (.tmp 4), none, []⟩,
  ⟨some 28, .idxL 8 (.tmp 26) (.tmp 27), none, []⟩,
  ⟨some 29, .load 8 true (.tmp 28), none, []⟩,
  ⟨some 5, .alloc [(.int .i64 0), (.int .i64 0), (.int .i64 0), (.int .i64 0), (.int .i64 0), (.int .i64 0), (.int .i64 0), (.int .i64 0)], none, []⟩,
  ⟨none, .store 8 (.tmp 5) (.tmp 29), none, []⟩] []) (.region [⟨some 30, .mov (.tmp 3), none, []⟩,
  ⟨some 31, .offA 0 (.tmp 5), none, []⟩,
  ⟨some 32, .load 1 false (.tmp 31), none, []⟩,
  ⟨some 33, .offA 1 (.tmp 5), none, []⟩,
  ⟨some 34, .load 1 false (.tmp 33), none, []⟩,
  ⟨some 35, .offA 2 (.tmp 5), none, []⟩,
  ⟨some 36, .load 1 false (.tmp 35), none, []⟩,
  ⟨some 37, .offA 3 (.tmp 5), none, []⟩,
  ⟨some 38, .load 1 false (.tmp 37), none, []⟩,
  ⟨some 39, .offA 4 (.tmp 5), none, []⟩,
  ⟨some 40, .idxA 4 1 (.tmp 39) (.const (.int .i64 0)), none, []⟩,
  ⟨some 41, .load 1 false (.tmp 40), none, []⟩,
  ⟨some 42, .offA 4 (.tmp 5), none, []⟩,
  ⟨some 43, .idxA 4 1 (.tmp 42) (.const (.int .i64 1)), none, []⟩,
  ⟨some 44, .load 1 false (.tmp 43), none, []⟩,
  ⟨some 45, .offA 4 (.tmp 5), none, []⟩,
  ⟨some 46, .idxA 4 1 (.tmp 45) (.const (.int .i64 2)), none, []⟩,
  ⟨some 47, .load 1 false (.tmp 46), none, []⟩,
  ⟨some 48, .offA 4 (.tmp 5), none, []⟩,
  ⟨some 49, .idxA 4 1 (.tmp 48) (.const (.int .i64 3)), none, []⟩,
  ⟨some 50, .load 1 false (.tmp 49), none, []⟩,
  ⟨some 51, .buildS 3 1 8 [(.int .i64 0)] [(0, (.tmp 32)), (1, (.tmp 34)), (2, (.tmp 36)), (3, (.tmp 38)), (4, (.tmp 41)), (5, (.tmp 44)), (6, (.tmp 47)), (7, (.tmp 50))], none, []⟩,
  ⟨some 52, .inl 66 [(.tmp 51)], none, []⟩,
  ⟨some 53, .append 61 5 1 1 (.tmp 30) (.tmp 52), none, []⟩,
  ⟨some 3, .mov (.tmp 53), none, []⟩] []))) (.region [⟨some 23, .mov (.tmp 4), none, []⟩,
  ⟨some 24, .bin .add (.tmp 23) (.const (.int .i64 1)), none, []⟩,
  ⟨some 4, .mov (.tmp 24), none, []⟩] [])))))) (.seq (.region [⟨some 54, .mov (.tmp 3), none, []⟩,
  ⟨some 55, .offA 3 (.tmp 1), none, []⟩,
  ⟨some 56, .load 16 true (.tmp 55), none, []⟩,
  ⟨some 57, .buildS 49 16 1 [(.int .u8 0), (.int .u8 0), (.int .u8 0), (.int .u8 0), (.int .u8 0), (.int .u8 0), (.int .u8 0), (.int .u8 0), (.int .u8 0), (.int .u8 0), (.int .u8 0), (.int .u8 0), (.int .u8 0), (.int .u8 0), (.int .u8 0), (.int .u8 0)] [(0, (.tmp 56))], none, []⟩,
  ⟨some 58, .call 68 [(.tmp 57)], none, []⟩,
  ⟨some 59, .append 61 5 1 1 (.tmp 54) (.tmp 58), none, []⟩,
  ⟨some 2, .mov (.tmp 59), none, []⟩] []) .ret)))))
theorem l38 : (Tryd.f38.body.bind (lowC Tryd.prog 60 [66])) = some c38 := by kernel_rfl
noncomputable def c39 : DCode := (.seq (.region [⟨some 1, .box 19 (.tmp 0), none, []⟩,
  ⟨some 2, .alloc [(.int .u8 0), (.int .u8 0), (.int .u8 0), (.int .u8 0), (.int .u8 0), (.int .u8 0), (.int .u8 0), (.int .u8 0), (.int .u8 0), (.int .u8 0), (.int .u8 0), (.int .u8 0), (.int .u8 0), (.int .u8 0), (.int .u8 0), (.int .u8 0)], none, []⟩] []) (.seq (.region [⟨some 3, .load 19 true (.tmp 1), none, []⟩,
  ⟨some 4, .call 38 [(.tmp 3)], none, []⟩,
  ⟨some 5, .prim .strB (.tmp 4), none, []⟩,
  ⟨some 6, .buildS 9 1 1 [(.str ⟨#[]⟩)] [(0, (.tmp 5))], none, []⟩,
  ⟨some 7, .call 45 [(.const (.int .i64 5)), (.tmp 6)], none, []⟩,
  ⟨none, .store 16 (.tmp 2) (.tmp 7), none, []⟩] []) .ret))
theorem l39 : (Tryd.f39.body.bind (lowC Tryd.prog 8 [])) = some c39 := by kernel_rfl
noncomputable def c53 : DCode := (.seq (.region [⟨some 1, .box 8 (.tmp 0), none, []⟩,
  ⟨some 2, .mov (.const (.bool false)), none, []⟩] []) (.seq (.region [⟨some 5, .offA 0 (.tmp 1), none, []⟩,
  ⟨some 6, .load 1 false (.tmp 5), none, []⟩,
  ⟨some 7, .offA 1 (.tmp 1), none, []⟩,
  ⟨some 8, .load 1 false (.tmp 7), none, []⟩,
  ⟨some 9, .offA 2 (.tmp 1), none, []⟩,
  ⟨some 10, .load 1 false (.tmp 9), none, []⟩,
  ⟨some 11, .call 82 [(.tmp 6), (.tmp 8), (.tmp 10)], none, []⟩,
  ⟨some 3, .mov (.tmp 11), none, []⟩] []) (.seq (.region [⟨some 12, .offA 4 (.tmp 1), none, []⟩,
  ⟨some 13, .load 4 true (.tmp 12), none, []⟩,
  ⟨some 14, .call 10 [(.tmp 13)], none, []⟩,
  ⟨some 4, .mov (.tmp 14), none, []⟩] []) (.seq (.region [⟨some 15, .mov (.tmp 3), none, []⟩,
  ⟨some 16, .mov (.tmp 15), none, []⟩,
  ⟨some 17, .mov (.tmp 4), some (16, true), []⟩,
  ⟨some 18, .pick (.tmp 16) (.tmp 17) (.const (.bool false)), none, []⟩,
  ⟨some 19, .mov (.tmp 18), none, []⟩,
  ⟨some 20, .offA 3 (.tmp 1), some (19, true), []⟩,
  ⟨some 21, .load 1 false (.tmp 20), some (19, true), []⟩,
  ⟨some 22, .bin .geq (.tmp 21) (.const (.int .i64 1)), some (19, true), []⟩,
  ⟨some 23, .pick (.tmp 19) (.tmp 22) (.const (.bool false)), none, []⟩,
  ⟨some 24, .mov (.tmp 23), none, []⟩,
  ⟨some 25, .offA 3 (.tmp 1), some (24, true), []⟩,
  ⟨some 26, .load 1 false (.tmp 25), some (24, true), []⟩,
  ⟨some 27, .bin .leq (.tmp 26) (.const (.int .i64 1073741824)), some (24, true), []⟩,
  ⟨some 28, .pick (.tmp 24) (.tmp 27) (.const (.bool false)), none, []⟩,
  ⟨some 2, .mov (.tmp 28), none, []⟩] []) .ret))))
theorem l53 : (Tryd.f53.body.bind (lowC Tryd.prog 29 [])) = some c53 := by kernel_rfl
noncomputable def c54 : DCode := (.seq (.region [⟨some 2, .box 8 (.tmp 0), none, []⟩,
  ⟨some 3, .box 8 (.tmp 1), none, []⟩,
  ⟨some 4, .mov (.const (.bool false)), none, []⟩] []) (.seq (.seq (.region [⟨some 5, .offA 0 (.tmp 2), none, []⟩,
  ⟨some 6, .load 1 false (.tmp 5), none, []⟩,
  ⟨some 7, .offA 0 (.tmp 3), none, []⟩,
  ⟨some 8, .load 1 false (.tmp 7), none, []⟩,
  ⟨some 9, .bin .neq (.tmp 6) (.tmp 8), none, []⟩] []) (.cond (.tmp 9) (.seq (.region [⟨some 10, .offA 0 (.tmp 2), none, []⟩,
  ⟨some 11, .load 1 false (.tmp 10), none, []⟩,
  ⟨some 12, .offA 0 (.tmp 3), none, []⟩,
  ⟨some 13, .load 1 false (.tmp 12), none, []⟩,
  ⟨some 14, .bin .lss (.tmp 11) (.tmp 13), none, []⟩,
  ⟨some 4, .mov (.tmp 14), none, []⟩] []) .ret) .skip)) (.seq (.seq (.region [⟨some 15, .offA 1 (.tmp 2), none, []⟩,
  ⟨some 16, .load 1 false (.tmp 15), none, []⟩,
  ⟨some 17, .offA 1 (.tmp 3), none, []⟩,
  ⟨some 18, .load 1 false (.tmp 17), none, []⟩,
  ⟨some 19, .bin .neq (.tmp 16) (.tmp 18), none, []⟩] []) (.cond (.tmp 19) (.seq (.region [⟨some 20, .offA 1 (.tmp 2), none, []⟩,
  ⟨some 21, .load 1 false (.tmp 20), none, []⟩,
  ⟨some 22, .offA 1 (.tmp 3), none, []⟩,
  ⟨some 23, .load 1 false (.tmp 22), none, []⟩,
  ⟨some 24, .bin .lss (.tmp 21) (.tmp 23), none, []⟩,
  ⟨some 4, .mov (.tmp 24), none, []⟩] []) .ret) .skip)) (.seq (.region [⟨some 25, .offA 2 (.tmp 2), none, []⟩,
  ⟨some 26, .load 1 false (.tmp 25), none, []⟩,
  ⟨some 27, .offA 2 (.tmp 3), none, []⟩,
  ⟨some 28, .load 1 false (.tmp 27), none, []⟩,
  ⟨some 29, .bin .lss (.tmp 26) (.tmp 28), none, []⟩,
  ⟨some 4, .mov (.tmp 29), none, []⟩] []) .ret))))
theorem l54 : (Tryd.f54.body.bind (lowC Tryd.prog 30 [])) = some c54 := by kernel_rfl
noncomputable def c57 : DCode := (.seq (.region [⟨some 8, .mov (.const (.int .i64 0)), none, []⟩] []) (.seq (.seq (.region [⟨some 9, .mov (.const (.int .i64 0)), none, []⟩] []) (.block 0 (.loop (.seq (.seq (.region [⟨some 10, .mov (.tmp 9), none, []⟩,
  ⟨some 11, .mov (.tmp 0), none, []⟩,
  ⟨some 12, .len (.tmp 11), none, []⟩,
  ⟨some 13, .bin .lss (.tmp 10) (.tmp 12), none, []⟩] []) (.cond (.tmp 13) .skip (.exit 0))) (.seq (.block 1 (.seq (.region [⟨some 16, .mov (.tmp 0), none, []⟩,
  ⟨some 17, .mov (.tmp 9), none, []⟩,
  ⟨some 18, .idxL 8 (.tmp 16) (.tmp 17), none, []⟩,
  ⟨some 19, .offA 0 (.tmp 18), none, []⟩,
  ⟨some 20, .load 1 false (.tmp 19), none, []⟩,
  ⟨some 21, .mov (.tmp 1), none, []⟩,
  ⟨some 22, .bin .eql (.tmp 20) (.tmp 21), none, []⟩,
  ⟨some 23, .mov (.tmp 22), none, []⟩,
  ⟨some 24, .mov (.tmp 0), some (23, true), []⟩,
  ⟨some 25, .mov (.tmp 9), some (23, true), []⟩,
  ⟨some 26, .idxL 8 (.tmp 24) (.tmp 25), some (23, true), []⟩,
  ⟨some 27, .offA 1 (.tmp 26), some (23, true), []⟩,
  ⟨some 28, .load 1 false (.tmp 27), some (23, true), []⟩,
  ⟨some 29, .mov (.tmp 2), some (23, true), []⟩,
  ⟨some 30, .bin .eql (.tmp 28) (.tmp 29), some (23, true), []⟩,
  ⟨some 31, .pick (.tmp 23) (.tmp 30) (.const (.bool false)), none, []⟩,
  ⟨some 32, .mov (.tmp 31), none, []⟩,
  ⟨some 33, .mov (.tmp 0), some (32, true), []⟩,
  ⟨some 34, .mov (.tmp 9), some (32, true), []⟩,
  ⟨some 35, .idxL 8 (.tmp 33) (.tmp 34), some (32, true), []⟩,
  ⟨some 36, .offA 2 (.tmp 35), some (32, true), []⟩,
  ⟨some 37, .load 1 false (.tmp 36), some (32, true), []⟩,
  ⟨some 38, .mov (.tmp 3), some (32, true), []⟩,
  ⟨some 39, .bin .eql (.tmp 37) (.tmp 38), some (32, true), []⟩,
  ⟨some 40, .pick (.tmp 32) (.tmp 39) (.const (.bool false)), none, []⟩] []) (.cond (.tmp 40) (.seq (.region [⟨some 41, .mov (.tmp 9), none, []⟩,
  ⟨some 8, .mov (.tmp 41), none, []⟩] []) .ret) .skip))) (.region [⟨some 14, .mov (.tmp 9), none, []⟩,
  ⟨some 15, .bin .add (.tmp 14) (.const (.int .i64 1)), none, []⟩,
  ⟨some 9, .mov (.tmp 15), none, []⟩] [])))))) (.seq (.region [⟨some 8, .mov (.const (.int .i64 (-1))), none, []⟩] []) .ret)))
theorem l57 : (Tryd.f57.body.bind (lowC Tryd.prog 42 [])) = some c57 := by kernel_rfl
noncomputable def c82 : DCode := (.seq (.region [⟨some 6, .mov (.const (.bool false)), none, []⟩] []) (.seq (.region [⟨some 7, .mov (.tmp 0), none, []⟩,
  ⟨some 8, .bin .eql (.tmp 7) (.const (.int .i64 1)), none, []⟩,
  ⟨some 9, .mov (.tmp 8), none, []⟩,
  ⟨some 10, .mov (.tmp 0), some (9, false), []⟩,
  ⟨some 11, .bin .eql (.tmp 10) (.const (.int .i64 2)), some (9, false), []⟩,
  ⟨some 12, .pick (.tmp 9) (.const (.bool true)) (.tmp 11), none, []⟩,
  ⟨some 13, .mov (.tmp 12), none, []⟩,
  ⟨some 14, .mov (.tmp 1), some (13, true), []⟩,
  ⟨some 15, .bin .geq (.tmp 14) (.const (.int .i64 0)), some (13, true), []⟩,
  ⟨some 16, .pick (.tmp 13) (.tmp 15) (.const (.bool false)), none, []⟩,
  ⟨some 17, .mov (.tmp 16), none, []⟩,
  ⟨some 18, .mov (.tmp 1), some (17, true), []⟩,
  ⟨some 19, .bin .leq (.tmp 18) (.const (.int .i64 65535)), some (17, true), []⟩,
  ⟨some 20, .pick (.tmp 17) (.tmp 19) (.const (.bool false)), none, []⟩,
  ⟨some 21, .mov (.tmp 20), none, []⟩,
  ⟨some 22, .mov (.tmp 2), some (21, true), []⟩,
  ⟨some 23, .bin .geq (.tmp 22) (.const (.int .i64 0)), some (21, true), []⟩,
  ⟨some 24, .pick (.tmp 21) (.tmp 23) (.const (.bool false)), none, []⟩,
  ⟨some 25, .mov (.tmp 24), none, []⟩,
  ⟨some 26, .mov (.tmp 2), some (25, true), []⟩,
  ⟨some 27, .bin .leq (.tmp 26) (.const (.int .i64 1073741824)), some (25, true), []⟩,
  ⟨some 28, .pick (.tmp 25) (.tmp 27) (.const (.bool false)), none, []⟩,
  ⟨some 6, .mov (.tmp 28), none, []⟩] []) .ret))
theorem l82 : (Tryd.f82.body.bind (lowC Tryd.prog 29 [])) = some c82 := by kernel_rfl
noncomputable def c71 : DCode := (.seq (.region [⟨some 1, .box 1 (.tmp 0), none, []⟩,
  ⟨some 2, .mov (.const .nilfn), none, []⟩] []) (.seq (.region [⟨some 3, .mkfn 91 [(.tmp 1)], none, []⟩,
  ⟨some 2, .mov (.tmp 3), none, []⟩] []) .ret))
theorem l71 : (Tryd.f71.body.bind (lowC Tryd.prog 4 [])) = some c71 := by kernel_rfl
noncomputable def c91 : DCode := (.seq (.region [⟨some 4, .load 1 false (.tmp 1), none, []⟩,
  ⟨some 5, .mrng (.tmp 4), none, []⟩] []) (.block 0 (.loop (.seq (.region [⟨some 6, .mnext (.tmp 5), none, []⟩,
  ⟨some 7, .ext (.tmp 6) 0, none, []⟩] []) (.seq (.cond (.tmp 7) .skip (.exit 0)) (.block 1 (.seq (.region [⟨some 8, .ment (.tmp 5), none, []⟩,
  ⟨some 9, .ext (.tmp 8) 0, none, []⟩,
  ⟨some 3, .alloc [(.int .i64 0), (.int .i64 0), (.int .i64 0)], none, []⟩,
  ⟨none, .store 3 (.tmp 3) (.tmp 9), none, []⟩] []) (.seq (.sem 14 (rg0 3 Tryd.f91.body)) (.cond (.tmp 13) .ret .skip)))))))))
theorem l91 : (Tryd.f91.body.bind (lowC Tryd.prog 14 [1000003])) = some c91 := by kernel_rfl
noncomputable def c89 : DCode := (.seq (.region [⟨some 2, .mov (.const .nil), none, []⟩] []) (.seq (.region [⟨some 3, .mov (.tmp 0), none, []⟩,
  ⟨some 4, .inl 100 [(.const .nil), (.tmp 3)], none, []⟩,
  ⟨some 2, .mov (.tmp 4), none, []⟩] []) .ret))
theorem l89 : (Tryd.f89.body.bind (lowC Tryd.prog 5 [100])) = some c89 := by kernel_rfl
noncomputable def c70 : DCode := (.seq (.region [⟨some 4, .mov (.const .nil), none, []⟩] []) (.seq (.region [⟨some 6, .mov (.tmp 0), none, []⟩,
  ⟨some 7, .inl 89 [(.tmp 6)], none, []⟩,
  ⟨some 5, .mov (.tmp 7), none, []⟩] []) (.seq (.region [⟨some 8, .mov (.tmp 5), none, []⟩,
  ⟨some 9, .mov (.tmp 1), none, []⟩,
  ⟨some 10, .inl 90 [(.tmp 8), (.tmp 9)], none, []⟩] []) (.seq (.region [⟨some 11, .mov (.tmp 5), none, []⟩,
  ⟨some 4, .mov (.tmp 11), none, []⟩] []) .ret))))
theorem l70 : (Tryd.f70.body.bind (lowC Tryd.prog 12 [89, 90])) = some c70 := by kernel_rfl
end Go.RC
end
section
namespace Go.RC
open Go Go.DL Go.Proofs
set_option maxRecDepth 100000
set_option maxHeartbeats 1000000
abbrev M32 : Int := 4294967296
theorem and_mask {x : Int} (h : i64 x) : bitsI .and .i64 x 4294967295 = x % M32 := by
  obtain ⟨h1, h2⟩ := h
  have e1 : (BitVec.ofInt 64 4294967295).toNat = 2 ^ 32 - 1 := by decide
  have e2 : (BitVec.ofInt 64 x).toNat = (x % 18446744073709551616).toNat := by
    rw [BitVec.toNat_ofInt]; rfl
  show IntKind.i64.wrap ((BitVec.ofInt 64 x &&& BitVec.ofInt 64 4294967295).toNat : Int) = _
  rw [BitVec.toNat_and, e1, e2, Nat.and_two_pow_sub_one_eq_mod, wrap_id (by omega) (by omega)]
  unfold M32
  omega
def isS (a : List Int) : Prop := a.length = 4 ∧ ∀ x ∈ a, 0 ≤ x ∧ x < M32
def sAdd (a b : List Int) : List Int := List.zipWith (fun x y => (x + y) % M32) a b
def sSub (a b : List Int) : List Int := List.zipWith (fun x y => (x - y) % M32) a b
theorem isS_get {a : List Int} (h : isS a) {k : Nat} (hk : k < 4) : 0 ≤ a.getD k 0 ∧ a.getD k 0 < M32 := by
  have hk : k < a.length := by rw [h.1]; exact hk
  rw [List.getD_eq_getElem?_getD, List.getElem?_eq_getElem hk]
  exact h.2 _ (List.getElem_mem hk)
theorem isS_add {a b : List Int} (ha : isS a) (hb : isS b) : isS (sAdd a b) := by
  refine ⟨by simp [sAdd, ha.1, hb.1], fun x hx => ?_⟩
  unfold sAdd at hx
  obtain ⟨i, hi⟩ := List.mem_iff_getElem?.1 hx
  rw [List.getElem?_zipWith] at hi
  split at hi
  · simp only [Option.some.injEq] at hi; subst hi; unfold M32; omega
  · cases hi
theorem isS_sub {a b : List Int} (ha : isS a) (hb : isS b) : isS (sSub a b) := by
  refine ⟨by simp [sSub, ha.1, hb.1], fun x hx => ?_⟩
  unfold sSub at hx
  obtain ⟨i, hi⟩ := List.mem_iff_getElem?.1 hx
  rw [List.getElem?_zipWith] at hi
  split at hi
  · simp only [Option.some.injEq] at hi; subst hi; unfold M32; omega
  · cases hi
def ZJ (f : Int → Int → Int) (a b : List Int) : Nat → List Int
  | 0 => []
  | k + 1 => ZJ f a b k ++ [f (a.getD k 0) (b.getD k 0)]
theorem ZJ_len (f : Int → Int → Int) (a b : List Int) : ∀ k, (ZJ f a b k).length = k
  | 0 => rfl
  | k + 1 => by unfold ZJ; rw [List.length_append, ZJ_len f a b k]; rfl
theorem ZJ_4 (f : Int → Int → Int) {a b : List Int} (ha : a.length = 4) (hb : b.length = 4) : ZJ f a b 4 = List.zipWith f a b := by
  match a, b, ha, hb with
  | [_, _, _, _], [_, _, _, _], _, _ => rfl
theorem ZJ_set (f : Int → Int → Int) (a b r : List Int) (k : Nat) (hr : k < r.length) : (ZJ f a b k ++ r.drop k).set k (f (a.getD k 0) (b.getD k 0)) = ZJ f a b (k + 1) ++ r.drop (k + 1) := by
  have hl := ZJ_len f a b k
  rw [List.set_append, if_neg (by omega), hl, Nat.sub_self, List.drop_eq_getElem_cons hr]
  show ZJ f a b k ++ f (a.getD k 0) (b.getD k 0) :: r.drop (k + 1) = (ZJ f a b k ++ [f (a.getD k 0) (b.getD k 0)]) ++ r.drop (k + 1)
  rw [List.append_assoc]
  rfl
theorem ZJ_get (f : Int → Int → Int) (a b r : List Int) (k : Nat) (hr : k < r.length) : (ZJ f a b k ++ r.drop k).getD k 0 = r.getD k 0 := by
  have hl := ZJ_len f a b k
  rw [List.getD_eq_getElem?_getD, List.getElem?_append_right (by omega), hl, Nat.sub_self, List.getElem?_drop, Nat.add_zero, ← List.getD_eq_getElem?_getD]
abbrev sm (a : List Int) : T := .agg (a.map I)
abbrev zI4 : List T := [I 0, I 0, I 0, I 0]
theorem t_sAdd (a b : List Int) (ha : isS a) (hb : isS b) : DCalls Tryd.prog 14 [sm a, sm b] (sm (sAdd a b)) := by
  refine dcalls_low (rs := [.cell 4 25]) mixed Tryd.func14 l14 rfl rfl rfl (r := [.agg _]) (Nat.le_of_ble_eq_true rfl) ?_
  have hal := ha.1
  have hbl := hb.1
  repeat' ((conv => whnf); first | exact trivial | refine nT_ ?_ | refine aE1 ?_ | refine aE0 ?_ | refine aN1 ?_ | refine aN0 ?_ | refine aD1 ?_ | refine aD0 ?_ | refine nE_ (fun hq => ?_) (fun hq => ?_) | refine nN_ (fun hq => ?_) (fun hq => ?_) | refine nD_ (fun hq => ?_) (fun hq => ?_) | refine rb1 ?_ | refine rb0 ?_ | refine rbx ?_ | refine rix ?_ | (refine And.intro (by first | (exact (List.length_map _).trans hal; done) | (exact (List.length_map _).trans hbl; done) | fail) ?_) | refine aS ?_ | fail)
  refine wpC_loopE 0 (α := Nat) (β := Unit) (fun k => {sl := [(2, .ptr 2 0), (3, .ptr 3 0), (4, .ptr 4 0), (6, .t (I k))], bx := [(2, .d 4 ((ZJ (fun x y => (x + y) % M32) a b k ++ a.drop k).map I)), (3, .d 4 (b.map I)), (4, .d 4 zI4)]})
    (fun k => k ≤ 4) (fun k => 4 - k) (fun _ => {sl := [(2, .ptr 2 0), (4, .ptr 4 0)], bx := [(2, .d 4 ((sAdd a b).map I)), (4, .d 4 zI4)]}) (fun _ => True) 0 (by omega) ?_ ?_ ?_
  · repeat' (first | exact trivial | exact LeV.same _ | exact LeB.same _ | exact rfl | exact fun _ _ _ => trivial | exact lI | exact LeV.nil _ _ _ | exact lB | refine leBd ?_ | refine leOwn ?_ | refine And.intro ?_ ?_)
  · intro k hk
    rcases Nat.lt_or_ge k 4 with h | h
    · have hS := ZJ_set (fun x y => (x + y) % M32) a b a k (by omega)
      have hG := ZJ_get (fun x y => (x + y) % M32) a b a k (by omega)
      have hl : (ZJ (fun x y => (x + y) % M32) a b k ++ a.drop k).length = 4 := by rw [List.length_append, ZJ_len, List.length_drop]; omega
      generalize ZJ (fun x y => (x + y) % M32) a b k ++ a.drop k = cur at hS hG hl
      obtain ⟨a0, a1⟩ := isS_get ha h
      obtain ⟨b0, b1⟩ := isS_get hb h
      generalize a.getD k 0 = x at *
      have hw : bitsI .and .i64 (IntKind.i64.wrap (x + b.getD k 0)) 4294967295 = (x + b.getD k 0) % M32 := by
        unfold M32 at *
        rw [wrap_id (by omega) (by omega), and_mask (by unfold i64; omega)]
      repeat' ((conv => whnf); first | exact trivial | (refine nv_ (I (cur.getD k 0)) (by first | (exact mgetk k (by omega) (by omega); done) | fail) ?_) | (refine nv_ (I (b.getD k 0)) (by first | (exact mgetk k (by omega) (by omega); done) | fail) ?_) | refine nT_ ?_ | refine aE1 ?_ | refine aE0 ?_ | refine aN1 ?_ | refine aN0 ?_ | refine aD1 ?_ | refine aD0 ?_ | refine nE_ (fun hq => ?_) (fun hq => ?_) | refine nN_ (fun hq => ?_) (fun hq => ?_) | refine nD_ (fun hq => ?_) (fun hq => ?_) | refine rb1 ?_ | refine rb0 ?_ | refine rbx ?_ | refine rix ?_ | (refine And.intro (by first | (omega; done) | fail) ?_) | refine aS ?_ | fail)
      refine ⟨k + 1, by omega, by omega, ?_⟩
      repeat' (first | exact trivial | exact LeV.same _ | exact LeB.same _ | exact rfl | exact fun _ _ _ => trivial | exact lI | exact LeV.nil _ _ _ | exact lB | refine leBd ?_ | refine leOwn ?_ | refine And.intro ?_ ?_)
      rw [← hS, ← mset, hG, hw]
      simp only [Int.toNat_natCast, Nat.zero_add, Nat.mul_one]
    · have : k = 4 := by omega
      subst this
      repeat' ((conv => whnf); first | exact trivial | refine nT_ ?_ | refine aE1 ?_ | refine aE0 ?_ | refine aN1 ?_ | refine aN0 ?_ | refine aD1 ?_ | refine aD0 ?_ | refine nE_ (fun hq => ?_) (fun hq => ?_) | refine nN_ (fun hq => ?_) (fun hq => ?_) | refine nD_ (fun hq => ?_) (fun hq => ?_) | refine rb1 ?_ | refine rb0 ?_ | refine rbx ?_ | refine rix ?_ | refine aS ?_ | fail)
      refine ⟨(), trivial, by repeat' (first | ((refine leBd ?_; rw [ZJ_4 _ hal hbl, List.drop_eq_nil_of_le (by omega), List.append_nil]; rfl)) | exact trivial | exact LeV.same _ | exact LeB.same _ | exact rfl | exact fun _ _ _ => trivial | exact lI | exact LeV.nil _ _ _ | exact lB | refine leBd ?_ | refine leOwn ?_ | refine And.intro ?_ ?_)⟩
  rintro - -
  have hsl := (isS_add ha hb).1
  repeat' ((conv => whnf); first | exact trivial | refine nT_ ?_ | refine aE1 ?_ | refine aE0 ?_ | refine aN1 ?_ | refine aN0 ?_ | refine aD1 ?_ | refine aD0 ?_ | refine nE_ (fun hq => ?_) (fun hq => ?_) | refine nN_ (fun hq => ?_) (fun hq => ?_) | refine nD_ (fun hq => ?_) (fun hq => ?_) | refine rb1 ?_ | refine rb0 ?_ | refine rbx ?_ | refine rix ?_ | (refine And.intro (by first | (exact ⟨(List.length_map _).trans hsl, by decide⟩; done) | fail) ?_) | refine aS ?_ | refine rt ?_ trivial | fail)
  exact congrArg T.agg (putL_all rfl)
theorem t_refAdd (a b : List Int) (ha : isS a) (hb : isS b) : DCalls Tryd.prog 15 [sm a, sm b] (sm (sAdd a b)) := by
  refine dcalls_low (rs := [.cell 4 25]) mixed Tryd.func15 l15 rfl rfl rfl (r := [.agg _]) (Nat.le_of_ble_eq_true rfl) ?_
  have hal := ha.1
  have hbl := hb.1
  repeat' ((conv => whnf); first | exact trivial | refine nT_ ?_ | refine aE1 ?_ | refine aE0 ?_ | refine aN1 ?_ | refine aN0 ?_ | refine aD1 ?_ | refine aD0 ?_ | refine nE_ (fun hq => ?_) (fun hq => ?_) | refine nN_ (fun hq => ?_) (fun hq => ?_) | refine nD_ (fun hq => ?_) (fun hq => ?_) | refine rb1 ?_ | refine rb0 ?_ | refine rbx ?_ | refine rix ?_ | (refine And.intro (by first | (exact (List.length_map _).trans hal; done) | (exact (List.length_map _).trans hbl; done) | fail) ?_) | refine aS ?_ | fail)
  refine wpC_loopE 0 (α := Nat) (β := Unit) (fun k => {sl := [(2, .ptr 2 0), (3, .ptr 3 0), (4, .ptr 4 0), (5, .ptr 5 0), (6, .t (I k))], bx := [(2, .d 4 (a.map I)), (3, .d 4 (b.map I)), (4, .d 4 zI4), (5, .d 4 ((ZJ (fun x y => (x + y) % M32) a b k ++ (List.replicate 4 0).drop k).map I))]})
    (fun k => k ≤ 4) (fun k => 4 - k) (fun _ => {sl := [(4, .ptr 4 0), (5, .ptr 5 0)], bx := [(4, .d 4 zI4), (5, .d 4 ((sAdd a b).map I))]}) (fun _ => True) 0 (by omega) ?_ ?_ ?_
  · repeat' (first | exact trivial | exact LeV.same _ | exact LeB.same _ | exact rfl | exact fun _ _ _ => trivial | exact lI | exact LeV.nil _ _ _ | exact lB | refine leBd ?_ | refine leOwn ?_ | refine And.intro ?_ ?_)
  · intro k hk
    rcases Nat.lt_or_ge k 4 with h | h
    · have hS := ZJ_set (fun x y => (x + y) % M32) a b (List.replicate 4 0) k (by simp; omega)
      generalize ZJ (fun x y => (x + y) % M32) a b k ++ (List.replicate 4 0).drop k = cur at hS
      obtain ⟨a0, a1⟩ := isS_get ha h
      obtain ⟨b0, b1⟩ := isS_get hb h
      have hw : (IntKind.i64.wrap (a.getD k 0 + b.getD k 0)).tmod 4294967296 = (a.getD k 0 + b.getD k 0) % M32 := by
        unfold M32 at *
        rw [wrap_id (by omega) (by omega), Int.tmod_eq_emod_of_nonneg (by omega)]
      repeat' ((conv => whnf); first | exact trivial | (refine nv_ (I (a.getD k 0)) (by first | (exact mgetk k (by omega) (by omega); done) | fail) ?_) | (refine nv_ (I (b.getD k 0)) (by first | (exact mgetk k (by omega) (by omega); done) | fail) ?_) | refine nT_ ?_ | refine aE1 ?_ | refine aE0 ?_ | refine aN1 ?_ | refine aN0 ?_ | refine aD1 ?_ | refine aD0 ?_ | refine nE_ (fun hq => ?_) (fun hq => ?_) | refine nN_ (fun hq => ?_) (fun hq => ?_) | refine nD_ (fun hq => ?_) (fun hq => ?_) | refine rb1 ?_ | refine rb0 ?_ | refine rbx ?_ | refine rix ?_ | (refine And.intro (by first | (omega; done) | fail) ?_) | refine aS ?_ | fail)
      refine ⟨k + 1, by omega, by omega, ?_⟩
      repeat' (first | exact trivial | exact LeV.same _ | exact LeB.same _ | exact rfl | exact fun _ _ _ => trivial | exact lI | exact LeV.nil _ _ _ | exact lB | refine leBd ?_ | refine leOwn ?_ | refine And.intro ?_ ?_)
      rw [← hS, ← mset, hw]
      simp only [Int.toNat_natCast, Nat.zero_add, Nat.mul_one]
    · have : k = 4 := by omega
      subst this
      repeat' ((conv => whnf); first | exact trivial | refine nT_ ?_ | refine aE1 ?_ | refine aE0 ?_ | refine aN1 ?_ | refine aN0 ?_ | refine aD1 ?_ | refine aD0 ?_ | refine nE_ (fun hq => ?_) (fun hq => ?_) | refine nN_ (fun hq => ?_) (fun hq => ?_) | refine nD_ (fun hq => ?_) (fun hq => ?_) | refine rb1 ?_ | refine rb0 ?_ | refine rbx ?_ | refine rix ?_ | refine aS ?_ | fail)
      refine ⟨(), trivial, by repeat' (first | ((refine leBd ?_; rw [ZJ_4 _ hal hbl, List.drop_eq_nil_of_le (by simp), List.append_nil]; rfl)) | exact trivial | exact LeV.same _ | exact LeB.same _ | exact rfl | exact fun _ _ _ => trivial | exact lI | exact LeV.nil _ _ _ | exact lB | refine leBd ?_ | refine leOwn ?_ | refine And.intro ?_ ?_)⟩
  rintro - -
  have hsl := (isS_add ha hb).1
  repeat' ((conv => whnf); first | exact trivial | refine nT_ ?_ | refine aE1 ?_ | refine aE0 ?_ | refine aN1 ?_ | refine aN0 ?_ | refine aD1 ?_ | refine aD0 ?_ | refine nE_ (fun hq => ?_) (fun hq => ?_) | refine nN_ (fun hq => ?_) (fun hq => ?_) | refine nD_ (fun hq => ?_) (fun hq => ?_) | refine rb1 ?_ | refine rb0 ?_ | refine rbx ?_ | refine rix ?_ | (refine And.intro (by first | (exact ⟨(List.length_map _).trans hsl, by decide⟩; done) | fail) ?_) | refine aS ?_ | refine rt ?_ trivial | fail)
  exact congrArg T.agg (putL_all rfl)
theorem t_sSub (a b : List Int) (ha : isS a) (hb : isS b) : DCalls Tryd.prog 16 [sm a, sm b] (sm (sSub a b)) := by
  refine dcalls_low (rs := [.cell 4 25]) mixed Tryd.func16 l16 rfl rfl rfl (r := [.agg _]) (Nat.le_of_ble_eq_true rfl) ?_
  have hal := ha.1
  have hbl := hb.1
  repeat' ((conv => whnf); first | exact trivial | refine nT_ ?_ | refine aE1 ?_ | refine aE0 ?_ | refine aN1 ?_ | refine aN0 ?_ | refine aD1 ?_ | refine aD0 ?_ | refine nE_ (fun hq => ?_) (fun hq => ?_) | refine nN_ (fun hq => ?_) (fun hq => ?_) | refine nD_ (fun hq => ?_) (fun hq => ?_) | refine rb1 ?_ | refine rb0 ?_ | refine rbx ?_ | refine rix ?_ | (refine And.intro (by first | (exact (List.length_map _).trans hal; done) | (exact (List.length_map _).trans hbl; done) | fail) ?_) | refine aS ?_ | fail)
  refine wpC_loopE 0 (α := Nat) (β := Unit) (fun k => {sl := [(2, .ptr 2 0), (3, .ptr 3 0), (4, .ptr 4 0), (6, .t (I k))], bx := [(2, .d 4 ((ZJ (fun x y => (x - y) % M32) a b k ++ a.drop k).map I)), (3, .d 4 (b.map I)), (4, .d 4 zI4)]})
    (fun k => k ≤ 4) (fun k => 4 - k) (fun _ => {sl := [(2, .ptr 2 0), (4, .ptr 4 0)], bx := [(2, .d 4 ((sSub a b).map I)), (4, .d 4 zI4)]}) (fun _ => True) 0 (by omega) ?_ ?_ ?_
  · repeat' (first | exact trivial | exact LeV.same _ | exact LeB.same _ | exact rfl | exact fun _ _ _ => trivial | exact lI | exact LeV.nil _ _ _ | exact lB | refine leBd ?_ | refine leOwn ?_ | refine And.intro ?_ ?_)
  · intro k hk
    rcases Nat.lt_or_ge k 4 with h | h
    · have hS := ZJ_set (fun x y => (x - y) % M32) a b a k (by omega)
      have hG := ZJ_get (fun x y => (x - y) % M32) a b a k (by omega)
      have hl : (ZJ (fun x y => (x - y) % M32) a b k ++ a.drop k).length = 4 := by rw [List.length_append, ZJ_len, List.length_drop]; omega
      generalize ZJ (fun x y => (x - y) % M32) a b k ++ a.drop k = cur at hS hG hl
      obtain ⟨a0, a1⟩ := isS_get ha h
      obtain ⟨b0, b1⟩ := isS_get hb h
      generalize a.getD k 0 = x at *
      have hw : bitsI .and .i64 (IntKind.i64.wrap (x - b.getD k 0)) 4294967295 = (x - b.getD k 0) % M32 := by
        unfold M32 at *
        rw [wrap_id (by omega) (by omega), and_mask (by unfold i64; omega)]
      repeat' ((conv => whnf); first | exact trivial | (refine nv_ (I (cur.getD k 0)) (by first | (exact mgetk k (by omega) (by omega); done) | fail) ?_) | (refine nv_ (I (b.getD k 0)) (by first | (exact mgetk k (by omega) (by omega); done) | fail) ?_) | refine nT_ ?_ | refine aE1 ?_ | refine aE0 ?_ | refine aN1 ?_ | refine aN0 ?_ | refine aD1 ?_ | refine aD0 ?_ | refine nE_ (fun hq => ?_) (fun hq => ?_) | refine nN_ (fun hq => ?_) (fun hq => ?_) | refine nD_ (fun hq => ?_) (fun hq => ?_) | refine rb1 ?_ | refine rb0 ?_ | refine rbx ?_ | refine rix ?_ | (refine And.intro (by first | (omega; done) | fail) ?_) | refine aS ?_ | fail)
      refine ⟨k + 1, by omega, by omega, ?_⟩
      repeat' (first | exact trivial | exact LeV.same _ | exact LeB.same _ | exact rfl | exact fun _ _ _ => trivial | exact lI | exact LeV.nil _ _ _ | exact lB | refine leBd ?_ | refine leOwn ?_ | refine And.intro ?_ ?_)
      rw [← hS, ← mset, hG, hw]
      simp only [Int.toNat_natCast, Nat.zero_add, Nat.mul_one]
    · have : k = 4 := by omega
      subst this
      repeat' ((conv => whnf); first | exact trivial | refine nT_ ?_ | refine aE1 ?_ | refine aE0 ?_ | refine aN1 ?_ | refine aN0 ?_ | refine aD1 ?_ | refine aD0 ?_ | refine nE_ (fun hq => ?_) (fun hq => ?_) | refine nN_ (fun hq => ?_) (fun hq => ?_) | refine nD_ (fun hq => ?_) (fun hq => ?_) | refine rb1 ?_ | refine rb0 ?_ | refine rbx ?_ | refine rix ?_ | refine aS ?_ | fail)
      refine ⟨(), trivial, by repeat' (first | ((refine leBd ?_; rw [ZJ_4 _ hal hbl, List.drop_eq_nil_of_le (by omega), List.append_nil]; rfl)) | exact trivial | exact LeV.same _ | exact LeB.same _ | exact rfl | exact fun _ _ _ => trivial | exact lI | exact LeV.nil _ _ _ | exact lB | refine leBd ?_ | refine leOwn ?_ | refine And.intro ?_ ?_)⟩
  rintro - -
  have hsl := (isS_sub ha hb).1
  repeat' ((conv => whnf); first | exact trivial | refine nT_ ?_ | refine aE1 ?_ | refine aE0 ?_ | refine aN1 ?_ | refine aN0 ?_ | refine aD1 ?_ | refine aD0 ?_ | refine nE_ (fun hq => ?_) (fun hq => ?_) | refine nN_ (fun hq => ?_) (fun hq => ?_) | refine nD_ (fun hq => ?_) (fun hq => ?_) | refine rb1 ?_ | refine rb0 ?_ | refine rbx ?_ | refine rix ?_ | (refine And.intro (by first | (exact ⟨(List.length_map _).trans hsl, by decide⟩; done) | fail) ?_) | refine aS ?_ | refine rt ?_ trivial | fail)
  exact congrArg T.agg (putL_all rfl)
end Go.RC
end
section
namespace Go.RC
open Go Go.DL Go.Proofs
set_option maxRecDepth 100000
set_option maxHeartbeats 1000000
theorem or_add64 {a b : Int} (k : Nat) (ha : 0 ≤ a) (ha2 : a < 4611686018427387904) (hd : a % 2 ^ k = 0) (hb : 0 ≤ b) (hb2 : b < 2 ^ k) (hk : k ≤ 32) : bitsI .or .i64 a b = a + b := by
  obtain ⟨a, rfl⟩ := Int.eq_ofNat_of_zero_le ha
  obtain ⟨b, rfl⟩ := Int.eq_ofNat_of_zero_le hb
  have hk2 : (2 : Nat) ^ k ≤ 2 ^ 32 := Nat.pow_le_pow_right (by decide) hk
  have hb3 : b < 2 ^ k := by exact_mod_cast hb2
  have hd2 : a % 2 ^ k = 0 := by exact_mod_cast hd
  have e : a ||| b = a + b := by
    have := Nat.two_pow_add_eq_or_of_lt hb3 (a / 2 ^ k)
    have h2 : 2 ^ k * (a / 2 ^ k) = a := Nat.mul_div_cancel' (Nat.dvd_of_mod_eq_zero hd2)
    rw [h2] at this
    exact this.symm
  have e1 : (BitVec.ofInt 64 ((a : Nat) : Int)).toNat = a := by
    rw [BitVec.ofInt_natCast, BitVec.toNat_ofNat, Nat.mod_eq_of_lt (by omega)]
  have e2 : (BitVec.ofInt 64 ((b : Nat) : Int)).toNat = b := by
    rw [BitVec.ofInt_natCast, BitVec.toNat_ofNat, Nat.mod_eq_of_lt (by omega)]
  show IntKind.i64.wrap ((BitVec.ofInt 64 ((a : Nat) : Int) ||| BitVec.ofInt 64 ((b : Nat) : Int)).toNat : Int) = _
  rw [BitVec.toNat_or, e1, e2, e, wrap_id (by omega) (by omega)]
  rfl
def OJ (ds : List Int) : Nat → List Int
  | 0 => [0, 0, 0, 0]
  | k + 1 => (OJ ds k).set (k / 4) (256 * (OJ ds k).getD (k / 4) 0 + ds.getD k 0)
theorem OJ_len (ds : List Int) : ∀ k, (OJ ds k).length = 4
  | 0 => rfl
  | k + 1 => by unfold OJ; rw [List.length_set, OJ_len ds k]
theorem OJ_s (ds : List Int) (k : Nat) : OJ ds (k + 1) = (OJ ds k).set (k / 4) (256 * (OJ ds k).getD (k / 4) 0 + ds.getD k 0) := rfl
theorem getB {ds : List Int} (hb : areB ds) (hl : ds.length = 16) {k : Nat} (hk : k < 16) : 0 ≤ ds.getD k 0 ∧ ds.getD k 0 < 256 := by
  rw [List.getD_eq_getElem?_getD, List.getElem?_eq_getElem (by omega)]
  exact hb _ (List.getElem_mem (by omega))
theorem OJ_lt {ds : List Int} (hb : areB ds) (hl : ds.length = 16) : ∀ k, k ≤ 16 → ∀ j, j < 4 → 0 ≤ (OJ ds k).getD j 0 ∧ (OJ ds k).getD j 0 < 256 ^ (min 4 (k - 4 * j))
  | 0, _, j, hj => by
    match j, hj with
    | 0, _ => exact (show 0 ≤ (0 : Int) ∧ (0 : Int) < 1 by decide)
    | 1, _ => exact (show 0 ≤ (0 : Int) ∧ (0 : Int) < 1 by decide)
    | 2, _ => exact (show 0 ≤ (0 : Int) ∧ (0 : Int) < 1 by decide)
    | 3, _ => exact (show 0 ≤ (0 : Int) ∧ (0 : Int) < 1 by decide)
  | k + 1, hk, j, hj => by
    have ih := OJ_lt hb hl k (by omega)
    have hlen := OJ_len ds k
    rw [OJ_s]
    by_cases e : j = k / 4
    · subst e
      obtain ⟨i0, i1⟩ := ih (k / 4) hj
      obtain ⟨b0, b1⟩ := getB hb hl (k := k) (by omega)
      rw [getD_set_self (by omega)]
      have e1 : min 4 (k - 4 * (k / 4)) = k % 4 := by omega
      have e2 : min 4 (k + 1 - 4 * (k / 4)) = k % 4 + 1 := by omega
      rw [e1] at i1
      rw [e2, Int.pow_succ]
      generalize (256 : Int) ^ (k % 4) = p at *
      omega
    · have : (((OJ ds k).set (k / 4) (256 * (OJ ds k).getD (k / 4) 0 + ds.getD k 0)).getD j 0) = (OJ ds k).getD j 0 := by
        rw [List.getD_eq_getElem?_getD, List.getElem?_set_ne (fun h => e h.symm), ← List.getD_eq_getElem?_getD]
      rw [this]
      obtain ⟨i0, i1⟩ := ih j hj
      refine ⟨i0, ?_⟩
      have : min 4 (k - 4 * j) = min 4 (k + 1 - 4 * j) := by omega
      rw [← this]
      exact i1
theorem OJ_24 {ds : List Int} (hb : areB ds) (hl : ds.length = 16) {k : Nat} (hk : k < 16) : 0 ≤ (OJ ds k).getD (k / 4) 0 ∧ (OJ ds k).getD (k / 4) 0 < 16777216 := by
  obtain ⟨h0, h1⟩ := OJ_lt hb hl k (by omega) (k / 4) (by omega)
  refine ⟨h0, Int.lt_of_lt_of_le h1 ?_⟩
  have e : min 4 (k - 4 * (k / 4)) = k % 4 := by omega
  rw [e]
  have : k % 4 < 4 := Nat.mod_lt _ (by decide)
  generalize k % 4 = r at this
  match r, this with
  | 0, _ => decide
  | 1, _ => decide
  | 2, _ => decide
  | 3, _ => decide
theorem OJ_isS {ds : List Int} (hb : areB ds) (hl : ds.length = 16) : isS (OJ ds 16) := by
  refine ⟨OJ_len ds 16, fun x hx => ?_⟩
  obtain ⟨j, hj⟩ := List.mem_iff_getElem?.1 hx
  have hj4 : j < 4 := by rw [← OJ_len ds 16]; exact (List.getElem?_eq_some_iff.1 hj).1
  obtain ⟨h0, h1⟩ := OJ_lt hb hl 16 (Nat.le_refl _) j hj4
  have e : (OJ ds 16).getD j 0 = x := by rw [List.getD_eq_getElem?_getD, hj]; rfl
  rw [e] at h0 h1
  refine ⟨h0, Int.lt_of_lt_of_le h1 ?_⟩
  have : min 4 (16 - 4 * j) = 4 := by omega
  rw [this]; decide
def okH (h : List Int) : Prop := h.length = 10 ∧ ∀ x ∈ h, 0 ≤ x ∧ x ≤ 65535
abbrev hd (h : List Int) : T := .agg (h.map I)
def txH (h : List Int) : ByteArray := strT ((vis h).map Y)
def dgH (h : List Int) : List Int := H (msg 4 [txH h])
def ofH (h : List Int) : List Int := OJ (dgH h) 16
theorem ofH_isS (h : List Int) : isS (ofH h) := OJ_isS (H_areB _) (H_len _)
theorem vis_areB (l : List Int) : areB (vis l) := fun b hb => by
  rcases List.mem_append.1 hb with h | h
  · exact vi_areB _ b h
  · obtain ⟨x, _, hx⟩ := List.mem_flatMap.1 h
    exact vi_areB x b hx
theorem vis_len {l : List Int} (h : ∀ x ∈ l, i64 x) (hl : l.length < 2 ^ 40) : (vis l).length ≤ 10 * l.length + 10 := by
  have h1 := flat_le vi 10 (l := l) (fun x hx => vi_len (h x hx))
  have h2 := vi_len (i64_nat (n := l.length) (by omega))
  unfold vis
  rw [List.length_append]
  omega
theorem txH_size {h : List Int} (hh : okH h) : (txH h).size ≤ 110 := by
  rw [← sB_len, txH, sB_strT _ (vis_areB h)]
  have := vis_len (l := h) (fun x hx => by have := hh.2 x hx; unfold i64; omega) (by rw [hh.1]; decide)
  rw [hh.1] at this
  omega
theorem t_OfH (h : List Int) (hh : okH h) : DCalls Tryd.prog 12 [hd h] (sm (ofH h)) := by
  refine dcalls_low (rs := [.cell 2 25]) mixed Tryd.func12 l12 rfl rfl rfl (r := [.agg _]) (Nat.le_of_ble_eq_true rfl) ?_
  have hl := hh.1
  have hI := f_Ints h (by rw [hl]; decide) (fun x hx => by have := hh.2 x hx; unfold i64; omega)
  rw [← chunk1 (f := I) h 10 hl] at hI
  have hsz := txH_size hh
  have hO := t_Of 4 [txH h] (fun s hs => by rw [List.mem_singleton.1 hs]; omega) (Nat.le_of_ble_eq_true rfl)
  have hdl : (dgH h).length = 16 := H_len _
  have hdb : areB (dgH h) := H_areB _
  unfold ofH
  unfold dgH at *
  generalize H (msg 4 [txH h]) = ds at hO hdl hdb
  unfold txH at hO
  repeat' ((conv => whnf); first | exact trivial | refine WC_own rfl hI ?_ | refine k_call _ (hO) ?_ | refine nT_ ?_ | refine aE1 ?_ | refine aE0 ?_ | refine aN1 ?_ | refine aN0 ?_ | refine aD1 ?_ | refine aD0 ?_ | refine nE_ (fun hq => ?_) (fun hq => ?_) | refine nN_ (fun hq => ?_) (fun hq => ?_) | refine nD_ (fun hq => ?_) (fun hq => ?_) | refine rb1 ?_ | refine rb0 ?_ | refine rbx ?_ | refine rix ?_ | (refine And.intro (by first | (exact (List.length_map _).trans hl; done) | (exact areU8_Y _; done) | (exact ⟨(List.length_map _).trans hdl, by decide⟩; done) | fail) ?_) | refine aS ?_ | fail)
  refine wpC_loopE 0 (α := Nat) (β := Unit) (fun k => {sl := [(2, .ptr 2 0), (3, .ptr 3 0), (4, .ptr 4 0), (11, .t (I k))], bx := [(2, .d 4 zI4), (3, .d 16 (ds.map Y)), (4, .d 4 ((OJ ds k).map I))]})
    (fun k => k ≤ 16) (fun k => 16 - k) (fun _ => {sl := [(2, .ptr 2 0), (4, .ptr 4 0)], bx := [(2, .d 4 zI4), (4, .d 4 ((OJ ds 16).map I))]}) (fun _ => True) 0 (by omega) ?_ ?_ ?_
  · repeat' (first | ((refine leBd ?_; exact (putL_all rfl).symm)) | exact trivial | exact LeV.same _ | exact LeB.same _ | exact rfl | exact fun _ _ _ => trivial | exact lI | exact LeV.nil _ _ _ | exact lB | refine leBd ?_ | refine leOwn ?_ | refine And.intro ?_ ?_)
  · intro k hk
    rcases Nat.lt_or_ge k 16 with h2 | h2
    · have hS := OJ_s ds k
      have hol := OJ_len ds k
      obtain ⟨o0, o1⟩ := OJ_24 hdb hdl h2
      obtain ⟨b0, b1⟩ := getB hdb hdl h2
      generalize OJ ds k = cur at hS hol o0 o1
      have q1 : IntKind.i64.wrap ((k : Int).tdiv 4) = (k / 4 : Nat) := by
        rw [show (k : Int).tdiv 4 = (k / 4 : Nat) from rfl]; simp (disch := omega) only [wrap_id, w32, w8, w64]
      have hw : bitsI .or .i64 (IntKind.i64.wrap (cur.getD (k / 4) 0 * 2 ^ 8)) (IntKind.i64.wrap (ds.getD k 0)) = 256 * cur.getD (k / 4) 0 + ds.getD k 0 := by
        rw [show (2 : Int) ^ 8 = 256 from rfl, wrap_id (by omega) (by omega), wrap_id (by omega) (by omega), or_add64 8 (by omega) (by omega) (by omega) (by omega) (by omega) (by omega)]
        omega
      repeat' ((conv => whnf); first | exact trivial | (refine nv_ (I (cur.getD (k / 4) 0)) (by first | (exact mgetk (k / 4) (by rw [q1]; omega) (by omega); done) | fail) ?_) | (refine nv_ (Y (ds.getD k 0)) (by first | (exact mgetk k (by omega) (by omega); done) | fail) ?_) | refine nT_ ?_ | refine aE1 ?_ | refine aE0 ?_ | refine aN1 ?_ | refine aN0 ?_ | refine aD1 ?_ | refine aD0 ?_ | refine nE_ (fun hq => ?_) (fun hq => ?_) | refine nN_ (fun hq => ?_) (fun hq => ?_) | refine nD_ (fun hq => ?_) (fun hq => ?_) | refine rb1 ?_ | refine rb0 ?_ | refine rbx ?_ | refine rix ?_ | (refine And.intro (by first | (omega; done) | ((rw [q1]; omega); done) | fail) ?_) | refine aS ?_ | fail)
      refine ⟨k + 1, by omega, by omega, ?_⟩
      repeat' (first | exact trivial | exact LeV.same _ | exact LeB.same _ | exact rfl | exact fun _ _ _ => trivial | exact lI | exact LeV.nil _ _ _ | exact lB | refine leBd ?_ | refine leOwn ?_ | refine And.intro ?_ ?_)
      rw [hS, ← mset, ← hw, q1]
      simp only [Int.toNat_natCast, Nat.zero_add, Nat.mul_one]
      rfl
    · have : k = 16 := by omega
      subst this
      repeat' ((conv => whnf); first | exact trivial | refine nT_ ?_ | refine aE1 ?_ | refine aE0 ?_ | refine aN1 ?_ | refine aN0 ?_ | refine aD1 ?_ | refine aD0 ?_ | refine nE_ (fun hq => ?_) (fun hq => ?_) | refine nN_ (fun hq => ?_) (fun hq => ?_) | refine nD_ (fun hq => ?_) (fun hq => ?_) | refine rb1 ?_ | refine rb0 ?_ | refine rbx ?_ | refine rix ?_ | refine aS ?_ | fail)
      exact ⟨(), trivial, by repeat' (first | exact trivial | exact LeV.same _ | exact LeB.same _ | exact rfl | exact fun _ _ _ => trivial | exact lI | exact LeV.nil _ _ _ | exact lB | refine leBd ?_ | refine leOwn ?_ | refine And.intro ?_ ?_)⟩
  rintro - -
  have hol := OJ_len ds 16
  generalize OJ ds 16 = os at hol
  repeat' ((conv => whnf); first | exact trivial | refine nT_ ?_ | refine aE1 ?_ | refine aE0 ?_ | refine aN1 ?_ | refine aN0 ?_ | refine aD1 ?_ | refine aD0 ?_ | refine nE_ (fun hq => ?_) (fun hq => ?_) | refine nN_ (fun hq => ?_) (fun hq => ?_) | refine nD_ (fun hq => ?_) (fun hq => ?_) | refine rb1 ?_ | refine rb0 ?_ | refine rbx ?_ | refine rix ?_ | (refine And.intro (by first | (exact ⟨(List.length_map _).trans hol, by decide⟩; done) | fail) ?_) | refine aS ?_ | refine rt ?_ trivial | fail)
  exact congrArg T.agg (putL_all rfl)
end Go.RC
end
section
namespace Go.RC
open Go Go.DL Go.Proofs
set_option maxRecDepth 100000
set_option maxHeartbeats 1000000
def rightH (h : List Int) : Bool := h.all fun x => decide (0 ≤ x) && decide (x ≤ 65535)
theorem rightH_ok {h : List Int} (hl : h.length = 10) : rightH h = true ↔ okH h := by
  unfold rightH okH
  simp [List.all_eq_true, hl]
theorem all_take {α : Type} {p : α → Bool} {l : List α} {i : Nat} (h : i < l.length) (ha : (l.take i).all p = true) (hp : p l[i] = true) : (l.take (i + 1)).all p = true := by
  rw [List.take_succ_eq_append_getElem h, List.all_append, ha]; simp [hp]
theorem all_no {α : Type} {p : α → Bool} {l : List α} {i : Nat} (h : i < l.length) (hp : p l[i] = false) : l.all p = false := by
  rw [List.all_eq_false]; exact ⟨l[i], List.getElem_mem h, by simp [hp]⟩
def isSb (a : List Int) : Bool := a.all fun x => decide (0 ≤ x) && decide (x < M32)
theorem isSb_ok {a : List Int} (hl : a.length = 4) : isSb a = true ↔ isS a := by
  unfold isSb isS
  simp [List.all_eq_true, hl]
theorem t_IsSum (h : List Int) (hl : h.length = 4) : DCalls Tryd.prog 10 [sm h] (.bool (isSb h)) := by
  refine dcalls_low (rs := [.tmp 2]) mixed Tryd.func10 l10 rfl rfl rfl (r := [.bool _]) (Nat.le_of_ble_eq_true rfl) ?_
  repeat' ((conv => whnf); first | exact trivial | refine nT_ ?_ | refine aE1 ?_ | refine aE0 ?_ | refine aN1 ?_ | refine aN0 ?_ | refine aD1 ?_ | refine aD0 ?_ | refine nE_ (fun hq => ?_) (fun hq => ?_) | refine nN_ (fun hq => ?_) (fun hq => ?_) | refine nD_ (fun hq => ?_) (fun hq => ?_) | refine rb1 ?_ | refine rb0 ?_ | refine rbx ?_ | refine rix ?_ | (refine And.intro (by first | (exact (List.length_map _).trans hl; done) | fail) ?_) | refine aS ?_ | fail)
  refine wpC_loopE 0 (α := Nat) (β := Unit) (fun i => {sl := [(1, .ptr 1 0), (3, .t (I i))], bx := [(1, .d 4 (h.map I))]})
    (fun i => i ≤ 4 ∧ (h.take i).all (fun x => decide (0 ≤ x) && decide (x < M32)) = true) (fun i => 4 - i) (fun _ => {sl := [], bx := []}) (fun _ => isSb h = true) 0 (by simp) ?_ ?_ ?_
  · repeat' (first | exact trivial | exact LeV.same _ | exact LeB.same _ | exact rfl | exact fun _ _ _ => trivial | exact lI | exact LeV.nil _ _ _ | exact lB | refine leBd ?_ | refine leOwn ?_ | refine And.intro ?_ ?_)
  · rintro i ⟨hi, ha⟩
    rcases Nat.lt_or_ge i 4 with h2 | h2
    · have hg : h.getD i 0 = h[i] := by rw [List.getD_eq_getElem?_getD, List.getElem?_eq_getElem (by omega)]; rfl
      have hno := all_no (p := fun x => decide (0 ≤ x) && decide (x < M32)) (l := h) (i := i) (by omega)
      have hye := all_take (p := fun x => decide (0 ≤ x) && decide (x < M32)) (l := h) (i := i) (by omega) ha
      rw [← hg] at hno hye
      generalize h.getD i 0 = x at hno hye hg
      repeat' ((conv => whnf); first | exact trivial | (refine nv_ (I x) (by first | ((rw [mgetk i (by omega) (by omega), List.getD_eq_getElem?_getD, List.getElem?_eq_getElem (by omega)]; exact congrArg I hg.symm); done) | fail) ?_) | refine nT_ ?_ | refine aE1 ?_ | refine aE0 ?_ | refine aN1 ?_ | refine aN0 ?_ | refine aD1 ?_ | refine aD0 ?_ | refine nE_ (fun hq => ?_) (fun hq => ?_) | refine nN_ (fun hq => ?_) (fun hq => ?_) | refine nD_ (fun hq => ?_) (fun hq => ?_) | refine rb1 ?_ | refine rb0 ?_ | refine rbx ?_ | refine rix ?_ | (refine And.intro (by first | (omega; done) | fail) ?_) | refine aS ?_ | fail)
      · exact rb (hno (by simp [M32]; omega)).symm trivial
      · exact rb (hno (by simp [M32]; omega)).symm trivial
      · exact ⟨i + 1, ⟨by omega, hye (by simp [M32]; omega)⟩, by omega, by repeat' (first | exact trivial | exact LeV.same _ | exact LeB.same _ | exact rfl | exact fun _ _ _ => trivial | exact lI | exact LeV.nil _ _ _ | exact lB | refine leBd ?_ | refine leOwn ?_ | refine And.intro ?_ ?_)⟩
    · have : i = 4 := by omega
      subst this
      repeat' ((conv => whnf); first | exact trivial | refine nT_ ?_ | refine aE1 ?_ | refine aE0 ?_ | refine aN1 ?_ | refine aN0 ?_ | refine aD1 ?_ | refine aD0 ?_ | refine nE_ (fun hq => ?_) (fun hq => ?_) | refine nN_ (fun hq => ?_) (fun hq => ?_) | refine nD_ (fun hq => ?_) (fun hq => ?_) | refine rb1 ?_ | refine rb0 ?_ | refine rbx ?_ | refine rix ?_ | refine aS ?_ | fail)
      rw [List.take_of_length_le (by omega)] at ha
      exact ⟨(), ha, by repeat' (first | exact trivial | exact LeV.same _ | exact LeB.same _ | exact rfl | exact fun _ _ _ => trivial | exact lI | exact LeV.nil _ _ _ | exact lB | refine leBd ?_ | refine leOwn ?_ | refine And.intro ?_ ?_)⟩
  rintro - hr
  repeat' ((conv => whnf); first | exact trivial | refine nT_ ?_ | refine aE1 ?_ | refine aE0 ?_ | refine aN1 ?_ | refine aN0 ?_ | refine aD1 ?_ | refine aD0 ?_ | refine nE_ (fun hq => ?_) (fun hq => ?_) | refine nN_ (fun hq => ?_) (fun hq => ?_) | refine nD_ (fun hq => ?_) (fun hq => ?_) | refine rb1 ?_ | refine rb0 ?_ | refine rbx ?_ | refine rix ?_ | refine aS ?_ | (exact rb hr.symm trivial) | fail)
def cmpI (x y : Int) : Int := if x < y then -1 else if y < x then 1 else 0
theorem t_isNaN (x : Int) : DCalls Tryd.prog 95 [I x] (.bool false) := by
  refine dcalls_low (rs := [.tmp 2]) mixed Tryd.func95 l95 rfl rfl rfl (r := [.bool _]) (Nat.le_of_ble_eq_true rfl) ?_
  repeat' ((conv => whnf); first | exact trivial | refine nT_ ?_ | refine aE1 ?_ | refine aE0 ?_ | refine aN1 ?_ | refine aN0 ?_ | refine aD1 ?_ | refine aD0 ?_ | refine nE_ (fun hq => ?_) (fun hq => ?_) | refine nN_ (fun hq => ?_) (fun hq => ?_) | refine nD_ (fun hq => ?_) (fun hq => ?_) | refine rb1 ?_ | refine rb0 ?_ | refine rbx ?_ | refine rix ?_ | refine aS ?_ | fail)
theorem t_cmp (x y : Int) : DCalls Tryd.prog 81 [I x, I y] (I (cmpI x y)) := by
  refine dcalls_low (rs := [.tmp 4]) mixed Tryd.func81 l81 rfl rfl rfl (r := [I _]) (Nat.le_of_ble_eq_true rfl) ?_
  unfold cmpI
  repeat' ((conv => whnf); first | exact trivial | refine k_call _ (t_isNaN _) ?_ | refine nT_ ?_ | refine aE1 ?_ | refine aE0 ?_ | refine aN1 ?_ | refine aN0 ?_ | refine aD1 ?_ | refine aD0 ?_ | refine nE_ (fun hq => ?_) (fun hq => ?_) | refine nN_ (fun hq => ?_) (fun hq => ?_) | refine nD_ (fun hq => ?_) (fun hq => ?_) | refine rb1 ?_ | refine rb0 ?_ | refine rbx ?_ | refine rix ?_ | refine aS ?_ | fail)
  all_goals (refine ri ?_ trivial; split <;> (try split) <;> first | rfl | omega)
def orI : List Int → Int
  | [] => 0
  | x :: l => if x ≠ 0 then x else orI l
theorem t_Or3 (x y z : Int) : DCalls Tryd.prog 80 [.slice 1 [I x, I y, I z]] (I (orI [x, y, z])) := by
  refine dcalls_low (rs := [.tmp 2]) mixed Tryd.func80 l80 rfl rfl rfl (r := [I _]) (Nat.le_of_ble_eq_true rfl) ?_
  repeat' ((conv => whnf); first | exact trivial | refine nT_ ?_ | refine aE1 ?_ | refine aE0 ?_ | refine aN1 ?_ | refine aN0 ?_ | refine aD1 ?_ | refine aD0 ?_ | refine nE_ (fun hq => ?_) (fun hq => ?_) | refine nN_ (fun hq => ?_) (fun hq => ?_) | refine nD_ (fun hq => ?_) (fun hq => ?_) | refine rb1 ?_ | refine rb0 ?_ | refine rbx ?_ | refine rix ?_ | refine aS ?_ | fail)
  refine wpC_loopE 0 (α := Nat) (β := Unit) (fun i => {sl := [(3, .t (I 0)), (6, .t (.slice 1 [I x, I y, I z])), (7, .t (I 3)), (8, .t (I i))], bx := []})
    (fun i => i ≤ 3 ∧ orI ([x, y, z].drop i) = orI [x, y, z]) (fun i => 3 - i) (fun _ => {sl := [(3, .t (I 0))], bx := []}) (fun _ => orI [x, y, z] = 0) 0 ⟨by omega, rfl⟩ ?_ ?_ ?_
  · repeat' (first | exact trivial | exact LeV.same _ | exact LeB.same _ | exact rfl | exact fun _ _ _ => trivial | exact lI | exact LeV.nil _ _ _ | exact lB | refine leBd ?_ | refine leOwn ?_ | refine And.intro ?_ ?_)
  · rintro i ⟨hi, ho⟩
    have step : ∀ w l, orI (w :: l) = orI [x, y, z] → (w ≠ 0 → w = orI [x, y, z]) ∧ (w = 0 → orI l = orI [x, y, z]) := fun w l h => by
      unfold orI at h
      refine ⟨fun hw => ?_, fun hw => ?_⟩
      · rw [if_pos hw] at h; exact h
      · rw [if_neg (by simpa using hw)] at h; exact h
    match i, hi with
    | 0, _ =>
      obtain ⟨s1, s2⟩ := step x [y, z] ho
      repeat' ((conv => whnf); first | exact trivial | refine nT_ ?_ | refine aE1 ?_ | refine aE0 ?_ | refine aN1 ?_ | refine aN0 ?_ | refine aD1 ?_ | refine aD0 ?_ | refine nE_ (fun hq => ?_) (fun hq => ?_) | refine nN_ (fun hq => ?_) (fun hq => ?_) | refine nD_ (fun hq => ?_) (fun hq => ?_) | refine rb1 ?_ | refine rb0 ?_ | refine rbx ?_ | refine rix ?_ | refine aS ?_ | fail)
      exact ⟨1, ⟨by omega, s2 hq⟩, by omega, by repeat' (first | exact trivial | exact LeV.same _ | exact LeB.same _ | exact rfl | exact fun _ _ _ => trivial | exact lI | exact LeV.nil _ _ _ | exact lB | refine leBd ?_ | refine leOwn ?_ | refine And.intro ?_ ?_)⟩
    | 1, _ =>
      obtain ⟨s1, s2⟩ := step y [z] ho
      repeat' ((conv => whnf); first | exact trivial | refine nT_ ?_ | refine aE1 ?_ | refine aE0 ?_ | refine aN1 ?_ | refine aN0 ?_ | refine aD1 ?_ | refine aD0 ?_ | refine nE_ (fun hq => ?_) (fun hq => ?_) | refine nN_ (fun hq => ?_) (fun hq => ?_) | refine nD_ (fun hq => ?_) (fun hq => ?_) | refine rb1 ?_ | refine rb0 ?_ | refine rbx ?_ | refine rix ?_ | refine aS ?_ | fail)
      exact ⟨2, ⟨by omega, s2 hq⟩, by omega, by repeat' (first | exact trivial | exact LeV.same _ | exact LeB.same _ | exact rfl | exact fun _ _ _ => trivial | exact lI | exact LeV.nil _ _ _ | exact lB | refine leBd ?_ | refine leOwn ?_ | refine And.intro ?_ ?_)⟩
    | 2, _ =>
      obtain ⟨s1, s2⟩ := step z [] ho
      repeat' ((conv => whnf); first | exact trivial | refine nT_ ?_ | refine aE1 ?_ | refine aE0 ?_ | refine aN1 ?_ | refine aN0 ?_ | refine aD1 ?_ | refine aD0 ?_ | refine nE_ (fun hq => ?_) (fun hq => ?_) | refine nN_ (fun hq => ?_) (fun hq => ?_) | refine nD_ (fun hq => ?_) (fun hq => ?_) | refine rb1 ?_ | refine rb0 ?_ | refine rbx ?_ | refine rix ?_ | refine aS ?_ | fail)
      exact ⟨3, ⟨by omega, s2 hq⟩, by omega, by repeat' (first | exact trivial | exact LeV.same _ | exact LeB.same _ | exact rfl | exact fun _ _ _ => trivial | exact lI | exact LeV.nil _ _ _ | exact lB | refine leBd ?_ | refine leOwn ?_ | refine And.intro ?_ ?_)⟩
    | 3, _ =>
      repeat' ((conv => whnf); first | exact trivial | refine nT_ ?_ | refine aE1 ?_ | refine aE0 ?_ | refine aN1 ?_ | refine aN0 ?_ | refine aD1 ?_ | refine aD0 ?_ | refine nE_ (fun hq => ?_) (fun hq => ?_) | refine nN_ (fun hq => ?_) (fun hq => ?_) | refine nD_ (fun hq => ?_) (fun hq => ?_) | refine rb1 ?_ | refine rb0 ?_ | refine rbx ?_ | refine rix ?_ | refine aS ?_ | fail)
      exact ⟨(), ho.symm, by repeat' (first | exact trivial | exact LeV.same _ | exact LeB.same _ | exact rfl | exact fun _ _ _ => trivial | exact lI | exact LeV.nil _ _ _ | exact lB | refine leBd ?_ | refine leOwn ?_ | refine And.intro ?_ ?_)⟩
    | i + 4, h => omega
  rintro - hr
  repeat' ((conv => whnf); first | exact trivial | refine nT_ ?_ | refine aE1 ?_ | refine aE0 ?_ | refine aN1 ?_ | refine aN0 ?_ | refine aD1 ?_ | refine aD0 ?_ | refine nE_ (fun hq => ?_) (fun hq => ?_) | refine nN_ (fun hq => ?_) (fun hq => ?_) | refine nD_ (fun hq => ?_) (fun hq => ?_) | refine rb1 ?_ | refine rb0 ?_ | refine rbx ?_ | refine rix ?_ | refine aS ?_ | (exact ri hr.symm trivial) | fail)
abbrev nm (s p f : Int) : T := .agg [I s, I p, I f]
def cmpN (a b : Int × Int × Int) : Int := orI [cmpI a.1 b.1, cmpI a.2.1 b.2.1, cmpI a.2.2 b.2.2]
def rightN (s p f : Int) : Bool := decide (s ≥ 1) && decide (s ≤ 2) && decide (p ≥ 0) && decide (p ≤ 65535) && decide (f ≥ 0) && decide (f ≤ 1073741824)
theorem t_right (s p f : Int) : DCalls Tryd.prog 50 [nm s p f] (.bool (rightN s p f)) := by
  refine dcalls_low (rs := [.tmp 2]) mixed Tryd.func50 l50 rfl rfl rfl (r := [.bool _]) (Nat.le_of_ble_eq_true rfl) ?_
  unfold rightN
  repeat' ((conv => whnf); first | exact trivial | refine nD_ (fun hq => ?_) (fun hq => ?_) | refine nT_ ?_ | refine aE1 ?_ | refine aE0 ?_ | refine aN1 ?_ | refine aN0 ?_ | refine aD1 ?_ | refine aD0 ?_ | refine nE_ (fun hq => ?_) (fun hq => ?_) | refine nN_ (fun hq => ?_) (fun hq => ?_) | refine nD_ (fun hq => ?_) (fun hq => ?_) | refine rb1 ?_ | refine rb0 ?_ | refine rbx ?_ | refine rix ?_ | refine aS ?_ | fail)
  all_goals (refine rb ?_ trivial; simp [*])
theorem t_compare (a b : Int × Int × Int) : DCalls Tryd.prog 52 [nm a.1 a.2.1 a.2.2, nm b.1 b.2.1 b.2.2] (I (cmpN a b)) := by
  refine dcalls_low (rs := [.tmp 4]) mixed Tryd.func52 l52 rfl rfl rfl (r := [I _]) (Nat.le_of_ble_eq_true rfl) ?_
  unfold cmpN
  repeat' ((conv => whnf); first | exact trivial | refine k_call _ (t_cmp _ _) ?_ | refine k_call _ (t_Or3 _ _ _) ?_ | refine nT_ ?_ | refine aE1 ?_ | refine aE0 ?_ | refine aN1 ?_ | refine aN0 ?_ | refine aD1 ?_ | refine aD0 ?_ | refine nE_ (fun hq => ?_) (fun hq => ?_) | refine nN_ (fun hq => ?_) (fun hq => ?_) | refine nD_ (fun hq => ?_) (fun hq => ?_) | refine rb1 ?_ | refine rb0 ?_ | refine rbx ?_ | refine rix ?_ | refine aS ?_ | fail)
abbrev ln (x : List Int) : T := .agg (x.map I)
theorem t_of (x : List Int) (hx : x.length = 8) : DCalls Tryd.prog 49 [ln x] (nm (x.getD 0 0) (x.getD 1 0) (x.getD 2 0)) := by
  refine dcalls_low (rs := [.cell 2 83]) mixed Tryd.func49 l49 rfl rfl rfl (r := [.agg _]) (Nat.le_of_ble_eq_true rfl) ?_
  match x, hx with
  | [_, _, _, _, _, _, _, _], _ => repeat' ((conv => whnf); first | exact trivial | refine nT_ ?_ | refine aE1 ?_ | refine aE0 ?_ | refine aN1 ?_ | refine aN0 ?_ | refine aD1 ?_ | refine aD0 ?_ | refine nE_ (fun hq => ?_) (fun hq => ?_) | refine nN_ (fun hq => ?_) (fun hq => ?_) | refine nD_ (fun hq => ?_) (fun hq => ?_) | refine rb1 ?_ | refine rb0 ?_ | refine rbx ?_ | refine rix ?_ | refine aS ?_ | fail)
def ixP {α : Type} (p : α → Bool) : List α → Int → Int
  | [], _ => -1
  | x :: l, i => if p x then i else ixP p l (i + 1)
theorem ixP_any {α : Type} (p : α → Bool) : ∀ (l : List α) (i : Int), 0 ≤ i → decide (ixP p l i ≥ 0) = l.any p
  | [], _, _ => rfl
  | x :: l, i, h => by
    unfold ixP
    cases hp : p x with
    | true => simp [hp, h]
    | false =>
      simp only [Bool.false_eq_true, if_false, List.any_cons, hp, Bool.false_or]
      exact ixP_any p l (i + 1) (by omega)
theorem ixP_drop {α : Type} (p : α → Bool) {l : List α} {i : Nat} (h : i < l.length) : ixP p (l.drop i) i = if p l[i] then (i : Int) else ixP p (l.drop (i + 1)) (i + 1 : Nat) := by
  rw [List.drop_eq_getElem_cons h]
  conv => lhs; unfold ixP
  rfl
theorem t_IndexFunc (f : FuncId) (p : Int → Bool) (l : List Int) (hl : l.length < 2 ^ 60) (hf : ∀ x ∈ l, DCalls Tryd.prog f [I x] (.bool (p x))) : DCalls Tryd.prog 79 [.slice 1 (l.map I), .clos f []] (I (ixP p l 0)) := by
  refine dcalls_low (rs := [.tmp 4]) mixed Tryd.func79 l79 rfl rfl rfl (r := [I _]) (Nat.le_of_ble_eq_true rfl) ?_
  repeat' ((conv => whnf); first | exact trivial | refine nT_ ?_ | refine aE1 ?_ | refine aE0 ?_ | refine aN1 ?_ | refine aN0 ?_ | refine aD1 ?_ | refine aD0 ?_ | refine nE_ (fun hq => ?_) (fun hq => ?_) | refine nN_ (fun hq => ?_) (fun hq => ?_) | refine nD_ (fun hq => ?_) (fun hq => ?_) | refine rb1 ?_ | refine rb0 ?_ | refine rbx ?_ | refine rix ?_ | refine aS ?_ | fail)
  refine wpC_loopE 0 (α := Nat) (β := Unit) (fun i => {sl := [(0, .t (.slice 1 (l.map I))), (1, .t (.clos f [])), (7, .t (I l.length)), (8, .t (I i))], bx := []})
    (fun i => i ≤ l.length ∧ ixP p (l.drop i) i = ixP p l 0) (fun i => l.length - i) (fun _ => {sl := [], bx := []}) (fun _ => ixP p l 0 = -1) 0 ⟨by omega, rfl⟩ ?_ ?_ ?_
  · repeat' (first | ((refine leI ?_; simp; done)) | exact trivial | exact LeV.same _ | exact LeB.same _ | exact rfl | exact fun _ _ _ => trivial | exact lI | exact LeV.nil _ _ _ | exact lB | refine leBd ?_ | refine leOwn ?_ | refine And.intro ?_ ?_)
  · rintro i ⟨hi, ho⟩
    rcases Nat.lt_or_ge i l.length with h2 | h2
    · rw [ixP_drop p h2] at ho
      have hc := hf l[i] (List.getElem_mem h2)
      generalize hxe : l[i] = x at ho hc
      cases hp : p x with
      | true =>
        rw [hp, if_pos rfl] at ho
        rw [hp] at hc
        repeat' ((conv => whnf); first | exact trivial | (refine nv_ (I x) (by first | ((simp [h2, hxe]; done); done) | fail) ?_) | refine k_call _ (hc) ?_ | refine nT_ ?_ | refine aE1 ?_ | refine aE0 ?_ | refine aN1 ?_ | refine aN0 ?_ | refine aD1 ?_ | refine aD0 ?_ | refine nE_ (fun hq => ?_) (fun hq => ?_) | refine nN_ (fun hq => ?_) (fun hq => ?_) | refine nD_ (fun hq => ?_) (fun hq => ?_) | refine rb1 ?_ | refine rb0 ?_ | refine rbx ?_ | refine rix ?_ | (refine And.intro (by first | ((simp; omega); done) | fail) ?_) | refine aS ?_ | fail)
      | false =>
        rw [hp, if_neg (by simp)] at ho
        rw [hp] at hc
        repeat' ((conv => whnf); first | exact trivial | (refine nv_ (I x) (by first | ((simp [h2, hxe]; done); done) | fail) ?_) | refine k_call _ (hc) ?_ | refine nT_ ?_ | refine aE1 ?_ | refine aE0 ?_ | refine aN1 ?_ | refine aN0 ?_ | refine aD1 ?_ | refine aD0 ?_ | refine nE_ (fun hq => ?_) (fun hq => ?_) | refine nN_ (fun hq => ?_) (fun hq => ?_) | refine nD_ (fun hq => ?_) (fun hq => ?_) | refine rb1 ?_ | refine rb0 ?_ | refine rbx ?_ | refine rix ?_ | (refine And.intro (by first | ((simp; omega); done) | fail) ?_) | refine aS ?_ | fail)
        exact ⟨i + 1, ⟨by omega, ho⟩, by omega, by repeat' (first | exact trivial | exact LeV.same _ | exact LeB.same _ | exact rfl | exact fun _ _ _ => trivial | exact lI | exact LeV.nil _ _ _ | exact lB | refine leBd ?_ | refine leOwn ?_ | refine And.intro ?_ ?_)⟩
    · have : i = l.length := by omega
      subst this
      rw [List.drop_length] at ho
      repeat' ((conv => whnf); first | exact trivial | refine nT_ ?_ | refine aE1 ?_ | refine aE0 ?_ | refine aN1 ?_ | refine aN0 ?_ | refine aD1 ?_ | refine aD0 ?_ | refine nE_ (fun hq => ?_) (fun hq => ?_) | refine nN_ (fun hq => ?_) (fun hq => ?_) | refine nD_ (fun hq => ?_) (fun hq => ?_) | refine rb1 ?_ | refine rb0 ?_ | refine rbx ?_ | refine rix ?_ | refine aS ?_ | fail)
      exact ⟨(), ho.symm, by repeat' (first | exact trivial | exact LeV.same _ | exact LeB.same _ | exact rfl | exact fun _ _ _ => trivial | exact lI | exact LeV.nil _ _ _ | exact lB | refine leBd ?_ | refine leOwn ?_ | refine And.intro ?_ ?_)⟩
  rintro - hr
  repeat' ((conv => whnf); first | exact trivial | refine nT_ ?_ | refine aE1 ?_ | refine aE0 ?_ | refine aN1 ?_ | refine aN0 ?_ | refine aD1 ?_ | refine aD0 ?_ | refine nE_ (fun hq => ?_) (fun hq => ?_) | refine nN_ (fun hq => ?_) (fun hq => ?_) | refine nD_ (fun hq => ?_) (fun hq => ?_) | refine rb1 ?_ | refine rb0 ?_ | refine rbx ?_ | refine rix ?_ | refine aS ?_ | (exact ri hr.symm trivial) | fail)
theorem t_ContainsFunc (f : FuncId) (p : Int → Bool) (l : List Int) (hl : l.length < 2 ^ 60) (hf : ∀ x ∈ l, DCalls Tryd.prog f [I x] (.bool (p x))) : DCalls Tryd.prog 51 [.slice 1 (l.map I), .clos f []] (.bool (l.any p)) := by
  refine dcalls_low (rs := [.tmp 4]) mixed Tryd.func51 l51 rfl rfl rfl (r := [.bool _]) (Nat.le_of_ble_eq_true rfl) ?_
  have hc := t_IndexFunc f p l hl hf
  rw [← ixP_any p l 0 (Int.le_refl 0)]
  repeat' ((conv => whnf); first | exact trivial | refine k_call _ (hc) ?_ | refine nT_ ?_ | refine nT_ ?_ | refine aE1 ?_ | refine aE0 ?_ | refine aN1 ?_ | refine aN0 ?_ | refine aD1 ?_ | refine aD0 ?_ | refine nE_ (fun hq => ?_) (fun hq => ?_) | refine nN_ (fun hq => ?_) (fun hq => ?_) | refine nD_ (fun hq => ?_) (fun hq => ?_) | refine rb1 ?_ | refine rb0 ?_ | refine rbx ?_ | refine rix ?_ | refine aS ?_ | fail)
theorem t_odd (x : Int) : DCalls Tryd.prog 48 [I x] (.bool (decide (x < 0) || decide (x > 4294967295))) := by
  refine dcalls_low (rs := [.tmp 2]) mixed Tryd.func48 l48 rfl rfl rfl (r := [.bool _]) (Nat.le_of_ble_eq_true rfl) ?_
  repeat' ((conv => whnf); first | exact trivial | refine nD_ (fun hq => ?_) (fun hq => ?_) | refine nT_ ?_ | refine aE1 ?_ | refine aE0 ?_ | refine aN1 ?_ | refine aN0 ?_ | refine aD1 ?_ | refine aD0 ?_ | refine nE_ (fun hq => ?_) (fun hq => ?_) | refine nN_ (fun hq => ?_) (fun hq => ?_) | refine nD_ (fun hq => ?_) (fun hq => ?_) | refine rb1 ?_ | refine rb0 ?_ | refine rbx ?_ | refine rix ?_ | refine aS ?_ | fail)
  all_goals (refine rb ?_ trivial; simp [*])
theorem t_wide (x : Int) : DCalls Tryd.prog 69 [I x] (.bool (decide (x < 0) || decide (x > 65535))) := by
  refine dcalls_low (rs := [.tmp 2]) mixed Tryd.func69 l69 rfl rfl rfl (r := [.bool _]) (Nat.le_of_ble_eq_true rfl) ?_
  repeat' ((conv => whnf); first | exact trivial | refine nD_ (fun hq => ?_) (fun hq => ?_) | refine nT_ ?_ | refine aE1 ?_ | refine aE0 ?_ | refine aN1 ?_ | refine aN0 ?_ | refine aD1 ?_ | refine aD0 ?_ | refine nE_ (fun hq => ?_) (fun hq => ?_) | refine nN_ (fun hq => ?_) (fun hq => ?_) | refine nD_ (fun hq => ?_) (fun hq => ?_) | refine rb1 ?_ | refine rb0 ?_ | refine rbx ?_ | refine rix ?_ | refine aS ?_ | fail)
  all_goals (refine rb ?_ trivial; simp [*])
end Go.RC
end
