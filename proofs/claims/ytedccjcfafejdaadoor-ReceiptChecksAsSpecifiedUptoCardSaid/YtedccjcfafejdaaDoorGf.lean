/- Joined by program: parts of a data level over the model, of the program's functions over it, and of the statement's proof. -/
import Derived.Test.YtedccjcfafejdaaDoorGe
import Derived.Test.YtedccjcfafejdaaDoorProg
import Derived.Test.YtedccjcfafejdaaDoorGd
import Derived.KernelRfl
section
namespace Go.RC
open Go Go.DL Go.Proofs
set_option maxRecDepth 100000
set_option maxHeartbeats 1000000
attribute [local irreducible] rr
theorem areU8_Y : ∀ l : List Int, areU8 (l.map Y)
  | [] => trivial
  | _ :: l => areU8_Y l
theorem sB_strT (l : List Int) (h : areB l) : sB (strT (l.map Y)) = l := by
  unfold sB strT
  simp only [List.map_map]
  refine (List.map_congr_left (g := id) fun b hb => ?_).trans (List.map_id l)
  obtain ⟨h0, h1⟩ := h b hb
  show (((UInt8.ofNat b.toNat).toNat : Nat) : Int) = b
  rw [UInt8.toNat_ofNat', Nat.mod_eq_of_lt (by omega)]
  omega
theorem areB_tail (n : Nat) : areB (tail n) := by
  intro b hb
  have u8 : ∀ x : Int, 0 ≤ IntKind.u8.wrap x ∧ IntKind.u8.wrap x < 256 := fun x => by
    unfold IntKind.wrap
    simp [IntKind.bits, IntKind.signed]
    omega
  unfold tail at hb
  rcases List.mem_cons.1 hb with rfl | hb
  · omega
  rcases List.mem_append.1 hb with hb | hb
  · rw [List.eq_of_mem_replicate hb]; omega
  · obtain ⟨i, _, rfl⟩ := List.mem_map.1 hb
    exact u8 _
theorem aget {f : Int → T} {ws : List Int} {r : List T} {k' : Nat} {d : T} (k : Nat) (e : k' = k) (h : k < ws.length) : (ws.map f ++ r)[k']?.getD d = f (ws.getD k 0) := by
  rw [e, List.getElem?_append_left (by simpa using h)]
  exact mget h
def S0 : Str := ⟨V0, List.replicate 64 0, 0⟩
theorem t_Begin : DCalls Tryd.prog 72 [] S0.T := by
  refine dcalls_low (rs := [.cell 0 121]) mixed Tryd.func72 l72 rfl rfl rfl (r := [.agg _]) (Nat.le_of_ble_eq_true rfl) ?_
  repeat' ((conv => whnf); first | exact trivial | refine nT_ ?_ | refine aE1 ?_ | refine aE0 ?_ | refine aN1 ?_ | refine aN0 ?_ | refine aD1 ?_ | refine aD0 ?_ | refine nE_ (fun hq => ?_) (fun hq => ?_) | refine nN_ (fun hq => ?_) (fun hq => ?_) | refine nD_ (fun hq => ?_) (fun hq => ?_) | refine rb1 ?_ | refine rb0 ?_ | refine rbx ?_ | refine rix ?_ | refine aS ?_ | fail)
theorem t_Sum (x : Str) (hx : x.blk.length = 64) (hn : x.n < 2 ^ 60) : DCalls Tryd.prog 75 [x.T] (.agg ((dig (x.add (tail x.n)).s).map Y)) := by
  refine dcalls_low (rs := [.cell 2 125]) mixed Tryd.func75 l75 rfl rfl rfl (r := [.agg _]) (Nat.le_of_ble_eq_true rfl) ?_
  have hcl := cells_len x hx
  have hz := (zer_spec x.n).2
  have hb8 : IntKind.u64.wrap (8 * (x.n : Int)) = bits8 x.n := by unfold bits8; rw [w64 (n := (x.n : Int)) (by omega) (by omega)]
  have hwn : IntKind.i64.wrap (x.n : Int) = x.n := by simp (disch := omega) only [wrap_id, w32, w8, w64]
  unfold Str.T
  generalize hcs : x.cells = cs at hcl
  have h72 : ∀ d, cs[0 + 72]?.getD d = Q x.n := fun d => by rw [← hcs]; exact cell72 x hx d
  repeat' ((conv => whnf); first | exact trivial | (refine nv_ (Q x.n) (by first | (exact h72 _; done) | fail) ?_) | refine nT_ ?_ | refine aE1 ?_ | refine aE0 ?_ | refine aN1 ?_ | refine aN0 ?_ | refine aD1 ?_ | refine aD0 ?_ | refine nE_ (fun hq => ?_) (fun hq => ?_) | refine nN_ (fun hq => ?_) (fun hq => ?_) | refine nD_ (fun hq => ?_) (fun hq => ?_) | refine rb1 ?_ | refine rb0 ?_ | refine rbx ?_ | refine rix ?_ | (refine And.intro (by first | (exact hcl; done) | (omega; done) | fail) ?_) | refine aS ?_ | fail)
  refine wpC_loopE 0 (α := Nat × Nat) (β := Nat) (fun q => {sl := [(1, .ptr 1 0), (2, .ptr 2 0), (3, .t (Q (bits8 x.n))), (4, .own q.1 5 1 ((128 :: List.replicate q.2 0).map Y))], bx := [(1, .d 73 cs), (2, .d 32 z32)]})
    (fun q => q.2 ≤ zer x.n) (fun q => zer x.n - q.2) (fun q => {sl := [(1, .ptr 1 0), (2, .ptr 2 0), (3, .t (Q (bits8 x.n))), (4, .own q 5 1 ((128 :: List.replicate (zer x.n) 0).map Y))], bx := [(1, .d 73 cs), (2, .d 32 z32)]}) (fun _ => True) (11, 0) (by simp) ?_ ?_ ?_
  · repeat' (first | ((refine leT ?_; rw [hb8]; done)) | exact trivial | exact LeV.same _ | exact LeB.same _ | exact rfl | exact fun _ _ _ => trivial | exact lI | exact LeV.nil _ _ _ | exact lB | refine leBd ?_ | refine leOwn ?_ | refine And.intro ?_ ?_)
  · rintro ⟨q, z⟩ hzz
    dsimp only at hzz
    have hlen : ((((128 :: List.replicate z 0) : List Int).map Y).length : Int) = z + 1 := by simp
    have hw : IntKind.i64.wrap ((x.n : Int) + (z + 1)) = x.n + (z + 1) := by simp (disch := omega) only [wrap_id, w32, w8, w64]
    rcases Nat.lt_or_ge z (zer x.n) with h | h
    · have hne : (IntKind.i64.wrap (IntKind.i64.wrap (x.n : Int) + ((((128 :: List.replicate z 0) : List Int).map Y).length : Int))).tmod 64 ≠ 56 := by
        have := zer_lt x.n z h
        rw [hwn, hlen, hw, Int.tmod_eq_emod_of_nonneg (by omega)]
        omega
      repeat' ((conv => whnf); first | exact trivial | (refine nv_ (Q x.n) (by first | (exact h72 _; done) | fail) ?_) | refine now_N1 hne ?_ | refine nT_ ?_ | refine aE1 ?_ | refine aE0 ?_ | refine aN1 ?_ | refine aN0 ?_ | refine aD1 ?_ | refine aD0 ?_ | refine nE_ (fun hq => ?_) (fun hq => ?_) | refine nN_ (fun hq => ?_) (fun hq => ?_) | refine nD_ (fun hq => ?_) (fun hq => ?_) | refine rb1 ?_ | refine rb0 ?_ | refine rbx ?_ | refine rix ?_ | (refine And.intro (by first | (omega; done) | ((simp; omega); done) | fail) ?_) | refine aS ?_ | fail)
      refine ⟨(22, z + 1), by dsimp only; omega, by dsimp only; omega, ?_⟩
      repeat' (first | exact trivial | exact LeV.same _ | exact LeB.same _ | exact rfl | exact fun _ _ _ => trivial | exact lI | exact LeV.nil _ _ _ | exact lB | refine leBd ?_ | refine leOwn ?_ | refine And.intro ?_ ?_)
      simp [List.replicate_succ']
    · have : z = zer x.n := by omega
      subst this
      have heq : (IntKind.i64.wrap (IntKind.i64.wrap (x.n : Int) + ((((128 :: List.replicate (zer x.n) 0) : List Int).map Y).length : Int))).tmod 64 = 56 := by
        have := (zer_spec x.n).1
        rw [hwn, hlen, hw, Int.tmod_eq_emod_of_nonneg (by omega)]
        omega
      repeat' ((conv => whnf); first | exact trivial | (refine nv_ (Q x.n) (by first | (exact h72 _; done) | fail) ?_) | refine now_N0 heq ?_ | refine nT_ ?_ | refine aE1 ?_ | refine aE0 ?_ | refine aN1 ?_ | refine aN0 ?_ | refine aD1 ?_ | refine aD0 ?_ | refine nE_ (fun hq => ?_) (fun hq => ?_) | refine nN_ (fun hq => ?_) (fun hq => ?_) | refine nD_ (fun hq => ?_) (fun hq => ?_) | refine rb1 ?_ | refine rb0 ?_ | refine rbx ?_ | refine rix ?_ | (refine And.intro (by first | (omega; done) | fail) ?_) | refine aS ?_ | fail)
      exact ⟨q, trivial, by repeat' (first | exact trivial | exact LeV.same _ | exact LeB.same _ | exact rfl | exact fun _ _ _ => trivial | exact lI | exact LeV.nil _ _ _ | exact lB | refine leBd ?_ | refine leOwn ?_ | refine And.intro ?_ ?_)⟩
  rintro q -
  repeat' ((conv => whnf); first | exact trivial | refine nT_ ?_ | refine aE1 ?_ | refine aE0 ?_ | refine aN1 ?_ | refine aN0 ?_ | refine aD1 ?_ | refine aD0 ?_ | refine nE_ (fun hq => ?_) (fun hq => ?_) | refine nN_ (fun hq => ?_) (fun hq => ?_) | refine nD_ (fun hq => ?_) (fun hq => ?_) | refine rb1 ?_ | refine rb0 ?_ | refine rbx ?_ | refine rix ?_ | refine aS ?_ | fail)
  refine wpC_loopE 2 (α := Nat × Nat) (β := Nat) (fun q => {sl := [(1, .ptr 1 0), (2, .ptr 2 0), (3, .t (Q (bits8 x.n))), (4, .own q.1 5 1 ((128 :: (List.replicate (zer x.n) 0 ++ (List.range q.2).map (ln8 (bits8 x.n)))).map Y)), (23, .t (I q.2))], bx := [(1, .d 73 cs), (2, .d 32 z32)]})
    (fun q => q.2 ≤ 8) (fun q => 8 - q.2) (fun q => {sl := [(1, .ptr 1 0), (2, .ptr 2 0), (4, .own q 5 1 ((tail x.n).map Y))], bx := [(1, .d 73 cs), (2, .d 32 z32)]}) (fun _ => True) (q, 0) (by simp) ?_ ?_ ?_
  · repeat' (first | exact trivial | exact LeV.same _ | exact LeB.same _ | exact rfl | exact fun _ _ _ => trivial | exact lI | exact LeV.nil _ _ _ | exact lB | refine leBd ?_ | refine leOwn ?_ | refine And.intro ?_ ?_)
    simp
  · rintro ⟨q, i⟩ hi
    dsimp only at hi
    rcases Nat.lt_or_ge i 8 with h | h
    · repeat' ((conv => whnf); first | exact trivial | refine nT_ ?_ | refine aE1 ?_ | refine aE0 ?_ | refine aN1 ?_ | refine aN0 ?_ | refine aD1 ?_ | refine aD0 ?_ | refine nE_ (fun hq => ?_) (fun hq => ?_) | refine nN_ (fun hq => ?_) (fun hq => ?_) | refine nD_ (fun hq => ?_) (fun hq => ?_) | refine rb1 ?_ | refine rb0 ?_ | refine rbx ?_ | refine rix ?_ | (refine And.intro (by first | ((simp (disch := omega) only [wrap_id, w32, w8, w64]; omega); done) | ((simp; omega); done) | fail) ?_) | refine aS ?_ | fail)
      refine ⟨(34, i + 1), by dsimp only; omega, by dsimp only; omega, ?_⟩
      repeat' (first | exact trivial | exact LeV.same _ | exact LeB.same _ | exact rfl | exact fun _ _ _ => trivial | exact lI | exact LeV.nil _ _ _ | exact lB | refine leBd ?_ | refine leOwn ?_ | refine And.intro ?_ ?_)
      have e1 : IntKind.i64.wrap (8 * (i : Int)) = 8 * i := by simp (disch := omega) only [wrap_id, w32, w8, w64]
      have e2 : IntKind.i64.wrap (56 - 8 * (i : Int)) = 56 - 8 * i := by simp (disch := omega) only [wrap_id, w32, w8, w64]
      have e3 : min ((56 : Int) - 8 * i).toNat IntKind.u64.bits = 56 - 8 * i := by
        rw [show IntKind.u64.bits = 64 from rfl]; omega
      rw [e1, e2, e3]
      simp [List.range_succ, ln8]
    · have : i = 8 := by omega
      subst this
      repeat' ((conv => whnf); first | exact trivial | refine nT_ ?_ | refine aE1 ?_ | refine aE0 ?_ | refine aN1 ?_ | refine aN0 ?_ | refine aD1 ?_ | refine aD0 ?_ | refine nE_ (fun hq => ?_) (fun hq => ?_) | refine nN_ (fun hq => ?_) (fun hq => ?_) | refine nD_ (fun hq => ?_) (fun hq => ?_) | refine rb1 ?_ | refine rb0 ?_ | refine rbx ?_ | refine rix ?_ | refine aS ?_ | fail)
      exact ⟨q, trivial, by repeat' (first | exact trivial | exact LeV.same _ | exact LeB.same _ | exact rfl | exact fun _ _ _ => trivial | exact lI | exact LeV.nil _ _ _ | exact lB | refine leBd ?_ | refine leOwn ?_ | refine And.intro ?_ ?_)⟩
  rintro q -
  have htl := tail_len x.n
  have hsb := sB_strT (tail x.n) (areB_tail x.n)
  have hss : (strT ((tail x.n).map Y)).size = 9 + zer x.n := by rw [← sB_len, hsb, htl]
  have hadd := t_Add x (strT ((tail x.n).map Y)) hx (by rw [hss]; omega)
  rw [hsb] at hadd
  have hyl := (add_blk (tail x.n) x).1
  rw [hx] at hyl
  generalize x.add (tail x.n) = y at hadd hyl
  have hycl := cells_len y hyl
  have ha8 := areU8_Y (tail x.n)
  generalize hpad : (tail x.n).map Y = pad at hadd ha8
  unfold Str.T at hadd
  rw [hcs] at hadd
  repeat' ((conv => whnf); first | exact trivial | (refine nv_ (.agg cs) (by first | (exact congrArg T.agg (by simp [hcl]); done) | fail) ?_) | refine k_call _ (hadd) ?_ | refine nT_ ?_ | refine aE1 ?_ | refine aE0 ?_ | refine aN1 ?_ | refine aN0 ?_ | refine aD1 ?_ | refine aD0 ?_ | refine nE_ (fun hq => ?_) (fun hq => ?_) | refine nN_ (fun hq => ?_) (fun hq => ?_) | refine nD_ (fun hq => ?_) (fun hq => ?_) | refine rb1 ?_ | refine rb0 ?_ | refine rbx ?_ | refine rix ?_ | (refine And.intro (by first | (exact hcl; done) | (exact ha8; done) | (exact ⟨hycl, by simp [hcl]⟩; done) | ((simp [hycl]; done); done) | fail) ?_) | refine aS ?_ | fail)
  refine wpC_loopE 4 (α := Nat) (β := Unit) (fun i => {sl := [(1, .ptr 1 0), (2, .ptr 2 0), (6, .ptr 6 0), (40, .t (I i))], bx := [(1, .d 73 y.cells), (2, .d 32 z32), (6, .d 32 ((DJ y.s.list i).map Y))]})
    (fun i => i ≤ 32) (fun i => 32 - i) (fun _ => {sl := [(2, .ptr 2 0), (6, .ptr 6 0)], bx := [(2, .d 32 z32), (6, .d 32 ((DJ y.s.list 32).map Y))]}) (fun _ => True) 0 (by omega) ?_ ?_ ?_
  · repeat' (first | exact trivial | exact LeV.same _ | exact LeB.same _ | exact rfl | exact fun _ _ _ => trivial | exact lI | exact LeV.nil _ _ _ | exact lB | refine leBd ?_ | refine leOwn ?_ | refine And.intro ?_ ?_)
    exact (putL_all hcl).symm
  · intro i hi
    rcases Nat.lt_or_ge i 32 with h2 | h2
    · have hR : DJ y.s.list (i + 1) = (DJ y.s.list i).set i (dgB y.s.list i) := rfl
      have hl := DJ_len y.s.list i
      generalize DJ y.s.list i = cur at hR hl
      have hsl : y.s.list.length = 8 := rfl
      unfold dgB at hR
      have q1 : (i : Int).tdiv 4 = (i / 4 : Nat) := rfl
      have q2 : (i : Int).tmod 4 = (i % 4 : Nat) := rfl
      have w1 : IntKind.i64.wrap ((i / 4 : Nat) : Int) = (i / 4 : Nat) := by simp (disch := omega) only [wrap_id, w32, w8, w64]
      have w2 : IntKind.i64.wrap (8 * ((i % 4 : Nat) : Int)) = (8 * (i % 4) : Nat) := by simp (disch := omega) only [wrap_id, w32, w8, w64]; omega
      have w3 : IntKind.i64.wrap (24 - ((8 * (i % 4) : Nat) : Int)) = (24 - 8 * (i % 4) : Nat) := by simp (disch := omega) only [wrap_id, w32, w8, w64]; omega
      repeat' ((conv => whnf); first | exact trivial | (refine nv_ (W (y.s.list.getD (i / 4) 0)) (by first | (exact aget (i / 4) (by rw [q1, w1]; omega) (by omega); done) | fail) ?_) | refine nT_ ?_ | refine aE1 ?_ | refine aE0 ?_ | refine aN1 ?_ | refine aN0 ?_ | refine aD1 ?_ | refine aD0 ?_ | refine nE_ (fun hq => ?_) (fun hq => ?_) | refine nN_ (fun hq => ?_) (fun hq => ?_) | refine nD_ (fun hq => ?_) (fun hq => ?_) | refine rb1 ?_ | refine rb0 ?_ | refine rbx ?_ | refine rix ?_ | (refine And.intro (by first | (omega; done) | ((rw [q1, w1]; omega); done) | ((rw [q2, w2, w3]; omega); done) | fail) ?_) | refine aS ?_ | fail)
      refine ⟨i + 1, by omega, by omega, ?_⟩
      repeat' (first | exact trivial | exact LeV.same _ | exact LeB.same _ | exact rfl | exact fun _ _ _ => trivial | exact lI | exact LeV.nil _ _ _ | exact lB | refine leBd ?_ | refine leOwn ?_ | refine And.intro ?_ ?_)
      rw [hR, ← mset]
      rw [q2, w2, w3]
      have w4 : min (((24 - 8 * (i % 4) : Nat) : Int).toNat) IntKind.u32.bits = 24 - 8 * (i % 4) := by
        rw [show IntKind.u32.bits = 32 from rfl]; omega
      rw [w4]
      simp only [Int.toNat_natCast, Nat.zero_add, Nat.mul_one]
    · have : i = 32 := by omega
      subst this
      repeat' ((conv => whnf); first | exact trivial | refine nT_ ?_ | refine aE1 ?_ | refine aE0 ?_ | refine aN1 ?_ | refine aN0 ?_ | refine aD1 ?_ | refine aD0 ?_ | refine nE_ (fun hq => ?_) (fun hq => ?_) | refine nN_ (fun hq => ?_) (fun hq => ?_) | refine nD_ (fun hq => ?_) (fun hq => ?_) | refine rb1 ?_ | refine rb0 ?_ | refine rbx ?_ | refine rix ?_ | refine aS ?_ | fail)
      exact ⟨(), trivial, by repeat' (first | exact trivial | exact LeV.same _ | exact LeB.same _ | exact rfl | exact fun _ _ _ => trivial | exact lI | exact LeV.nil _ _ _ | exact lB | refine leBd ?_ | refine leOwn ?_ | refine And.intro ?_ ?_)⟩
  rintro - -
  rw [DJ_32]
  have hdl : (dig y.s).length = 32 := by simp [dig]
  generalize dig y.s = ds at hdl
  repeat' ((conv => whnf); first | exact trivial | refine nT_ ?_ | refine aE1 ?_ | refine aE0 ?_ | refine aN1 ?_ | refine aN0 ?_ | refine aD1 ?_ | refine aD0 ?_ | refine nE_ (fun hq => ?_) (fun hq => ?_) | refine nN_ (fun hq => ?_) (fun hq => ?_) | refine nD_ (fun hq => ?_) (fun hq => ?_) | refine rb1 ?_ | refine rb0 ?_ | refine rbx ?_ | refine rix ?_ | (refine And.intro (by first | (exact ⟨by simpa using hdl, by decide⟩; done) | (simpa using hdl; done) | fail) ?_) | refine aS ?_ | refine rt ?_ trivial | fail)
  exact congrArg T.agg (putL_all rfl)
end Go.RC
end
section
namespace Go.RC
open Go Go.DL Go.Proofs
set_option maxRecDepth 100000
noncomputable def c58 : DCode := (.seq (.region [oo 2 (.mov (.const .nil))] []) (.seq (.region [mv 5 0,oo 6 (.conv .u64 (tm 5)),oo 7 (.bin .shl (tm 6) (.const (.int .u64 1))),mv 8 0,oo 9 (.bin .shr (tm 8) (.const (.int .u64 63))),oo 10 (.conv .u64 (tm 9)),oo 11 (.bin .xor (tm 7) (tm 10)),mv 3 11] []) (.seq (.region [oo 4 (.mov (.const .nil))] []) (.seq (.block 0 (.loop (.seq (.seq (.region [mv 12 3,oo 13 (.bin .gtr (tm 12) (.const (.int .u64 127)))] []) (.cond (tm 13) .skip (.exit 0))) (.seq (.block 1 (.region [mv 16 4,mv 17 3,oo 18 (.conv .u8 (tm 17)),oo 19 (.bin .or (tm 18) (.const (Ui 128))),oo 20 (.buildF 1 1 [(Ui 0)] [(0, (tm 19))]),oo 21 (.append 61 5 1 1 (tm 16) (tm 20)),mv 4 21] [])) (.region [mv 14 3,oo 15 (.bin .shr (tm 14) (.const (.int .u64 7))),mv 3 15] []))))) (.seq (.region [mv 22 4,mv 23 3,oo 24 (.conv .u8 (tm 23)),oo 25 (.buildF 1 1 [(Ui 0)] [(0, (tm 24))]),oo 26 (.append 61 5 1 1 (tm 22) (tm 25)),mv 2 26] []) .ret)))))
theorem l58 : (Tryd.f58.body.bind (lowC Tryd.prog 27 [8000020, 8000025])) = some c58 := by kernel_rfl
noncomputable def c74 : DCode := (.seq (.region [oo 2 (.mov (.const .nil))] []) (.seq (.region [mv 3 0,oo 4 (.lenS (tm 3)),oo 5 (.inl 58 [(tm 4)]),mv 6 0,oo 7 (.append 61 5 1 1 (tm 5) (tm 6)),mv 2 7] []) .ret))
theorem l74 : (Tryd.f74.body.bind (lowC Tryd.prog 8 [58])) = some c74 := by kernel_rfl
noncomputable def c76 : DCode := (.seq (.region [oo 4 (.mov (.const .nil))] []) (.seq (.region [mv 8 0,oo 9 (.len (tm 8)),oo 10 (.inl 58 [(tm 9)]),mv 5 10] []) (.seq (.seq (.region [mv 11 0,oo 12 (.len (tm 11)),oo 13 (.mov (Kc 0))] []) (.block 0 (.loop (.seq (.region [oo 14 (.bin .lss (tm 13) (tm 12))] []) (.seq (.cond (tm 14) .skip (.exit 0)) (.seq (.block 1 (.seq (.region [oo 15 (.idxL 1 (tm 11) (tm 13)),oo 16 (.load 1 false (tm 15)),mv 7 16] []) (.region [mv 17 5,mv 18 1,mv 19 7,oo 20 (.callv (tm 18) [(tm 19)]),oo 21 (.append 61 5 1 1 (tm 17) (tm 20)),mv 5 21] []))) (.region [oo 22 (.bin .add (tm 13) (Kc 1)),mv 13 22] []))))))) (.seq (.region [mv 23 5,mv 4 23] []) .ret))))
theorem l76 : (Tryd.f76.body.bind (lowC Tryd.prog 24 [58])) = some c76 := by kernel_rfl
noncomputable def c83 : DCode := (.seq (.region [oo 4 (.mov (.const .nil))] []) (.seq (.region [mv 8 0,oo 9 (.len (tm 8)),oo 10 (.inl 58 [(tm 9)]),mv 5 10] []) (.seq (.seq (.region [mv 11 0,oo 12 (.len (tm 11)),oo 13 (.mov (Kc 0))] []) (.block 0 (.loop (.seq (.region [oo 14 (.bin .lss (tm 13) (tm 12))] []) (.seq (.cond (tm 14) .skip (.exit 0)) (.seq (.block 1 (.seq (.region [oo 15 (.idxL 16 (tm 11) (tm 13)),oo 16 (.load 16 true (tm 15)),oo 7 (.alloc [(Ui 0), (Ui 0), (Ui 0), (Ui 0), (Ui 0), (Ui 0), (Ui 0), (Ui 0), (Ui 0), (Ui 0), (Ui 0), (Ui 0), (Ui 0), (Ui 0), (Ui 0), (Ui 0)]),o0 (.store 16 (tm 7) (tm 16))] []) (.region [mv 17 5,mv 18 1,oo 19 (.load 16 true (tm 7)),oo 20 (.callv (tm 18) [(tm 19)]),oo 21 (.append 61 5 1 1 (tm 17) (tm 20)),mv 5 21] []))) (.region [oo 22 (.bin .add (tm 13) (Kc 1)),mv 13 22] []))))))) (.seq (.region [mv 23 5,mv 4 23] []) .ret))))
theorem l83 : (Tryd.f83.body.bind (lowC Tryd.prog 24 [58])) = some c83 := by kernel_rfl
noncomputable def c84 : DCode := (.seq (.region [oo 1 (.box 16 (tm 0)),oo 2 (.mov (.const .nil))] []) (.seq (.region [oo 3 (.sliceA 16 1 (tm 1) none none),oo 4 (.inl 96 [(tm 3)]),mv 2 4] []) .ret))
theorem l84 : (Tryd.f84.body.bind (lowC Tryd.prog 5 [96])) = some c84 := by kernel_rfl
noncomputable def c44 : DCode := (.seq (.region [oo 2 (.mov (.const .nil))] []) (.seq (.region [mv 3 0,oo 4 (.inl 76 [(tm 3), (.const (.clos 58 []))]),mv 2 4] []) .ret))
theorem l44 : (Tryd.f44.body.bind (lowC Tryd.prog 5 [76])) = some c44 := by kernel_rfl
noncomputable def c59 : DCode := (.seq (.region [oo 2 (.mov (.const .nil))] []) (.seq (.region [mv 3 0,oo 4 (.inl 83 [(tm 3), (.const (.clos 84 []))]),mv 2 4] []) .ret))
theorem l59 : (Tryd.f59.body.bind (lowC Tryd.prog 5 [83])) = some c59 := by kernel_rfl
noncomputable def c96 : DCode := (.seq (.region [oo 2 (.mov (.const .nil))] []) (.seq (.seq (.region [mv 3 0,oo 4 (.isnil 1 false (tm 3))] []) (.cond (tm 4) (.seq (.region [oo 2 (.mov (.const .nil))] []) .ret) .skip)) (.seq (.region [oo 5 (.buildS 5 1 0 [(Ui 0)] []),mv 6 0,oo 7 (.append 61 5 1 1 (tm 5) (tm 6)),mv 2 7] []) .ret)))
theorem l96 : (Tryd.f96.body.bind (lowC Tryd.prog 8 [])) = some c96 := by kernel_rfl
noncomputable def c67 : DCode := (.seq (.region [oo 2 (.mov (.const .nil))] []) (.seq (.region [mv 5 0,oo 6 (.conv .u64 (tm 5)),oo 7 (.bin .mul (tm 6) (.const (.int .u64 2))),mv 3 7] []) (.seq (.cut (.seq (.region [mv 8 0,oo 9 (.bin .lss (tm 8) (Kc 0))] []) (.cond (tm 9) (.region [mv 10 0,oo 11 (.bin .sub (.const (.int .i64 (-1))) (tm 10)),oo 12 (.conv .u64 (tm 11)),oo 13 (.bin .mul (tm 12) (.const (.int .u64 2))),oo 14 (.bin .add (tm 13) (.const (.int .u64 1))),mv 3 14] []) .skip))) (.seq (.region [oo 4 (.mov (.const .nil))] []) (.seq (.block 0 (.loop (.seq (.seq (.region [mv 15 3,oo 16 (.bin .geq (tm 15) (.const (.int .u64 128)))] []) (.cond (tm 16) .skip (.exit 0))) (.block 1 (.seq (.region [mv 17 4,mv 18 3,oo 19 (.bin .rem (tm 18) (.const (.int .u64 128))),oo 20 (.conv .u8 (tm 19)),oo 21 (.bin .add (tm 20) (.const (Ui 128))),oo 22 (.buildF 1 1 [(Ui 0)] [(0, (tm 21))]),oo 23 (.append 61 5 1 1 (tm 17) (tm 22)),mv 4 23] []) (.region [mv 24 3,oo 25 (.bin .quo (tm 24) (.const (.int .u64 128))),mv 3 25] [])))))) (.seq (.region [mv 26 4,mv 27 3,oo 28 (.conv .u8 (tm 27)),oo 29 (.buildF 1 1 [(Ui 0)] [(0, (tm 28))]),oo 30 (.append 61 5 1 1 (tm 26) (tm 29)),mv 2 30] []) .ret))))))
theorem l67 : (Tryd.f67.body.bind (lowC Tryd.prog 31 [8000022, 8000029, 5000002])) = some c67 := by kernel_rfl
noncomputable def c94 : DCode := (.seq (.region [oo 2 (.mov (.const .nil))] []) (.seq (.region [mv 3 0,oo 4 (.lenS (tm 3)),oo 5 (.inl 67 [(tm 4)]),mv 6 0,oo 7 (.append 61 5 1 1 (tm 5) (tm 6)),mv 2 7] []) .ret))
theorem l94 : (Tryd.f94.body.bind (lowC Tryd.prog 8 [67])) = some c94 := by kernel_rfl
noncomputable def c66 : DCode := (.seq (.region [oo 2 (.mov (.const .nil))] []) (.seq (.region [mv 5 0,oo 6 (.len (tm 5)),oo 7 (.inl 67 [(tm 6)]),mv 3 7] []) (.seq (.seq (.region [oo 4 (.mov (Kc 0))] []) (.block 0 (.loop (.seq (.seq (.region [mv 8 4,mv 9 0,oo 10 (.len (tm 9)),oo 11 (.bin .lss (tm 8) (tm 10))] []) (.cond (tm 11) .skip (.exit 0))) (.seq (.block 1 (.region [mv 14 3,mv 15 0,mv 16 4,oo 17 (.idxL 1 (tm 15) (tm 16)),oo 18 (.load 1 false (tm 17)),oo 19 (.inl 67 [(tm 18)]),oo 20 (.append 61 5 1 1 (tm 14) (tm 19)),mv 3 20] [])) (.region [mv 12 4,oo 13 (.bin .add (tm 12) (Kc 1)),mv 4 13] [])))))) (.seq (.region [mv 21 3,mv 2 21] []) .ret))))
theorem l66 : (Tryd.f66.body.bind (lowC Tryd.prog 22 [67])) = some c66 := by kernel_rfl
noncomputable def c68 : DCode := (.seq (.region [oo 2 (.mov (.const .nil))] []) (.seq (.region [mv 5 0,oo 6 (.len (tm 5)),oo 7 (.inl 67 [(tm 6)]),mv 3 7] []) (.seq (.seq (.region [oo 4 (.mov (Kc 0))] []) (.block 0 (.loop (.seq (.seq (.region [mv 8 4,mv 9 0,oo 10 (.len (tm 9)),oo 11 (.bin .lss (tm 8) (tm 10))] []) (.cond (tm 11) .skip (.exit 0))) (.seq (.block 1 (.region [mv 14 3,mv 15 0,mv 16 4,oo 17 (.idxL 16 (tm 15) (tm 16)),oo 18 (.sliceA 16 1 (tm 17) none none),oo 19 (.append 61 5 1 1 (tm 14) (tm 18)),mv 3 19] [])) (.region [mv 12 4,oo 13 (.bin .add (tm 12) (Kc 1)),mv 4 13] [])))))) (.seq (.region [mv 20 3,mv 2 20] []) .ret))))
theorem l68 : (Tryd.f68.body.bind (lowC Tryd.prog 21 [67])) = some c68 := by kernel_rfl
end Go.RC
end
section
namespace Go.RC
open Go Go.DL Go.Proofs
set_option maxRecDepth 100000
set_option maxHeartbeats 1000000
def vb (z : Nat) : List Int := if h : z < 128 then [(z : Int)] else ((z % 128 + 128 : Nat) : Int) :: vb (z / 128)
termination_by z
decreasing_by omega
theorem vb_lt {z : Nat} (h : z < 128) : vb z = [(z : Int)] := by rw [vb, dif_pos h]
theorem vb_ge {z : Nat} (h : ¬ z < 128) : vb z = ((z % 128 + 128 : Nat) : Int) :: vb (z / 128) := by rw [vb, dif_neg h]
theorem vb_areB (z : Nat) : areB (vb z) := by
  induction z using Nat.strongRecOn with
  | ind z ih =>
    intro b hb
    by_cases h : z < 128
    · rw [vb_lt h] at hb
      rw [List.mem_singleton.1 hb]; omega
    · rw [vb_ge h] at hb
      rcases List.mem_cons.1 hb with rfl | hb
      · omega
      · exact ih (z / 128) (by omega) b hb
theorem vb_len : ∀ (k z : Nat), z < 128 ^ (k + 1) → (vb z).length ≤ k + 1
  | 0, z, h => by rw [vb_lt (by simpa using h)]; simp
  | k + 1, z, h => by
    by_cases h1 : z < 128
    · rw [vb_lt h1]; simp
    · rw [vb_ge h1, List.length_cons]
      have := vb_len k (z / 128) (Nat.div_lt_of_lt_mul (by rw [← Nat.pow_succ']; exact h))
      omega
def zz (n : Int) : Nat := if 0 ≤ n then (2 * n).toNat else (2 * (-1 - n) + 1).toNat
def i64 (n : Int) : Prop := -9223372036854775808 ≤ n ∧ n < 9223372036854775808
theorem zz_lt {n : Int} (h : i64 n) : zz n < 18446744073709551616 := by
  unfold zz; obtain ⟨h1, h2⟩ := h; split <;> omega
def vi (n : Int) : List Int := vb (zz n)
theorem vi_areB (n : Int) : areB (vi n) := vb_areB _
theorem vi_len {n : Int} (h : i64 n) : (vi n).length ≤ 10 := vb_len 9 _ (Nat.lt_of_lt_of_le (zz_lt h) (by decide))
theorem xor_ones {a : Int} (h0 : 0 ≤ a) (h1 : a < 18446744073709551616) : bitsI .xor .u64 a 18446744073709551615 = 18446744073709551615 - a := by
  obtain ⟨a, rfl⟩ := Int.eq_ofNat_of_zero_le h0
  have ha : a < 2 ^ 64 := by omega
  have e1 : (BitVec.ofInt 64 18446744073709551615) = BitVec.allOnes 64 := by decide
  have e2 : (BitVec.ofInt 64 ((a : Nat) : Int)).toNat = a := by
    rw [BitVec.ofInt_natCast, BitVec.toNat_ofNat, Nat.mod_eq_of_lt ha]
  show IntKind.u64.wrap ((BitVec.ofInt 64 ((a : Nat) : Int) ^^^ BitVec.ofInt 64 18446744073709551615).toNat : Int) = _
  rw [e1, BitVec.xor_allOnes, BitVec.toNat_not, e2, w64 (by omega) (by omega)]
  omega
theorem xor_zero {a : Int} (h0 : 0 ≤ a) (h1 : a < 18446744073709551616) : bitsI .xor .u64 a 0 = a := by
  obtain ⟨a, rfl⟩ := Int.eq_ofNat_of_zero_le h0
  have ha : a < 2 ^ 64 := by omega
  have e2 : (BitVec.ofInt 64 ((a : Nat) : Int)).toNat = a := by
    rw [BitVec.ofInt_natCast, BitVec.toNat_ofNat, Nat.mod_eq_of_lt ha]
  show IntKind.u64.wrap ((BitVec.ofInt 64 ((a : Nat) : Int) ^^^ BitVec.ofInt 64 0).toNat : Int) = _
  rw [show BitVec.ofInt 64 0 = 0#64 from rfl, BitVec.xor_zero, e2, w64 (by omega) (by omega)]
theorem wrap64m (n : Int) : IntKind.u64.wrap n = n % 18446744073709551616 := by
  unfold IntKind.wrap
  simp [IntKind.bits, IntKind.signed]
theorem zig {n : Int} (h : i64 n) : bitsI .xor .u64 (IntKind.u64.wrap (IntKind.u64.wrap n * 2 ^ 1)) (IntKind.u64.wrap (n.fdiv (2 ^ 63))) = zz n := by
  obtain ⟨h1, h2⟩ := h
  unfold zz
  rw [show (2 : Int) ^ 1 = 2 from rfl, show (2 : Int) ^ 63 = 9223372036854775808 from rfl]
  rw [Int.fdiv_eq_ediv_of_nonneg _ (by decide)]
  by_cases h0 : 0 ≤ n
  · rw [if_pos h0, show n / 9223372036854775808 = 0 by omega, w64 (n := n) h0 (by omega), w64 (n := n * 2) (by omega) (by omega), w64 (n := 0) (by omega) (by omega), xor_zero (by omega) (by omega)]
    omega
  · rw [if_neg h0, show n / 9223372036854775808 = -1 by omega]
    rw [show IntKind.u64.wrap (-1) = 18446744073709551615 from rfl, xor_ones (by rw [wrap64m]; omega) (by rw [wrap64m]; omega), wrap64m, wrap64m]
    omega
theorem or128 : ∀ b : Fin 256, bitsI .or .u8 (b.val : Int) 128 = ((b.val % 128 + 128 : Nat) : Int) := by decide +kernel
theorem dig128 (z : Nat) : bitsI .or .u8 (IntKind.u8.wrap (z : Int)) 128 = ((z % 128 + 128 : Nat) : Int) := by
  have e : IntKind.u8.wrap (z : Int) = ((z % 256 : Nat) : Int) := by
    unfold IntKind.wrap
    simp [IntKind.bits, IntKind.signed]
  have := or128 ⟨z % 256, Nat.mod_lt _ (by decide)⟩
  dsimp only at this
  rw [e, this]
  omega
theorem flY (xs : List Int) : ∀ t ∈ (xs.map Y).flatMap T.cells, t.flat = true := fun t ht => by
  obtain ⟨x, hx, ht⟩ := List.mem_flatMap.1 ht
  obtain ⟨n, _, rfl⟩ := List.mem_map.1 hx
  rw [List.mem_singleton.1 ht]; rfl
theorem f_Int (n : Int) (h : i64 n) : FCalls Tryd.prog 58 [I n] 5 1 ((vi n).map Y) [] := by
  refine fcalls_low (rs := [.tmp 2]) mixed Tryd.func58 l58 rfl rfl rfl (Nat.le_of_ble_eq_true rfl) ?_
  have hz := zz_lt h
  have hl := vi_len h
  have hzig := zig h
  unfold vi at hl ⊢
  generalize zz n = z0 at hz hl hzig
  repeat' ((conv => whnf); first | exact trivial | refine nT_ ?_ | refine aE1 ?_ | refine aE0 ?_ | refine aN1 ?_ | refine aN0 ?_ | refine aD1 ?_ | refine aD0 ?_ | refine nE_ (fun hq => ?_) (fun hq => ?_) | refine nN_ (fun hq => ?_) (fun hq => ?_) | refine nD_ (fun hq => ?_) (fun hq => ?_) | refine rb1 ?_ | refine rb0 ?_ | refine rbx ?_ | refine rix ?_ | refine aS ?_ | fail)
  refine wpC_loopE 0 (α := Nat × Nat × List Int) (β := Nat × Nat × List Int) (fun q => {sl := [(3, .t (Q q.2.1)), (4, .own q.1 5 1 (q.2.2.map Y))], bx := []})
    (fun q => q.2.1 < 18446744073709551616 ∧ q.2.2 ++ vb q.2.1 = vb z0) (fun q => q.2.1) (fun q => {sl := [(3, .t (Q q.2.1)), (4, .own q.1 5 1 (q.2.2.map Y))], bx := []}) (fun q => q.2.1 < 128 ∧ q.2.2 ++ vb q.2.1 = vb z0) (21, z0, []) (by dsimp only; exact ⟨hz, rfl⟩) ?_ ?_ ?_
  · repeat' (first | ((refine leT (congrArg Q ?_); rw [← hzig]; rfl)) | exact trivial | exact LeV.same _ | exact LeB.same _ | exact rfl | exact fun _ _ _ => trivial | exact lI | exact LeV.nil _ _ _ | exact lB | refine leBd ?_ | refine leOwn ?_ | refine And.intro ?_ ?_)
  · rintro ⟨q, z, out⟩ ⟨h1, h2⟩
    dsimp only at h1 h2
    rcases Nat.lt_or_ge z 128 with h | h
    · repeat' ((conv => whnf); first | exact trivial | refine now_D0 (by omega) ?_ | refine nT_ ?_ | refine aE1 ?_ | refine aE0 ?_ | refine aN1 ?_ | refine aN0 ?_ | refine aD1 ?_ | refine aD0 ?_ | refine nE_ (fun hq => ?_) (fun hq => ?_) | refine nN_ (fun hq => ?_) (fun hq => ?_) | refine nD_ (fun hq => ?_) (fun hq => ?_) | refine rb1 ?_ | refine rb0 ?_ | refine rbx ?_ | refine rix ?_ | refine aS ?_ | fail)
      exact ⟨(q, z, out), ⟨h, h2⟩, by repeat' (first | exact trivial | exact LeV.same _ | exact LeB.same _ | exact rfl | exact fun _ _ _ => trivial | exact lI | exact LeV.nil _ _ _ | exact lB | refine leBd ?_ | refine leOwn ?_ | refine And.intro ?_ ?_)⟩
    · have e := vb_ge (z := z) (by omega)
      rw [e] at h2
      have hol := congrArg List.length h2
      rw [List.length_append, List.length_cons] at hol
      have hdiv : (z : Int).fdiv (2 ^ 7) = (z / 128 : Nat) := by
        rw [Int.fdiv_eq_ediv_of_nonneg _ (by decide)]; rfl
      repeat' ((conv => whnf); first | exact trivial | refine now_D1 (by omega) ?_ | refine nT_ ?_ | refine aE1 ?_ | refine aE0 ?_ | refine aN1 ?_ | refine aN0 ?_ | refine aD1 ?_ | refine aD0 ?_ | refine nE_ (fun hq => ?_) (fun hq => ?_) | refine nN_ (fun hq => ?_) (fun hq => ?_) | refine nD_ (fun hq => ?_) (fun hq => ?_) | refine rb1 ?_ | refine rb0 ?_ | refine rbx ?_ | refine rix ?_ | (refine And.intro (by first | ((simp; omega); done) | fail) ?_) | refine aS ?_ | fail)
      refine ⟨(21, z / 128, out ++ [((z % 128 + 128 : Nat) : Int)]), ⟨by dsimp only; omega, by simpa using h2⟩, by dsimp only; omega, ?_⟩
      repeat' (first | ((refine leT (congrArg Q ?_); exact hdiv.symm)) | exact trivial | exact LeV.same _ | exact LeB.same _ | exact rfl | exact fun _ _ _ => trivial | exact lI | exact LeV.nil _ _ _ | exact lB | refine leBd ?_ | refine leOwn ?_ | refine And.intro ?_ ?_)
      rw [List.map_append, List.map_singleton, ← dig128]
      rfl
  rintro ⟨q, z, out⟩ ⟨h1, h2⟩
  dsimp only at h1 h2
  rw [vb_lt h1] at h2
  have hol := congrArg List.length h2
  rw [List.length_append, List.length_singleton] at hol
  have e1 : IntKind.u8.wrap (z : Int) = z := w8 (by omega) (by omega)
  rw [← h2]
  repeat' ((conv => whnf); first | exact trivial | refine nT_ ?_ | refine aE1 ?_ | refine aE0 ?_ | refine aN1 ?_ | refine aN0 ?_ | refine aD1 ?_ | refine aD0 ?_ | refine nE_ (fun hq => ?_) (fun hq => ?_) | refine nN_ (fun hq => ?_) (fun hq => ?_) | refine nD_ (fun hq => ?_) (fun hq => ?_) | refine rb1 ?_ | refine rb0 ?_ | refine rbx ?_ | refine rix ?_ | (refine And.intro (by first | (exact flY _; done) | ((simp; omega); done) | fail) ?_) | refine aS ?_ | fail)
  refine ⟨_, rfl, .inl ⟨26, congrArg (V.own 26 5 1) ?_⟩⟩
  dsimp only
  rw [e1, List.map_append]
  rfl
theorem or_plus : ∀ b : Fin 128, IntKind.u8.wrap (IntKind.u8.wrap (b.val : Int) + 128) = ((b.val + 128 : Nat) : Int) := by decide +kernel
theorem zig2 {n : Int} (h : i64 n) : (n < 0 → IntKind.u64.wrap (IntKind.u64.wrap (IntKind.u64.wrap (IntKind.i64.wrap (-1 - n)) * 2) + 1) = zz n) ∧ (¬ n < 0 → IntKind.u64.wrap (IntKind.u64.wrap n * 2) = zz n) := by
  obtain ⟨h1, h2⟩ := h
  unfold zz
  refine ⟨fun h0 => ?_, fun h0 => ?_⟩
  · rw [if_neg (by omega), wrap_id (by omega) (by omega), w64 (n := -1 - n) (by omega) (by omega), w64 (n := (-1 - n) * 2) (by omega) (by omega), w64 (by omega) (by omega)]
    omega
  · rw [if_pos (by omega), w64 (n := n) (by omega) (by omega), w64 (by omega) (by omega)]
    omega
theorem f_refInt (n : Int) (h : i64 n) : FCalls Tryd.prog 67 [I n] 5 1 ((vi n).map Y) [] := by
  refine fcalls_low (rs := [.tmp 2]) mixed Tryd.func67 l67 rfl rfl rfl (Nat.le_of_ble_eq_true rfl) ?_
  have hz := zz_lt h
  have hl := vi_len h
  obtain ⟨hz1, hz2⟩ := zig2 h
  unfold vi at hl ⊢
  generalize zz n = z0 at hz hl hz1 hz2
  refine wpC_cut (β := Unit) (fun _ => {sl := [(3, .t (Q z0))], bx := []}) (fun _ => True) ?_ ?_
  · repeat' ((conv => whnf); first | exact trivial | refine nT_ ?_ | refine aE1 ?_ | refine aE0 ?_ | refine aN1 ?_ | refine aN0 ?_ | refine aD1 ?_ | refine aD0 ?_ | refine nE_ (fun hq => ?_) (fun hq => ?_) | refine nN_ (fun hq => ?_) (fun hq => ?_) | refine nD_ (fun hq => ?_) (fun hq => ?_) | refine rb1 ?_ | refine rb0 ?_ | refine rbx ?_ | refine rix ?_ | refine aS ?_ | fail)
    · exact ⟨(), trivial, by repeat' (first | ((refine leT (congrArg Q ?_); exact (hz1 hq).symm)) | exact trivial | exact LeV.same _ | exact LeB.same _ | exact rfl | exact fun _ _ _ => trivial | exact lI | exact LeV.nil _ _ _ | exact lB | refine leBd ?_ | refine leOwn ?_ | refine And.intro ?_ ?_)⟩
    · exact ⟨(), trivial, by repeat' (first | ((refine leT (congrArg Q ?_); exact (hz2 hq).symm)) | exact trivial | exact LeV.same _ | exact LeB.same _ | exact rfl | exact fun _ _ _ => trivial | exact lI | exact LeV.nil _ _ _ | exact lB | refine leBd ?_ | refine leOwn ?_ | refine And.intro ?_ ?_)⟩
  rintro - -
  repeat' ((conv => whnf); first | exact trivial | refine nT_ ?_ | refine aE1 ?_ | refine aE0 ?_ | refine aN1 ?_ | refine aN0 ?_ | refine aD1 ?_ | refine aD0 ?_ | refine nE_ (fun hq => ?_) (fun hq => ?_) | refine nN_ (fun hq => ?_) (fun hq => ?_) | refine nD_ (fun hq => ?_) (fun hq => ?_) | refine rb1 ?_ | refine rb0 ?_ | refine rbx ?_ | refine rix ?_ | refine aS ?_ | fail)
  refine wpC_loopE 0 (α := Nat × Nat × List Int) (β := Nat × Nat × List Int) (fun q => {sl := [(3, .t (Q q.2.1)), (4, .own q.1 5 1 (q.2.2.map Y))], bx := []})
    (fun q => q.2.1 < 18446744073709551616 ∧ q.2.2 ++ vb q.2.1 = vb z0) (fun q => q.2.1) (fun q => {sl := [(3, .t (Q q.2.1)), (4, .own q.1 5 1 (q.2.2.map Y))], bx := []}) (fun q => q.2.1 < 128 ∧ q.2.2 ++ vb q.2.1 = vb z0) (23, z0, []) (by dsimp only; exact ⟨hz, rfl⟩) ?_ ?_ ?_
  · repeat' (first | exact trivial | exact LeV.same _ | exact LeB.same _ | exact rfl | exact fun _ _ _ => trivial | exact lI | exact LeV.nil _ _ _ | exact lB | refine leBd ?_ | refine leOwn ?_ | refine And.intro ?_ ?_)
  · rintro ⟨q, z, out⟩ ⟨h1, h2⟩
    dsimp only at h1 h2
    rcases Nat.lt_or_ge z 128 with h | h
    · repeat' ((conv => whnf); first | exact trivial | refine now_D0 (by omega) ?_ | refine nT_ ?_ | refine aE1 ?_ | refine aE0 ?_ | refine aN1 ?_ | refine aN0 ?_ | refine aD1 ?_ | refine aD0 ?_ | refine nE_ (fun hq => ?_) (fun hq => ?_) | refine nN_ (fun hq => ?_) (fun hq => ?_) | refine nD_ (fun hq => ?_) (fun hq => ?_) | refine rb1 ?_ | refine rb0 ?_ | refine rbx ?_ | refine rix ?_ | refine aS ?_ | fail)
      exact ⟨(q, z, out), ⟨h, h2⟩, by repeat' (first | exact trivial | exact LeV.same _ | exact LeB.same _ | exact rfl | exact fun _ _ _ => trivial | exact lI | exact LeV.nil _ _ _ | exact lB | refine leBd ?_ | refine leOwn ?_ | refine And.intro ?_ ?_)⟩
    · have e := vb_ge (z := z) (by omega)
      rw [e] at h2
      have hol := congrArg List.length h2
      rw [List.length_append, List.length_cons] at hol
      have hdiv : IntKind.u64.wrap ((z : Int).tdiv 128) = (z / 128 : Nat) := by
        rw [show (z : Int).tdiv 128 = (z / 128 : Nat) from rfl, w64 (by omega) (by omega)]
      have hrem : IntKind.u8.wrap (IntKind.u8.wrap ((z : Int).tmod 128) + 128) = (z % 128 + 128 : Nat) := or_plus ⟨z % 128, Nat.mod_lt _ (by decide)⟩
      repeat' ((conv => whnf); first | exact trivial | refine now_D1 (by omega) ?_ | refine nT_ ?_ | refine aE1 ?_ | refine aE0 ?_ | refine aN1 ?_ | refine aN0 ?_ | refine aD1 ?_ | refine aD0 ?_ | refine nE_ (fun hq => ?_) (fun hq => ?_) | refine nN_ (fun hq => ?_) (fun hq => ?_) | refine nD_ (fun hq => ?_) (fun hq => ?_) | refine rb1 ?_ | refine rb0 ?_ | refine rbx ?_ | refine rix ?_ | (refine And.intro (by first | ((simp; omega); done) | fail) ?_) | refine aS ?_ | fail)
      refine ⟨(23, z / 128, out ++ [((z % 128 + 128 : Nat) : Int)]), ⟨by dsimp only; omega, by simpa using h2⟩, by dsimp only; omega, ?_⟩
      repeat' (first | ((refine leT (congrArg Q ?_); exact hdiv.symm)) | exact trivial | exact LeV.same _ | exact LeB.same _ | exact rfl | exact fun _ _ _ => trivial | exact lI | exact LeV.nil _ _ _ | exact lB | refine leBd ?_ | refine leOwn ?_ | refine And.intro ?_ ?_)
      rw [List.map_append, List.map_singleton, ← hrem]
      rfl
  rintro ⟨q, z, out⟩ ⟨h1, h2⟩
  dsimp only at h1 h2
  rw [vb_lt h1] at h2
  have hol := congrArg List.length h2
  rw [List.length_append, List.length_singleton] at hol
  have e1 : IntKind.u8.wrap (z : Int) = z := w8 (by omega) (by omega)
  rw [← h2]
  repeat' ((conv => whnf); first | exact trivial | refine nT_ ?_ | refine aE1 ?_ | refine aE0 ?_ | refine aN1 ?_ | refine aN0 ?_ | refine aD1 ?_ | refine aD0 ?_ | refine nE_ (fun hq => ?_) (fun hq => ?_) | refine nN_ (fun hq => ?_) (fun hq => ?_) | refine nD_ (fun hq => ?_) (fun hq => ?_) | refine rb1 ?_ | refine rb0 ?_ | refine rbx ?_ | refine rix ?_ | (refine And.intro (by first | (exact flY _; done) | ((simp; omega); done) | fail) ?_) | refine aS ?_ | fail)
  refine ⟨_, rfl, .inl ⟨30, congrArg (V.own 30 5 1) ?_⟩⟩
  dsimp only
  rw [e1, List.map_append]
  rfl
end Go.RC
end
section
namespace Go.RC
open Go Go.DL Go.Proofs
set_option maxRecDepth 100000
set_option maxHeartbeats 1000000
def vs (s : ByteArray) : List Int := vi s.size ++ sB s
theorem i64_nat {n : Nat} (h : n < 2 ^ 62) : i64 (n : Int) := by unfold i64; omega
theorem f_Bytes (s : ByteArray) (h : s.size < 2 ^ 40) : FCalls Tryd.prog 74 [.str s] 5 1 ((vs s).map Y) [] := by
  refine fcalls_low (rs := [.tmp 2]) mixed Tryd.func74 l74 rfl rfl rfl (Nat.le_of_ble_eq_true rfl) ?_
  have hi := i64_nat (n := s.size) (by omega)
  have hl := vi_len hi
  have hb : (bytesT s).length = s.size := by rw [bytesT_sB, List.length_map, sB_len]
  repeat' ((conv => whnf); first | exact trivial | refine WC_own rfl (f_Int s.size hi) ?_ | refine nT_ ?_ | refine aE1 ?_ | refine aE0 ?_ | refine aN1 ?_ | refine aN0 ?_ | refine aD1 ?_ | refine aD0 ?_ | refine nE_ (fun hq => ?_) (fun hq => ?_) | refine nN_ (fun hq => ?_) (fun hq => ?_) | refine nD_ (fun hq => ?_) (fun hq => ?_) | refine rb1 ?_ | refine rb0 ?_ | refine rbx ?_ | refine rix ?_ | (refine And.intro (by first | (exact flY _; done) | ((simp [hb]; omega); done) | fail) ?_) | refine aS ?_ | fail)
  refine ⟨_, rfl, .inl ⟨7, congrArg (V.own 7 5 1) ?_⟩⟩
  unfold vs
  rw [List.map_append, bytesT_sB]
theorem f_refBytes (s : ByteArray) (h : s.size < 2 ^ 40) : FCalls Tryd.prog 94 [.str s] 5 1 ((vs s).map Y) [] := by
  refine fcalls_low (rs := [.tmp 2]) mixed Tryd.func94 l94 rfl rfl rfl (Nat.le_of_ble_eq_true rfl) ?_
  have hi := i64_nat (n := s.size) (by omega)
  have hl := vi_len hi
  have hb : (bytesT s).length = s.size := by rw [bytesT_sB, List.length_map, sB_len]
  repeat' ((conv => whnf); first | exact trivial | refine WC_own rfl (f_refInt s.size hi) ?_ | refine nT_ ?_ | refine aE1 ?_ | refine aE0 ?_ | refine aN1 ?_ | refine aN0 ?_ | refine aD1 ?_ | refine aD0 ?_ | refine nE_ (fun hq => ?_) (fun hq => ?_) | refine nN_ (fun hq => ?_) (fun hq => ?_) | refine nD_ (fun hq => ?_) (fun hq => ?_) | refine rb1 ?_ | refine rb0 ?_ | refine rbx ?_ | refine rix ?_ | (refine And.intro (by first | (exact flY _; done) | ((simp [hb]; omega); done) | fail) ?_) | refine aS ?_ | fail)
  refine ⟨_, rfl, .inl ⟨7, congrArg (V.own 7 5 1) ?_⟩⟩
  unfold vs
  rw [List.map_append, bytesT_sB]
def vis (l : List Int) : List Int := vi l.length ++ l.flatMap vi
theorem flat_take {α : Type} (f : α → List Int) {l : List α} {i : Nat} (h : i < l.length) : (l.take (i + 1)).flatMap f = (l.take i).flatMap f ++ f l[i] := by
  rw [List.take_succ_eq_append_getElem h, List.flatMap_append]; simp
theorem flat_le {α : Type} (f : α → List Int) (k : Nat) : ∀ {l : List α}, (∀ x ∈ l, (f x).length ≤ k) → (l.flatMap f).length ≤ k * l.length
  | [], _ => by simp
  | x :: l, h => by
    have h1 := flat_le f k (l := l) (fun y hy => h y (by simp [hy]))
    have h2 := h x (by simp)
    rw [List.flatMap_cons, List.length_append, List.length_cons, Nat.mul_add]
    omega
theorem f_list (l : List Int) (h : l.length < 2 ^ 40) (hi : ∀ x ∈ l, i64 x) : FCalls Tryd.prog 76 [.slice 1 (l.map I), .clos 58 []] 5 1 ((vis l).map Y) [] := by
  refine fcalls_low (rs := [.tmp 4]) mixed Tryd.func76 l76 rfl rfl rfl (Nat.le_of_ble_eq_true rfl) ?_
  have h0 := i64_nat (n := l.length) (by omega)
  have hl0 := vi_len h0
  repeat' ((conv => whnf); first | exact trivial | (refine WC_own (ts := [I l.length]) (by simp; rfl) (f_Int l.length h0) ?_) | refine nT_ ?_ | refine aE1 ?_ | refine aE0 ?_ | refine aN1 ?_ | refine aN0 ?_ | refine aD1 ?_ | refine aD0 ?_ | refine nE_ (fun hq => ?_) (fun hq => ?_) | refine nN_ (fun hq => ?_) (fun hq => ?_) | refine nD_ (fun hq => ?_) (fun hq => ?_) | refine rb1 ?_ | refine rb0 ?_ | refine rbx ?_ | refine rix ?_ | refine aS ?_ | fail)
  refine wpC_loopE 0 (α := Nat × Nat) (β := Nat) (fun q => {sl := [(1, .t (.clos 58 [])), (5, .own q.1 5 1 ((vi l.length ++ (l.take q.2).flatMap vi).map Y)), (11, .t (.slice 1 (l.map I))), (12, .t (I l.length)), (13, .t (I q.2))], bx := []})
    (fun q => q.2 ≤ l.length) (fun q => l.length - q.2) (fun q => {sl := [(5, .own q 5 1 ((vis l).map Y))], bx := []}) (fun _ => True) (10, 0) (by simp) ?_ ?_ ?_
  · repeat' (first | ((refine leI ?_; simp; done)) | exact trivial | exact LeV.same _ | exact LeB.same _ | exact rfl | exact fun _ _ _ => trivial | exact lI | exact LeV.nil _ _ _ | exact lB | refine leBd ?_ | refine leOwn ?_ | refine And.intro ?_ ?_)
    simp
  · rintro ⟨q, i⟩ hq
    dsimp only at hq
    rcases Nat.lt_or_ge i l.length with h1 | h1
    · have hx := hi l[i] (List.getElem_mem h1)
      have hxl := vi_len hx
      have hfl := flat_le vi 10 (l := l.take i) (fun x hx => vi_len (hi x (List.mem_of_mem_take hx)))
      rw [List.length_take] at hfl
      repeat' ((conv => whnf); first | exact trivial | (refine nv_ (I l[i]) (by first | ((simp [h1]); done) | fail) ?_) | refine k_call _ ((f_Int l[i] hx).dcalls) ?_ | refine nT_ ?_ | refine aE1 ?_ | refine aE0 ?_ | refine aN1 ?_ | refine aN0 ?_ | refine aD1 ?_ | refine aD0 ?_ | refine nE_ (fun hq => ?_) (fun hq => ?_) | refine nN_ (fun hq => ?_) (fun hq => ?_) | refine nD_ (fun hq => ?_) (fun hq => ?_) | refine rb1 ?_ | refine rb0 ?_ | refine rbx ?_ | refine rix ?_ | (refine And.intro (by first | ((simp; omega); done) | ((simp only [List.length_map, List.length_append]; omega); done) | fail) ?_) | refine aS ?_ | fail)
      refine ⟨(21, i + 1), by dsimp only; omega, by dsimp only; omega, ?_⟩
      repeat' (first | exact trivial | exact LeV.same _ | exact LeB.same _ | exact rfl | exact fun _ _ _ => trivial | exact lI | exact LeV.nil _ _ _ | exact lB | refine leBd ?_ | refine leOwn ?_ | refine And.intro ?_ ?_)
      rw [flat_take vi h1]
      simp
    · have : i = l.length := by omega
      subst this
      repeat' ((conv => whnf); first | exact trivial | refine nT_ ?_ | refine aE1 ?_ | refine aE0 ?_ | refine aN1 ?_ | refine aN0 ?_ | refine aD1 ?_ | refine aD0 ?_ | refine nE_ (fun hq => ?_) (fun hq => ?_) | refine nN_ (fun hq => ?_) (fun hq => ?_) | refine nD_ (fun hq => ?_) (fun hq => ?_) | refine rb1 ?_ | refine rb0 ?_ | refine rbx ?_ | refine rix ?_ | refine aS ?_ | fail)
      exact ⟨q, trivial, by repeat' (first | ((refine leOwn ?_; rw [List.take_length]; rfl)) | exact trivial | exact LeV.same _ | exact LeB.same _ | exact rfl | exact fun _ _ _ => trivial | exact lI | exact LeV.nil _ _ _ | exact lB | refine leBd ?_ | refine leOwn ?_ | refine And.intro ?_ ?_)⟩
  rintro q -
  repeat' ((conv => whnf); first | exact trivial | refine nT_ ?_ | refine aE1 ?_ | refine aE0 ?_ | refine aN1 ?_ | refine aN0 ?_ | refine aD1 ?_ | refine aD0 ?_ | refine nE_ (fun hq => ?_) (fun hq => ?_) | refine nN_ (fun hq => ?_) (fun hq => ?_) | refine nD_ (fun hq => ?_) (fun hq => ?_) | refine rb1 ?_ | refine rb0 ?_ | refine rbx ?_ | refine rix ?_ | (refine And.intro (by first | (exact flY _; done) | fail) ?_) | refine aS ?_ | fail)
  exact ⟨_, rfl, .inl ⟨q, rfl⟩⟩
theorem f_Ints (l : List Int) (h : l.length < 2 ^ 40) (hi : ∀ x ∈ l, i64 x) : FCalls Tryd.prog 44 [.slice 1 (l.map I)] 5 1 ((vis l).map Y) [] := by
  refine fcalls_low (rs := [.tmp 2]) mixed Tryd.func44 l44 rfl rfl rfl (Nat.le_of_ble_eq_true rfl) ?_
  repeat' ((conv => whnf); first | exact trivial | refine WC_own rfl (f_list l h hi) ?_ | refine nT_ ?_ | refine aE1 ?_ | refine aE0 ?_ | refine aN1 ?_ | refine aN0 ?_ | refine aD1 ?_ | refine aD0 ?_ | refine nE_ (fun hq => ?_) (fun hq => ?_) | refine nN_ (fun hq => ?_) (fun hq => ?_) | refine nD_ (fun hq => ?_) (fun hq => ?_) | refine rb1 ?_ | refine rb0 ?_ | refine rbx ?_ | refine rix ?_ | (refine And.intro (by first | (exact flY _; done) | fail) ?_) | refine aS ?_ | fail)
  exact ⟨_, rfl, .inl ⟨_, rfl⟩⟩
theorem f_refInts (l : List Int) (h : l.length < 2 ^ 40) (hi : ∀ x ∈ l, i64 x) : FCalls Tryd.prog 66 [.slice 1 (l.map I)] 5 1 ((vis l).map Y) [] := by
  refine fcalls_low (rs := [.tmp 2]) mixed Tryd.func66 l66 rfl rfl rfl (Nat.le_of_ble_eq_true rfl) ?_
  have h0 := i64_nat (n := l.length) (by omega)
  have hl0 := vi_len h0
  repeat' ((conv => whnf); first | exact trivial | (refine WC_own (ts := [I l.length]) (by simp; rfl) (f_refInt l.length h0) ?_) | refine nT_ ?_ | refine aE1 ?_ | refine aE0 ?_ | refine aN1 ?_ | refine aN0 ?_ | refine aD1 ?_ | refine aD0 ?_ | refine nE_ (fun hq => ?_) (fun hq => ?_) | refine nN_ (fun hq => ?_) (fun hq => ?_) | refine nD_ (fun hq => ?_) (fun hq => ?_) | refine rb1 ?_ | refine rb0 ?_ | refine rbx ?_ | refine rix ?_ | refine aS ?_ | fail)
  refine wpC_loopE 0 (α := Nat × Nat) (β := Nat) (fun q => {sl := [(0, .t (.slice 1 (l.map I))), (3, .own q.1 5 1 ((vi l.length ++ (l.take q.2).flatMap vi).map Y)), (4, .t (I q.2))], bx := []})
    (fun q => q.2 ≤ l.length) (fun q => l.length - q.2) (fun q => {sl := [(3, .own q 5 1 ((vis l).map Y))], bx := []}) (fun _ => True) (7, 0) (by simp) ?_ ?_ ?_
  · repeat' (first | exact trivial | exact LeV.same _ | exact LeB.same _ | exact rfl | exact fun _ _ _ => trivial | exact lI | exact LeV.nil _ _ _ | exact lB | refine leBd ?_ | refine leOwn ?_ | refine And.intro ?_ ?_)
    simp
  · rintro ⟨q, i⟩ hq
    dsimp only at hq
    rcases Nat.lt_or_ge i l.length with h1 | h1
    · have hx := hi l[i] (List.getElem_mem h1)
      have hxl := vi_len hx
      have hfl := flat_le vi 10 (l := l.take i) (fun x hx => vi_len (hi x (List.mem_of_mem_take hx)))
      rw [List.length_take] at hfl
      repeat' ((conv => whnf); first | exact trivial | (refine nv_ (I l[i]) (by first | ((simp [h1]); done) | fail) ?_) | refine k_call _ ((f_refInt l[i] hx).dcalls) ?_ | refine WC_dc rfl (f_refInt l[i] hx).dcalls (.inl rfl) ?_ | refine now_D1 (by simpa using h1) ?_ | refine nT_ ?_ | refine aE1 ?_ | refine aE0 ?_ | refine aN1 ?_ | refine aN0 ?_ | refine aD1 ?_ | refine aD0 ?_ | refine nE_ (fun hq => ?_) (fun hq => ?_) | refine nN_ (fun hq => ?_) (fun hq => ?_) | refine nD_ (fun hq => ?_) (fun hq => ?_) | refine rb1 ?_ | refine rb0 ?_ | refine rbx ?_ | refine rix ?_ | (refine And.intro (by first | ((simp; omega); done) | ((simp only [List.length_map, List.length_append]; omega); done) | fail) ?_) | refine aS ?_ | fail)
      refine ⟨(20, i + 1), by dsimp only; omega, by dsimp only; omega, ?_⟩
      repeat' (first | exact trivial | exact LeV.same _ | exact LeB.same _ | exact rfl | exact fun _ _ _ => trivial | exact lI | exact LeV.nil _ _ _ | exact lB | refine leBd ?_ | refine leOwn ?_ | refine And.intro ?_ ?_)
      rw [flat_take vi h1]
      simp
    · have : i = l.length := by omega
      subst this
      repeat' ((conv => whnf); first | exact trivial | refine now_D0 (by simp) ?_ | refine nT_ ?_ | refine aE1 ?_ | refine aE0 ?_ | refine aN1 ?_ | refine aN0 ?_ | refine aD1 ?_ | refine aD0 ?_ | refine nE_ (fun hq => ?_) (fun hq => ?_) | refine nN_ (fun hq => ?_) (fun hq => ?_) | refine nD_ (fun hq => ?_) (fun hq => ?_) | refine rb1 ?_ | refine rb0 ?_ | refine rbx ?_ | refine rix ?_ | refine aS ?_ | fail)
      exact ⟨q, trivial, by repeat' (first | ((refine leOwn ?_; rw [List.take_length]; rfl)) | exact trivial | exact LeV.same _ | exact LeB.same _ | exact rfl | exact fun _ _ _ => trivial | exact lI | exact LeV.nil _ _ _ | exact lB | refine leBd ?_ | refine leOwn ?_ | refine And.intro ?_ ?_)⟩
  rintro q -
  repeat' ((conv => whnf); first | exact trivial | refine nT_ ?_ | refine aE1 ?_ | refine aE0 ?_ | refine aN1 ?_ | refine aN0 ?_ | refine aD1 ?_ | refine aD0 ?_ | refine nE_ (fun hq => ?_) (fun hq => ?_) | refine nN_ (fun hq => ?_) (fun hq => ?_) | refine nD_ (fun hq => ?_) (fun hq => ?_) | refine rb1 ?_ | refine rb0 ?_ | refine rbx ?_ | refine rix ?_ | (refine And.intro (by first | (exact flY _; done) | fail) ?_) | refine aS ?_ | fail)
  exact ⟨_, rfl, .inl ⟨q, rfl⟩⟩
abbrev dg16 (d : List Int) : T := .agg (d.map Y)
def digs (l : List (List Int)) : List Int := vi l.length ++ l.flatten
theorem f_Clone (d : List Int) (h0 : d ≠ []) (h : d.length < 2 ^ 40) : FCalls Tryd.prog 96 [.slice 1 (d.map Y)] 5 1 (d.map Y) [] := by
  refine fcalls_low (rs := [.tmp 2]) mixed Tryd.func96 l96 rfl rfl rfl (Nat.le_of_ble_eq_true rfl) ?_
  have hne : 0 < ((d.map Y).flatMap T.cells).length := by
    rw [flat_ones (mones (fun _ => rfl) d), List.length_map]
    exact List.length_pos_iff.2 h0
  repeat' ((conv => whnf); first | exact trivial | refine nT_ ?_ | refine aE1 ?_ | refine aE0 ?_ | refine aN1 ?_ | refine aN0 ?_ | refine aD1 ?_ | refine aD0 ?_ | refine nE_ (fun hq => ?_) (fun hq => ?_) | refine nN_ (fun hq => ?_) (fun hq => ?_) | refine nD_ (fun hq => ?_) (fun hq => ?_) | refine rb1 ?_ | refine rb0 ?_ | refine rbx ?_ | refine rix ?_ | (refine And.intro (by first | (exact hne; done) | (exact flY _; done) | ((simp; omega); done) | fail) ?_) | refine aS ?_ | fail)
  exact ⟨_, rfl, .inl ⟨7, rfl⟩⟩
theorem f_digest (d : List Int) (h : d.length = 16) : FCalls Tryd.prog 84 [dg16 d] 5 1 (d.map Y) [] := by
  refine fcalls_low (rs := [.tmp 2]) mixed Tryd.func84 l84 rfl rfl rfl (Nat.le_of_ble_eq_true rfl) ?_
  have hc : chunk 1 16 (d.map Y) = d.map Y := chunk1 d 16 h
  repeat' ((conv => whnf); first | exact trivial | (refine WC_own (ts := [.slice 1 (chunk 1 16 (d.map Y))]) rfl (by rw [hc]; exact f_Clone d (by intro e; rw [e] at h; cases h) (by omega)) ?_) | refine nT_ ?_ | refine aE1 ?_ | refine aE0 ?_ | refine aN1 ?_ | refine aN0 ?_ | refine aD1 ?_ | refine aD0 ?_ | refine nE_ (fun hq => ?_) (fun hq => ?_) | refine nN_ (fun hq => ?_) (fun hq => ?_) | refine nD_ (fun hq => ?_) (fun hq => ?_) | refine rb1 ?_ | refine rb0 ?_ | refine rbx ?_ | refine rix ?_ | (refine And.intro (by first | ((simp [h]; done); done) | (exact flY _; done) | fail) ?_) | refine aS ?_ | fail)
  exact ⟨_, rfl, .inl ⟨_, rfl⟩⟩
theorem flatten_take {l : List (List Int)} {i : Nat} (h : i < l.length) : (l.take (i + 1)).flatten = (l.take i).flatten ++ l[i] := by
  rw [List.take_succ_eq_append_getElem h, List.flatten_append]; simp
theorem flatten_le : ∀ {l : List (List Int)}, (∀ x ∈ l, x.length = 16) → l.flatten.length ≤ 16 * l.length
  | [], _ => by simp
  | x :: l, h => by
    have h1 := flatten_le (l := l) (fun y hy => h y (by simp [hy]))
    have h2 := h x (by simp)
    rw [List.flatten_cons, List.length_append, List.length_cons, Nat.mul_add]
    omega
theorem f_listD (l : List (List Int)) (h : l.length < 2 ^ 40) (hi : ∀ x ∈ l, x.length = 16) : FCalls Tryd.prog 83 [.slice 16 (l.map dg16), .clos 84 []] 5 1 ((digs l).map Y) [] := by
  refine fcalls_low (rs := [.tmp 4]) mixed Tryd.func83 l83 rfl rfl rfl (Nat.le_of_ble_eq_true rfl) ?_
  have h0 := i64_nat (n := l.length) (by omega)
  have hl0 := vi_len h0
  repeat' ((conv => whnf); first | exact trivial | (refine WC_own (ts := [I l.length]) (by simp; rfl) (f_Int l.length h0) ?_) | refine nT_ ?_ | refine aE1 ?_ | refine aE0 ?_ | refine aN1 ?_ | refine aN0 ?_ | refine aD1 ?_ | refine aD0 ?_ | refine nE_ (fun hq => ?_) (fun hq => ?_) | refine nN_ (fun hq => ?_) (fun hq => ?_) | refine nD_ (fun hq => ?_) (fun hq => ?_) | refine rb1 ?_ | refine rb0 ?_ | refine rbx ?_ | refine rix ?_ | refine aS ?_ | fail)
  refine wpC_loopE 0 (α := Nat × Nat) (β := Nat) (fun q => {sl := [(1, .t (.clos 84 [])), (5, .own q.1 5 1 ((vi l.length ++ (l.take q.2).flatten).map Y)), (11, .t (.slice 16 (l.map dg16))), (12, .t (I l.length)), (13, .t (I q.2))], bx := []})
    (fun q => q.2 ≤ l.length) (fun q => l.length - q.2) (fun q => {sl := [(5, .own q 5 1 ((digs l).map Y))], bx := []}) (fun _ => True) (10, 0) (by simp) ?_ ?_ ?_
  · repeat' (first | ((refine leI ?_; simp; done)) | exact trivial | exact LeV.same _ | exact LeB.same _ | exact rfl | exact fun _ _ _ => trivial | exact lI | exact LeV.nil _ _ _ | exact lB | refine leBd ?_ | refine leOwn ?_ | refine And.intro ?_ ?_)
    simp
  · rintro ⟨q, i⟩ hq
    dsimp only at hq
    rcases Nat.lt_or_ge i l.length with h1 | h1
    · have hx := hi l[i] (List.getElem_mem h1)
      have hfl := flatten_le (l := l.take i) (fun x hx => hi x (List.mem_of_mem_take hx))
      rw [List.length_take] at hfl
      have hd : DCalls Tryd.prog 84 [.agg (putL (List.replicate 16 (Y 0)) 0 16 (l[i].map Y))] (.slice 1 (l[i].map Y)) := by
        rw [putL_all (n := 16) (cs := List.replicate 16 (Y 0)) rfl]; exact (f_digest l[i] hx).dcalls
      repeat' ((conv => whnf); first | exact trivial | (refine nv_ (dg16 l[i]) (by first | ((simp [h1]; done); done) | fail) ?_) | refine k_call _ (hd) ?_ | refine nT_ ?_ | refine aE1 ?_ | refine aE0 ?_ | refine aN1 ?_ | refine aN0 ?_ | refine aD1 ?_ | refine aD0 ?_ | refine nE_ (fun hq => ?_) (fun hq => ?_) | refine nN_ (fun hq => ?_) (fun hq => ?_) | refine nD_ (fun hq => ?_) (fun hq => ?_) | refine rb1 ?_ | refine rb0 ?_ | refine rbx ?_ | refine rix ?_ | (refine And.intro (by first | ((simp; omega); done) | (exact (List.length_map _).trans hx; done) | (exact ⟨(List.length_map _).trans hx, by decide⟩; done) | ((simp only [List.length_map, List.length_append]; omega); done) | fail) ?_) | refine aS ?_ | fail)
      refine ⟨(21, i + 1), by dsimp only; omega, by dsimp only; omega, ?_⟩
      repeat' (first | exact trivial | exact LeV.same _ | exact LeB.same _ | exact rfl | exact fun _ _ _ => trivial | exact lI | exact LeV.nil _ _ _ | exact lB | refine leBd ?_ | refine leOwn ?_ | refine And.intro ?_ ?_)
      rw [flatten_take h1]
      simp
    · have : i = l.length := by omega
      subst this
      repeat' ((conv => whnf); first | exact trivial | refine nT_ ?_ | refine aE1 ?_ | refine aE0 ?_ | refine aN1 ?_ | refine aN0 ?_ | refine aD1 ?_ | refine aD0 ?_ | refine nE_ (fun hq => ?_) (fun hq => ?_) | refine nN_ (fun hq => ?_) (fun hq => ?_) | refine nD_ (fun hq => ?_) (fun hq => ?_) | refine rb1 ?_ | refine rb0 ?_ | refine rbx ?_ | refine rix ?_ | refine aS ?_ | fail)
      exact ⟨q, trivial, by repeat' (first | ((refine leOwn ?_; rw [List.take_length]; rfl)) | exact trivial | exact LeV.same _ | exact LeB.same _ | exact rfl | exact fun _ _ _ => trivial | exact lI | exact LeV.nil _ _ _ | exact lB | refine leBd ?_ | refine leOwn ?_ | refine And.intro ?_ ?_)⟩
  rintro q -
  repeat' ((conv => whnf); first | exact trivial | refine nT_ ?_ | refine aE1 ?_ | refine aE0 ?_ | refine aN1 ?_ | refine aN0 ?_ | refine aD1 ?_ | refine aD0 ?_ | refine nE_ (fun hq => ?_) (fun hq => ?_) | refine nN_ (fun hq => ?_) (fun hq => ?_) | refine nD_ (fun hq => ?_) (fun hq => ?_) | refine rb1 ?_ | refine rb0 ?_ | refine rbx ?_ | refine rix ?_ | (refine And.intro (by first | (exact flY _; done) | fail) ?_) | refine aS ?_ | fail)
  exact ⟨_, rfl, .inl ⟨q, rfl⟩⟩
theorem f_Digests (l : List (List Int)) (h : l.length < 2 ^ 40) (hi : ∀ x ∈ l, x.length = 16) : FCalls Tryd.prog 59 [.slice 16 (l.map dg16)] 5 1 ((digs l).map Y) [] := by
  refine fcalls_low (rs := [.tmp 2]) mixed Tryd.func59 l59 rfl rfl rfl (Nat.le_of_ble_eq_true rfl) ?_
  repeat' ((conv => whnf); first | exact trivial | refine WC_own rfl (f_listD l h hi) ?_ | refine nT_ ?_ | refine aE1 ?_ | refine aE0 ?_ | refine aN1 ?_ | refine aN0 ?_ | refine aD1 ?_ | refine aD0 ?_ | refine nE_ (fun hq => ?_) (fun hq => ?_) | refine nN_ (fun hq => ?_) (fun hq => ?_) | refine nD_ (fun hq => ?_) (fun hq => ?_) | refine rb1 ?_ | refine rb0 ?_ | refine rbx ?_ | refine rix ?_ | (refine And.intro (by first | (exact flY _; done) | fail) ?_) | refine aS ?_ | fail)
  exact ⟨_, rfl, .inl ⟨_, rfl⟩⟩
theorem f_refDigests (l : List (List Int)) (h : l.length < 2 ^ 40) (hi : ∀ x ∈ l, x.length = 16) : FCalls Tryd.prog 68 [.slice 16 (l.map dg16)] 5 1 ((digs l).map Y) [] := by
  refine fcalls_low (rs := [.tmp 2]) mixed Tryd.func68 l68 rfl rfl rfl (Nat.le_of_ble_eq_true rfl) ?_
  have h0 := i64_nat (n := l.length) (by omega)
  have hl0 := vi_len h0
  repeat' ((conv => whnf); first | exact trivial | (refine WC_own (ts := [I l.length]) (by simp; rfl) (f_refInt l.length h0) ?_) | refine nT_ ?_ | refine aE1 ?_ | refine aE0 ?_ | refine aN1 ?_ | refine aN0 ?_ | refine aD1 ?_ | refine aD0 ?_ | refine nE_ (fun hq => ?_) (fun hq => ?_) | refine nN_ (fun hq => ?_) (fun hq => ?_) | refine nD_ (fun hq => ?_) (fun hq => ?_) | refine rb1 ?_ | refine rb0 ?_ | refine rbx ?_ | refine rix ?_ | refine aS ?_ | fail)
  refine wpC_loopE 0 (α := Nat × Nat) (β := Nat) (fun q => {sl := [(0, .t (.slice 16 (l.map dg16))), (3, .own q.1 5 1 ((vi l.length ++ (l.take q.2).flatten).map Y)), (4, .t (I q.2))], bx := []})
    (fun q => q.2 ≤ l.length) (fun q => l.length - q.2) (fun q => {sl := [(3, .own q 5 1 ((digs l).map Y))], bx := []}) (fun _ => True) (7, 0) (by simp) ?_ ?_ ?_
  · repeat' (first | exact trivial | exact LeV.same _ | exact LeB.same _ | exact rfl | exact fun _ _ _ => trivial | exact lI | exact LeV.nil _ _ _ | exact lB | refine leBd ?_ | refine leOwn ?_ | refine And.intro ?_ ?_)
    simp
  · rintro ⟨q, i⟩ hq
    dsimp only at hq
    rcases Nat.lt_or_ge i l.length with h1 | h1
    · have hx := hi l[i] (List.getElem_mem h1)
      have hfl := flatten_le (l := l.take i) (fun x hx => hi x (List.mem_of_mem_take hx))
      rw [List.length_take] at hfl
      have hcl : (dg16 l[i]).cells.length = 16 := (List.length_map _).trans hx
      repeat' ((conv => whnf); first | exact trivial | (refine nv_ (dg16 l[i]) (by first | ((simp [h1]; done); done) | fail) ?_) | (refine nv_ (.slice 1 (l[i].map Y)) (by first | (exact congrArg (T.slice 1) (chunk1 l[i] 16 hx); done) | fail) ?_) | refine now_D1 (by simpa using h1) ?_ | refine nT_ ?_ | refine aE1 ?_ | refine aE0 ?_ | refine aN1 ?_ | refine aN0 ?_ | refine aD1 ?_ | refine aD0 ?_ | refine nE_ (fun hq => ?_) (fun hq => ?_) | refine nN_ (fun hq => ?_) (fun hq => ?_) | refine nD_ (fun hq => ?_) (fun hq => ?_) | refine rb1 ?_ | refine rb0 ?_ | refine rbx ?_ | refine rix ?_ | (refine And.intro (by first | ((simp; omega); done) | ((rw [hcl]; decide); done) | ((simp only [List.length_map, List.length_append]; omega); done) | fail) ?_) | refine aS ?_ | fail)
      refine ⟨(19, i + 1), by dsimp only; omega, by dsimp only; omega, ?_⟩
      repeat' (first | exact trivial | exact LeV.same _ | exact LeB.same _ | exact rfl | exact fun _ _ _ => trivial | exact lI | exact LeV.nil _ _ _ | exact lB | refine leBd ?_ | refine leOwn ?_ | refine And.intro ?_ ?_)
      rw [flatten_take h1]
      simp
    · have : i = l.length := by omega
      subst this
      repeat' ((conv => whnf); first | exact trivial | refine now_D0 (by simp) ?_ | refine nT_ ?_ | refine aE1 ?_ | refine aE0 ?_ | refine aN1 ?_ | refine aN0 ?_ | refine aD1 ?_ | refine aD0 ?_ | refine nE_ (fun hq => ?_) (fun hq => ?_) | refine nN_ (fun hq => ?_) (fun hq => ?_) | refine nD_ (fun hq => ?_) (fun hq => ?_) | refine rb1 ?_ | refine rb0 ?_ | refine rbx ?_ | refine rix ?_ | refine aS ?_ | fail)
      exact ⟨q, trivial, by repeat' (first | ((refine leOwn ?_; rw [List.take_length]; rfl)) | exact trivial | exact LeV.same _ | exact LeB.same _ | exact rfl | exact fun _ _ _ => trivial | exact lI | exact LeV.nil _ _ _ | exact lB | refine leBd ?_ | refine leOwn ?_ | refine And.intro ?_ ?_)⟩
  rintro q -
  repeat' ((conv => whnf); first | exact trivial | refine nT_ ?_ | refine aE1 ?_ | refine aE0 ?_ | refine aN1 ?_ | refine aN0 ?_ | refine aD1 ?_ | refine aD0 ?_ | refine nE_ (fun hq => ?_) (fun hq => ?_) | refine nN_ (fun hq => ?_) (fun hq => ?_) | refine nD_ (fun hq => ?_) (fun hq => ?_) | refine rb1 ?_ | refine rb0 ?_ | refine rbx ?_ | refine rix ?_ | (refine And.intro (by first | (exact flY _; done) | fail) ?_) | refine aS ?_ | fail)
  exact ⟨_, rfl, .inl ⟨q, rfl⟩⟩
def msg (tag : Int) (ps : List ByteArray) : List Int := IntKind.u8.wrap tag :: ps.flatMap vs
def H (m : List Int) : List Int := (dig ((S0.add m).add (tail m.length)).s).take 16
def H2 (m : List Int) : List Int := (dig (bl2 (m ++ tail m.length) ((m ++ tail m.length).length / 64))).take 16
theorem u8_range (x : Int) : 0 ≤ IntKind.u8.wrap x ∧ IntKind.u8.wrap x < 256 := by
  unfold IntKind.wrap
  simp [IntKind.bits, IntKind.signed]
  omega
theorem vs_areB (s : ByteArray) : areB (vs s) := fun b hb => by
  rcases List.mem_append.1 hb with h | h
  · exact vi_areB _ b h
  · exact sB_areB _ b h
theorem msg_areB (tag : Int) (ps : List ByteArray) : areB (msg tag ps) := fun b hb => by
  rcases List.mem_cons.1 hb with rfl | h
  · exact u8_range _
  · obtain ⟨s, _, hs⟩ := List.mem_flatMap.1 h
    exact vs_areB s b hs
theorem vs_len {s : ByteArray} (h : s.size < 2 ^ 40) : (vs s).length ≤ s.size + 10 := by
  have := vi_len (i64_nat (n := s.size) (by omega))
  unfold vs
  rw [List.length_append, sB_len]
  omega
theorem t_Of (tag : Int) (ps : List ByteArray) (hp : ∀ s ∈ ps, s.size < 2 ^ 40) (hl : ps.length < 2 ^ 10) : DCalls Tryd.prog 43 [I tag, .slice 1 (ps.map .str)] (.agg ((H (msg tag ps)).map Y)) := by
  refine dcalls_low (rs := [.cell 4 49]) mixed Tryd.func43 l43 rfl rfl rfl (r := [.agg _]) (Nat.le_of_ble_eq_true rfl) ?_
  have h1 : sB (strT [Y (IntKind.u8.wrap tag)]) = [IntKind.u8.wrap tag] := sB_strT [IntKind.u8.wrap tag] (fun b hb => by rw [List.mem_singleton.1 hb]; exact u8_range _)
  have hs1 : (strT [Y (IntKind.u8.wrap tag)]).size = 1 := by rw [← sB_len, h1]; rfl
  have hadd := t_Add S0 (strT [Y (IntKind.u8.wrap tag)]) rfl (by rw [hs1]; decide)
  rw [h1] at hadd
  repeat' ((conv => whnf); first | exact trivial | refine k_call _ (t_Begin) ?_ | refine k_call _ (hadd) ?_ | refine nT_ ?_ | refine aE1 ?_ | refine aE0 ?_ | refine aN1 ?_ | refine aN0 ?_ | refine aD1 ?_ | refine aD0 ?_ | refine nE_ (fun hq => ?_) (fun hq => ?_) | refine nN_ (fun hq => ?_) (fun hq => ?_) | refine nD_ (fun hq => ?_) (fun hq => ?_) | refine rb1 ?_ | refine rb0 ?_ | refine rbx ?_ | refine rix ?_ | refine aS ?_ | fail)
  have hX : ∀ k, ((S0.add [IntKind.u8.wrap tag]).add ((ps.take k).flatMap vs)).blk.length = 64 := fun k => by rw [(add_blk _ _).1, (add_blk _ _).1]; rfl
  have hXn : ∀ k, ((S0.add [IntKind.u8.wrap tag]).add ((ps.take k).flatMap vs)).n = 1 + ((ps.take k).flatMap vs).length := fun k => by rw [(add_blk _ _).2, (add_blk _ _).2]; show 0 + 1 + _ = _; omega
  have hfl : ∀ k, ((ps.take k).flatMap vs).length ≤ (2 ^ 40 + 10) * ps.length := fun k => by
    have := flat_le vs (2 ^ 40 + 10) (l := ps.take k) (fun s hs => by have := hp s (List.mem_of_mem_take hs); have := vs_len this; omega)
    refine Nat.le_trans this (Nat.mul_le_mul_left _ ?_)
    rw [List.length_take]; exact Nat.min_le_right _ _
  refine wpC_loopE 0 (α := Nat) (β := Unit) (fun k => {sl := [(4, .ptr 4 0), (5, .ptr 5 0), (15, .t (.slice 1 (ps.map .str))), (16, .t (I ps.length)), (17, .t (I k))], bx := [(4, .d 16 (List.replicate 16 (Y 0))), (5, .d 73 ((S0.add [IntKind.u8.wrap tag]).add ((ps.take k).flatMap vs)).cells)]})
    (fun k => k ≤ ps.length) (fun k => ps.length - k) (fun _ => {sl := [(4, .ptr 4 0), (5, .ptr 5 0)], bx := [(4, .d 16 (List.replicate 16 (Y 0))), (5, .d 73 (S0.add (msg tag ps)).cells)]}) (fun _ => True) 0 (by omega) ?_ ?_ ?_
  · repeat' (first | ((refine leI ?_; simp; done)) | ((refine leBd ?_; exact (putL_all rfl).symm)) | exact trivial | exact LeV.same _ | exact LeB.same _ | exact rfl | exact fun _ _ _ => trivial | exact lI | exact LeV.nil _ _ _ | exact lB | refine leBd ?_ | refine leOwn ?_ | refine And.intro ?_ ?_)
  · intro k hk
    rcases Nat.lt_or_ge k ps.length with h2 | h2
    · have hx := hp ps[k] (List.getElem_mem h2)
      have hvl := vs_len hx
      have hft := flat_take vs h2
      have hb := hX k
      have hn := hXn k
      have hfk := hfl k
      have ha : ((S0.add [IntKind.u8.wrap tag]).add ((ps.take (k + 1)).flatMap vs)) = ((S0.add [IntKind.u8.wrap tag]).add ((ps.take k).flatMap vs)).add (vs ps[k]) := by
        rw [hft]; unfold Str.add; rw [List.foldl_append]
      generalize (S0.add [IntKind.u8.wrap tag]).add ((ps.take k).flatMap vs) = x at hb hn ha
      have hsb := sB_strT (vs ps[k]) (vs_areB _)
      have hss : (strT ((vs ps[k]).map Y)).size = (vs ps[k]).length := by rw [← sB_len, hsb]
      have hcl := cells_len x hb
      have hcall := t_Add x (strT ((vs ps[k]).map Y)) hb (by rw [hss, hn]; omega)
      rw [hsb] at hcall
      repeat' ((conv => whnf); first | exact trivial | (refine nv_ (.str ps[k]) (by first | ((simp [h2]; done); done) | fail) ?_) | refine k_call _ ((f_Bytes ps[k] hx).dcalls) ?_ | refine k_call _ (hcall) ?_ | refine nT_ ?_ | refine aE1 ?_ | refine aE0 ?_ | refine aN1 ?_ | refine aN0 ?_ | refine aD1 ?_ | refine aD0 ?_ | refine nE_ (fun hq => ?_) (fun hq => ?_) | refine nN_ (fun hq => ?_) (fun hq => ?_) | refine nD_ (fun hq => ?_) (fun hq => ?_) | refine rb1 ?_ | refine rb0 ?_ | refine rbx ?_ | refine rix ?_ | (refine And.intro (by first | ((simp; omega); done) | (exact hcl; done) | (exact areU8_Y _; done) | (exact ⟨cells_len _ (by rw [(add_blk _ _).1]; exact hb), by decide⟩; done) | ((rw [hcl]; decide); done) | fail) ?_) | refine aS ?_ | fail)
      refine ⟨k + 1, by omega, by omega, ?_⟩
      repeat' (first | exact trivial | exact LeV.same _ | exact LeB.same _ | exact rfl | exact fun _ _ _ => trivial | exact lI | exact LeV.nil _ _ _ | exact lB | refine leBd ?_ | refine leOwn ?_ | refine And.intro ?_ ?_)
      rw [ha]
      exact (putL_all hcl).symm
    · have : k = ps.length := by omega
      subst this
      repeat' ((conv => whnf); first | exact trivial | refine nT_ ?_ | refine aE1 ?_ | refine aE0 ?_ | refine aN1 ?_ | refine aN0 ?_ | refine aD1 ?_ | refine aD0 ?_ | refine nE_ (fun hq => ?_) (fun hq => ?_) | refine nN_ (fun hq => ?_) (fun hq => ?_) | refine nD_ (fun hq => ?_) (fun hq => ?_) | refine rb1 ?_ | refine rb0 ?_ | refine rbx ?_ | refine rix ?_ | refine aS ?_ | fail)
      exact ⟨(), trivial, by repeat' (first | ((refine leBd ?_; rw [List.take_length]; rfl)) | exact trivial | exact LeV.same _ | exact LeB.same _ | exact rfl | exact fun _ _ _ => trivial | exact lI | exact LeV.nil _ _ _ | exact lB | refine leBd ?_ | refine leOwn ?_ | refine And.intro ?_ ?_)⟩
  rintro - -
  have hb := hX ps.length
  have hn := hXn ps.length
  have hfk := hfl ps.length
  rw [List.take_length] at hb hn hfk
  have hm : (S0.add [IntKind.u8.wrap tag]).add (ps.flatMap vs) = S0.add (msg tag ps) := rfl
  have hml : (msg tag ps).length = 1 + (ps.flatMap vs).length := by unfold msg; rw [List.length_cons]; omega
  rw [hm] at hb hn
  unfold H
  rw [hml]
  have hsum := t_Sum (S0.add (msg tag ps)) hb (by rw [hn]; omega)
  rw [hn] at hsum
  generalize S0.add (msg tag ps) = x at hb hsum
  have hcl := cells_len x hb
  unfold Str.T at hsum
  generalize x.cells = cs at hcl hsum
  have hdl : (dig (x.add (tail (1 + (ps.flatMap vs).length))).s).length = 32 := by simp [dig]
  generalize dig (x.add (tail (1 + (ps.flatMap vs).length))).s = ds at hdl hsum
  have hput : putL (List.replicate 32 (Y 0)) 0 32 (ds.map Y) = ds.map Y := putL_all rfl
  have hput2 : ((putL (List.replicate 32 (Y 0)) 0 32 (ds.map Y)).drop (0 + Int.toNat 0 * 1)).take 16 = (ds.take 16).map Y := by
    rw [hput, List.map_take]; rfl
  have hl16 : (((putL (List.replicate 32 (Y 0)) 0 32 (ds.map Y)).drop (0 + Int.toNat 0 * 1)).take 16).length = 16 := by
    rw [hput2]; simp [hdl]
  repeat' ((conv => whnf); first | exact trivial | refine k_call _ (hsum) ?_ | refine nT_ ?_ | refine aE1 ?_ | refine aE0 ?_ | refine aN1 ?_ | refine aN0 ?_ | refine aD1 ?_ | refine aD0 ?_ | refine nE_ (fun hq => ?_) (fun hq => ?_) | refine nN_ (fun hq => ?_) (fun hq => ?_) | refine nD_ (fun hq => ?_) (fun hq => ?_) | refine rb1 ?_ | refine rb0 ?_ | refine rbx ?_ | refine rix ?_ | (refine And.intro (by first | (exact hcl; done) | (exact ⟨(List.length_map _).trans hdl, by decide⟩; done) | (exact ⟨hl16, by decide⟩; done) | fail) ?_) | refine aS ?_ | refine rt ?_ trivial | fail)
  exact congrArg T.agg ((putL_all rfl).trans hput2)
end Go.RC
end
section
namespace Go.RC
open Go Go.DL Go.Proofs
set_option maxRecDepth 100000
set_option maxHeartbeats 1000000
attribute [local irreducible] bl2
theorem t_Input (tag : Int) (ps : List ByteArray) (hp : ∀ s ∈ ps, s.size < 2 ^ 40) (hl : ps.length < 2 ^ 5) : DCalls Tryd.prog 78 [I tag, .slice 1 (ps.map .str)] (.slice 1 ((msg tag ps).map Y)) := by
  refine dcalls_low (rs := [.tmp 4]) mixed Tryd.func78 l78 rfl rfl rfl (r := [.slice 1 _]) (Nat.le_of_ble_eq_true rfl) ?_
  have hfl : ∀ k, ((ps.take k).flatMap vs).length ≤ (2 ^ 40 + 10) * ps.length := fun k => by
    have := flat_le vs (2 ^ 40 + 10) (l := ps.take k) (fun s hs => by have := hp s (List.mem_of_mem_take hs); have := vs_len this; omega)
    refine Nat.le_trans this (Nat.mul_le_mul_left _ ?_)
    rw [List.length_take]; exact Nat.min_le_right _ _
  repeat' ((conv => whnf); first | exact trivial | refine nT_ ?_ | refine aE1 ?_ | refine aE0 ?_ | refine aN1 ?_ | refine aN0 ?_ | refine aD1 ?_ | refine aD0 ?_ | refine nE_ (fun hq => ?_) (fun hq => ?_) | refine nN_ (fun hq => ?_) (fun hq => ?_) | refine nD_ (fun hq => ?_) (fun hq => ?_) | refine rb1 ?_ | refine rb0 ?_ | refine rbx ?_ | refine rix ?_ | refine aS ?_ | fail)
  refine wpC_loopE 0 (α := Nat × Nat) (β := Nat) (fun q => {sl := [(1, .t (.slice 1 (ps.map .str))), (5, .own q.1 5 1 ((IntKind.u8.wrap tag :: (ps.take q.2).flatMap vs).map Y)), (6, .t (I q.2))], bx := []})
    (fun q => q.2 ≤ ps.length) (fun q => ps.length - q.2) (fun q => {sl := [(5, .own q 5 1 ((msg tag ps).map Y))], bx := []}) (fun _ => True) (9, 0) (by simp) ?_ ?_ ?_
  · repeat' (first | exact trivial | exact LeV.same _ | exact LeB.same _ | exact rfl | exact fun _ _ _ => trivial | exact lI | exact LeV.nil _ _ _ | exact lB | refine leBd ?_ | refine leOwn ?_ | refine And.intro ?_ ?_)
  · rintro ⟨q, k⟩ hk
    dsimp only at hk
    rcases Nat.lt_or_ge k ps.length with h2 | h2
    · have hx := hp ps[k] (List.getElem_mem h2)
      have hvl := vs_len hx
      have hft := flat_take vs h2
      have hfk := hfl k
      repeat' ((conv => whnf); first | exact trivial | refine now_D1 (by simpa using h2) ?_ | (refine nv_ (.str ps[k]) (by first | ((simp [h2]; done); done) | fail) ?_) | refine k_call _ ((f_refBytes ps[k] hx).dcalls) ?_ | refine nT_ ?_ | refine aE1 ?_ | refine aE0 ?_ | refine aN1 ?_ | refine aN0 ?_ | refine aD1 ?_ | refine aD0 ?_ | refine nE_ (fun hq => ?_) (fun hq => ?_) | refine nN_ (fun hq => ?_) (fun hq => ?_) | refine nD_ (fun hq => ?_) (fun hq => ?_) | refine rb1 ?_ | refine rb0 ?_ | refine rbx ?_ | refine rix ?_ | (refine And.intro (by first | ((simp; omega); done) | ((simp only [List.length_map, List.length_cons]; omega); done) | fail) ?_) | refine aS ?_ | fail)
      refine ⟨(22, k + 1), by dsimp only; omega, by dsimp only; omega, ?_⟩
      repeat' (first | exact trivial | exact LeV.same _ | exact LeB.same _ | exact rfl | exact fun _ _ _ => trivial | exact lI | exact LeV.nil _ _ _ | exact lB | refine leBd ?_ | refine leOwn ?_ | refine And.intro ?_ ?_)
      rw [hft]
      simp
    · have : k = ps.length := by omega
      subst this
      repeat' ((conv => whnf); first | exact trivial | refine now_D0 (by simp) ?_ | refine nT_ ?_ | refine aE1 ?_ | refine aE0 ?_ | refine aN1 ?_ | refine aN0 ?_ | refine aD1 ?_ | refine aD0 ?_ | refine nE_ (fun hq => ?_) (fun hq => ?_) | refine nN_ (fun hq => ?_) (fun hq => ?_) | refine nD_ (fun hq => ?_) (fun hq => ?_) | refine rb1 ?_ | refine rb0 ?_ | refine rbx ?_ | refine rix ?_ | refine aS ?_ | fail)
      exact ⟨q, trivial, by repeat' (first | ((refine leOwn ?_; rw [List.take_length]; rfl)) | exact trivial | exact LeV.same _ | exact LeB.same _ | exact rfl | exact fun _ _ _ => trivial | exact lI | exact LeV.nil _ _ _ | exact lB | refine leBd ?_ | refine leOwn ?_ | refine And.intro ?_ ?_)⟩
  rintro q -
  repeat' ((conv => whnf); first | exact trivial | refine nT_ ?_ | refine aE1 ?_ | refine aE0 ?_ | refine aN1 ?_ | refine aN0 ?_ | refine aD1 ?_ | refine aD0 ?_ | refine nE_ (fun hq => ?_) (fun hq => ?_) | refine nN_ (fun hq => ?_) (fun hq => ?_) | refine nD_ (fun hq => ?_) (fun hq => ?_) | refine rb1 ?_ | refine rb0 ?_ | refine rbx ?_ | refine rix ?_ | refine aS ?_ | fail)
theorem t_Short (bs : List Int) (hb : bs.length < 2 ^ 40) : DCalls Tryd.prog 77 [.slice 1 (bs.map Y)] (.agg ((H2 bs).map Y)) := by
  refine dcalls_low (rs := [.cell 2 49]) mixed Tryd.func77 l77 rfl rfl rfl (r := [.agg _]) (Nat.le_of_ble_eq_true rfl) ?_
  have hs := t_refSum bs hb
  unfold H2
  have hdl : (dig (bl2 (bs ++ tail bs.length) ((bs ++ tail bs.length).length / 64))).length = 32 := by simp [dig]
  generalize dig (bl2 (bs ++ tail bs.length) ((bs ++ tail bs.length).length / 64)) = ds at hs hdl
  repeat' ((conv => whnf); first | exact trivial | refine k_call _ (hs) ?_ | refine nT_ ?_ | refine aE1 ?_ | refine aE0 ?_ | refine aN1 ?_ | refine aN0 ?_ | refine aD1 ?_ | refine aD0 ?_ | refine nE_ (fun hq => ?_) (fun hq => ?_) | refine nN_ (fun hq => ?_) (fun hq => ?_) | refine nD_ (fun hq => ?_) (fun hq => ?_) | refine rb1 ?_ | refine rb0 ?_ | refine rbx ?_ | refine rix ?_ | (refine And.intro (by first | (exact ⟨(List.length_map _).trans hdl, by decide⟩; done) | fail) ?_) | refine aS ?_ | fail)
  refine wpC_loopE 0 (α := Nat) (β := Unit) (fun i => {sl := [(2, .ptr 2 0), (3, .ptr 3 0), (4, .ptr 4 0), (5, .t (I i))], bx := [(2, .d 16 (List.replicate 16 (Y 0))), (3, .d 32 (ds.map Y)), (4, .d 16 ((ds.take i ++ List.replicate (16 - i) 0).map Y))]})
    (fun i => i ≤ 16) (fun i => 16 - i) (fun _ => {sl := [(2, .ptr 2 0), (4, .ptr 4 0)], bx := [(2, .d 16 (List.replicate 16 (Y 0))), (4, .d 16 ((ds.take 16).map Y))]}) (fun _ => True) 0 (by omega) ?_ ?_ ?_
  · repeat' (first | ((refine leBd ?_; exact (putL_all rfl).symm)) | exact trivial | exact LeV.same _ | exact LeB.same _ | exact rfl | exact fun _ _ _ => trivial | exact lI | exact LeV.nil _ _ _ | exact lB | refine leBd ?_ | refine leOwn ?_ | refine And.intro ?_ ?_)
  · intro i hi
    rcases Nat.lt_or_ge i 16 with h2 | h2
    · repeat' ((conv => whnf); first | exact trivial | (refine nv_ (Y (ds.getD i 0)) (by first | (exact mgetk i (by omega) (by omega); done) | fail) ?_) | refine nT_ ?_ | refine aE1 ?_ | refine aE0 ?_ | refine aN1 ?_ | refine aN0 ?_ | refine aD1 ?_ | refine aD0 ?_ | refine nE_ (fun hq => ?_) (fun hq => ?_) | refine nN_ (fun hq => ?_) (fun hq => ?_) | refine nD_ (fun hq => ?_) (fun hq => ?_) | refine rb1 ?_ | refine rb0 ?_ | refine rbx ?_ | refine rix ?_ | (refine And.intro (by first | ((simp; omega); done) | fail) ?_) | refine aS ?_ | fail)
      refine ⟨i + 1, by omega, by omega, ?_⟩
      repeat' (first | exact trivial | exact LeV.same _ | exact LeB.same _ | exact rfl | exact fun _ _ _ => trivial | exact lI | exact LeV.nil _ _ _ | exact lB | refine leBd ?_ | refine leOwn ?_ | refine And.intro ?_ ?_)
      show _ = List.set _ (0 + (i : Int).toNat * 1) (Y (ds.getD i 0))
      rw [mset]
      congr 1
      have e1 : ds.take (i + 1) = ds.take i ++ [ds.getD i 0] := by
        rw [List.take_succ_eq_append_getElem (by omega), List.getD_eq_getElem?_getD, List.getElem?_eq_getElem (by omega)]; rfl
      have e2 : List.replicate (16 - i) (0 : Int) = 0 :: List.replicate (16 - (i + 1)) 0 := by
        rw [show 16 - i = (16 - (i + 1)) + 1 by omega, List.replicate_succ]
      have e3 : (ds.take i).length = i := by rw [List.length_take]; omega
      rw [e1, e2, List.set_append, if_neg (by rw [e3]; omega), e3]
      simp
    · have : i = 16 := by omega
      subst this
      repeat' ((conv => whnf); first | exact trivial | refine nT_ ?_ | refine aE1 ?_ | refine aE0 ?_ | refine aN1 ?_ | refine aN0 ?_ | refine aD1 ?_ | refine aD0 ?_ | refine nE_ (fun hq => ?_) (fun hq => ?_) | refine nN_ (fun hq => ?_) (fun hq => ?_) | refine nD_ (fun hq => ?_) (fun hq => ?_) | refine rb1 ?_ | refine rb0 ?_ | refine rbx ?_ | refine rix ?_ | refine aS ?_ | fail)
      exact ⟨(), trivial, by repeat' (first | ((refine leBd ?_; simp; done)) | exact trivial | exact LeV.same _ | exact LeB.same _ | exact rfl | exact fun _ _ _ => trivial | exact lI | exact LeV.nil _ _ _ | exact lB | refine leBd ?_ | refine leOwn ?_ | refine And.intro ?_ ?_)⟩
  rintro - -
  have hl16 : ((ds.take 16).map Y).length = 16 := by simp [hdl]
  repeat' ((conv => whnf); first | exact trivial | refine nT_ ?_ | refine aE1 ?_ | refine aE0 ?_ | refine aN1 ?_ | refine aN0 ?_ | refine aD1 ?_ | refine aD0 ?_ | refine nE_ (fun hq => ?_) (fun hq => ?_) | refine nN_ (fun hq => ?_) (fun hq => ?_) | refine nD_ (fun hq => ?_) (fun hq => ?_) | refine rb1 ?_ | refine rb0 ?_ | refine rbx ?_ | refine rix ?_ | (refine And.intro (by first | (exact ⟨hl16, by decide⟩; done) | fail) ?_) | refine aS ?_ | refine rt ?_ trivial | fail)
  exact congrArg T.agg (putL_all rfl)
theorem t_refOf (tag : Int) (ps : List ByteArray) (hp : ∀ s ∈ ps, s.size < 2 ^ 34) (hl : ps.length < 2 ^ 5) : DCalls Tryd.prog 45 [I tag, .slice 1 (ps.map .str)] (.agg ((H2 (msg tag ps)).map Y)) := by
  refine dcalls_low (rs := [.cell 4 49]) mixed Tryd.func45 l45 rfl rfl rfl (r := [.agg _]) (Nat.le_of_ble_eq_true rfl) ?_
  have hi := t_Input tag ps (fun s hs => by have := hp s hs; omega) hl
  have hml : (msg tag ps).length < 2 ^ 40 := by
    have := flat_le vs (2 ^ 34 + 10) (l := ps) (fun s hs => by have := hp s hs; have := vs_len (s := s) (by omega); omega)
    have h2 : (2 ^ 34 + 10) * ps.length ≤ (2 ^ 34 + 10) * 32 := Nat.mul_le_mul_left _ (by omega)
    unfold msg
    rw [List.length_cons]
    omega
  have hs := t_Short (msg tag ps) hml
  have hdl : (H2 (msg tag ps)).length = 16 := by simp [H2, dig]
  generalize H2 (msg tag ps) = ds at hs hdl
  repeat' ((conv => whnf); first | exact trivial | refine k_call _ (hi) ?_ | refine k_call _ (hs) ?_ | refine nT_ ?_ | refine aE1 ?_ | refine aE0 ?_ | refine aN1 ?_ | refine aN0 ?_ | refine aD1 ?_ | refine aD0 ?_ | refine nE_ (fun hq => ?_) (fun hq => ?_) | refine nN_ (fun hq => ?_) (fun hq => ?_) | refine nD_ (fun hq => ?_) (fun hq => ?_) | refine rb1 ?_ | refine rb0 ?_ | refine rbx ?_ | refine rix ?_ | (refine And.intro (by first | (exact ⟨(List.length_map _).trans hdl, by decide⟩; done) | fail) ?_) | refine aS ?_ | refine rt ?_ trivial | fail)
  exact congrArg T.agg (putL_all rfl)
end Go.RC
end
section
namespace Go.RC
open Go Go.DL Go.Proofs
def bl1 (m : List Int) : Nat → V8
  | 0 => V0
  | k + 1 => cpr (bl1 m k) ((m.drop (64 * k)).take 64)
theorem bl1_pre (m r : List Int) : ∀ k, 64 * k ≤ m.length → bl1 (m ++ r) k = bl1 m k
  | 0, _ => rfl
  | k + 1, h => by
    unfold bl1
    rw [bl1_pre m r k (by omega), List.drop_append_of_le_length (by omega), List.take_append_of_le_length (by rw [List.length_drop]; omega)]
theorem bl12 (m : List Int) (hb : areB m) : ∀ k, 64 * k ≤ m.length → bl2 m k = bl1 m k
  | 0, _ => by unfold bl2 bl1; rfl
  | k + 1, h => by
    unfold bl2 bl1
    rw [bl12 m hb k (by omega)]
    exact cpr_eq _ _ (fun b hb' => hb b (List.mem_of_mem_drop (List.mem_of_mem_take hb'))) (by rw [List.length_take, List.length_drop]; omega)
structure Knows (x : Str) (m : List Int) : Prop where
  n : x.n = m.length
  blk : x.blk.length = 64
  s : x.s = bl1 m (m.length / 64)
  part : x.blk.take (m.length % 64) = m.drop (64 * (m.length / 64))
theorem Knows.put {x : Str} {m : List Int} (h : Knows x m) (b : Int) : Knows (x.put1 b) (m ++ [b]) := by
  obtain ⟨hn, hb, hs, hp⟩ := h
  have hlen : (m ++ [b]).length = m.length + 1 := by simp
  have hq : 64 * (m.length / 64) ≤ m.length := Nat.mul_div_le _ _
  have hpre := bl1_pre m [b] (m.length / 64) hq
  have ha : m.length % 64 < 64 := Nat.mod_lt _ (by decide)
  have hset : (x.blk.set (m.length % 64) b).take (m.length % 64 + 1) = x.blk.take (m.length % 64) ++ [b] := by
    rw [List.take_set, List.take_succ_eq_append_getElem (by omega), List.set_append, if_neg (by rw [List.length_take]; omega)]
    simp [List.length_take, hb, Nat.min_eq_left (Nat.le_of_lt ha)]
  have hdrop : (m ++ [b]).drop (64 * (m.length / 64)) = m.drop (64 * (m.length / 64)) ++ [b] := List.drop_append_of_le_length hq
  unfold Str.put1
  rw [hn]
  by_cases hf : m.length % 64 = 63
  · rw [if_pos hf]
    have h1 : (m.length + 1) / 64 = m.length / 64 + 1 := by omega
    have h2 : (m.length + 1) % 64 = 0 := by omega
    refine ⟨hlen.symm, by simpa using hb, ?_, ?_⟩
    · show cpr x.s (x.blk.set (m.length % 64) b) = bl1 (m ++ [b]) ((m ++ [b]).length / 64)
      rw [hlen, h1]
      show _ = cpr (bl1 (m ++ [b]) (m.length / 64)) (((m ++ [b]).drop (64 * (m.length / 64))).take 64)
      rw [hpre, ← hs, hdrop, ← hp, ← hset]
      congr 1
      rw [List.take_take, List.take_of_length_le (by rw [List.length_set]; omega)]
    · rw [hlen, h2, h1, List.take_zero, List.drop_eq_nil_of_le (by rw [hlen]; omega)]
  · rw [if_neg hf]
    have h1 : (m.length + 1) / 64 = m.length / 64 := by omega
    have h2 : (m.length + 1) % 64 = m.length % 64 + 1 := by omega
    refine ⟨hlen.symm, by simpa using hb, ?_, ?_⟩
    · show x.s = _
      rw [hlen, h1, hpre, hs]
    · show (x.blk.set (m.length % 64) b).take _ = _
      rw [hlen, h1, h2, hset, hp, hdrop]
theorem knows_add : ∀ (bs m : List Int) (x : Str), Knows x m → Knows (x.add bs) (m ++ bs)
  | [], m, x, h => by simpa [Str.add] using h
  | b :: bs, m, x, h => by
    have := knows_add bs (m ++ [b]) (x.put1 b) (h.put b)
    rw [List.append_assoc] at this
    exact this
theorem knows_0 (bs : List Int) : Knows (S0.add bs) bs := by
  have := knows_add bs [] S0 ⟨rfl, rfl, rfl, rfl⟩
  simpa using this
theorem H_eq (m : List Int) (hb : areB m) : H m = H2 m := by
  unfold H H2
  have h1 : (S0.add m).add (tail m.length) = S0.add (m ++ tail m.length) := by
    unfold Str.add; rw [List.foldl_append]
  have hall : areB (m ++ tail m.length) := fun b h => (List.mem_append.1 h).elim (hb b) (areB_tail _ b)
  rw [h1, (knows_0 (m ++ tail m.length)).s, bl12 _ hall _ (Nat.mul_div_le _ _)]
theorem H_len (m : List Int) : (H m).length = 16 := by simp [H, dig]
theorem H_areB (m : List Int) : areB (H m) := fun b hb => by
  have := List.mem_of_mem_take hb
  obtain ⟨i, _, rfl⟩ := List.mem_map.1 this
  exact u8_range _
end Go.RC
end
section
namespace Go.RC
open Go Go.DL Go.Proofs
set_option maxRecDepth 100000
noncomputable def c95 : DCode := (.seq (.region [oo 2 (.mov (.const (.bool false)))] []) (.seq (.region [mv 3 0,mv 4 0,oo 5 (.bin .neq (tm 3) (tm 4)),mv 2 5] []) .ret))
theorem l95 : (Tryd.f95.body.bind (lowC Tryd.prog 6 [])) = some c95 := by kernel_rfl
noncomputable def c81 : DCode := (.seq (.region [oo 4 (.mov (Kc 0))] []) (.seq (.region [mv 7 0,oo 8 (.call 95 [(tm 7)]),mv 5 8] []) (.seq (.region [mv 9 1,oo 10 (.call 95 [(tm 9)]),mv 6 10] []) (.seq (.seq (.region [mv 11 5] []) (.cond (tm 11) (.seq (.seq (.region [mv 12 6] []) (.cond (tm 12) (.seq (.region [oo 4 (.mov (Kc 0))] []) .ret) .skip)) (.seq (.region [oo 4 (.mov (.const (.int .i64 (-1))))] []) .ret)) .skip)) (.seq (.seq (.region [mv 13 6] []) (.cond (tm 13) (.seq (.region [oo 4 (.mov (Kc 1))] []) .ret) .skip)) (.seq (.seq (.region [mv 14 0,mv 15 1,oo 16 (.bin .lss (tm 14) (tm 15))] []) (.cond (tm 16) (.seq (.region [oo 4 (.mov (.const (.int .i64 (-1))))] []) .ret) .skip)) (.seq (.seq (.region [mv 17 0,mv 18 1,oo 19 (.bin .gtr (tm 17) (tm 18))] []) (.cond (tm 19) (.seq (.region [oo 4 (.mov (Kc 1))] []) .ret) .skip)) (.seq (.region [oo 4 (.mov (Kc 0))] []) .ret))))))))
theorem l81 : (Tryd.f81.body.bind (lowC Tryd.prog 20 [])) = some c81 := by kernel_rfl
noncomputable def c80 : DCode := (.seq (.region [oo 2 (.mov (Kc 0))] []) (.seq (.region [oo 3 (.mov (Kc 0))] []) (.seq (.seq (.region [mv 6 0,oo 7 (.len (tm 6)),oo 8 (.mov (Kc 0))] []) (.block 0 (.loop (.seq (.region [oo 9 (.bin .lss (tm 8) (tm 7))] []) (.seq (.cond (tm 9) .skip (.exit 0)) (.seq (.block 1 (.seq (.region [oo 10 (.idxL 1 (tm 6) (tm 8)),oo 11 (.load 1 false (tm 10)),mv 5 11] []) (.seq (.region [mv 12 5,mv 13 3,oo 14 (.bin .neq (tm 12) (tm 13))] []) (.cond (tm 14) (.seq (.region [mv 15 5,mv 2 15] []) .ret) .skip)))) (.region [oo 16 (.bin .add (tm 8) (Kc 1)),mv 8 16] []))))))) (.seq (.region [mv 17 3,mv 2 17] []) .ret))))
theorem l80 : (Tryd.f80.body.bind (lowC Tryd.prog 18 [])) = some c80 := by kernel_rfl
noncomputable def c79 : DCode := (.seq (.region [oo 4 (.mov (Kc 0))] []) (.seq (.seq (.region [mv 6 0,oo 7 (.len (tm 6)),oo 8 (.mov (Kc 0))] []) (.block 0 (.loop (.seq (.region [oo 9 (.bin .lss (tm 8) (tm 7))] []) (.seq (.cond (tm 9) .skip (.exit 0)) (.seq (.block 1 (.seq (.region [mv 10 8,mv 5 10] []) (.seq (.region [mv 11 1,mv 12 0,mv 13 5,oo 14 (.idxL 1 (tm 12) (tm 13)),oo 15 (.load 1 false (tm 14)),oo 16 (.callv (tm 11) [(tm 15)])] []) (.cond (tm 16) (.seq (.region [mv 17 5,mv 4 17] []) .ret) .skip)))) (.region [oo 18 (.bin .add (tm 8) (Kc 1)),mv 8 18] []))))))) (.seq (.region [oo 4 (.mov (.const (.int .i64 (-1))))] []) .ret)))
theorem l79 : (Tryd.f79.body.bind (lowC Tryd.prog 19 [])) = some c79 := by kernel_rfl
noncomputable def c51 : DCode := (.seq (.region [oo 4 (.mov (.const (.bool false)))] []) (.seq (.region [mv 5 0,mv 6 1,oo 7 (.call 79 [(tm 5), (tm 6)]),oo 8 (.bin .geq (tm 7) (Kc 0)),mv 4 8] []) .ret))
theorem l51 : (Tryd.f51.body.bind (lowC Tryd.prog 9 [])) = some c51 := by kernel_rfl
noncomputable def c47 : DCode := (.seq (.region [oo 4 (.mov (.const (.bool false)))] []) (.seq (.seq (.region [mv 6 0,oo 7 (.len (tm 6)),mv 8 1,oo 9 (.len (tm 8)),oo 10 (.bin .neq (tm 7) (tm 9))] []) (.cond (tm 10) (.seq (.region [oo 4 (.mov (.const (.bool false)))] []) .ret) .skip)) (.seq (.seq (.region [mv 11 0,oo 12 (.len (tm 11)),oo 13 (.mov (Kc 0))] []) (.block 0 (.loop (.seq (.region [oo 14 (.bin .lss (tm 13) (tm 12))] []) (.seq (.cond (tm 14) .skip (.exit 0)) (.seq (.block 1 (.seq (.region [mv 15 13,mv 5 15] []) (.seq (.region [mv 16 0,mv 17 5,oo 18 (.idxL 8 (tm 16) (tm 17)),oo 19 (.load 8 true (tm 18)),mv 20 1,mv 21 5,oo 22 (.idxL 8 (tm 20) (tm 21)),oo 23 (.load 8 true (tm 22)),oo 24 (.eqv true [.int .i64, .int .i64, .int .i64, .int .i64, .int .i64, .int .i64, .int .i64, .int .i64] (tm 19) (tm 23))] []) (.cond (tm 24) (.seq (.region [oo 4 (.mov (.const (.bool false)))] []) .ret) .skip)))) (.region [oo 25 (.bin .add (tm 13) (Kc 1)),mv 13 25] []))))))) (.seq (.region [oo 4 (.mov (.const (.bool true)))] []) .ret))))
theorem l47 : (Tryd.f47.body.bind (lowC Tryd.prog 26 [])) = some c47 := by kernel_rfl
noncomputable def c55 : DCode := (.seq (.region [oo 4 (.mov (Kc 0))] []) (.seq (.seq (.region [mv 6 0,oo 7 (.len (tm 6)),oo 8 (.mov (Kc 0))] []) (.block 0 (.loop (.seq (.region [oo 9 (.bin .lss (tm 8) (tm 7))] []) (.seq (.cond (tm 9) .skip (.exit 0)) (.seq (.block 1 (.seq (.region [mv 10 8,mv 5 10] []) (.seq (.region [mv 11 1,mv 12 0,mv 13 5,oo 14 (.idxL 8 (tm 12) (tm 13)),oo 15 (.load 8 true (tm 14)),oo 16 (.callv (tm 11) [(tm 15)])] []) (.cond (tm 16) (.seq (.region [mv 17 5,mv 4 17] []) .ret) .skip)))) (.region [oo 18 (.bin .add (tm 8) (Kc 1)),mv 8 18] []))))))) (.seq (.region [oo 4 (.mov (.const (.int .i64 (-1))))] []) .ret)))
theorem l55 : (Tryd.f55.body.bind (lowC Tryd.prog 19 [])) = some c55 := by kernel_rfl
noncomputable def c12 : DCode := (.seq (.region [oo 1 (.box 10 (tm 0)),oo 2 (.alloc [(Zi 0), (Zi 0), (Zi 0), (Zi 0)])] []) (.seq (.region [oo 6 (.sliceA 10 1 (tm 1) none none),oo 7 (.inl 44 [(tm 6)]),oo 8 (.prim .strB (tm 7)),⟨some 9, .buildS 9 1 1 [(.str ⟨#[]⟩)] [(0, (tm 8))], none, []⟩,oo 10 (.call 43 [(Kc 4), (tm 9)]),oo 3 (.alloc [(Ui 0), (Ui 0), (Ui 0), (Ui 0), (Ui 0), (Ui 0), (Ui 0), (Ui 0), (Ui 0), (Ui 0), (Ui 0), (Ui 0), (Ui 0), (Ui 0), (Ui 0), (Ui 0)]),o0 (.store 16 (tm 3) (tm 10))] []) (.seq (.region [oo 4 (.alloc [(Zi 0), (Zi 0), (Zi 0), (Zi 0)])] []) (.seq (.seq (.region [oo 11 (.mov (Kc 0))] []) (.block 0 (.loop (.seq (.region [oo 12 (.bin .lss (tm 11) (Kc 16))] []) (.seq (.cond (tm 12) .skip (.exit 0)) (.seq (.block 1 (.seq (.region [mv 13 11,mv 5 13] []) (.region [mv 14 5,oo 15 (.bin .quo (tm 14) (Kc 4)),mv 16 5,oo 17 (.bin .quo (tm 16) (Kc 4)),oo 18 (.idxA 4 1 (tm 4) (tm 17)),oo 19 (.load 1 false (tm 18)),oo 20 (.bin .shl (tm 19) (.const (.int .u64 8))),mv 21 5,oo 22 (.idxA 16 1 (tm 3) (tm 21)),oo 23 (.load 1 false (tm 22)),oo 24 (.conv .i64 (tm 23)),oo 25 (.bin .or (tm 20) (tm 24)),oo 26 (.idxA 4 1 (tm 4) (tm 15)),o0 (.store 1 (tm 26) (tm 25))] []))) (.region [oo 27 (.bin .add (tm 11) (Kc 1)),mv 11 27] []))))))) (.seq (.region [oo 28 (.load 4 true (tm 4)),o0 (.store 4 (tm 2) (tm 28))] []) .ret)))))
theorem l12 : (Tryd.f12.body.bind (lowC Tryd.prog 29 [44])) = some c12 := by kernel_rfl
noncomputable def c14 : DCode := (.seq (.region [oo 2 (.box 4 (tm 0)),oo 3 (.box 4 (tm 1)),oo 4 (.alloc [(Zi 0), (Zi 0), (Zi 0), (Zi 0)])] []) (.seq (.seq (.region [oo 6 (.mov (Kc 0))] []) (.block 0 (.loop (.seq (.region [oo 7 (.bin .lss (tm 6) (Kc 4))] []) (.seq (.cond (tm 7) .skip (.exit 0)) (.seq (.block 1 (.seq (.region [mv 8 6,mv 5 8] []) (.region [mv 9 5,mv 10 5,oo 11 (.idxA 4 1 (tm 2) (tm 10)),oo 12 (.load 1 false (tm 11)),mv 13 5,oo 14 (.idxA 4 1 (tm 3) (tm 13)),oo 15 (.load 1 false (tm 14)),oo 16 (.bin .add (tm 12) (tm 15)),oo 17 (.bin .and (tm 16) (Kc 4294967295)),oo 18 (.idxA 4 1 (tm 2) (tm 9)),o0 (.store 1 (tm 18) (tm 17))] []))) (.region [oo 19 (.bin .add (tm 6) (Kc 1)),mv 6 19] []))))))) (.seq (.region [oo 20 (.load 4 true (tm 2)),o0 (.store 4 (tm 4) (tm 20))] []) .ret)))
theorem l14 : (Tryd.f14.body.bind (lowC Tryd.prog 21 [])) = some c14 := by kernel_rfl
noncomputable def c16 : DCode := (.seq (.region [oo 2 (.box 4 (tm 0)),oo 3 (.box 4 (tm 1)),oo 4 (.alloc [(Zi 0), (Zi 0), (Zi 0), (Zi 0)])] []) (.seq (.seq (.region [oo 6 (.mov (Kc 0))] []) (.block 0 (.loop (.seq (.region [oo 7 (.bin .lss (tm 6) (Kc 4))] []) (.seq (.cond (tm 7) .skip (.exit 0)) (.seq (.block 1 (.seq (.region [mv 8 6,mv 5 8] []) (.region [mv 9 5,mv 10 5,oo 11 (.idxA 4 1 (tm 2) (tm 10)),oo 12 (.load 1 false (tm 11)),mv 13 5,oo 14 (.idxA 4 1 (tm 3) (tm 13)),oo 15 (.load 1 false (tm 14)),oo 16 (.bin .sub (tm 12) (tm 15)),oo 17 (.bin .and (tm 16) (Kc 4294967295)),oo 18 (.idxA 4 1 (tm 2) (tm 9)),o0 (.store 1 (tm 18) (tm 17))] []))) (.region [oo 19 (.bin .add (tm 6) (Kc 1)),mv 6 19] []))))))) (.seq (.region [oo 20 (.load 4 true (tm 2)),o0 (.store 4 (tm 4) (tm 20))] []) .ret)))
theorem l16 : (Tryd.f16.body.bind (lowC Tryd.prog 21 [])) = some c16 := by kernel_rfl
noncomputable def c19 : DCode := (.seq (.region [oo 2 (.box 8 (tm 0)),oo 3 (.box 8 (tm 1)),oo 4 (.mov (Kc 0)),oo 5 (.mov (Kc 0))] []) (.seq (.region [oo 7 (.offA 3 (tm 2)),oo 8 (.load 1 false (tm 7)),oo 9 (.offA 3 (tm 3)),oo 10 (.load 1 false (tm 9)),oo 11 (.bin .sub (tm 8) (tm 10)),mv 6 11] []) (.seq (.seq (.region [mv 12 6,oo 13 (.bin .lss (tm 12) (Kc 0)),mv 14 13,mF 15 6 14,oF 16 14 (.bin .eql (tm 15) (Kc 0)),mF 17 16 14,oT 18 17 (.offA 4 (tm 2)),oT 19 17 (.load 4 true (tm 18)),oT 20 17 (.offA 4 (tm 3)),oT 21 17 (.load 4 true (tm 20)),oT 22 17 (.eqv true [.int .i64, .int .i64, .int .i64, .int .i64] (tm 19) (tm 21)),oF 23 14 (.pick (tm 17) (tm 22) (.const (.bool false))),oo 24 (.pick (tm 14) (.const (.bool true)) (tm 23))] []) (.cond (tm 24) (.seq (.region [oo 4 (.mov (Kc 0)),oo 5 (.mov (Kc 26))] []) .ret) .skip)) (.seq (.region [mv 25 6,mv 4 25,oo 5 (.mov (Kc 0))] []) .ret))))
theorem l19 : (Tryd.f19.body.bind (lowC Tryd.prog 26 [])) = some c19 := by kernel_rfl
noncomputable def c49 : DCode := (.seq (.region [oo 1 (.box 8 (tm 0)),oo 2 (.alloc [(Zi 0), (Zi 0), (Zi 0)])] []) (.seq (.region [oo 3 (.offA 0 (tm 1)),oo 4 (.load 1 false (tm 3)),oo 5 (.offA 1 (tm 1)),oo 6 (.load 1 false (tm 5)),oo 7 (.offA 2 (tm 1)),oo 8 (.load 1 false (tm 7)),oo 9 (.build [(Zi 0), (Zi 0), (Zi 0)] [(0, 1, (tm 4)), (1, 1, (tm 6)), (2, 1, (tm 8))]),o0 (.store 3 (tm 2) (tm 9))] []) .ret))
theorem l49 : (Tryd.f49.body.bind (lowC Tryd.prog 10 [])) = some c49 := by kernel_rfl
noncomputable def c50 : DCode := (.seq (.region [oo 1 (.box 3 (tm 0)),oo 2 (.mov (.const (.bool false)))] []) (.seq (.region [oo 3 (.offA 0 (tm 1)),oo 4 (.load 1 false (tm 3)),oo 5 (.bin .geq (tm 4) (Kc 1)),mv 6 5,oT 7 6 (.offA 0 (tm 1)),oT 8 6 (.load 1 false (tm 7)),oT 9 6 (.bin .leq (tm 8) (Kc 2)),oo 10 (.pick (tm 6) (tm 9) (.const (.bool false))),mv 11 10,oT 12 11 (.offA 1 (tm 1)),oT 13 11 (.load 1 false (tm 12)),oT 14 11 (.bin .geq (tm 13) (Kc 0)),oo 15 (.pick (tm 11) (tm 14) (.const (.bool false))),mv 16 15,oT 17 16 (.offA 1 (tm 1)),oT 18 16 (.load 1 false (tm 17)),oT 19 16 (.bin .leq (tm 18) (Kc 65535)),oo 20 (.pick (tm 16) (tm 19) (.const (.bool false))),mv 21 20,oT 22 21 (.offA 2 (tm 1)),oT 23 21 (.load 1 false (tm 22)),oT 24 21 (.bin .geq (tm 23) (Kc 0)),oo 25 (.pick (tm 21) (tm 24) (.const (.bool false))),mv 26 25,oT 27 26 (.offA 2 (tm 1)),oT 28 26 (.load 1 false (tm 27)),oT 29 26 (.bin .leq (tm 28) (Kc 1073741824)),oo 30 (.pick (tm 26) (tm 29) (.const (.bool false))),mv 2 30] []) .ret))
theorem l50 : (Tryd.f50.body.bind (lowC Tryd.prog 31 [])) = some c50 := by kernel_rfl
noncomputable def c52 : DCode := (.seq (.region [oo 2 (.box 3 (tm 0)),oo 3 (.box 3 (tm 1)),oo 4 (.mov (Kc 0))] []) (.seq (.region [oo 5 (.offA 0 (tm 2)),oo 6 (.load 1 false (tm 5)),oo 7 (.offA 0 (tm 3)),oo 8 (.load 1 false (tm 7)),oo 9 (.call 81 [(tm 6), (tm 8)]),oo 10 (.offA 1 (tm 2)),oo 11 (.load 1 false (tm 10)),oo 12 (.offA 1 (tm 3)),oo 13 (.load 1 false (tm 12)),oo 14 (.call 81 [(tm 11), (tm 13)]),oo 15 (.offA 2 (tm 2)),oo 16 (.load 1 false (tm 15)),oo 17 (.offA 2 (tm 3)),oo 18 (.load 1 false (tm 17)),oo 19 (.call 81 [(tm 16), (tm 18)]),oo 20 (.buildT 1 3 [(Zi 0)] [(0, (tm 9)), (1, (tm 14)), (2, (tm 19))]),oo 21 (.call 80 [(tm 20)]),mv 4 21] []) .ret))
theorem l52 : (Tryd.f52.body.bind (lowC Tryd.prog 22 [])) = some c52 := by kernel_rfl
noncomputable def c28 : DCode := (.seq (.region [oo 1 (.box 19 (tm 0)),oo 2 (.mov (Kc 0))] []) (.seq (.seq (.region [oo 6 (.offA 2 (tm 1)),oo 7 (.load 1 false (tm 6)),oo 8 (.len (tm 7)),oo 9 (.bin .gtr (tm 8) (Kc 1000))] []) (.cond (tm 9) (.seq (.region [oo 2 (.mov (Kc 2))] []) .ret) .skip)) (.seq (.seq (.region [oo 10 (.offA 0 (tm 1)),oo 11 (.load 1 false (tm 10)),oo 12 (.bin .lss (tm 11) (Kc 0)),mv 13 12,oF 14 13 (.offA 0 (tm 1)),oF 15 13 (.load 1 false (tm 14)),oF 16 13 (.bin .geq (tm 15) (Kc 200)),oo 17 (.pick (tm 13) (.const (.bool true)) (tm 16)),mv 18 17,oF 19 18 (.offA 1 (tm 1)),oF 20 18 (.load 1 false (tm 19)),oF 21 18 (.bin .lss (tm 20) (Kc 0)),oo 22 (.pick (tm 18) (.const (.bool true)) (tm 21)),mv 23 22,oF 24 23 (.offA 1 (tm 1)),oF 25 23 (.load 1 false (tm 24)),oF 26 23 (.bin .gtr (tm 25) (Kc 1048576)),oo 27 (.pick (tm 23) (.const (.bool true)) (tm 26))] []) (.cond (tm 27) (.seq (.region [oo 2 (.mov (Kc 1))] []) .ret) .skip)) (.seq (.region [oo 3 (.mov (.const (.clos 48 [])))] []) (.seq (.seq (.region [oo 28 (.offA 2 (tm 1)),oo 29 (.load 1 false (tm 28)),oo 30 (.len (tm 29)),oo 31 (.mov (Kc 0))] []) (.block 0 (.loop (.seq (.region [oo 32 (.bin .lss (tm 31) (tm 30))] []) (.seq (.cond (tm 32) .skip (.exit 0)) (.seq (.block 1 (.seq (.region [mv 33 31,oo 34 (.idxL 8 (tm 29) (tm 31)),oo 35 (.load 8 true (tm 34)),oo 5 (.alloc [(Zi 0), (Zi 0), (Zi 0), (Zi 0), (Zi 0), (Zi 0), (Zi 0), (Zi 0)]),mv 4 33,o0 (.store 8 (tm 5) (tm 35))] []) (.seq (.region [oo 36 (.load 8 true (tm 5)),oo 37 (.call 49 [(tm 36)]),oo 38 (.call 50 [(tm 37)]),oo 39 (.not (tm 38)),mv 40 39,oF 41 40 (.offA 3 (tm 5)),oF 42 40 (.load 1 false (tm 41)),oF 43 40 (.bin .lss (tm 42) (Kc 1)),oo 44 (.pick (tm 40) (.const (.bool true)) (tm 43)),mv 45 44,oF 46 45 (.offA 3 (tm 5)),oF 47 45 (.load 1 false (tm 46)),oF 48 45 (.bin .gtr (tm 47) (Kc 1073741824)),oo 49 (.pick (tm 45) (.const (.bool true)) (tm 48)),mv 50 49,oF 51 50 (.offA 4 (tm 5)),oF 52 50 (.sliceA 4 1 (tm 51) none none),mF 53 3 50,oF 54 50 (.call 51 [(tm 52), (tm 53)]),oo 55 (.pick (tm 50) (.const (.bool true)) (tm 54)),mv 56 55,mF 57 4 56,oF 58 56 (.bin .gtr (tm 57) (Kc 0)),mF 59 58 56,oT 60 59 (.offA 2 (tm 1)),oT 61 59 (.load 1 false (tm 60)),mT 62 4 59,oT 63 59 (.bin .sub (tm 62) (Kc 1)),oT 64 59 (.idxL 8 (tm 61) (tm 63)),oT 65 59 (.load 8 true (tm 64)),oT 66 59 (.call 49 [(tm 65)]),oT 67 59 (.load 8 true (tm 5)),oT 68 59 (.call 49 [(tm 67)]),oT 69 59 (.call 52 [(tm 66), (tm 68)]),oT 70 59 (.bin .geq (tm 69) (Kc 0)),oF 71 56 (.pick (tm 59) (tm 70) (.const (.bool false))),oo 72 (.pick (tm 56) (.const (.bool true)) (tm 71))] []) (.cond (tm 72) (.seq (.region [oo 2 (.mov (Kc 1))] []) .ret) .skip)))) (.region [oo 73 (.bin .add (tm 31) (Kc 1)),mv 31 73] []))))))) (.seq (.region [oo 2 (.mov (Kc 0))] []) .ret))))))
theorem l28 : (Tryd.f28.body.bind (lowC Tryd.prog 74 [])) = some c28 := by kernel_rfl
noncomputable def c48 : DCode := (.seq (.region [oo 2 (.mov (.const (.bool false)))] []) (.seq (.region [mv 3 0,oo 4 (.bin .lss (tm 3) (Kc 0)),mv 5 4,mF 6 0 5,oF 7 5 (.bin .gtr (tm 6) (Kc 4294967295)),oo 8 (.pick (tm 5) (.const (.bool true)) (tm 7)),mv 2 8] []) .ret))
theorem l48 : (Tryd.f48.body.bind (lowC Tryd.prog 9 [])) = some c48 := by kernel_rfl
noncomputable def c30 : DCode := (.seq (.region [oo 4 (.box 19 (tm 0)),oo 5 (.box 1 (tm 1)),oo 6 (.box 1 (tm 2)),oo 7 (.box 1 (tm 3)),oo 8 (.alloc [(Zi 0), (Zi 0), (Zi 0), (Zi 0), (Zi 0), (Zi 0), (Zi 0), (Zi 0)]),oo 9 (.mov (.const (.bool false)))] []) (.seq (.region [oo 11 (.offA 2 (tm 4)),oo 12 (.load 1 false (tm 11)),oo 13 (.mkfn 56 [(tm 5), (tm 6), (tm 7)]),oo 14 (.call 55 [(tm 12), (tm 13)]),mv 10 14] []) (.seq (.seq (.region [mv 15 10,oo 16 (.bin .lss (tm 15) (Kc 0))] []) (.cond (tm 16) (.seq (.region [oo 17 (.build [(Zi 0), (Zi 0), (Zi 0), (Zi 0), (Zi 0), (Zi 0), (Zi 0), (Zi 0)] []),o0 (.store 8 (tm 8) (tm 17)),oo 9 (.mov (.const (.bool false)))] []) .ret) .skip)) (.seq (.region [oo 18 (.offA 2 (tm 4)),oo 19 (.load 1 false (tm 18)),mv 20 10,oo 21 (.idxL 8 (tm 19) (tm 20)),oo 22 (.load 8 true (tm 21)),o0 (.store 8 (tm 8) (tm 22)),oo 9 (.mov (.const (.bool true)))] []) .ret))))
theorem l30 : (Tryd.f30.body.bind (lowC Tryd.prog 23 [])) = some c30 := by kernel_rfl
noncomputable def c56 : DCode := (.seq (.region [oo 4 (.box 8 (tm 0)),oo 5 (.mov (.const (.bool false)))] []) (.seq (.region [oo 6 (.load 8 true (tm 4)),oo 7 (.call 49 [(tm 6)]),oo 8 (.load 1 false (tm 1)),oo 9 (.load 1 false (tm 2)),oo 10 (.load 1 false (tm 3)),oo 11 (.build [(Zi 0), (Zi 0), (Zi 0)] [(0, 1, (tm 8)), (1, 1, (tm 9)), (2, 1, (tm 10))]),oo 12 (.eqv false [.int .i64, .int .i64, .int .i64] (tm 7) (tm 11)),mv 5 12] []) .ret))
theorem l56 : (Tryd.f56.body.bind (lowC Tryd.prog 13 [])) = some c56 := by kernel_rfl
noncomputable def c23 : DCode := (.seq (.region [oo 2 (.box 19 (tm 0)),oo 3 (.box 19 (tm 1)),oo 4 (.mov (.const (.bool false)))] []) (.seq (.region [oo 5 (.offA 0 (tm 2)),oo 6 (.load 1 false (tm 5)),oo 7 (.offA 0 (tm 3)),oo 8 (.load 1 false (tm 7)),oo 9 (.bin .eql (tm 6) (tm 8)),mv 10 9,oT 11 10 (.offA 1 (tm 2)),oT 12 10 (.load 1 false (tm 11)),oT 13 10 (.offA 1 (tm 3)),oT 14 10 (.load 1 false (tm 13)),oT 15 10 (.bin .eql (tm 12) (tm 14)),oo 16 (.pick (tm 10) (tm 15) (.const (.bool false))),mv 17 16,oT 18 17 (.offA 3 (tm 2)),oT 19 17 (.load 16 true (tm 18)),oT 20 17 (.offA 3 (tm 3)),oT 21 17 (.load 16 true (tm 20)),oT 22 17 (.eqv false [.int .u8, .int .u8, .int .u8, .int .u8, .int .u8, .int .u8, .int .u8, .int .u8, .int .u8, .int .u8, .int .u8, .int .u8, .int .u8, .int .u8, .int .u8, .int .u8] (tm 19) (tm 21)),oo 23 (.pick (tm 17) (tm 22) (.const (.bool false))),mv 24 23,oT 25 24 (.offA 2 (tm 2)),oT 26 24 (.load 1 false (tm 25)),oT 27 24 (.offA 2 (tm 3)),oT 28 24 (.load 1 false (tm 27)),oT 29 24 (.call 47 [(tm 26), (tm 28)]),oo 30 (.pick (tm 24) (tm 29) (.const (.bool false))),mv 4 30] []) .ret))
theorem l23 : (Tryd.f23.body.bind (lowC Tryd.prog 31 [])) = some c23 := by kernel_rfl
noncomputable def c22 : DCode := (.seq (.region [oo 4 (.mov (Kc 0)),oo 5 (.mov (Kc 0))] []) (.seq (.region [oo 6 (.alloc [(Ui 0), (Ui 0), (Ui 0), (Ui 0), (Ui 0), (Ui 0), (Ui 0), (Ui 0), (Ui 0), (Ui 0), (Ui 0), (Ui 0), (Ui 0), (Ui 0), (Ui 0), (Ui 0)])] []) (.seq (.seq (.region [mv 10 1,oo 11 (.len (tm 10)),oo 12 (.mov (Kc 0))] []) (.block 0 (.loop (.seq (.region [oo 13 (.bin .lss (tm 12) (tm 11))] []) (.seq (.cond (tm 13) .skip (.exit 0)) (.seq (.block 1 (.seq (.region [mv 14 12,oo 15 (.idxL 19 (tm 10) (tm 12)),oo 16 (.load 19 true (tm 15)),oo 8 (.alloc [(Zi 0), (Zi 0), .nil, (Ui 0), (Ui 0), (Ui 0), (Ui 0), (Ui 0), (Ui 0), (Ui 0), (Ui 0), (Ui 0), (Ui 0), (Ui 0), (Ui 0), (Ui 0), (Ui 0), (Ui 0), (Ui 0)]),mv 7 14,o0 (.store 19 (tm 8) (tm 16))] []) (.seq (.region [oo 17 (.load 19 true (tm 8)),oo 18 (.call 28 [(tm 17)]),mv 9 18] []) (.seq (.block 2 (.seq (.region [mv 20 9,oo 21 (.bin .neq (tm 20) (Kc 0)),mv 19 21] []) (.cond (tm 19) .skip (.seq (.region [oo 23 (.offA 0 (tm 8)),oo 24 (.load 1 false (tm 23)),mv 25 0,oo 26 (.bin .neq (tm 24) (tm 25)),mv 22 26] []) (.cond (tm 22) (.region [oo 9 (.mov (Kc 1))] []) (.seq (.region [oo 28 (.offA 1 (tm 8)),oo 29 (.load 1 false (tm 28)),mv 30 7,oo 31 (.bin .neq (tm 29) (tm 30)),mv 27 31] []) (.cond (tm 27) (.region [oo 9 (.mov (Kc 25))] []) (.seq (.region [oo 33 (.offA 3 (tm 8)),oo 34 (.load 16 true (tm 33)),oo 35 (.load 16 true (tm 6)),oo 36 (.eqv true [.int .u8, .int .u8, .int .u8, .int .u8, .int .u8, .int .u8, .int .u8, .int .u8, .int .u8, .int .u8, .int .u8, .int .u8, .int .u8, .int .u8, .int .u8, .int .u8] (tm 34) (tm 35)),mv 32 36] []) (.cond (tm 32) (.region [oo 9 (.mov (Kc 7))] []) .skip))))))))) (.seq (.seq (.region [mv 37 9,oo 38 (.bin .neq (tm 37) (Kc 0))] []) (.cond (tm 38) (.seq (.region [mv 39 7,mv 40 9,mv 4 39,mv 5 40] []) .ret) .skip)) (.region [oo 41 (.load 19 true (tm 8)),oo 42 (.call 24 [(tm 41)]),o0 (.store 16 (tm 6) (tm 42))] [])))))) (.region [oo 43 (.bin .add (tm 12) (Kc 1)),mv 12 43] []))))))) (.seq (.region [mv 44 1,oo 45 (.len (tm 44)),mv 4 45,oo 5 (.mov (Kc 0))] []) .ret))))
theorem l22 : (Tryd.f22.body.bind (lowC Tryd.prog 46 [])) = some c22 := by kernel_rfl
noncomputable def c32 : DCode := (.seq (.region [oo 8 (.alloc [(Zi 0), (Zi 0), (Zi 0), (Zi 0), (Zi 0), (Zi 0), (Zi 0), (Zi 0)])] []) (.seq (.region [mv 14 1,mv 15 2,mv 16 3,oo 17 (.build [(Zi 0), (Zi 0), (Zi 0), (Zi 0), (Zi 0), (Zi 0), (Zi 0), (Zi 0)] [(0, 1, (tm 14)), (1, 1, (tm 15)), (2, 1, (tm 16))]),oo 9 (.alloc [(Zi 0), (Zi 0), (Zi 0), (Zi 0), (Zi 0), (Zi 0), (Zi 0), (Zi 0)]),o0 (.store 8 (tm 9) (tm 17))] []) (.seq (.seq (.region [mv 18 0,oo 19 (.len (tm 18)),oo 20 (.mov (Kc 0))] []) (.block 0 (.loop (.seq (.region [oo 21 (.bin .lss (tm 20) (tm 19))] []) (.seq (.cond (tm 21) .skip (.exit 0)) (.seq (.block 1 (.seq (.region [oo 22 (.idxL 19 (tm 18) (tm 20)),oo 23 (.load 19 true (tm 22)),oo 11 (.alloc [(Zi 0), (Zi 0), .nil, (Ui 0), (Ui 0), (Ui 0), (Ui 0), (Ui 0), (Ui 0), (Ui 0), (Ui 0), (Ui 0), (Ui 0), (Ui 0), (Ui 0), (Ui 0), (Ui 0), (Ui 0), (Ui 0)]),o0 (.store 19 (tm 11) (tm 23))] []) (.seq (.region [oo 25 (.load 19 true (tm 11)),mv 26 1,mv 27 2,mv 28 3,oo 29 (.call 30 [(tm 25), (tm 26), (tm 27), (tm 28)]),mv 24 29,oo 30 (.ext (tm 24) 0),oo 31 (.ext (tm 24) 1),oo 12 (.alloc [(Zi 0), (Zi 0), (Zi 0), (Zi 0), (Zi 0), (Zi 0), (Zi 0), (Zi 0)]),o0 (.store 8 (tm 12) (tm 30)),mv 13 31] []) (.seq (.region [mv 32 13] []) (.cond (tm 32) (.seq (.region [oo 33 (.offA 3 (tm 9)),oo 34 (.load 1 false (tm 33)),oo 35 (.offA 3 (tm 12)),oo 36 (.load 1 false (tm 35)),oo 37 (.bin .add (tm 34) (tm 36)),oo 38 (.offA 3 (tm 9)),o0 (.store 1 (tm 38) (tm 37))] []) (.region [oo 39 (.offA 4 (tm 9)),oo 40 (.load 4 true (tm 39)),oo 41 (.offA 4 (tm 12)),oo 42 (.load 4 true (tm 41)),oo 43 (.call 14 [(tm 40), (tm 42)]),oo 44 (.offA 4 (tm 9)),o0 (.store 4 (tm 44) (tm 43))] [])) .skip))))) (.region [oo 45 (.bin .add (tm 20) (Kc 1)),mv 20 45] []))))))) (.seq (.region [oo 46 (.load 8 true (tm 9)),o0 (.store 8 (tm 8) (tm 46))] []) .ret))))
theorem l32 : (Tryd.f32.body.bind (lowC Tryd.prog 47 [])) = some c32 := by kernel_rfl
noncomputable def c34 : DCode := (.seq (.region [oo 1 (.box 19 (tm 0)),oo 2 (.mov (.const .nil))] []) (.seq (.region [oo 6 (.offA 0 (tm 1)),oo 7 (.load 1 false (tm 6)),oo 8 (.offA 1 (tm 1)),oo 9 (.load 1 false (tm 8)),oo 10 (.buildT 1 2 [(Zi 0)] [(0, (tm 7)), (1, (tm 9))]),oo 11 (.fcall 44 [(tm 10)]),oo 12 (.offA 2 (tm 1)),oo 13 (.load 1 false (tm 12)),oo 14 (.len (tm 13)),oo 15 (.call 58 [(tm 14)]),oo 16 (.append 61 5 1 1 (tm 11) (tm 15)),mv 3 16] []) (.seq (.seq (.region [oo 17 (.offA 2 (tm 1)),oo 18 (.load 1 false (tm 17)),oo 19 (.len (tm 18)),oo 20 (.mov (Kc 0))] []) (.block 0 (.loop (.seq (.region [oo 21 (.bin .lss (tm 20) (tm 19))] []) (.seq (.cond (tm 21) .skip (.exit 0)) (.seq (.block 1 (.seq (.region [oo 22 (.idxL 8 (tm 18) (tm 20)),oo 23 (.load 8 true (tm 22)),oo 5 (.alloc [(Zi 0), (Zi 0), (Zi 0), (Zi 0), (Zi 0), (Zi 0), (Zi 0), (Zi 0)]),o0 (.store 8 (tm 5) (tm 23))] []) (.region [mv 24 3,oo 25 (.offA 0 (tm 5)),oo 26 (.load 1 false (tm 25)),oo 27 (.offA 1 (tm 5)),oo 28 (.load 1 false (tm 27)),oo 29 (.offA 2 (tm 5)),oo 30 (.load 1 false (tm 29)),oo 31 (.offA 3 (tm 5)),oo 32 (.load 1 false (tm 31)),oo 33 (.buildF 1 4 [(Zi 0)] [(0, (tm 26)), (1, (tm 28)), (2, (tm 30)), (3, (tm 32))]),oo 34 (.offA 4 (tm 5)),oo 35 (.sliceA 4 1 (tm 34) none none),oo 36 (.appT 1 8 (tm 33) (tm 35)),oo 37 (.call 44 [(tm 36)]),oo 38 (.append 61 5 1 1 (tm 24) (tm 37)),mv 3 38] []))) (.region [oo 39 (.bin .add (tm 20) (Kc 1)),mv 20 39] []))))))) (.seq (.region [mv 40 3,oo 41 (.offA 3 (tm 1)),oo 42 (.load 16 true (tm 41)),oo 43 (.buildS 49 16 1 [(Ui 0), (Ui 0), (Ui 0), (Ui 0), (Ui 0), (Ui 0), (Ui 0), (Ui 0), (Ui 0), (Ui 0), (Ui 0), (Ui 0), (Ui 0), (Ui 0), (Ui 0), (Ui 0)] [(0, (tm 42))]),oo 44 (.call 59 [(tm 43)]),oo 45 (.append 61 5 1 1 (tm 40) (tm 44)),mv 2 45] []) .ret))))
theorem l34 : (Tryd.f34.body.bind (lowC Tryd.prog 46 [8000033, 3000011])) = some c34 := by kernel_rfl
noncomputable def c24 : DCode := (.seq (.region [oo 1 (.box 19 (tm 0)),oo 2 (.alloc [(Ui 0), (Ui 0), (Ui 0), (Ui 0), (Ui 0), (Ui 0), (Ui 0), (Ui 0), (Ui 0), (Ui 0), (Ui 0), (Ui 0), (Ui 0), (Ui 0), (Ui 0), (Ui 0)])] []) (.seq (.region [oo 3 (.load 19 true (tm 1)),oo 4 (.call 34 [(tm 3)]),oo 5 (.prim .strB (tm 4)),⟨some 6, .buildS 9 1 1 [(.str ⟨#[]⟩)] [(0, (tm 5))], none, []⟩,oo 7 (.call 43 [(Kc 5), (tm 6)]),o0 (.store 16 (tm 2) (tm 7))] []) .ret))
theorem l24 : (Tryd.f24.body.bind (lowC Tryd.prog 8 [])) = some c24 := by kernel_rfl
noncomputable def c40 : DCode := (.seq (.region [oo 2 (.mov (.const .nilptr)),oo 3 (.mov (Kc 0))] []) (.seq (.seq (.region [mv 4 0,oo 5 (.bin .lss (tm 4) (Kc 0)),mv 6 5,mF 7 0 6,oF 8 6 (.bin .geq (tm 7) (Kc 200)),oo 9 (.pick (tm 6) (.const (.bool true)) (tm 8))] []) (.cond (tm 9) (.seq (.region [oo 2 (.mov (.const .nilptr)),oo 3 (.mov (Kc 1))] []) .ret) .skip)) (.seq (.region [mv 10 0,oo 11 (.mkmap true [.int .i64, .int .i64, .int .i64]),oo 12 (.build [(Zi 0), (Zi 0), .nilmap, (Ui 0), (Ui 0), (Ui 0), (Ui 0), (Ui 0), (Ui 0), (Ui 0), (Ui 0), (Ui 0), (Ui 0), (Ui 0), (Ui 0), (Ui 0), (Ui 0), (Ui 0), (Ui 0)] [(0, 1, (tm 10)), (2, 1, (tm 11))]),oo 13 (.box 19 (tm 12)),mv 2 13,oo 3 (.mov (Kc 0))] []) .ret)))
theorem l40 : (Tryd.f40.body.bind (lowC Tryd.prog 14 [])) = some c40 := by kernel_rfl
noncomputable def c41 : DCode := (.seq (.region [oo 9 (.box 10 (tm 4)),oo 10 (.mov (Kc 0))] []) (.seq (.region [mv 14 1,mv 15 2,mv 16 3,oo 17 (.build [(Zi 0), (Zi 0), (Zi 0)] [(0, 1, (tm 14)), (1, 1, (tm 15)), (2, 1, (tm 16))]),oo 11 (.alloc [(Zi 0), (Zi 0), (Zi 0)]),o0 (.store 3 (tm 11) (tm 17))] []) (.seq (.seq (.region [oo 18 (.load 3 true (tm 11)),oo 19 (.call 50 [(tm 18)]),oo 20 (.not (tm 19)),mv 21 20,oF 22 21 (.sliceA 10 1 (tm 9) none none),oF 23 21 (.call 51 [(tm 22), (.const (.clos 69 []))]),oo 24 (.pick (tm 21) (.const (.bool true)) (tm 23))] []) (.cond (tm 24) (.seq (.region [oo 10 (.mov (Kc 1))] []) .ret) .skip)) (.seq (.region [mv 26 0,oo 27 (.nilck (tm 26)),oo 28 (.offA 2 (tm 27)),oo 29 (.load 1 false (tm 28)),oo 30 (.load 3 true (tm 11)),oo 31 (.mlook true [.int .i64, .int .i64, .int .i64] (.agg [(Zi 0), (Zi 0), (Zi 0), (Zi 0), (Zi 0)]) true (tm 29) (tm 30)),mv 25 31,oo 32 (.ext (tm 25) 0),oo 33 (.ext (tm 25) 1),oo 12 (.alloc [(Zi 0), (Zi 0), (Zi 0), (Zi 0), (Zi 0)]),o0 (.store 5 (tm 12) (tm 32)),mv 13 33] []) (.seq (.seq (.region [mv 34 13,oo 35 (.not (tm 34)),mv 36 35,mT 37 0 36,oT 38 36 (.nilck (tm 37)),oT 39 36 (.offA 2 (tm 38)),oT 40 36 (.load 1 false (tm 39)),oT 41 36 (.mlen (tm 40)),oT 42 36 (.bin .geq (tm 41) (Kc 1000)),oo 43 (.pick (tm 36) (tm 42) (.const (.bool false))),mv 44 43,oF 45 44 (.offA 0 (tm 12)),oF 46 44 (.load 1 false (tm 45)),oF 47 44 (.bin .geq (tm 46) (Kc 1073741824)),oo 48 (.pick (tm 44) (.const (.bool true)) (tm 47))] []) (.cond (tm 48) (.seq (.region [oo 10 (.mov (Kc 2))] []) .ret) .skip)) (.seq (.region [mv 49 0,oo 50 (.nilck (tm 49)),oo 51 (.offA 2 (tm 50)),oo 52 (.load 1 false (tm 51)),oo 53 (.load 3 true (tm 11)),oo 54 (.offA 0 (tm 12)),oo 55 (.load 1 false (tm 54)),oo 56 (.bin .add (tm 55) (Kc 1)),oo 57 (.offA 1 (tm 12)),oo 58 (.load 4 true (tm 57)),oo 59 (.load 10 true (tm 9)),oo 60 (.call 12 [(tm 59)]),oo 61 (.call 14 [(tm 58), (tm 60)]),oo 62 (.build [(Zi 0), (Zi 0), (Zi 0), (Zi 0), (Zi 0)] [(0, 1, (tm 56)), (1, 4, (tm 61))]),o0 (.mput true [.int .i64, .int .i64, .int .i64] (tm 52) (tm 53) (tm 62))] []) (.seq (.region [oo 10 (.mov (Kc 0))] []) .ret)))))))
theorem l41 : (Tryd.f41.body.bind (lowC Tryd.prog 63 [])) = some c41 := by kernel_rfl
noncomputable def c69 : DCode := (.seq (.region [oo 2 (.mov (.const (.bool false)))] []) (.seq (.region [mv 3 0,oo 4 (.bin .lss (tm 3) (Kc 0)),mv 5 4,mF 6 0 5,oF 7 5 (.bin .gtr (tm 6) (Kc 65535)),oo 8 (.pick (tm 5) (.const (.bool true)) (tm 7)),mv 2 8] []) .ret))
theorem l69 : (Tryd.f69.body.bind (lowC Tryd.prog 9 [])) = some c69 := by kernel_rfl
noncomputable def c42 : DCode := (.seq (.region [oo 2 (.alloc [(Zi 0), (Zi 0), .nil, (Ui 0), (Ui 0), (Ui 0), (Ui 0), (Ui 0), (Ui 0), (Ui 0), (Ui 0), (Ui 0), (Ui 0), (Ui 0), (Ui 0), (Ui 0), (Ui 0), (Ui 0), (Ui 0)]),oo 3 (.mov (Kc 0))] []) (.seq (.seq (.region [mv 8 0,oo 9 (.nilck (tm 8)),oo 10 (.offA 1 (tm 9)),oo 11 (.load 1 false (tm 10)),oo 12 (.bin .gtr (tm 11) (Kc 1048576))] []) (.cond (tm 12) (.seq (.region [oo 13 (.build [(Zi 0), (Zi 0), .nil, (Ui 0), (Ui 0), (Ui 0), (Ui 0), (Ui 0), (Ui 0), (Ui 0), (Ui 0), (Ui 0), (Ui 0), (Ui 0), (Ui 0), (Ui 0), (Ui 0), (Ui 0), (Ui 0)] []),o0 (.store 19 (tm 2) (tm 13)),oo 3 (.mov (Kc 2))] []) .ret) .skip)) (.seq (.region [mv 14 0,oo 15 (.nilck (tm 14)),oo 16 (.offA 0 (tm 15)),oo 17 (.load 1 false (tm 16)),mv 18 0,oo 19 (.nilck (tm 18)),oo 20 (.offA 1 (tm 19)),oo 21 (.load 1 false (tm 20)),mv 22 0,oo 23 (.nilck (tm 22)),oo 24 (.offA 3 (tm 23)),oo 25 (.load 16 true (tm 24)),oo 26 (.build [(Zi 0), (Zi 0), .nil, (Ui 0), (Ui 0), (Ui 0), (Ui 0), (Ui 0), (Ui 0), (Ui 0), (Ui 0), (Ui 0), (Ui 0), (Ui 0), (Ui 0), (Ui 0), (Ui 0), (Ui 0), (Ui 0)] [(0, 1, (tm 17)), (1, 1, (tm 21)), (3, 16, (tm 25))]),oo 4 (.alloc [(Zi 0), (Zi 0), .nil, (Ui 0), (Ui 0), (Ui 0), (Ui 0), (Ui 0), (Ui 0), (Ui 0), (Ui 0), (Ui 0), (Ui 0), (Ui 0), (Ui 0), (Ui 0), (Ui 0), (Ui 0), (Ui 0)]),o0 (.store 19 (tm 4) (tm 26))] []) (.seq (.seq (.region [mv 27 0,oo 28 (.nilck (tm 27)),oo 29 (.offA 2 (tm 28)),oo 30 (.load 1 false (tm 29)),oo 31 (.inl 71 [(tm 30)]),oo 32 (.inl 70 [(tm 31), (.const (.clos 52 []))]),oo 33 (.len (tm 32)),oo 34 (.mov (Kc 0))] []) (.block 0 (.loop (.seq (.region [oo 35 (.bin .lss (tm 34) (tm 33))] []) (.seq (.cond (tm 35) .skip (.exit 0)) (.seq (.block 1 (.seq (.region [oo 36 (.idxL 3 (tm 32) (tm 34)),oo 37 (.load 3 true (tm 36)),oo 6 (.alloc [(Zi 0), (Zi 0), (Zi 0)]),o0 (.store 3 (tm 6) (tm 37))] []) (.seq (.region [mv 38 0,oo 39 (.nilck (tm 38)),oo 40 (.offA 2 (tm 39)),oo 41 (.load 1 false (tm 40)),oo 42 (.load 3 true (tm 6)),oo 43 (.mlook true [.int .i64, .int .i64, .int .i64] (.agg [(Zi 0), (Zi 0), (Zi 0), (Zi 0), (Zi 0)]) false (tm 41) (tm 42)),oo 7 (.alloc [(Zi 0), (Zi 0), (Zi 0), (Zi 0), (Zi 0)]),o0 (.store 5 (tm 7) (tm 43))] []) (.region [oo 44 (.offA 2 (tm 4)),oo 45 (.load 1 false (tm 44)),oo 46 (.offA 0 (tm 6)),oo 47 (.load 1 false (tm 46)),oo 48 (.offA 1 (tm 6)),oo 49 (.load 1 false (tm 48)),oo 50 (.offA 2 (tm 6)),oo 51 (.load 1 false (tm 50)),oo 52 (.offA 0 (tm 7)),oo 53 (.load 1 false (tm 52)),oo 54 (.offA 1 (tm 7)),oo 55 (.load 4 true (tm 54)),oo 56 (.build [(Zi 0), (Zi 0), (Zi 0), (Zi 0), (Zi 0), (Zi 0), (Zi 0), (Zi 0)] [(0, 1, (tm 47)), (1, 1, (tm 49)), (2, 1, (tm 51)), (3, 1, (tm 53)), (4, 4, (tm 55))]),oo 57 (.buildF 8 1 [(Zi 0), (Zi 0), (Zi 0), (Zi 0), (Zi 0), (Zi 0), (Zi 0), (Zi 0)] [(0, (tm 56))]),oo 58 (.append 47 36 8 64 (tm 45) (tm 57)),oo 59 (.offA 2 (tm 4)),o0 (.store 1 (tm 59) (tm 58))] [])))) (.region [oo 60 (.bin .add (tm 34) (Kc 1)),mv 34 60] []))))))) (.seq (.region [mv 61 0,oo 62 (.nilck (tm 61)),oo 63 (.offA 2 (tm 62)),oo 64 (.load 1 false (tm 63)),o0 (.mclr (tm 64))] []) (.seq (.region [mv 65 0,oo 66 (.load 19 true (tm 4)),oo 67 (.call 24 [(tm 66)]),oo 68 (.nilck (tm 65)),oo 69 (.offA 3 (tm 68)),o0 (.store 16 (tm 69) (tm 67))] []) (.seq (.region [mv 70 0,oo 71 (.nilck (tm 70)),oo 72 (.offA 1 (tm 71)),oo 73 (.load 1 false (tm 72)),oo 74 (.bin .add (tm 73) (Kc 1)),oo 75 (.nilck (tm 70)),oo 76 (.offA 1 (tm 75)),o0 (.store 1 (tm 76) (tm 74))] []) (.seq (.region [oo 77 (.load 19 true (tm 4)),o0 (.store 19 (tm 2) (tm 77)),oo 3 (.mov (Kc 0))] []) .ret))))))))
theorem l42 : (Tryd.f42.body.bind (lowC Tryd.prog 78 [70, 71, 8000057])) = some c42 := by kernel_rfl
noncomputable def c10 : DCode := (.seq (.region [oo 1 (.box 4 (tm 0)),oo 2 (.mov (.const (.bool false)))] []) (.seq (.seq (.region [oo 3 (.mov (Kc 0))] []) (.block 0 (.loop (.seq (.seq (.region [mv 4 3,oo 5 (.bin .lss (tm 4) (Kc 4))] []) (.cond (tm 5) .skip (.exit 0))) (.seq (.block 1 (.seq (.region [mv 8 3,oo 9 (.idxA 4 1 (tm 1) (tm 8)),oo 10 (.load 1 false (tm 9)),oo 11 (.bin .lss (tm 10) (Kc 0)),mv 12 11,mF 13 3 12,oF 14 12 (.idxA 4 1 (tm 1) (tm 13)),oF 15 12 (.load 1 false (tm 14)),oF 16 12 (.bin .geq (tm 15) (Kc 4294967296)),oo 17 (.pick (tm 12) (.const (.bool true)) (tm 16))] []) (.cond (tm 17) (.seq (.region [oo 2 (.mov (.const (.bool false)))] []) .ret) .skip))) (.region [mv 6 3,oo 7 (.bin .add (tm 6) (Kc 1)),mv 3 7] [])))))) (.seq (.region [oo 2 (.mov (.const (.bool true)))] []) .ret)))
theorem l10 : (Tryd.f10.body.bind (lowC Tryd.prog 18 [])) = some c10 := by kernel_rfl
noncomputable def c15 : DCode := (.seq (.region [oo 2 (.box 4 (tm 0)),oo 3 (.box 4 (tm 1)),oo 4 (.alloc [(Zi 0), (Zi 0), (Zi 0), (Zi 0)])] []) (.seq (.region [oo 5 (.alloc [(Zi 0), (Zi 0), (Zi 0), (Zi 0)])] []) (.seq (.seq (.region [oo 6 (.mov (Kc 0))] []) (.block 0 (.loop (.seq (.seq (.region [mv 7 6,oo 8 (.bin .lss (tm 7) (Kc 4))] []) (.cond (tm 8) .skip (.exit 0))) (.seq (.block 1 (.region [mv 11 6,mv 12 6,oo 13 (.idxA 4 1 (tm 2) (tm 12)),oo 14 (.load 1 false (tm 13)),mv 15 6,oo 16 (.idxA 4 1 (tm 3) (tm 15)),oo 17 (.load 1 false (tm 16)),oo 18 (.bin .add (tm 14) (tm 17)),oo 19 (.bin .rem (tm 18) (Kc 4294967296)),oo 20 (.idxA 4 1 (tm 5) (tm 11)),o0 (.store 1 (tm 20) (tm 19))] [])) (.region [mv 9 6,oo 10 (.bin .add (tm 9) (Kc 1)),mv 6 10] [])))))) (.seq (.region [oo 21 (.load 4 true (tm 5)),o0 (.store 4 (tm 4) (tm 21))] []) .ret))))
theorem l15 : (Tryd.f15.body.bind (lowC Tryd.prog 22 [])) = some c15 := by kernel_rfl
noncomputable def c27 : DCode := (.seq (.region [oo 2 (.box 8 (tm 0)),oo 3 (.box 8 (tm 1)),oo 4 (.mov (Kc 0)),oo 5 (.mov (Kc 0))] []) (.seq (.seq (.region [oo 6 (.offA 3 (tm 3)),oo 7 (.load 1 false (tm 6)),oo 8 (.offA 3 (tm 2)),oo 9 (.load 1 false (tm 8)),oo 10 (.bin .gtr (tm 7) (tm 9)),mv 11 10,oF 12 11 (.offA 3 (tm 3)),oF 13 11 (.load 1 false (tm 12)),oF 14 11 (.offA 3 (tm 2)),oF 15 11 (.load 1 false (tm 14)),oF 16 11 (.bin .eql (tm 13) (tm 15)),mF 17 16 11,oT 18 17 (.offA 4 (tm 3)),oT 19 17 (.load 4 true (tm 18)),oT 20 17 (.offA 4 (tm 2)),oT 21 17 (.load 4 true (tm 20)),oT 22 17 (.eqv true [.int .i64, .int .i64, .int .i64, .int .i64] (tm 19) (tm 21)),oF 23 11 (.pick (tm 17) (tm 22) (.const (.bool false))),oo 24 (.pick (tm 11) (.const (.bool true)) (tm 23))] []) (.cond (tm 24) (.seq (.region [oo 4 (.mov (Kc 0)),oo 5 (.mov (Kc 26))] []) .ret) .skip)) (.seq (.region [oo 25 (.offA 3 (tm 2)),oo 26 (.load 1 false (tm 25)),oo 27 (.offA 3 (tm 3)),oo 28 (.load 1 false (tm 27)),oo 29 (.bin .sub (tm 26) (tm 28)),mv 4 29,oo 5 (.mov (Kc 0))] []) .ret)))
theorem l27 : (Tryd.f27.body.bind (lowC Tryd.prog 30 [])) = some c27 := by kernel_rfl
noncomputable def c20 : DCode := (.seq (.region [oo 4 (.mov (.const (.bool false)))] []) (.seq (.seq (.region [oo 5 (.mov (Kc 0))] []) (.block 0 (.loop (.seq (.seq (.region [mv 6 5,mv 7 0,oo 8 (.len (tm 7)),oo 9 (.bin .lss (tm 6) (tm 8))] []) (.cond (tm 9) .skip (.exit 0))) (.seq (.block 1 (.seq (.region [mv 12 0,mv 13 5,oo 14 (.idxL 19 (tm 12) (tm 13)),oo 15 (.offA 2 (tm 14)),oo 16 (.load 1 false (tm 15)),oo 17 (.len (tm 16)),oo 18 (.bin .gtr (tm 17) (Kc 12))] []) (.cond (tm 18) (.seq (.region [oo 4 (.mov (.const (.bool false)))] []) .ret) .skip))) (.region [mv 10 5,oo 11 (.bin .add (tm 10) (Kc 1)),mv 5 11] [])))))) (.seq (.region [mv 19 0,oo 20 (.len (tm 19)),mv 21 1,oo 22 (.bin .leq (tm 20) (tm 21)),mv 4 22] []) .ret)))
theorem l20 : (Tryd.f20.body.bind (lowC Tryd.prog 23 [])) = some c20 := by kernel_rfl
noncomputable def c21 : DCode := (.seq (.region [oo 2 (.box 19 (tm 0)),oo 3 (.box 19 (tm 1)),oo 4 (.mov (.const (.bool false)))] []) (.seq (.seq (.region [oo 6 (.offA 0 (tm 2)),oo 7 (.load 1 false (tm 6)),oo 8 (.offA 0 (tm 3)),oo 9 (.load 1 false (tm 8)),oo 10 (.bin .neq (tm 7) (tm 9)),mv 11 10,oF 12 11 (.offA 1 (tm 2)),oF 13 11 (.load 1 false (tm 12)),oF 14 11 (.offA 1 (tm 3)),oF 15 11 (.load 1 false (tm 14)),oF 16 11 (.bin .neq (tm 13) (tm 15)),oo 17 (.pick (tm 11) (.const (.bool true)) (tm 16)),mv 18 17,oF 19 18 (.offA 3 (tm 2)),oF 20 18 (.load 16 true (tm 19)),oF 21 18 (.offA 3 (tm 3)),oF 22 18 (.load 16 true (tm 21)),oF 23 18 (.eqv true [.int .u8, .int .u8, .int .u8, .int .u8, .int .u8, .int .u8, .int .u8, .int .u8, .int .u8, .int .u8, .int .u8, .int .u8, .int .u8, .int .u8, .int .u8, .int .u8] (tm 20) (tm 22)),oo 24 (.pick (tm 18) (.const (.bool true)) (tm 23)),mv 25 24,oF 26 25 (.offA 2 (tm 2)),oF 27 25 (.load 1 false (tm 26)),oF 28 25 (.len (tm 27)),oF 29 25 (.offA 2 (tm 3)),oF 30 25 (.load 1 false (tm 29)),oF 31 25 (.len (tm 30)),oF 32 25 (.bin .neq (tm 28) (tm 31)),oo 33 (.pick (tm 25) (.const (.bool true)) (tm 32))] []) (.cond (tm 33) (.seq (.region [oo 4 (.mov (.const (.bool false)))] []) .ret) .skip)) (.seq (.seq (.region [oo 5 (.mov (Kc 0))] []) (.block 0 (.loop (.seq (.seq (.region [mv 34 5,oo 35 (.offA 2 (tm 2)),oo 36 (.load 1 false (tm 35)),oo 37 (.len (tm 36)),oo 38 (.bin .lss (tm 34) (tm 37))] []) (.cond (tm 38) .skip (.exit 0))) (.seq (.block 1 (.seq (.region [oo 41 (.offA 2 (tm 2)),oo 42 (.load 1 false (tm 41)),mv 43 5,oo 44 (.idxL 8 (tm 42) (tm 43)),oo 45 (.load 8 true (tm 44)),oo 46 (.offA 2 (tm 3)),oo 47 (.load 1 false (tm 46)),mv 48 5,oo 49 (.idxL 8 (tm 47) (tm 48)),oo 50 (.load 8 true (tm 49)),oo 51 (.eqv true [.int .i64, .int .i64, .int .i64, .int .i64, .int .i64, .int .i64, .int .i64, .int .i64] (tm 45) (tm 50))] []) (.cond (tm 51) (.seq (.region [oo 4 (.mov (.const (.bool false)))] []) .ret) .skip))) (.region [mv 39 5,oo 40 (.bin .add (tm 39) (Kc 1)),mv 5 40] [])))))) (.seq (.region [oo 4 (.mov (.const (.bool true)))] []) .ret))))
theorem l21 : (Tryd.f21.body.bind (lowC Tryd.prog 52 [])) = some c21 := by kernel_rfl
noncomputable def c26 : DCode := (.seq (.region [oo 4 (.mov (Kc 0)),oo 5 (.mov (Kc 0))] []) (.seq (.region [oo 9 (.build [(Ui 0), (Ui 0), (Ui 0), (Ui 0), (Ui 0), (Ui 0), (Ui 0), (Ui 0), (Ui 0), (Ui 0), (Ui 0), (Ui 0), (Ui 0), (Ui 0), (Ui 0), (Ui 0)] []),oo 6 (.alloc [(Ui 0), (Ui 0), (Ui 0), (Ui 0), (Ui 0), (Ui 0), (Ui 0), (Ui 0), (Ui 0), (Ui 0), (Ui 0), (Ui 0), (Ui 0), (Ui 0), (Ui 0), (Ui 0)]),o0 (.store 16 (tm 6) (tm 9))] []) (.seq (.seq (.region [oo 7 (.mov (Kc 0))] []) (.block 0 (.loop (.seq (.seq (.region [mv 10 7,mv 11 1,oo 12 (.len (tm 11)),oo 13 (.bin .lss (tm 10) (tm 12))] []) (.cond (tm 13) .skip (.exit 0))) (.seq (.block 1 (.seq (.region [mv 16 1,mv 17 7,oo 18 (.idxL 19 (tm 16) (tm 17)),oo 19 (.load 19 true (tm 18)),oo 20 (.call 29 [(tm 19)]),mv 8 20] []) (.seq (.seq (.region [mv 21 8,oo 22 (.bin .neq (tm 21) (Kc 0))] []) (.cond (tm 22) (.seq (.region [mv 23 7,mv 24 8,mv 4 23,mv 5 24] []) .ret) .skip)) (.seq (.seq (.region [mv 25 1,mv 26 7,oo 27 (.idxL 19 (tm 25) (tm 26)),oo 28 (.offA 0 (tm 27)),oo 29 (.load 1 false (tm 28)),mv 30 0,oo 31 (.bin .neq (tm 29) (tm 30))] []) (.cond (tm 31) (.seq (.region [mv 32 7,mv 4 32,oo 5 (.mov (Kc 1))] []) .ret) .skip)) (.seq (.seq (.region [mv 33 1,mv 34 7,oo 35 (.idxL 19 (tm 33) (tm 34)),oo 36 (.offA 1 (tm 35)),oo 37 (.load 1 false (tm 36)),mv 38 7,oo 39 (.bin .neq (tm 37) (tm 38))] []) (.cond (tm 39) (.seq (.region [mv 40 7,mv 4 40,oo 5 (.mov (Kc 25))] []) .ret) .skip)) (.seq (.seq (.region [mv 41 1,mv 42 7,oo 43 (.idxL 19 (tm 41) (tm 42)),oo 44 (.offA 3 (tm 43)),oo 45 (.load 16 true (tm 44)),oo 46 (.load 16 true (tm 6)),oo 47 (.eqv true [.int .u8, .int .u8, .int .u8, .int .u8, .int .u8, .int .u8, .int .u8, .int .u8, .int .u8, .int .u8, .int .u8, .int .u8, .int .u8, .int .u8, .int .u8, .int .u8] (tm 45) (tm 46))] []) (.cond (tm 47) (.seq (.region [mv 48 7,mv 4 48,oo 5 (.mov (Kc 7))] []) .ret) .skip)) (.region [mv 49 1,mv 50 7,oo 51 (.idxL 19 (tm 49) (tm 50)),oo 52 (.load 19 true (tm 51)),oo 53 (.call 39 [(tm 52)]),o0 (.store 16 (tm 6) (tm 53))] []))))))) (.region [mv 14 7,oo 15 (.bin .add (tm 14) (Kc 1)),mv 7 15] [])))))) (.seq (.region [mv 54 1,oo 55 (.len (tm 54)),mv 4 55,oo 5 (.mov (Kc 0))] []) .ret))))
theorem l26 : (Tryd.f26.body.bind (lowC Tryd.prog 56 [])) = some c26 := by kernel_rfl
noncomputable def c29 : DCode := (.seq (.region [oo 1 (.box 19 (tm 0)),oo 2 (.mov (Kc 0))] []) (.seq (.seq (.region [oo 6 (.offA 2 (tm 1)),oo 7 (.load 1 false (tm 6)),oo 8 (.len (tm 7)),oo 9 (.bin .gtr (tm 8) (Kc 1000))] []) (.cond (tm 9) (.seq (.region [oo 2 (.mov (Kc 2))] []) .ret) .skip)) (.seq (.seq (.region [oo 10 (.offA 0 (tm 1)),oo 11 (.load 1 false (tm 10)),oo 12 (.bin .lss (tm 11) (Kc 0)),mv 13 12,oF 14 13 (.offA 0 (tm 1)),oF 15 13 (.load 1 false (tm 14)),oF 16 13 (.bin .gtr (tm 15) (Kc 199)),oo 17 (.pick (tm 13) (.const (.bool true)) (tm 16)),mv 18 17,oF 19 18 (.offA 1 (tm 1)),oF 20 18 (.load 1 false (tm 19)),oF 21 18 (.bin .lss (tm 20) (Kc 0)),oo 22 (.pick (tm 18) (.const (.bool true)) (tm 21)),mv 23 22,oF 24 23 (.offA 1 (tm 1)),oF 25 23 (.load 1 false (tm 24)),oF 26 23 (.bin .gtr (tm 25) (Kc 1048576)),oo 27 (.pick (tm 23) (.const (.bool true)) (tm 26))] []) (.cond (tm 27) (.seq (.region [oo 2 (.mov (Kc 1))] []) .ret) .skip)) (.seq (.seq (.region [oo 3 (.mov (Kc 0))] []) (.block 0 (.loop (.seq (.seq (.region [mv 28 3,oo 29 (.offA 2 (tm 1)),oo 30 (.load 1 false (tm 29)),oo 31 (.len (tm 30)),oo 32 (.bin .lss (tm 28) (tm 31))] []) (.cond (tm 32) .skip (.exit 0))) (.seq (.block 1 (.seq (.region [oo 35 (.offA 2 (tm 1)),oo 36 (.load 1 false (tm 35)),mv 37 3,oo 38 (.idxL 8 (tm 36) (tm 37)),oo 39 (.load 8 true (tm 38)),oo 40 (.call 53 [(tm 39)]),mv 4 40] []) (.seq (.seq (.region [mv 41 4,oo 42 (.not (tm 41))] []) (.cond (tm 42) (.seq (.region [oo 2 (.mov (Kc 1))] []) .ret) .skip)) (.seq (.region [mv 43 3,oo 44 (.bin .gtr (tm 43) (Kc 0))] []) (.cond (tm 44) (.seq (.region [oo 45 (.offA 2 (tm 1)),oo 46 (.load 1 false (tm 45)),mv 47 3,oo 48 (.bin .sub (tm 47) (Kc 1)),oo 49 (.idxL 8 (tm 46) (tm 48)),oo 50 (.load 8 true (tm 49)),oo 51 (.offA 2 (tm 1)),oo 52 (.load 1 false (tm 51)),mv 53 3,oo 54 (.idxL 8 (tm 52) (tm 53)),oo 55 (.load 8 true (tm 54)),oo 56 (.call 54 [(tm 50), (tm 55)]),mv 5 56] []) (.seq (.region [mv 57 5,oo 58 (.not (tm 57))] []) (.cond (tm 58) (.seq (.region [oo 2 (.mov (Kc 1))] []) .ret) .skip))) .skip))))) (.region [mv 33 3,oo 34 (.bin .add (tm 33) (Kc 1)),mv 3 34] [])))))) (.seq (.region [oo 2 (.mov (Kc 0))] []) .ret)))))
theorem l29 : (Tryd.f29.body.bind (lowC Tryd.prog 59 [])) = some c29 := by kernel_rfl
noncomputable def c31 : DCode := (.seq (.region [oo 4 (.box 19 (tm 0)),oo 8 (.alloc [(Zi 0), (Zi 0), (Zi 0), (Zi 0), (Zi 0), (Zi 0), (Zi 0), (Zi 0)]),oo 9 (.mov (.const (.bool false)))] []) (.seq (.region [oo 11 (.offA 2 (tm 4)),oo 12 (.load 1 false (tm 11)),mv 13 1,mv 14 2,mv 15 3,oo 16 (.call 57 [(tm 12), (tm 13), (tm 14), (tm 15)]),mv 10 16] []) (.seq (.seq (.region [mv 17 10,oo 18 (.bin .lss (tm 17) (Kc 0))] []) (.cond (tm 18) (.seq (.region [oo 19 (.build [(Zi 0), (Zi 0), (Zi 0), (Zi 0), (Zi 0), (Zi 0), (Zi 0), (Zi 0)] []),o0 (.store 8 (tm 8) (tm 19)),oo 9 (.mov (.const (.bool false)))] []) .ret) .skip)) (.seq (.region [oo 20 (.offA 2 (tm 4)),oo 21 (.load 1 false (tm 20)),mv 22 10,oo 23 (.idxL 8 (tm 21) (tm 22)),oo 24 (.load 8 true (tm 23)),o0 (.store 8 (tm 8) (tm 24)),oo 9 (.mov (.const (.bool true)))] []) .ret))))
theorem l31 : (Tryd.f31.body.bind (lowC Tryd.prog 25 [])) = some c31 := by kernel_rfl
noncomputable def c33 : DCode := (.seq (.region [oo 8 (.alloc [(Zi 0), (Zi 0), (Zi 0), (Zi 0), (Zi 0), (Zi 0), (Zi 0), (Zi 0)])] []) (.seq (.region [mv 13 1,mv 14 2,mv 15 3,oo 16 (.build [(Zi 0), (Zi 0), (Zi 0), (Zi 0), (Zi 0), (Zi 0), (Zi 0), (Zi 0)] [(0, 1, (tm 13)), (1, 1, (tm 14)), (2, 1, (tm 15))]),oo 9 (.alloc [(Zi 0), (Zi 0), (Zi 0), (Zi 0), (Zi 0), (Zi 0), (Zi 0), (Zi 0)]),o0 (.store 8 (tm 9) (tm 16))] []) (.seq (.seq (.region [oo 10 (.mov (Kc 0))] []) (.block 0 (.loop (.seq (.seq (.region [mv 17 10,mv 18 0,oo 19 (.len (tm 18)),oo 20 (.bin .lss (tm 17) (tm 19))] []) (.cond (tm 20) .skip (.exit 0))) (.seq (.block 1 (.seq (.region [mv 24 0,mv 25 10,oo 26 (.idxL 19 (tm 24) (tm 25)),oo 27 (.load 19 true (tm 26)),mv 28 1,mv 29 2,mv 30 3,oo 31 (.call 31 [(tm 27), (tm 28), (tm 29), (tm 30)]),mv 23 31,oo 32 (.ext (tm 23) 0),oo 33 (.ext (tm 23) 1),oo 11 (.alloc [(Zi 0), (Zi 0), (Zi 0), (Zi 0), (Zi 0), (Zi 0), (Zi 0), (Zi 0)]),o0 (.store 8 (tm 11) (tm 32)),mv 12 33] []) (.seq (.region [mv 34 12] []) (.cond (tm 34) (.seq (.region [oo 35 (.offA 3 (tm 9)),oo 36 (.load 1 false (tm 35)),oo 37 (.offA 3 (tm 11)),oo 38 (.load 1 false (tm 37)),oo 39 (.bin .add (tm 36) (tm 38)),oo 40 (.offA 3 (tm 9)),o0 (.store 1 (tm 40) (tm 39))] []) (.region [oo 41 (.offA 4 (tm 9)),oo 42 (.load 4 true (tm 41)),oo 43 (.offA 4 (tm 11)),oo 44 (.load 4 true (tm 43)),oo 45 (.call 15 [(tm 42), (tm 44)]),oo 46 (.offA 4 (tm 9)),o0 (.store 4 (tm 46) (tm 45))] [])) .skip)))) (.region [mv 21 10,oo 22 (.bin .add (tm 21) (Kc 1)),mv 10 22] [])))))) (.seq (.region [oo 47 (.load 8 true (tm 9)),o0 (.store 8 (tm 8) (tm 47))] []) .ret))))
theorem l33 : (Tryd.f33.body.bind (lowC Tryd.prog 48 [])) = some c33 := by kernel_rfl
noncomputable def c38 : DCode := (.seq (.region [oo 1 (.box 19 (tm 0)),oo 2 (.mov (.const .nil))] []) (.seq (.region [oo 6 (.offA 0 (tm 1)),oo 7 (.load 1 false (tm 6)),oo 8 (.offA 1 (tm 1)),oo 9 (.load 1 false (tm 8)),oo 10 (.buildS 3 1 2 [(Zi 0)] [(0, (tm 7)), (1, (tm 9))]),oo 11 (.inl 66 [(tm 10)]),mv 3 11] []) (.seq (.region [mv 12 3,oo 13 (.offA 2 (tm 1)),oo 14 (.load 1 false (tm 13)),oo 15 (.len (tm 14)),oo 16 (.call 67 [(tm 15)]),oo 17 (.append 61 5 1 1 (tm 12) (tm 16)),mv 3 17] []) (.seq (.seq (.region [oo 4 (.mov (Kc 0))] []) (.block 0 (.loop (.seq (.seq (.region [mv 18 4,oo 19 (.offA 2 (tm 1)),oo 20 (.load 1 false (tm 19)),oo 21 (.len (tm 20)),oo 22 (.bin .lss (tm 18) (tm 21))] []) (.cond (tm 22) .skip (.exit 0))) (.seq (.block 1 (.seq (.region [oo 25 (.offA 2 (tm 1)),oo 26 (.load 1 false (tm 25)),mv 27 4,oo 28 (.idxL 8 (tm 26) (tm 27)),oo 29 (.load 8 true (tm 28)),oo 5 (.alloc [(Zi 0), (Zi 0), (Zi 0), (Zi 0), (Zi 0), (Zi 0), (Zi 0), (Zi 0)]),o0 (.store 8 (tm 5) (tm 29))] []) (.region [mv 30 3,oo 31 (.offA 0 (tm 5)),oo 32 (.load 1 false (tm 31)),oo 33 (.offA 1 (tm 5)),oo 34 (.load 1 false (tm 33)),oo 35 (.offA 2 (tm 5)),oo 36 (.load 1 false (tm 35)),oo 37 (.offA 3 (tm 5)),oo 38 (.load 1 false (tm 37)),oo 39 (.offA 4 (tm 5)),oo 40 (.idxA 4 1 (tm 39) (Kc 0)),oo 41 (.load 1 false (tm 40)),oo 42 (.offA 4 (tm 5)),oo 43 (.idxA 4 1 (tm 42) (Kc 1)),oo 44 (.load 1 false (tm 43)),oo 45 (.offA 4 (tm 5)),oo 46 (.idxA 4 1 (tm 45) (Kc 2)),oo 47 (.load 1 false (tm 46)),oo 48 (.offA 4 (tm 5)),oo 49 (.idxA 4 1 (tm 48) (Kc 3)),oo 50 (.load 1 false (tm 49)),oo 51 (.buildS 3 1 8 [(Zi 0)] [(0, (tm 32)), (1, (tm 34)), (2, (tm 36)), (3, (tm 38)), (4, (tm 41)), (5, (tm 44)), (6, (tm 47)), (7, (tm 50))]),oo 52 (.inl 66 [(tm 51)]),oo 53 (.append 61 5 1 1 (tm 30) (tm 52)),mv 3 53] []))) (.region [mv 23 4,oo 24 (.bin .add (tm 23) (Kc 1)),mv 4 24] [])))))) (.seq (.region [mv 54 3,oo 55 (.offA 3 (tm 1)),oo 56 (.load 16 true (tm 55)),oo 57 (.buildS 49 16 1 [(Ui 0), (Ui 0), (Ui 0), (Ui 0), (Ui 0), (Ui 0), (Ui 0), (Ui 0), (Ui 0), (Ui 0), (Ui 0), (Ui 0), (Ui 0), (Ui 0), (Ui 0), (Ui 0)] [(0, (tm 56))]),oo 58 (.call 68 [(tm 57)]),oo 59 (.append 61 5 1 1 (tm 54) (tm 58)),mv 2 59] []) .ret)))))
theorem l38 : (Tryd.f38.body.bind (lowC Tryd.prog 60 [66])) = some c38 := by kernel_rfl
noncomputable def c39 : DCode := (.seq (.region [oo 1 (.box 19 (tm 0)),oo 2 (.alloc [(Ui 0), (Ui 0), (Ui 0), (Ui 0), (Ui 0), (Ui 0), (Ui 0), (Ui 0), (Ui 0), (Ui 0), (Ui 0), (Ui 0), (Ui 0), (Ui 0), (Ui 0), (Ui 0)])] []) (.seq (.region [oo 3 (.load 19 true (tm 1)),oo 4 (.call 38 [(tm 3)]),oo 5 (.prim .strB (tm 4)),⟨some 6, .buildS 9 1 1 [(.str ⟨#[]⟩)] [(0, (tm 5))], none, []⟩,oo 7 (.call 45 [(Kc 5), (tm 6)]),o0 (.store 16 (tm 2) (tm 7))] []) .ret))
theorem l39 : (Tryd.f39.body.bind (lowC Tryd.prog 8 [])) = some c39 := by kernel_rfl
noncomputable def c53 : DCode := (.seq (.region [oo 1 (.box 8 (tm 0)),oo 2 (.mov (.const (.bool false)))] []) (.seq (.region [oo 5 (.offA 0 (tm 1)),oo 6 (.load 1 false (tm 5)),oo 7 (.offA 1 (tm 1)),oo 8 (.load 1 false (tm 7)),oo 9 (.offA 2 (tm 1)),oo 10 (.load 1 false (tm 9)),oo 11 (.call 82 [(tm 6), (tm 8), (tm 10)]),mv 3 11] []) (.seq (.region [oo 12 (.offA 4 (tm 1)),oo 13 (.load 4 true (tm 12)),oo 14 (.call 10 [(tm 13)]),mv 4 14] []) (.seq (.region [mv 15 3,mv 16 15,mT 17 4 16,oo 18 (.pick (tm 16) (tm 17) (.const (.bool false))),mv 19 18,oT 20 19 (.offA 3 (tm 1)),oT 21 19 (.load 1 false (tm 20)),oT 22 19 (.bin .geq (tm 21) (Kc 1)),oo 23 (.pick (tm 19) (tm 22) (.const (.bool false))),mv 24 23,oT 25 24 (.offA 3 (tm 1)),oT 26 24 (.load 1 false (tm 25)),oT 27 24 (.bin .leq (tm 26) (Kc 1073741824)),oo 28 (.pick (tm 24) (tm 27) (.const (.bool false))),mv 2 28] []) .ret))))
theorem l53 : (Tryd.f53.body.bind (lowC Tryd.prog 29 [])) = some c53 := by kernel_rfl
noncomputable def c54 : DCode := (.seq (.region [oo 2 (.box 8 (tm 0)),oo 3 (.box 8 (tm 1)),oo 4 (.mov (.const (.bool false)))] []) (.seq (.seq (.region [oo 5 (.offA 0 (tm 2)),oo 6 (.load 1 false (tm 5)),oo 7 (.offA 0 (tm 3)),oo 8 (.load 1 false (tm 7)),oo 9 (.bin .neq (tm 6) (tm 8))] []) (.cond (tm 9) (.seq (.region [oo 10 (.offA 0 (tm 2)),oo 11 (.load 1 false (tm 10)),oo 12 (.offA 0 (tm 3)),oo 13 (.load 1 false (tm 12)),oo 14 (.bin .lss (tm 11) (tm 13)),mv 4 14] []) .ret) .skip)) (.seq (.seq (.region [oo 15 (.offA 1 (tm 2)),oo 16 (.load 1 false (tm 15)),oo 17 (.offA 1 (tm 3)),oo 18 (.load 1 false (tm 17)),oo 19 (.bin .neq (tm 16) (tm 18))] []) (.cond (tm 19) (.seq (.region [oo 20 (.offA 1 (tm 2)),oo 21 (.load 1 false (tm 20)),oo 22 (.offA 1 (tm 3)),oo 23 (.load 1 false (tm 22)),oo 24 (.bin .lss (tm 21) (tm 23)),mv 4 24] []) .ret) .skip)) (.seq (.region [oo 25 (.offA 2 (tm 2)),oo 26 (.load 1 false (tm 25)),oo 27 (.offA 2 (tm 3)),oo 28 (.load 1 false (tm 27)),oo 29 (.bin .lss (tm 26) (tm 28)),mv 4 29] []) .ret))))
theorem l54 : (Tryd.f54.body.bind (lowC Tryd.prog 30 [])) = some c54 := by kernel_rfl
noncomputable def c57 : DCode := (.seq (.region [oo 8 (.mov (Kc 0))] []) (.seq (.seq (.region [oo 9 (.mov (Kc 0))] []) (.block 0 (.loop (.seq (.seq (.region [mv 10 9,mv 11 0,oo 12 (.len (tm 11)),oo 13 (.bin .lss (tm 10) (tm 12))] []) (.cond (tm 13) .skip (.exit 0))) (.seq (.block 1 (.seq (.region [mv 16 0,mv 17 9,oo 18 (.idxL 8 (tm 16) (tm 17)),oo 19 (.offA 0 (tm 18)),oo 20 (.load 1 false (tm 19)),mv 21 1,oo 22 (.bin .eql (tm 20) (tm 21)),mv 23 22,mT 24 0 23,mT 25 9 23,oT 26 23 (.idxL 8 (tm 24) (tm 25)),oT 27 23 (.offA 1 (tm 26)),oT 28 23 (.load 1 false (tm 27)),mT 29 2 23,oT 30 23 (.bin .eql (tm 28) (tm 29)),oo 31 (.pick (tm 23) (tm 30) (.const (.bool false))),mv 32 31,mT 33 0 32,mT 34 9 32,oT 35 32 (.idxL 8 (tm 33) (tm 34)),oT 36 32 (.offA 2 (tm 35)),oT 37 32 (.load 1 false (tm 36)),mT 38 3 32,oT 39 32 (.bin .eql (tm 37) (tm 38)),oo 40 (.pick (tm 32) (tm 39) (.const (.bool false)))] []) (.cond (tm 40) (.seq (.region [mv 41 9,mv 8 41] []) .ret) .skip))) (.region [mv 14 9,oo 15 (.bin .add (tm 14) (Kc 1)),mv 9 15] [])))))) (.seq (.region [oo 8 (.mov (.const (.int .i64 (-1))))] []) .ret)))
theorem l57 : (Tryd.f57.body.bind (lowC Tryd.prog 42 [])) = some c57 := by kernel_rfl
noncomputable def c82 : DCode := (.seq (.region [oo 6 (.mov (.const (.bool false)))] []) (.seq (.region [mv 7 0,oo 8 (.bin .eql (tm 7) (Kc 1)),mv 9 8,mF 10 0 9,oF 11 9 (.bin .eql (tm 10) (Kc 2)),oo 12 (.pick (tm 9) (.const (.bool true)) (tm 11)),mv 13 12,mT 14 1 13,oT 15 13 (.bin .geq (tm 14) (Kc 0)),oo 16 (.pick (tm 13) (tm 15) (.const (.bool false))),mv 17 16,mT 18 1 17,oT 19 17 (.bin .leq (tm 18) (Kc 65535)),oo 20 (.pick (tm 17) (tm 19) (.const (.bool false))),mv 21 20,mT 22 2 21,oT 23 21 (.bin .geq (tm 22) (Kc 0)),oo 24 (.pick (tm 21) (tm 23) (.const (.bool false))),mv 25 24,mT 26 2 25,oT 27 25 (.bin .leq (tm 26) (Kc 1073741824)),oo 28 (.pick (tm 25) (tm 27) (.const (.bool false))),mv 6 28] []) .ret))
theorem l82 : (Tryd.f82.body.bind (lowC Tryd.prog 29 [])) = some c82 := by kernel_rfl
noncomputable def c71 : DCode := (.seq (.region [oo 1 (.box 1 (tm 0)),oo 2 (.mov (.const .nilfn))] []) (.seq (.region [oo 3 (.mkfn 91 [(tm 1)]),mv 2 3] []) .ret))
theorem l71 : (Tryd.f71.body.bind (lowC Tryd.prog 4 [])) = some c71 := by kernel_rfl
noncomputable def c91 : DCode := (.seq (.region [oo 4 (.load 1 false (tm 1)),oo 5 (.mrng (tm 4))] []) (.block 0 (.loop (.seq (.region [oo 6 (.mnext (tm 5)),oo 7 (.ext (tm 6) 0)] []) (.seq (.cond (tm 7) .skip (.exit 0)) (.block 1 (.seq (.region [oo 8 (.ment (tm 5)),oo 9 (.ext (tm 8) 0),oo 3 (.alloc [(Zi 0), (Zi 0), (Zi 0)]),o0 (.store 3 (tm 3) (tm 9))] []) (.seq (.sem 14 (rg0 3 Tryd.f91.body)) (.cond (tm 13) .ret .skip)))))))))
theorem l91 : (Tryd.f91.body.bind (lowC Tryd.prog 14 [1000003])) = some c91 := by kernel_rfl
noncomputable def c89 : DCode := (.seq (.region [oo 2 (.mov (.const .nil))] []) (.seq (.region [mv 3 0,oo 4 (.inl 100 [(.const .nil), (tm 3)]),mv 2 4] []) .ret))
theorem l89 : (Tryd.f89.body.bind (lowC Tryd.prog 5 [100])) = some c89 := by kernel_rfl
noncomputable def c70 : DCode := (.seq (.region [oo 4 (.mov (.const .nil))] []) (.seq (.region [mv 6 0,oo 7 (.inl 89 [(tm 6)]),mv 5 7] []) (.seq (.region [mv 8 5,mv 9 1,oo 10 (.inl 90 [(tm 8), (tm 9)])] []) (.seq (.region [mv 11 5,mv 4 11] []) .ret))))
theorem l70 : (Tryd.f70.body.bind (lowC Tryd.prog 12 [89, 90])) = some c70 := by kernel_rfl
end Go.RC
end
section
namespace Go.RC
open Go Go.DL Go.Proofs
set_option maxRecDepth 100000
set_option maxHeartbeats 1000000
abbrev M32 : Int := 4294967296
theorem and_mask {x : Int} (h : i64 x) : bitsI .and .i64 x 4294967295 = x % M32 := by
  obtain ⟨h1, h2⟩ := h
  have e1 : (BitVec.ofInt 64 4294967295).toNat = 2 ^ 32 - 1 := by decide
  have e2 : (BitVec.ofInt 64 x).toNat = (x % 18446744073709551616).toNat := by
    rw [BitVec.toNat_ofInt]; rfl
  show IntKind.i64.wrap ((BitVec.ofInt 64 x &&& BitVec.ofInt 64 4294967295).toNat : Int) = _
  rw [BitVec.toNat_and, e1, e2, Nat.and_two_pow_sub_one_eq_mod, wrap_id (by omega) (by omega)]
  unfold M32
  omega
def isS (a : List Int) : Prop := a.length = 4 ∧ ∀ x ∈ a, 0 ≤ x ∧ x < M32
def sAdd (a b : List Int) : List Int := List.zipWith (fun x y => (x + y) % M32) a b
def sSub (a b : List Int) : List Int := List.zipWith (fun x y => (x - y) % M32) a b
theorem isS_get {a : List Int} (h : isS a) {k : Nat} (hk : k < 4) : 0 ≤ a.getD k 0 ∧ a.getD k 0 < M32 := by
  have hk : k < a.length := by rw [h.1]; exact hk
  rw [List.getD_eq_getElem?_getD, List.getElem?_eq_getElem hk]
  exact h.2 _ (List.getElem_mem hk)
theorem isS_add {a b : List Int} (ha : isS a) (hb : isS b) : isS (sAdd a b) := by
  refine ⟨by simp [sAdd, ha.1, hb.1], fun x hx => ?_⟩
  unfold sAdd at hx
  obtain ⟨i, hi⟩ := List.mem_iff_getElem?.1 hx
  rw [List.getElem?_zipWith] at hi
  split at hi
  · simp only [Option.some.injEq] at hi; subst hi; unfold M32; omega
  · cases hi
theorem isS_sub {a b : List Int} (ha : isS a) (hb : isS b) : isS (sSub a b) := by
  refine ⟨by simp [sSub, ha.1, hb.1], fun x hx => ?_⟩
  unfold sSub at hx
  obtain ⟨i, hi⟩ := List.mem_iff_getElem?.1 hx
  rw [List.getElem?_zipWith] at hi
  split at hi
  · simp only [Option.some.injEq] at hi; subst hi; unfold M32; omega
  · cases hi
def ZJ (f : Int → Int → Int) (a b : List Int) : Nat → List Int
  | 0 => []
  | k + 1 => ZJ f a b k ++ [f (a.getD k 0) (b.getD k 0)]
theorem ZJ_len (f : Int → Int → Int) (a b : List Int) : ∀ k, (ZJ f a b k).length = k
  | 0 => rfl
  | k + 1 => by unfold ZJ; rw [List.length_append, ZJ_len f a b k]; rfl
theorem ZJ_4 (f : Int → Int → Int) {a b : List Int} (ha : a.length = 4) (hb : b.length = 4) : ZJ f a b 4 = List.zipWith f a b := by
  match a, b, ha, hb with
  | [_, _, _, _], [_, _, _, _], _, _ => rfl
theorem ZJ_set (f : Int → Int → Int) (a b r : List Int) (k : Nat) (hr : k < r.length) : (ZJ f a b k ++ r.drop k).set k (f (a.getD k 0) (b.getD k 0)) = ZJ f a b (k + 1) ++ r.drop (k + 1) := by
  have hl := ZJ_len f a b k
  rw [List.set_append, if_neg (by omega), hl, Nat.sub_self, List.drop_eq_getElem_cons hr]
  show ZJ f a b k ++ f (a.getD k 0) (b.getD k 0) :: r.drop (k + 1) = (ZJ f a b k ++ [f (a.getD k 0) (b.getD k 0)]) ++ r.drop (k + 1)
  rw [List.append_assoc]
  rfl
theorem ZJ_get (f : Int → Int → Int) (a b r : List Int) (k : Nat) (hr : k < r.length) : (ZJ f a b k ++ r.drop k).getD k 0 = r.getD k 0 := by
  have hl := ZJ_len f a b k
  rw [List.getD_eq_getElem?_getD, List.getElem?_append_right (by omega), hl, Nat.sub_self, List.getElem?_drop, Nat.add_zero, ← List.getD_eq_getElem?_getD]
abbrev sm (a : List Int) : T := .agg (a.map I)
abbrev zI4 : List T := [I 0, I 0, I 0, I 0]
theorem t_sAdd (a b : List Int) (ha : isS a) (hb : isS b) : DCalls Tryd.prog 14 [sm a, sm b] (sm (sAdd a b)) := by
  refine dcalls_low (rs := [.cell 4 25]) mixed Tryd.func14 l14 rfl rfl rfl (r := [.agg _]) (Nat.le_of_ble_eq_true rfl) ?_
  have hal := ha.1
  have hbl := hb.1
  repeat' ((conv => whnf); first | exact trivial | refine nT_ ?_ | refine aE1 ?_ | refine aE0 ?_ | refine aN1 ?_ | refine aN0 ?_ | refine aD1 ?_ | refine aD0 ?_ | refine nE_ (fun hq => ?_) (fun hq => ?_) | refine nN_ (fun hq => ?_) (fun hq => ?_) | refine nD_ (fun hq => ?_) (fun hq => ?_) | refine rb1 ?_ | refine rb0 ?_ | refine rbx ?_ | refine rix ?_ | (refine And.intro (by first | (exact (List.length_map _).trans hal; done) | (exact (List.length_map _).trans hbl; done) | fail) ?_) | refine aS ?_ | fail)
  refine wpC_loopE 0 (α := Nat) (β := Unit) (fun k => {sl := [(2, .ptr 2 0), (3, .ptr 3 0), (4, .ptr 4 0), (6, .t (I k))], bx := [(2, .d 4 ((ZJ (fun x y => (x + y) % M32) a b k ++ a.drop k).map I)), (3, .d 4 (b.map I)), (4, .d 4 zI4)]})
    (fun k => k ≤ 4) (fun k => 4 - k) (fun _ => {sl := [(2, .ptr 2 0), (4, .ptr 4 0)], bx := [(2, .d 4 ((sAdd a b).map I)), (4, .d 4 zI4)]}) (fun _ => True) 0 (by omega) ?_ ?_ ?_
  · repeat' (first | exact trivial | exact LeV.same _ | exact LeB.same _ | exact rfl | exact fun _ _ _ => trivial | exact lI | exact LeV.nil _ _ _ | exact lB | refine leBd ?_ | refine leOwn ?_ | refine And.intro ?_ ?_)
  · intro k hk
    rcases Nat.lt_or_ge k 4 with h | h
    · have hS := ZJ_set (fun x y => (x + y) % M32) a b a k (by omega)
      have hG := ZJ_get (fun x y => (x + y) % M32) a b a k (by omega)
      have hl : (ZJ (fun x y => (x + y) % M32) a b k ++ a.drop k).length = 4 := by rw [List.length_append, ZJ_len, List.length_drop]; omega
      generalize ZJ (fun x y => (x + y) % M32) a b k ++ a.drop k = cur at hS hG hl
      obtain ⟨a0, a1⟩ := isS_get ha h
      obtain ⟨b0, b1⟩ := isS_get hb h
      generalize a.getD k 0 = x at *
      have hw : bitsI .and .i64 (IntKind.i64.wrap (x + b.getD k 0)) 4294967295 = (x + b.getD k 0) % M32 := by
        unfold M32 at *
        rw [wrap_id (by omega) (by omega), and_mask (by unfold i64; omega)]
      repeat' ((conv => whnf); first | exact trivial | (refine nv_ (I (cur.getD k 0)) (by first | (exact mgetk k (by omega) (by omega); done) | fail) ?_) | (refine nv_ (I (b.getD k 0)) (by first | (exact mgetk k (by omega) (by omega); done) | fail) ?_) | refine nT_ ?_ | refine aE1 ?_ | refine aE0 ?_ | refine aN1 ?_ | refine aN0 ?_ | refine aD1 ?_ | refine aD0 ?_ | refine nE_ (fun hq => ?_) (fun hq => ?_) | refine nN_ (fun hq => ?_) (fun hq => ?_) | refine nD_ (fun hq => ?_) (fun hq => ?_) | refine rb1 ?_ | refine rb0 ?_ | refine rbx ?_ | refine rix ?_ | (refine And.intro (by first | (omega; done) | fail) ?_) | refine aS ?_ | fail)
      refine ⟨k + 1, by omega, by omega, ?_⟩
      repeat' (first | exact trivial | exact LeV.same _ | exact LeB.same _ | exact rfl | exact fun _ _ _ => trivial | exact lI | exact LeV.nil _ _ _ | exact lB | refine leBd ?_ | refine leOwn ?_ | refine And.intro ?_ ?_)
      rw [← hS, ← mset, hG, hw]
      simp only [Int.toNat_natCast, Nat.zero_add, Nat.mul_one]
    · have : k = 4 := by omega
      subst this
      repeat' ((conv => whnf); first | exact trivial | refine nT_ ?_ | refine aE1 ?_ | refine aE0 ?_ | refine aN1 ?_ | refine aN0 ?_ | refine aD1 ?_ | refine aD0 ?_ | refine nE_ (fun hq => ?_) (fun hq => ?_) | refine nN_ (fun hq => ?_) (fun hq => ?_) | refine nD_ (fun hq => ?_) (fun hq => ?_) | refine rb1 ?_ | refine rb0 ?_ | refine rbx ?_ | refine rix ?_ | refine aS ?_ | fail)
      refine ⟨(), trivial, by repeat' (first | ((refine leBd ?_; rw [ZJ_4 _ hal hbl, List.drop_eq_nil_of_le (by omega), List.append_nil]; rfl)) | exact trivial | exact LeV.same _ | exact LeB.same _ | exact rfl | exact fun _ _ _ => trivial | exact lI | exact LeV.nil _ _ _ | exact lB | refine leBd ?_ | refine leOwn ?_ | refine And.intro ?_ ?_)⟩
  rintro - -
  have hsl := (isS_add ha hb).1
  repeat' ((conv => whnf); first | exact trivial | refine nT_ ?_ | refine aE1 ?_ | refine aE0 ?_ | refine aN1 ?_ | refine aN0 ?_ | refine aD1 ?_ | refine aD0 ?_ | refine nE_ (fun hq => ?_) (fun hq => ?_) | refine nN_ (fun hq => ?_) (fun hq => ?_) | refine nD_ (fun hq => ?_) (fun hq => ?_) | refine rb1 ?_ | refine rb0 ?_ | refine rbx ?_ | refine rix ?_ | (refine And.intro (by first | (exact ⟨(List.length_map _).trans hsl, by decide⟩; done) | fail) ?_) | refine aS ?_ | refine rt ?_ trivial | fail)
  exact congrArg T.agg (putL_all rfl)
theorem t_refAdd (a b : List Int) (ha : isS a) (hb : isS b) : DCalls Tryd.prog 15 [sm a, sm b] (sm (sAdd a b)) := by
  refine dcalls_low (rs := [.cell 4 25]) mixed Tryd.func15 l15 rfl rfl rfl (r := [.agg _]) (Nat.le_of_ble_eq_true rfl) ?_
  have hal := ha.1
  have hbl := hb.1
  repeat' ((conv => whnf); first | exact trivial | refine nT_ ?_ | refine aE1 ?_ | refine aE0 ?_ | refine aN1 ?_ | refine aN0 ?_ | refine aD1 ?_ | refine aD0 ?_ | refine nE_ (fun hq => ?_) (fun hq => ?_) | refine nN_ (fun hq => ?_) (fun hq => ?_) | refine nD_ (fun hq => ?_) (fun hq => ?_) | refine rb1 ?_ | refine rb0 ?_ | refine rbx ?_ | refine rix ?_ | (refine And.intro (by first | (exact (List.length_map _).trans hal; done) | (exact (List.length_map _).trans hbl; done) | fail) ?_) | refine aS ?_ | fail)
  refine wpC_loopE 0 (α := Nat) (β := Unit) (fun k => {sl := [(2, .ptr 2 0), (3, .ptr 3 0), (4, .ptr 4 0), (5, .ptr 5 0), (6, .t (I k))], bx := [(2, .d 4 (a.map I)), (3, .d 4 (b.map I)), (4, .d 4 zI4), (5, .d 4 ((ZJ (fun x y => (x + y) % M32) a b k ++ (List.replicate 4 0).drop k).map I))]})
    (fun k => k ≤ 4) (fun k => 4 - k) (fun _ => {sl := [(4, .ptr 4 0), (5, .ptr 5 0)], bx := [(4, .d 4 zI4), (5, .d 4 ((sAdd a b).map I))]}) (fun _ => True) 0 (by omega) ?_ ?_ ?_
  · repeat' (first | exact trivial | exact LeV.same _ | exact LeB.same _ | exact rfl | exact fun _ _ _ => trivial | exact lI | exact LeV.nil _ _ _ | exact lB | refine leBd ?_ | refine leOwn ?_ | refine And.intro ?_ ?_)
  · intro k hk
    rcases Nat.lt_or_ge k 4 with h | h
    · have hS := ZJ_set (fun x y => (x + y) % M32) a b (List.replicate 4 0) k (by simp; omega)
      generalize ZJ (fun x y => (x + y) % M32) a b k ++ (List.replicate 4 0).drop k = cur at hS
      obtain ⟨a0, a1⟩ := isS_get ha h
      obtain ⟨b0, b1⟩ := isS_get hb h
      have hw : (IntKind.i64.wrap (a.getD k 0 + b.getD k 0)).tmod 4294967296 = (a.getD k 0 + b.getD k 0) % M32 := by
        unfold M32 at *
        rw [wrap_id (by omega) (by omega), Int.tmod_eq_emod_of_nonneg (by omega)]
      repeat' ((conv => whnf); first | exact trivial | (refine nv_ (I (a.getD k 0)) (by first | (exact mgetk k (by omega) (by omega); done) | fail) ?_) | (refine nv_ (I (b.getD k 0)) (by first | (exact mgetk k (by omega) (by omega); done) | fail) ?_) | refine nT_ ?_ | refine aE1 ?_ | refine aE0 ?_ | refine aN1 ?_ | refine aN0 ?_ | refine aD1 ?_ | refine aD0 ?_ | refine nE_ (fun hq => ?_) (fun hq => ?_) | refine nN_ (fun hq => ?_) (fun hq => ?_) | refine nD_ (fun hq => ?_) (fun hq => ?_) | refine rb1 ?_ | refine rb0 ?_ | refine rbx ?_ | refine rix ?_ | (refine And.intro (by first | (omega; done) | fail) ?_) | refine aS ?_ | fail)
      refine ⟨k + 1, by omega, by omega, ?_⟩
      repeat' (first | exact trivial | exact LeV.same _ | exact LeB.same _ | exact rfl | exact fun _ _ _ => trivial | exact lI | exact LeV.nil _ _ _ | exact lB | refine leBd ?_ | refine leOwn ?_ | refine And.intro ?_ ?_)
      rw [← hS, ← mset, hw]
      simp only [Int.toNat_natCast, Nat.zero_add, Nat.mul_one]
    · have : k = 4 := by omega
      subst this
      repeat' ((conv => whnf); first | exact trivial | refine nT_ ?_ | refine aE1 ?_ | refine aE0 ?_ | refine aN1 ?_ | refine aN0 ?_ | refine aD1 ?_ | refine aD0 ?_ | refine nE_ (fun hq => ?_) (fun hq => ?_) | refine nN_ (fun hq => ?_) (fun hq => ?_) | refine nD_ (fun hq => ?_) (fun hq => ?_) | refine rb1 ?_ | refine rb0 ?_ | refine rbx ?_ | refine rix ?_ | refine aS ?_ | fail)
      refine ⟨(), trivial, by repeat' (first | ((refine leBd ?_; rw [ZJ_4 _ hal hbl, List.drop_eq_nil_of_le (by simp), List.append_nil]; rfl)) | exact trivial | exact LeV.same _ | exact LeB.same _ | exact rfl | exact fun _ _ _ => trivial | exact lI | exact LeV.nil _ _ _ | exact lB | refine leBd ?_ | refine leOwn ?_ | refine And.intro ?_ ?_)⟩
  rintro - -
  have hsl := (isS_add ha hb).1
  repeat' ((conv => whnf); first | exact trivial | refine nT_ ?_ | refine aE1 ?_ | refine aE0 ?_ | refine aN1 ?_ | refine aN0 ?_ | refine aD1 ?_ | refine aD0 ?_ | refine nE_ (fun hq => ?_) (fun hq => ?_) | refine nN_ (fun hq => ?_) (fun hq => ?_) | refine nD_ (fun hq => ?_) (fun hq => ?_) | refine rb1 ?_ | refine rb0 ?_ | refine rbx ?_ | refine rix ?_ | (refine And.intro (by first | (exact ⟨(List.length_map _).trans hsl, by decide⟩; done) | fail) ?_) | refine aS ?_ | refine rt ?_ trivial | fail)
  exact congrArg T.agg (putL_all rfl)
theorem t_sSub (a b : List Int) (ha : isS a) (hb : isS b) : DCalls Tryd.prog 16 [sm a, sm b] (sm (sSub a b)) := by
  refine dcalls_low (rs := [.cell 4 25]) mixed Tryd.func16 l16 rfl rfl rfl (r := [.agg _]) (Nat.le_of_ble_eq_true rfl) ?_
  have hal := ha.1
  have hbl := hb.1
  repeat' ((conv => whnf); first | exact trivial | refine nT_ ?_ | refine aE1 ?_ | refine aE0 ?_ | refine aN1 ?_ | refine aN0 ?_ | refine aD1 ?_ | refine aD0 ?_ | refine nE_ (fun hq => ?_) (fun hq => ?_) | refine nN_ (fun hq => ?_) (fun hq => ?_) | refine nD_ (fun hq => ?_) (fun hq => ?_) | refine rb1 ?_ | refine rb0 ?_ | refine rbx ?_ | refine rix ?_ | (refine And.intro (by first | (exact (List.length_map _).trans hal; done) | (exact (List.length_map _).trans hbl; done) | fail) ?_) | refine aS ?_ | fail)
  refine wpC_loopE 0 (α := Nat) (β := Unit) (fun k => {sl := [(2, .ptr 2 0), (3, .ptr 3 0), (4, .ptr 4 0), (6, .t (I k))], bx := [(2, .d 4 ((ZJ (fun x y => (x - y) % M32) a b k ++ a.drop k).map I)), (3, .d 4 (b.map I)), (4, .d 4 zI4)]})
    (fun k => k ≤ 4) (fun k => 4 - k) (fun _ => {sl := [(2, .ptr 2 0), (4, .ptr 4 0)], bx := [(2, .d 4 ((sSub a b).map I)), (4, .d 4 zI4)]}) (fun _ => True) 0 (by omega) ?_ ?_ ?_
  · repeat' (first | exact trivial | exact LeV.same _ | exact LeB.same _ | exact rfl | exact fun _ _ _ => trivial | exact lI | exact LeV.nil _ _ _ | exact lB | refine leBd ?_ | refine leOwn ?_ | refine And.intro ?_ ?_)
  · intro k hk
    rcases Nat.lt_or_ge k 4 with h | h
    · have hS := ZJ_set (fun x y => (x - y) % M32) a b a k (by omega)
      have hG := ZJ_get (fun x y => (x - y) % M32) a b a k (by omega)
      have hl : (ZJ (fun x y => (x - y) % M32) a b k ++ a.drop k).length = 4 := by rw [List.length_append, ZJ_len, List.length_drop]; omega
      generalize ZJ (fun x y => (x - y) % M32) a b k ++ a.drop k = cur at hS hG hl
      obtain ⟨a0, a1⟩ := isS_get ha h
      obtain ⟨b0, b1⟩ := isS_get hb h
      generalize a.getD k 0 = x at *
      have hw : bitsI .and .i64 (IntKind.i64.wrap (x - b.getD k 0)) 4294967295 = (x - b.getD k 0) % M32 := by
        unfold M32 at *
        rw [wrap_id (by omega) (by omega), and_mask (by unfold i64; omega)]
      repeat' ((conv => whnf); first | exact trivial | (refine nv_ (I (cur.getD k 0)) (by first | (exact mgetk k (by omega) (by omega); done) | fail) ?_) | (refine nv_ (I (b.getD k 0)) (by first | (exact mgetk k (by omega) (by omega); done) | fail) ?_) | refine nT_ ?_ | refine aE1 ?_ | refine aE0 ?_ | refine aN1 ?_ | refine aN0 ?_ | refine aD1 ?_ | refine aD0 ?_ | refine nE_ (fun hq => ?_) (fun hq => ?_) | refine nN_ (fun hq => ?_) (fun hq => ?_) | refine nD_ (fun hq => ?_) (fun hq => ?_) | refine rb1 ?_ | refine rb0 ?_ | refine rbx ?_ | refine rix ?_ | (refine And.intro (by first | (omega; done) | fail) ?_) | refine aS ?_ | fail)
      refine ⟨k + 1, by omega, by omega, ?_⟩
      repeat' (first | exact trivial | exact LeV.same _ | exact LeB.same _ | exact rfl | exact fun _ _ _ => trivial | exact lI | exact LeV.nil _ _ _ | exact lB | refine leBd ?_ | refine leOwn ?_ | refine And.intro ?_ ?_)
      rw [← hS, ← mset, hG, hw]
      simp only [Int.toNat_natCast, Nat.zero_add, Nat.mul_one]
    · have : k = 4 := by omega
      subst this
      repeat' ((conv => whnf); first | exact trivial | refine nT_ ?_ | refine aE1 ?_ | refine aE0 ?_ | refine aN1 ?_ | refine aN0 ?_ | refine aD1 ?_ | refine aD0 ?_ | refine nE_ (fun hq => ?_) (fun hq => ?_) | refine nN_ (fun hq => ?_) (fun hq => ?_) | refine nD_ (fun hq => ?_) (fun hq => ?_) | refine rb1 ?_ | refine rb0 ?_ | refine rbx ?_ | refine rix ?_ | refine aS ?_ | fail)
      refine ⟨(), trivial, by repeat' (first | ((refine leBd ?_; rw [ZJ_4 _ hal hbl, List.drop_eq_nil_of_le (by omega), List.append_nil]; rfl)) | exact trivial | exact LeV.same _ | exact LeB.same _ | exact rfl | exact fun _ _ _ => trivial | exact lI | exact LeV.nil _ _ _ | exact lB | refine leBd ?_ | refine leOwn ?_ | refine And.intro ?_ ?_)⟩
  rintro - -
  have hsl := (isS_sub ha hb).1
  repeat' ((conv => whnf); first | exact trivial | refine nT_ ?_ | refine aE1 ?_ | refine aE0 ?_ | refine aN1 ?_ | refine aN0 ?_ | refine aD1 ?_ | refine aD0 ?_ | refine nE_ (fun hq => ?_) (fun hq => ?_) | refine nN_ (fun hq => ?_) (fun hq => ?_) | refine nD_ (fun hq => ?_) (fun hq => ?_) | refine rb1 ?_ | refine rb0 ?_ | refine rbx ?_ | refine rix ?_ | (refine And.intro (by first | (exact ⟨(List.length_map _).trans hsl, by decide⟩; done) | fail) ?_) | refine aS ?_ | refine rt ?_ trivial | fail)
  exact congrArg T.agg (putL_all rfl)
end Go.RC
end
section
namespace Go.RC
open Go Go.DL Go.Proofs
set_option maxRecDepth 100000
set_option maxHeartbeats 1000000
theorem or_add64 {a b : Int} (k : Nat) (ha : 0 ≤ a) (ha2 : a < 4611686018427387904) (hd : a % 2 ^ k = 0) (hb : 0 ≤ b) (hb2 : b < 2 ^ k) (hk : k ≤ 32) : bitsI .or .i64 a b = a + b := by
  obtain ⟨a, rfl⟩ := Int.eq_ofNat_of_zero_le ha
  obtain ⟨b, rfl⟩ := Int.eq_ofNat_of_zero_le hb
  have hk2 : (2 : Nat) ^ k ≤ 2 ^ 32 := Nat.pow_le_pow_right (by decide) hk
  have hb3 : b < 2 ^ k := by exact_mod_cast hb2
  have hd2 : a % 2 ^ k = 0 := by exact_mod_cast hd
  have e : a ||| b = a + b := by
    have := Nat.two_pow_add_eq_or_of_lt hb3 (a / 2 ^ k)
    have h2 : 2 ^ k * (a / 2 ^ k) = a := Nat.mul_div_cancel' (Nat.dvd_of_mod_eq_zero hd2)
    rw [h2] at this
    exact this.symm
  have e1 : (BitVec.ofInt 64 ((a : Nat) : Int)).toNat = a := by
    rw [BitVec.ofInt_natCast, BitVec.toNat_ofNat, Nat.mod_eq_of_lt (by omega)]
  have e2 : (BitVec.ofInt 64 ((b : Nat) : Int)).toNat = b := by
    rw [BitVec.ofInt_natCast, BitVec.toNat_ofNat, Nat.mod_eq_of_lt (by omega)]
  show IntKind.i64.wrap ((BitVec.ofInt 64 ((a : Nat) : Int) ||| BitVec.ofInt 64 ((b : Nat) : Int)).toNat : Int) = _
  rw [BitVec.toNat_or, e1, e2, e, wrap_id (by omega) (by omega)]
  rfl
def OJ (ds : List Int) : Nat → List Int
  | 0 => [0, 0, 0, 0]
  | k + 1 => (OJ ds k).set (k / 4) (256 * (OJ ds k).getD (k / 4) 0 + ds.getD k 0)
theorem OJ_len (ds : List Int) : ∀ k, (OJ ds k).length = 4
  | 0 => rfl
  | k + 1 => by unfold OJ; rw [List.length_set, OJ_len ds k]
theorem OJ_s (ds : List Int) (k : Nat) : OJ ds (k + 1) = (OJ ds k).set (k / 4) (256 * (OJ ds k).getD (k / 4) 0 + ds.getD k 0) := rfl
theorem getB {ds : List Int} (hb : areB ds) (hl : ds.length = 16) {k : Nat} (hk : k < 16) : 0 ≤ ds.getD k 0 ∧ ds.getD k 0 < 256 := by
  rw [List.getD_eq_getElem?_getD, List.getElem?_eq_getElem (by omega)]
  exact hb _ (List.getElem_mem (by omega))
theorem OJ_lt {ds : List Int} (hb : areB ds) (hl : ds.length = 16) : ∀ k, k ≤ 16 → ∀ j, j < 4 → 0 ≤ (OJ ds k).getD j 0 ∧ (OJ ds k).getD j 0 < 256 ^ (min 4 (k - 4 * j))
  | 0, _, j, hj => by
    match j, hj with
    | 0, _ => exact (show 0 ≤ (0 : Int) ∧ (0 : Int) < 1 by decide)
    | 1, _ => exact (show 0 ≤ (0 : Int) ∧ (0 : Int) < 1 by decide)
    | 2, _ => exact (show 0 ≤ (0 : Int) ∧ (0 : Int) < 1 by decide)
    | 3, _ => exact (show 0 ≤ (0 : Int) ∧ (0 : Int) < 1 by decide)
  | k + 1, hk, j, hj => by
    have ih := OJ_lt hb hl k (by omega)
    have hlen := OJ_len ds k
    rw [OJ_s]
    by_cases e : j = k / 4
    · subst e
      obtain ⟨i0, i1⟩ := ih (k / 4) hj
      obtain ⟨b0, b1⟩ := getB hb hl (k := k) (by omega)
      rw [getD_set_self (by omega)]
      have e1 : min 4 (k - 4 * (k / 4)) = k % 4 := by omega
      have e2 : min 4 (k + 1 - 4 * (k / 4)) = k % 4 + 1 := by omega
      rw [e1] at i1
      rw [e2, Int.pow_succ]
      generalize (256 : Int) ^ (k % 4) = p at *
      omega
    · have : (((OJ ds k).set (k / 4) (256 * (OJ ds k).getD (k / 4) 0 + ds.getD k 0)).getD j 0) = (OJ ds k).getD j 0 := by
        rw [List.getD_eq_getElem?_getD, List.getElem?_set_ne (fun h => e h.symm), ← List.getD_eq_getElem?_getD]
      rw [this]
      obtain ⟨i0, i1⟩ := ih j hj
      refine ⟨i0, ?_⟩
      have : min 4 (k - 4 * j) = min 4 (k + 1 - 4 * j) := by omega
      rw [← this]
      exact i1
theorem OJ_24 {ds : List Int} (hb : areB ds) (hl : ds.length = 16) {k : Nat} (hk : k < 16) : 0 ≤ (OJ ds k).getD (k / 4) 0 ∧ (OJ ds k).getD (k / 4) 0 < 16777216 := by
  obtain ⟨h0, h1⟩ := OJ_lt hb hl k (by omega) (k / 4) (by omega)
  refine ⟨h0, Int.lt_of_lt_of_le h1 ?_⟩
  have e : min 4 (k - 4 * (k / 4)) = k % 4 := by omega
  rw [e]
  have : k % 4 < 4 := Nat.mod_lt _ (by decide)
  generalize k % 4 = r at this
  match r, this with
  | 0, _ => decide
  | 1, _ => decide
  | 2, _ => decide
  | 3, _ => decide
theorem OJ_isS {ds : List Int} (hb : areB ds) (hl : ds.length = 16) : isS (OJ ds 16) := by
  refine ⟨OJ_len ds 16, fun x hx => ?_⟩
  obtain ⟨j, hj⟩ := List.mem_iff_getElem?.1 hx
  have hj4 : j < 4 := by rw [← OJ_len ds 16]; exact (List.getElem?_eq_some_iff.1 hj).1
  obtain ⟨h0, h1⟩ := OJ_lt hb hl 16 (Nat.le_refl _) j hj4
  have e : (OJ ds 16).getD j 0 = x := by rw [List.getD_eq_getElem?_getD, hj]; rfl
  rw [e] at h0 h1
  refine ⟨h0, Int.lt_of_lt_of_le h1 ?_⟩
  have : min 4 (16 - 4 * j) = 4 := by omega
  rw [this]; decide
def okH (h : List Int) : Prop := h.length = 10 ∧ ∀ x ∈ h, 0 ≤ x ∧ x ≤ 65535
abbrev hd (h : List Int) : T := .agg (h.map I)
def txH (h : List Int) : ByteArray := strT ((vis h).map Y)
def dgH (h : List Int) : List Int := H (msg 4 [txH h])
def ofH (h : List Int) : List Int := OJ (dgH h) 16
theorem ofH_isS (h : List Int) : isS (ofH h) := OJ_isS (H_areB _) (H_len _)
theorem vis_areB (l : List Int) : areB (vis l) := fun b hb => by
  rcases List.mem_append.1 hb with h | h
  · exact vi_areB _ b h
  · obtain ⟨x, _, hx⟩ := List.mem_flatMap.1 h
    exact vi_areB x b hx
theorem vis_len {l : List Int} (h : ∀ x ∈ l, i64 x) (hl : l.length < 2 ^ 40) : (vis l).length ≤ 10 * l.length + 10 := by
  have h1 := flat_le vi 10 (l := l) (fun x hx => vi_len (h x hx))
  have h2 := vi_len (i64_nat (n := l.length) (by omega))
  unfold vis
  rw [List.length_append]
  omega
theorem txH_size {h : List Int} (hh : okH h) : (txH h).size ≤ 110 := by
  rw [← sB_len, txH, sB_strT _ (vis_areB h)]
  have := vis_len (l := h) (fun x hx => by have := hh.2 x hx; unfold i64; omega) (by rw [hh.1]; decide)
  rw [hh.1] at this
  omega
theorem t_OfH (h : List Int) (hh : okH h) : DCalls Tryd.prog 12 [hd h] (sm (ofH h)) := by
  refine dcalls_low (rs := [.cell 2 25]) mixed Tryd.func12 l12 rfl rfl rfl (r := [.agg _]) (Nat.le_of_ble_eq_true rfl) ?_
  have hl := hh.1
  have hI := f_Ints h (by rw [hl]; decide) (fun x hx => by have := hh.2 x hx; unfold i64; omega)
  rw [← chunk1 (f := I) h 10 hl] at hI
  have hsz := txH_size hh
  have hO := t_Of 4 [txH h] (fun s hs => by rw [List.mem_singleton.1 hs]; omega) (Nat.le_of_ble_eq_true rfl)
  have hdl : (dgH h).length = 16 := H_len _
  have hdb : areB (dgH h) := H_areB _
  unfold ofH
  unfold dgH at *
  generalize H (msg 4 [txH h]) = ds at hO hdl hdb
  unfold txH at hO
  repeat' ((conv => whnf); first | exact trivial | refine WC_own rfl hI ?_ | refine k_call _ (hO) ?_ | refine nT_ ?_ | refine aE1 ?_ | refine aE0 ?_ | refine aN1 ?_ | refine aN0 ?_ | refine aD1 ?_ | refine aD0 ?_ | refine nE_ (fun hq => ?_) (fun hq => ?_) | refine nN_ (fun hq => ?_) (fun hq => ?_) | refine nD_ (fun hq => ?_) (fun hq => ?_) | refine rb1 ?_ | refine rb0 ?_ | refine rbx ?_ | refine rix ?_ | (refine And.intro (by first | (exact (List.length_map _).trans hl; done) | (exact areU8_Y _; done) | (exact ⟨(List.length_map _).trans hdl, by decide⟩; done) | fail) ?_) | refine aS ?_ | fail)
  refine wpC_loopE 0 (α := Nat) (β := Unit) (fun k => {sl := [(2, .ptr 2 0), (3, .ptr 3 0), (4, .ptr 4 0), (11, .t (I k))], bx := [(2, .d 4 zI4), (3, .d 16 (ds.map Y)), (4, .d 4 ((OJ ds k).map I))]})
    (fun k => k ≤ 16) (fun k => 16 - k) (fun _ => {sl := [(2, .ptr 2 0), (4, .ptr 4 0)], bx := [(2, .d 4 zI4), (4, .d 4 ((OJ ds 16).map I))]}) (fun _ => True) 0 (by omega) ?_ ?_ ?_
  · repeat' (first | ((refine leBd ?_; exact (putL_all rfl).symm)) | exact trivial | exact LeV.same _ | exact LeB.same _ | exact rfl | exact fun _ _ _ => trivial | exact lI | exact LeV.nil _ _ _ | exact lB | refine leBd ?_ | refine leOwn ?_ | refine And.intro ?_ ?_)
  · intro k hk
    rcases Nat.lt_or_ge k 16 with h2 | h2
    · have hS := OJ_s ds k
      have hol := OJ_len ds k
      obtain ⟨o0, o1⟩ := OJ_24 hdb hdl h2
      obtain ⟨b0, b1⟩ := getB hdb hdl h2
      generalize OJ ds k = cur at hS hol o0 o1
      have q1 : IntKind.i64.wrap ((k : Int).tdiv 4) = (k / 4 : Nat) := by
        rw [show (k : Int).tdiv 4 = (k / 4 : Nat) from rfl]; simp (disch := omega) only [wrap_id, w32, w8, w64]
      have hw : bitsI .or .i64 (IntKind.i64.wrap (cur.getD (k / 4) 0 * 2 ^ 8)) (IntKind.i64.wrap (ds.getD k 0)) = 256 * cur.getD (k / 4) 0 + ds.getD k 0 := by
        rw [show (2 : Int) ^ 8 = 256 from rfl, wrap_id (by omega) (by omega), wrap_id (by omega) (by omega), or_add64 8 (by omega) (by omega) (by omega) (by omega) (by omega) (by omega)]
        omega
      repeat' ((conv => whnf); first | exact trivial | (refine nv_ (I (cur.getD (k / 4) 0)) (by first | (exact mgetk (k / 4) (by rw [q1]; omega) (by omega); done) | fail) ?_) | (refine nv_ (Y (ds.getD k 0)) (by first | (exact mgetk k (by omega) (by omega); done) | fail) ?_) | refine nT_ ?_ | refine aE1 ?_ | refine aE0 ?_ | refine aN1 ?_ | refine aN0 ?_ | refine aD1 ?_ | refine aD0 ?_ | refine nE_ (fun hq => ?_) (fun hq => ?_) | refine nN_ (fun hq => ?_) (fun hq => ?_) | refine nD_ (fun hq => ?_) (fun hq => ?_) | refine rb1 ?_ | refine rb0 ?_ | refine rbx ?_ | refine rix ?_ | (refine And.intro (by first | (omega; done) | ((rw [q1]; omega); done) | fail) ?_) | refine aS ?_ | fail)
      refine ⟨k + 1, by omega, by omega, ?_⟩
      repeat' (first | exact trivial | exact LeV.same _ | exact LeB.same _ | exact rfl | exact fun _ _ _ => trivial | exact lI | exact LeV.nil _ _ _ | exact lB | refine leBd ?_ | refine leOwn ?_ | refine And.intro ?_ ?_)
      rw [hS, ← mset, ← hw, q1]
      simp only [Int.toNat_natCast, Nat.zero_add, Nat.mul_one]
      rfl
    · have : k = 16 := by omega
      subst this
      repeat' ((conv => whnf); first | exact trivial | refine nT_ ?_ | refine aE1 ?_ | refine aE0 ?_ | refine aN1 ?_ | refine aN0 ?_ | refine aD1 ?_ | refine aD0 ?_ | refine nE_ (fun hq => ?_) (fun hq => ?_) | refine nN_ (fun hq => ?_) (fun hq => ?_) | refine nD_ (fun hq => ?_) (fun hq => ?_) | refine rb1 ?_ | refine rb0 ?_ | refine rbx ?_ | refine rix ?_ | refine aS ?_ | fail)
      exact ⟨(), trivial, by repeat' (first | exact trivial | exact LeV.same _ | exact LeB.same _ | exact rfl | exact fun _ _ _ => trivial | exact lI | exact LeV.nil _ _ _ | exact lB | refine leBd ?_ | refine leOwn ?_ | refine And.intro ?_ ?_)⟩
  rintro - -
  have hol := OJ_len ds 16
  generalize OJ ds 16 = os at hol
  repeat' ((conv => whnf); first | exact trivial | refine nT_ ?_ | refine aE1 ?_ | refine aE0 ?_ | refine aN1 ?_ | refine aN0 ?_ | refine aD1 ?_ | refine aD0 ?_ | refine nE_ (fun hq => ?_) (fun hq => ?_) | refine nN_ (fun hq => ?_) (fun hq => ?_) | refine nD_ (fun hq => ?_) (fun hq => ?_) | refine rb1 ?_ | refine rb0 ?_ | refine rbx ?_ | refine rix ?_ | (refine And.intro (by first | (exact ⟨(List.length_map _).trans hol, by decide⟩; done) | fail) ?_) | refine aS ?_ | refine rt ?_ trivial | fail)
  exact congrArg T.agg (putL_all rfl)
end Go.RC
end
section
namespace Go.RC
open Go Go.DL Go.Proofs
set_option maxRecDepth 100000
set_option maxHeartbeats 1000000
def rightH (h : List Int) : Bool := h.all fun x => decide (0 ≤ x) && decide (x ≤ 65535)
theorem rightH_ok {h : List Int} (hl : h.length = 10) : rightH h = true ↔ okH h := by
  unfold rightH okH
  simp [List.all_eq_true, hl]
theorem all_take {α : Type} {p : α → Bool} {l : List α} {i : Nat} (h : i < l.length) (ha : (l.take i).all p = true) (hp : p l[i] = true) : (l.take (i + 1)).all p = true := by
  rw [List.take_succ_eq_append_getElem h, List.all_append, ha]; simp [hp]
theorem all_no {α : Type} {p : α → Bool} {l : List α} {i : Nat} (h : i < l.length) (hp : p l[i] = false) : l.all p = false := by
  rw [List.all_eq_false]; exact ⟨l[i], List.getElem_mem h, by simp [hp]⟩
def isSb (a : List Int) : Bool := a.all fun x => decide (0 ≤ x) && decide (x < M32)
theorem isSb_ok {a : List Int} (hl : a.length = 4) : isSb a = true ↔ isS a := by
  unfold isSb isS
  simp [List.all_eq_true, hl]
theorem t_IsSum (h : List Int) (hl : h.length = 4) : DCalls Tryd.prog 10 [sm h] (.bool (isSb h)) := by
  refine dcalls_low (rs := [.tmp 2]) mixed Tryd.func10 l10 rfl rfl rfl (r := [.bool _]) (Nat.le_of_ble_eq_true rfl) ?_
  repeat' ((conv => whnf); first | exact trivial | refine nT_ ?_ | refine aE1 ?_ | refine aE0 ?_ | refine aN1 ?_ | refine aN0 ?_ | refine aD1 ?_ | refine aD0 ?_ | refine nE_ (fun hq => ?_) (fun hq => ?_) | refine nN_ (fun hq => ?_) (fun hq => ?_) | refine nD_ (fun hq => ?_) (fun hq => ?_) | refine rb1 ?_ | refine rb0 ?_ | refine rbx ?_ | refine rix ?_ | (refine And.intro (by first | (exact (List.length_map _).trans hl; done) | fail) ?_) | refine aS ?_ | fail)
  refine wpC_loopE 0 (α := Nat) (β := Unit) (fun i => {sl := [(1, .ptr 1 0), (3, .t (I i))], bx := [(1, .d 4 (h.map I))]})
    (fun i => i ≤ 4 ∧ (h.take i).all (fun x => decide (0 ≤ x) && decide (x < M32)) = true) (fun i => 4 - i) (fun _ => {sl := [], bx := []}) (fun _ => isSb h = true) 0 (by simp) ?_ ?_ ?_
  · repeat' (first | exact trivial | exact LeV.same _ | exact LeB.same _ | exact rfl | exact fun _ _ _ => trivial | exact lI | exact LeV.nil _ _ _ | exact lB | refine leBd ?_ | refine leOwn ?_ | refine And.intro ?_ ?_)
  · rintro i ⟨hi, ha⟩
    rcases Nat.lt_or_ge i 4 with h2 | h2
    · have hg : h.getD i 0 = h[i] := by rw [List.getD_eq_getElem?_getD, List.getElem?_eq_getElem (by omega)]; rfl
      have hno := all_no (p := fun x => decide (0 ≤ x) && decide (x < M32)) (l := h) (i := i) (by omega)
      have hye := all_take (p := fun x => decide (0 ≤ x) && decide (x < M32)) (l := h) (i := i) (by omega) ha
      rw [← hg] at hno hye
      generalize h.getD i 0 = x at hno hye hg
      repeat' ((conv => whnf); first | exact trivial | (refine nv_ (I x) (by first | ((rw [mgetk i (by omega) (by omega), List.getD_eq_getElem?_getD, List.getElem?_eq_getElem (by omega)]; exact congrArg I hg.symm); done) | fail) ?_) | refine nT_ ?_ | refine aE1 ?_ | refine aE0 ?_ | refine aN1 ?_ | refine aN0 ?_ | refine aD1 ?_ | refine aD0 ?_ | refine nE_ (fun hq => ?_) (fun hq => ?_) | refine nN_ (fun hq => ?_) (fun hq => ?_) | refine nD_ (fun hq => ?_) (fun hq => ?_) | refine rb1 ?_ | refine rb0 ?_ | refine rbx ?_ | refine rix ?_ | (refine And.intro (by first | (omega; done) | fail) ?_) | refine aS ?_ | fail)
      · exact rb (hno (by simp [M32]; omega)).symm trivial
      · exact rb (hno (by simp [M32]; omega)).symm trivial
      · exact ⟨i + 1, ⟨by omega, hye (by simp [M32]; omega)⟩, by omega, by repeat' (first | exact trivial | exact LeV.same _ | exact LeB.same _ | exact rfl | exact fun _ _ _ => trivial | exact lI | exact LeV.nil _ _ _ | exact lB | refine leBd ?_ | refine leOwn ?_ | refine And.intro ?_ ?_)⟩
    · have : i = 4 := by omega
      subst this
      repeat' ((conv => whnf); first | exact trivial | refine nT_ ?_ | refine aE1 ?_ | refine aE0 ?_ | refine aN1 ?_ | refine aN0 ?_ | refine aD1 ?_ | refine aD0 ?_ | refine nE_ (fun hq => ?_) (fun hq => ?_) | refine nN_ (fun hq => ?_) (fun hq => ?_) | refine nD_ (fun hq => ?_) (fun hq => ?_) | refine rb1 ?_ | refine rb0 ?_ | refine rbx ?_ | refine rix ?_ | refine aS ?_ | fail)
      rw [List.take_of_length_le (by omega)] at ha
      exact ⟨(), ha, by repeat' (first | exact trivial | exact LeV.same _ | exact LeB.same _ | exact rfl | exact fun _ _ _ => trivial | exact lI | exact LeV.nil _ _ _ | exact lB | refine leBd ?_ | refine leOwn ?_ | refine And.intro ?_ ?_)⟩
  rintro - hr
  repeat' ((conv => whnf); first | exact trivial | refine nT_ ?_ | refine aE1 ?_ | refine aE0 ?_ | refine aN1 ?_ | refine aN0 ?_ | refine aD1 ?_ | refine aD0 ?_ | refine nE_ (fun hq => ?_) (fun hq => ?_) | refine nN_ (fun hq => ?_) (fun hq => ?_) | refine nD_ (fun hq => ?_) (fun hq => ?_) | refine rb1 ?_ | refine rb0 ?_ | refine rbx ?_ | refine rix ?_ | refine aS ?_ | (exact rb hr.symm trivial) | fail)
def cmpI (x y : Int) : Int := if x < y then -1 else if y < x then 1 else 0
theorem t_isNaN (x : Int) : DCalls Tryd.prog 95 [I x] (.bool false) := by
  refine dcalls_low (rs := [.tmp 2]) mixed Tryd.func95 l95 rfl rfl rfl (r := [.bool _]) (Nat.le_of_ble_eq_true rfl) ?_
  repeat' ((conv => whnf); first | exact trivial | refine nT_ ?_ | refine aE1 ?_ | refine aE0 ?_ | refine aN1 ?_ | refine aN0 ?_ | refine aD1 ?_ | refine aD0 ?_ | refine nE_ (fun hq => ?_) (fun hq => ?_) | refine nN_ (fun hq => ?_) (fun hq => ?_) | refine nD_ (fun hq => ?_) (fun hq => ?_) | refine rb1 ?_ | refine rb0 ?_ | refine rbx ?_ | refine rix ?_ | refine aS ?_ | fail)
theorem t_cmp (x y : Int) : DCalls Tryd.prog 81 [I x, I y] (I (cmpI x y)) := by
  refine dcalls_low (rs := [.tmp 4]) mixed Tryd.func81 l81 rfl rfl rfl (r := [I _]) (Nat.le_of_ble_eq_true rfl) ?_
  unfold cmpI
  repeat' ((conv => whnf); first | exact trivial | refine k_call _ (t_isNaN _) ?_ | refine nT_ ?_ | refine aE1 ?_ | refine aE0 ?_ | refine aN1 ?_ | refine aN0 ?_ | refine aD1 ?_ | refine aD0 ?_ | refine nE_ (fun hq => ?_) (fun hq => ?_) | refine nN_ (fun hq => ?_) (fun hq => ?_) | refine nD_ (fun hq => ?_) (fun hq => ?_) | refine rb1 ?_ | refine rb0 ?_ | refine rbx ?_ | refine rix ?_ | refine aS ?_ | fail)
  all_goals (refine ri ?_ trivial; split <;> (try split) <;> first | rfl | omega)
def orI : List Int → Int
  | [] => 0
  | x :: l => if x ≠ 0 then x else orI l
theorem t_Or3 (x y z : Int) : DCalls Tryd.prog 80 [.slice 1 [I x, I y, I z]] (I (orI [x, y, z])) := by
  refine dcalls_low (rs := [.tmp 2]) mixed Tryd.func80 l80 rfl rfl rfl (r := [I _]) (Nat.le_of_ble_eq_true rfl) ?_
  repeat' ((conv => whnf); first | exact trivial | refine nT_ ?_ | refine aE1 ?_ | refine aE0 ?_ | refine aN1 ?_ | refine aN0 ?_ | refine aD1 ?_ | refine aD0 ?_ | refine nE_ (fun hq => ?_) (fun hq => ?_) | refine nN_ (fun hq => ?_) (fun hq => ?_) | refine nD_ (fun hq => ?_) (fun hq => ?_) | refine rb1 ?_ | refine rb0 ?_ | refine rbx ?_ | refine rix ?_ | refine aS ?_ | fail)
  refine wpC_loopE 0 (α := Nat) (β := Unit) (fun i => {sl := [(3, .t (I 0)), (6, .t (.slice 1 [I x, I y, I z])), (7, .t (I 3)), (8, .t (I i))], bx := []})
    (fun i => i ≤ 3 ∧ orI ([x, y, z].drop i) = orI [x, y, z]) (fun i => 3 - i) (fun _ => {sl := [(3, .t (I 0))], bx := []}) (fun _ => orI [x, y, z] = 0) 0 ⟨by omega, rfl⟩ ?_ ?_ ?_
  · repeat' (first | exact trivial | exact LeV.same _ | exact LeB.same _ | exact rfl | exact fun _ _ _ => trivial | exact lI | exact LeV.nil _ _ _ | exact lB | refine leBd ?_ | refine leOwn ?_ | refine And.intro ?_ ?_)
  · rintro i ⟨hi, ho⟩
    have step : ∀ w l, orI (w :: l) = orI [x, y, z] → (w ≠ 0 → w = orI [x, y, z]) ∧ (w = 0 → orI l = orI [x, y, z]) := fun w l h => by
      unfold orI at h
      refine ⟨fun hw => ?_, fun hw => ?_⟩
      · rw [if_pos hw] at h; exact h
      · rw [if_neg (by simpa using hw)] at h; exact h
    match i, hi with
    | 0, _ =>
      obtain ⟨s1, s2⟩ := step x [y, z] ho
      repeat' ((conv => whnf); first | exact trivial | refine nT_ ?_ | refine aE1 ?_ | refine aE0 ?_ | refine aN1 ?_ | refine aN0 ?_ | refine aD1 ?_ | refine aD0 ?_ | refine nE_ (fun hq => ?_) (fun hq => ?_) | refine nN_ (fun hq => ?_) (fun hq => ?_) | refine nD_ (fun hq => ?_) (fun hq => ?_) | refine rb1 ?_ | refine rb0 ?_ | refine rbx ?_ | refine rix ?_ | refine aS ?_ | fail)
      exact ⟨1, ⟨by omega, s2 hq⟩, by omega, by repeat' (first | exact trivial | exact LeV.same _ | exact LeB.same _ | exact rfl | exact fun _ _ _ => trivial | exact lI | exact LeV.nil _ _ _ | exact lB | refine leBd ?_ | refine leOwn ?_ | refine And.intro ?_ ?_)⟩
    | 1, _ =>
      obtain ⟨s1, s2⟩ := step y [z] ho
      repeat' ((conv => whnf); first | exact trivial | refine nT_ ?_ | refine aE1 ?_ | refine aE0 ?_ | refine aN1 ?_ | refine aN0 ?_ | refine aD1 ?_ | refine aD0 ?_ | refine nE_ (fun hq => ?_) (fun hq => ?_) | refine nN_ (fun hq => ?_) (fun hq => ?_) | refine nD_ (fun hq => ?_) (fun hq => ?_) | refine rb1 ?_ | refine rb0 ?_ | refine rbx ?_ | refine rix ?_ | refine aS ?_ | fail)
      exact ⟨2, ⟨by omega, s2 hq⟩, by omega, by repeat' (first | exact trivial | exact LeV.same _ | exact LeB.same _ | exact rfl | exact fun _ _ _ => trivial | exact lI | exact LeV.nil _ _ _ | exact lB | refine leBd ?_ | refine leOwn ?_ | refine And.intro ?_ ?_)⟩
    | 2, _ =>
      obtain ⟨s1, s2⟩ := step z [] ho
      repeat' ((conv => whnf); first | exact trivial | refine nT_ ?_ | refine aE1 ?_ | refine aE0 ?_ | refine aN1 ?_ | refine aN0 ?_ | refine aD1 ?_ | refine aD0 ?_ | refine nE_ (fun hq => ?_) (fun hq => ?_) | refine nN_ (fun hq => ?_) (fun hq => ?_) | refine nD_ (fun hq => ?_) (fun hq => ?_) | refine rb1 ?_ | refine rb0 ?_ | refine rbx ?_ | refine rix ?_ | refine aS ?_ | fail)
      exact ⟨3, ⟨by omega, s2 hq⟩, by omega, by repeat' (first | exact trivial | exact LeV.same _ | exact LeB.same _ | exact rfl | exact fun _ _ _ => trivial | exact lI | exact LeV.nil _ _ _ | exact lB | refine leBd ?_ | refine leOwn ?_ | refine And.intro ?_ ?_)⟩
    | 3, _ =>
      repeat' ((conv => whnf); first | exact trivial | refine nT_ ?_ | refine aE1 ?_ | refine aE0 ?_ | refine aN1 ?_ | refine aN0 ?_ | refine aD1 ?_ | refine aD0 ?_ | refine nE_ (fun hq => ?_) (fun hq => ?_) | refine nN_ (fun hq => ?_) (fun hq => ?_) | refine nD_ (fun hq => ?_) (fun hq => ?_) | refine rb1 ?_ | refine rb0 ?_ | refine rbx ?_ | refine rix ?_ | refine aS ?_ | fail)
      exact ⟨(), ho.symm, by repeat' (first | exact trivial | exact LeV.same _ | exact LeB.same _ | exact rfl | exact fun _ _ _ => trivial | exact lI | exact LeV.nil _ _ _ | exact lB | refine leBd ?_ | refine leOwn ?_ | refine And.intro ?_ ?_)⟩
    | i + 4, h => omega
  rintro - hr
  repeat' ((conv => whnf); first | exact trivial | refine nT_ ?_ | refine aE1 ?_ | refine aE0 ?_ | refine aN1 ?_ | refine aN0 ?_ | refine aD1 ?_ | refine aD0 ?_ | refine nE_ (fun hq => ?_) (fun hq => ?_) | refine nN_ (fun hq => ?_) (fun hq => ?_) | refine nD_ (fun hq => ?_) (fun hq => ?_) | refine rb1 ?_ | refine rb0 ?_ | refine rbx ?_ | refine rix ?_ | refine aS ?_ | (exact ri hr.symm trivial) | fail)
abbrev nm (s p f : Int) : T := .agg [I s, I p, I f]
def cmpN (a b : Int × Int × Int) : Int := orI [cmpI a.1 b.1, cmpI a.2.1 b.2.1, cmpI a.2.2 b.2.2]
def rightN (s p f : Int) : Bool := decide (s ≥ 1) && decide (s ≤ 2) && decide (p ≥ 0) && decide (p ≤ 65535) && decide (f ≥ 0) && decide (f ≤ 1073741824)
theorem t_right (s p f : Int) : DCalls Tryd.prog 50 [nm s p f] (.bool (rightN s p f)) := by
  refine dcalls_low (rs := [.tmp 2]) mixed Tryd.func50 l50 rfl rfl rfl (r := [.bool _]) (Nat.le_of_ble_eq_true rfl) ?_
  unfold rightN
  repeat' ((conv => whnf); first | exact trivial | refine nD_ (fun hq => ?_) (fun hq => ?_) | refine nT_ ?_ | refine aE1 ?_ | refine aE0 ?_ | refine aN1 ?_ | refine aN0 ?_ | refine aD1 ?_ | refine aD0 ?_ | refine nE_ (fun hq => ?_) (fun hq => ?_) | refine nN_ (fun hq => ?_) (fun hq => ?_) | refine nD_ (fun hq => ?_) (fun hq => ?_) | refine rb1 ?_ | refine rb0 ?_ | refine rbx ?_ | refine rix ?_ | refine aS ?_ | fail)
  all_goals (refine rb ?_ trivial; simp [*])
theorem t_compare (a b : Int × Int × Int) : DCalls Tryd.prog 52 [nm a.1 a.2.1 a.2.2, nm b.1 b.2.1 b.2.2] (I (cmpN a b)) := by
  refine dcalls_low (rs := [.tmp 4]) mixed Tryd.func52 l52 rfl rfl rfl (r := [I _]) (Nat.le_of_ble_eq_true rfl) ?_
  unfold cmpN
  repeat' ((conv => whnf); first | exact trivial | refine k_call _ (t_cmp _ _) ?_ | refine k_call _ (t_Or3 _ _ _) ?_ | refine nT_ ?_ | refine aE1 ?_ | refine aE0 ?_ | refine aN1 ?_ | refine aN0 ?_ | refine aD1 ?_ | refine aD0 ?_ | refine nE_ (fun hq => ?_) (fun hq => ?_) | refine nN_ (fun hq => ?_) (fun hq => ?_) | refine nD_ (fun hq => ?_) (fun hq => ?_) | refine rb1 ?_ | refine rb0 ?_ | refine rbx ?_ | refine rix ?_ | refine aS ?_ | fail)
abbrev ln (x : List Int) : T := .agg (x.map I)
theorem t_of (x : List Int) (hx : x.length = 8) : DCalls Tryd.prog 49 [ln x] (nm (x.getD 0 0) (x.getD 1 0) (x.getD 2 0)) := by
  refine dcalls_low (rs := [.cell 2 83]) mixed Tryd.func49 l49 rfl rfl rfl (r := [.agg _]) (Nat.le_of_ble_eq_true rfl) ?_
  match x, hx with
  | [_, _, _, _, _, _, _, _], _ => repeat' ((conv => whnf); first | exact trivial | refine nT_ ?_ | refine aE1 ?_ | refine aE0 ?_ | refine aN1 ?_ | refine aN0 ?_ | refine aD1 ?_ | refine aD0 ?_ | refine nE_ (fun hq => ?_) (fun hq => ?_) | refine nN_ (fun hq => ?_) (fun hq => ?_) | refine nD_ (fun hq => ?_) (fun hq => ?_) | refine rb1 ?_ | refine rb0 ?_ | refine rbx ?_ | refine rix ?_ | refine aS ?_ | fail)
def ixP {α : Type} (p : α → Bool) : List α → Int → Int
  | [], _ => -1
  | x :: l, i => if p x then i else ixP p l (i + 1)
theorem ixP_any {α : Type} (p : α → Bool) : ∀ (l : List α) (i : Int), 0 ≤ i → decide (ixP p l i ≥ 0) = l.any p
  | [], _, _ => rfl
  | x :: l, i, h => by
    unfold ixP
    cases hp : p x with
    | true => simp [hp, h]
    | false =>
      simp only [Bool.false_eq_true, if_false, List.any_cons, hp, Bool.false_or]
      exact ixP_any p l (i + 1) (by omega)
theorem ixP_drop {α : Type} (p : α → Bool) {l : List α} {i : Nat} (h : i < l.length) : ixP p (l.drop i) i = if p l[i] then (i : Int) else ixP p (l.drop (i + 1)) (i + 1 : Nat) := by
  rw [List.drop_eq_getElem_cons h]
  conv => lhs; unfold ixP
  rfl
theorem t_IndexFunc (f : FuncId) (p : Int → Bool) (l : List Int) (hl : l.length < 2 ^ 60) (hf : ∀ x ∈ l, DCalls Tryd.prog f [I x] (.bool (p x))) : DCalls Tryd.prog 79 [.slice 1 (l.map I), .clos f []] (I (ixP p l 0)) := by
  refine dcalls_low (rs := [.tmp 4]) mixed Tryd.func79 l79 rfl rfl rfl (r := [I _]) (Nat.le_of_ble_eq_true rfl) ?_
  repeat' ((conv => whnf); first | exact trivial | refine nT_ ?_ | refine aE1 ?_ | refine aE0 ?_ | refine aN1 ?_ | refine aN0 ?_ | refine aD1 ?_ | refine aD0 ?_ | refine nE_ (fun hq => ?_) (fun hq => ?_) | refine nN_ (fun hq => ?_) (fun hq => ?_) | refine nD_ (fun hq => ?_) (fun hq => ?_) | refine rb1 ?_ | refine rb0 ?_ | refine rbx ?_ | refine rix ?_ | refine aS ?_ | fail)
  refine wpC_loopE 0 (α := Nat) (β := Unit) (fun i => {sl := [(0, .t (.slice 1 (l.map I))), (1, .t (.clos f [])), (7, .t (I l.length)), (8, .t (I i))], bx := []})
    (fun i => i ≤ l.length ∧ ixP p (l.drop i) i = ixP p l 0) (fun i => l.length - i) (fun _ => {sl := [], bx := []}) (fun _ => ixP p l 0 = -1) 0 ⟨by omega, rfl⟩ ?_ ?_ ?_
  · repeat' (first | ((refine leI ?_; simp; done)) | exact trivial | exact LeV.same _ | exact LeB.same _ | exact rfl | exact fun _ _ _ => trivial | exact lI | exact LeV.nil _ _ _ | exact lB | refine leBd ?_ | refine leOwn ?_ | refine And.intro ?_ ?_)
  · rintro i ⟨hi, ho⟩
    rcases Nat.lt_or_ge i l.length with h2 | h2
    · rw [ixP_drop p h2] at ho
      have hc := hf l[i] (List.getElem_mem h2)
      generalize hxe : l[i] = x at ho hc
      cases hp : p x with
      | true =>
        rw [hp, if_pos rfl] at ho
        rw [hp] at hc
        repeat' ((conv => whnf); first | exact trivial | (refine nv_ (I x) (by first | ((simp [h2, hxe]; done); done) | fail) ?_) | refine k_call _ (hc) ?_ | refine nT_ ?_ | refine aE1 ?_ | refine aE0 ?_ | refine aN1 ?_ | refine aN0 ?_ | refine aD1 ?_ | refine aD0 ?_ | refine nE_ (fun hq => ?_) (fun hq => ?_) | refine nN_ (fun hq => ?_) (fun hq => ?_) | refine nD_ (fun hq => ?_) (fun hq => ?_) | refine rb1 ?_ | refine rb0 ?_ | refine rbx ?_ | refine rix ?_ | (refine And.intro (by first | ((simp; omega); done) | fail) ?_) | refine aS ?_ | fail)
      | false =>
        rw [hp, if_neg (by simp)] at ho
        rw [hp] at hc
        repeat' ((conv => whnf); first | exact trivial | (refine nv_ (I x) (by first | ((simp [h2, hxe]; done); done) | fail) ?_) | refine k_call _ (hc) ?_ | refine nT_ ?_ | refine aE1 ?_ | refine aE0 ?_ | refine aN1 ?_ | refine aN0 ?_ | refine aD1 ?_ | refine aD0 ?_ | refine nE_ (fun hq => ?_) (fun hq => ?_) | refine nN_ (fun hq => ?_) (fun hq => ?_) | refine nD_ (fun hq => ?_) (fun hq => ?_) | refine rb1 ?_ | refine rb0 ?_ | refine rbx ?_ | refine rix ?_ | (refine And.intro (by first | ((simp; omega); done) | fail) ?_) | refine aS ?_ | fail)
        exact ⟨i + 1, ⟨by omega, ho⟩, by omega, by repeat' (first | exact trivial | exact LeV.same _ | exact LeB.same _ | exact rfl | exact fun _ _ _ => trivial | exact lI | exact LeV.nil _ _ _ | exact lB | refine leBd ?_ | refine leOwn ?_ | refine And.intro ?_ ?_)⟩
    · have : i = l.length := by omega
      subst this
      rw [List.drop_length] at ho
      repeat' ((conv => whnf); first | exact trivial | refine nT_ ?_ | refine aE1 ?_ | refine aE0 ?_ | refine aN1 ?_ | refine aN0 ?_ | refine aD1 ?_ | refine aD0 ?_ | refine nE_ (fun hq => ?_) (fun hq => ?_) | refine nN_ (fun hq => ?_) (fun hq => ?_) | refine nD_ (fun hq => ?_) (fun hq => ?_) | refine rb1 ?_ | refine rb0 ?_ | refine rbx ?_ | refine rix ?_ | refine aS ?_ | fail)
      exact ⟨(), ho.symm, by repeat' (first | exact trivial | exact LeV.same _ | exact LeB.same _ | exact rfl | exact fun _ _ _ => trivial | exact lI | exact LeV.nil _ _ _ | exact lB | refine leBd ?_ | refine leOwn ?_ | refine And.intro ?_ ?_)⟩
  rintro - hr
  repeat' ((conv => whnf); first | exact trivial | refine nT_ ?_ | refine aE1 ?_ | refine aE0 ?_ | refine aN1 ?_ | refine aN0 ?_ | refine aD1 ?_ | refine aD0 ?_ | refine nE_ (fun hq => ?_) (fun hq => ?_) | refine nN_ (fun hq => ?_) (fun hq => ?_) | refine nD_ (fun hq => ?_) (fun hq => ?_) | refine rb1 ?_ | refine rb0 ?_ | refine rbx ?_ | refine rix ?_ | refine aS ?_ | (exact ri hr.symm trivial) | fail)
theorem t_ContainsFunc (f : FuncId) (p : Int → Bool) (l : List Int) (hl : l.length < 2 ^ 60) (hf : ∀ x ∈ l, DCalls Tryd.prog f [I x] (.bool (p x))) : DCalls Tryd.prog 51 [.slice 1 (l.map I), .clos f []] (.bool (l.any p)) := by
  refine dcalls_low (rs := [.tmp 4]) mixed Tryd.func51 l51 rfl rfl rfl (r := [.bool _]) (Nat.le_of_ble_eq_true rfl) ?_
  have hc := t_IndexFunc f p l hl hf
  rw [← ixP_any p l 0 (Int.le_refl 0)]
  repeat' ((conv => whnf); first | exact trivial | refine k_call _ (hc) ?_ | refine nT_ ?_ | refine nT_ ?_ | refine aE1 ?_ | refine aE0 ?_ | refine aN1 ?_ | refine aN0 ?_ | refine aD1 ?_ | refine aD0 ?_ | refine nE_ (fun hq => ?_) (fun hq => ?_) | refine nN_ (fun hq => ?_) (fun hq => ?_) | refine nD_ (fun hq => ?_) (fun hq => ?_) | refine rb1 ?_ | refine rb0 ?_ | refine rbx ?_ | refine rix ?_ | refine aS ?_ | fail)
theorem t_odd (x : Int) : DCalls Tryd.prog 48 [I x] (.bool (decide (x < 0) || decide (x > 4294967295))) := by
  refine dcalls_low (rs := [.tmp 2]) mixed Tryd.func48 l48 rfl rfl rfl (r := [.bool _]) (Nat.le_of_ble_eq_true rfl) ?_
  repeat' ((conv => whnf); first | exact trivial | refine nD_ (fun hq => ?_) (fun hq => ?_) | refine nT_ ?_ | refine aE1 ?_ | refine aE0 ?_ | refine aN1 ?_ | refine aN0 ?_ | refine aD1 ?_ | refine aD0 ?_ | refine nE_ (fun hq => ?_) (fun hq => ?_) | refine nN_ (fun hq => ?_) (fun hq => ?_) | refine nD_ (fun hq => ?_) (fun hq => ?_) | refine rb1 ?_ | refine rb0 ?_ | refine rbx ?_ | refine rix ?_ | refine aS ?_ | fail)
  all_goals (refine rb ?_ trivial; simp [*])
theorem t_wide (x : Int) : DCalls Tryd.prog 69 [I x] (.bool (decide (x < 0) || decide (x > 65535))) := by
  refine dcalls_low (rs := [.tmp 2]) mixed Tryd.func69 l69 rfl rfl rfl (r := [.bool _]) (Nat.le_of_ble_eq_true rfl) ?_
  repeat' ((conv => whnf); first | exact trivial | refine nD_ (fun hq => ?_) (fun hq => ?_) | refine nT_ ?_ | refine aE1 ?_ | refine aE0 ?_ | refine aN1 ?_ | refine aN0 ?_ | refine aD1 ?_ | refine aD0 ?_ | refine nE_ (fun hq => ?_) (fun hq => ?_) | refine nN_ (fun hq => ?_) (fun hq => ?_) | refine nD_ (fun hq => ?_) (fun hq => ?_) | refine rb1 ?_ | refine rb0 ?_ | refine rbx ?_ | refine rix ?_ | refine aS ?_ | fail)
  all_goals (refine rb ?_ trivial; simp [*])
end Go.RC
end
section
namespace Go.RC
open Go Go.DL Go.Proofs
set_option maxRecDepth 100000
set_option maxHeartbeats 1000000
abbrev N3 := Int × Int × Int
abbrev linesT (ls : List (List Int)) : T := .slice 8 (ls.map ln)
abbrev rcC (n i : Int) (ls : List (List Int)) (pv : List Int) : List T := I n :: I i :: linesT ls :: pv.map Y
abbrev rcT (n i : Int) (ls : List (List Int)) (pv : List Int) : T := .agg (rcC n i ls pv)
theorem ex8 {x : List Int} (h : x.length = 8) : ∃ a b c d e f g i, x = [a, b, c, d, e, f, g, i] := by
  match x, h with
  | [a, b, c, d, e, f, g, i], _ => exact ⟨a, b, c, d, e, f, g, i, rfl⟩
theorem cells8 {ls : List (List Int)} (hx : ∀ x ∈ ls, x.length = 8) {j : Nat} (h : j < ls.length) : ((ls.map ln)[j]?.getD .nil).cells.length = 8 := by
  rw [List.getElem?_map, List.getElem?_eq_getElem h]
  exact (List.length_map _).trans (hx _ (List.getElem_mem h))
theorem aggLn {ls : List (List Int)} {j : Nat} {x : List Int} (h : ls[j]? = some x) : T.agg (((ls.map ln)[j]?.getD .nil).cells) = ln x := by
  rw [List.getElem?_map, h]; rfl
def nmOf (x : List Int) : N3 := (x.getD 0 0, x.getD 1 0, x.getD 2 0)
def okLn (x : List Int) : Bool := rightN (x.getD 0 0) (x.getD 1 0) (x.getD 2 0) && (decide (1 ≤ x.getD 3 0) && (decide (x.getD 3 0 ≤ 1073741824) && isSb (x.drop 4)))
def okAt (p : Option (List Int)) (x : List Int) : Bool := okLn x && (match p with | none => true | some q => decide (cmpN (nmOf q) (nmOf x) < 0))
def okFrom : Option (List Int) → List (List Int) → Bool
  | _, [] => true
  | p, x :: r => okAt p x && okFrom (some x) r
def prevAt (ls : List (List Int)) : Nat → Option (List Int)
  | 0 => none
  | k + 1 => ls[k]?
def chk (n i : Int) (ls : List (List Int)) : Int := if ls.length > 1000 then 2 else if n < 0 ∨ n ≥ 200 ∨ i < 0 ∨ i > 1048576 then 1 else if okFrom none ls then 0 else 1
theorem okFrom_drop {ls : List (List Int)} {k : Nat} (h : k < ls.length) : okFrom (prevAt ls k) (ls.drop k) = (okAt (prevAt ls k) ls[k] && okFrom (prevAt ls (k + 1)) (ls.drop (k + 1))) := by
  rw [List.drop_eq_getElem_cons h]
  show (okAt _ _ && okFrom (some ls[k]) _) = _
  show _ = (_ && okFrom ls[k]? _)
  rw [List.getElem?_eq_getElem h]
theorem odd_any (e f g i : Int) : ([e, f, g, i].any fun x => decide (x < 0) || decide (x > 4294967295)) = !isSb [e, f, g, i] := by
  have h : ∀ x : Int, (decide (x < 0) || decide (x > 4294967295)) = !(decide (0 ≤ x) && decide (x < M32)) := fun x => by
    unfold M32
    by_cases h1 : x < 0 <;> by_cases h2 : x > 4294967295 <;> simp [h1, h2] <;> omega
  simp only [isSb, List.any_cons, List.all_cons, h, Bool.not_and, List.any_nil, List.all_nil, Bool.or_false, Bool.and_true]
theorem okLn8 (a b c d e f g j : Int) : okLn [a, b, c, d, e, f, g, j] = (rightN a b c && (decide (1 ≤ d) && (decide (d ≤ 1073741824) && isSb [e, f, g, j]))) := rfl
theorem t_Check (n i : Int) (ls : List (List Int)) (pv : List Int) (hl : ls.length < 2 ^ 40) (hx : ∀ x ∈ ls, x.length = 8) (hp : pv.length = 16) : DCalls Tryd.prog 28 [rcT n i ls pv] (I (chk n i ls)) := by
  refine dcalls_low (rs := [.tmp 2]) mixed Tryd.func28 l28 rfl rfl rfl (r := [I _]) (Nat.le_of_ble_eq_true rfl) ?_
  have hlen : (rcC n i ls pv).length = 19 := by simp [hp]
  unfold chk
  by_cases h1 : ls.length > 1000
  · rw [if_pos h1]
    repeat' ((conv => whnf); first | exact trivial | (refine now_D1 (by simp; omega) ?_) | refine nT_ ?_ | refine aE1 ?_ | refine aE0 ?_ | refine aN1 ?_ | refine aN0 ?_ | refine aD1 ?_ | refine aD0 ?_ | refine nE_ (fun hq => ?_) (fun hq => ?_) | refine nN_ (fun hq => ?_) (fun hq => ?_) | refine nD_ (fun hq => ?_) (fun hq => ?_) | refine rb1 ?_ | refine rb0 ?_ | refine rbx ?_ | refine rix ?_ | (refine And.intro (by first | (exact hlen; done) | fail) ?_) | refine aS ?_ | fail)
  rw [if_neg h1]
  by_cases h2 : n < 0 ∨ n ≥ 200 ∨ i < 0 ∨ i > 1048576
  · rw [if_pos h2]
    repeat' ((conv => whnf); first | exact trivial | (refine now_D0 (by simp; omega) ?_) | refine nT_ ?_ | refine aE1 ?_ | refine aE0 ?_ | refine aN1 ?_ | refine aN0 ?_ | refine aD1 ?_ | refine aD0 ?_ | refine nE_ (fun hq => ?_) (fun hq => ?_) | refine nN_ (fun hq => ?_) (fun hq => ?_) | refine nD_ (fun hq => ?_) (fun hq => ?_) | refine rb1 ?_ | refine rb0 ?_ | refine rbx ?_ | refine rix ?_ | (refine And.intro (by first | (exact hlen; done) | fail) ?_) | refine aS ?_ | fail)
    all_goals omega
  rw [if_neg h2]
  repeat' ((conv => whnf); first | exact trivial | (refine now_D0 (by simp; omega) ?_) | refine nT_ ?_ | refine aE1 ?_ | refine aE0 ?_ | refine aN1 ?_ | refine aN0 ?_ | refine aD1 ?_ | refine aD0 ?_ | refine nE_ (fun hq => ?_) (fun hq => ?_) | refine nN_ (fun hq => ?_) (fun hq => ?_) | refine nD_ (fun hq => ?_) (fun hq => ?_) | refine rb1 ?_ | refine rb0 ?_ | refine rbx ?_ | refine rix ?_ | (refine And.intro (by first | (exact hlen; done) | fail) ?_) | refine aS ?_ | fail)
  refine wpC_loopE 0 (α := Nat) (β := Unit) (fun k => {sl := [(1, .ptr 1 0), (3, .t (.clos 48 [])), (29, .t (linesT ls)), (30, .t (I ls.length)), (31, .t (I k))], bx := [(1, .d 19 (rcC n i ls pv))]})
    (fun k => k ≤ ls.length ∧ okFrom (prevAt ls k) (ls.drop k) = okFrom none ls) (fun k => ls.length - k) (fun _ => {sl := [], bx := []}) (fun _ => okFrom none ls = true) 0 ⟨by omega, rfl⟩ ?_ ?_ ?_
  · repeat' (first | ((refine leI ?_; simp; done)) | exact trivial | exact LeV.same _ | exact LeB.same _ | exact rfl | exact fun _ _ _ => trivial | exact lI | exact LeV.nil _ _ _ | exact lB | refine leBd ?_ | refine leOwn ?_ | refine And.intro ?_ ?_)
  · rintro k ⟨hk, ho⟩
    rcases Nat.lt_or_ge k ls.length with h3 | h3
    · rw [okFrom_drop h3] at ho
      have hgo : okAt (prevAt ls k) ls[k] = true → okFrom (prevAt ls (k + 1)) (ls.drop (k + 1)) = okFrom none ls := fun h => by rw [h] at ho; exact ho
      have hno : okAt (prevAt ls k) ls[k] = false → (if okFrom none ls = true then (0 : Int) else 1) = 1 := fun h => by rw [← ho, h]; rfl
      obtain ⟨a, b, c, d, e, f, g, j, hxe⟩ := ex8 (hx ls[k] (List.getElem_mem h3))
      have hC := t_ContainsFunc 48 _ [e, f, g, j] (Nat.le_of_ble_eq_true rfl) (fun x _ => t_odd x)
      rw [odd_any] at hC
      have hR := t_right a b c
      have hO := t_of [a, b, c, d, e, f, g, j] rfl
      rw [hxe] at hgo hno
      have hno : okAt (prevAt ls k) [a, b, c, d, e, f, g, j] = false → (1 : Int) = if okFrom none ls = true then (0 : Int) else 1 := fun h => (hno h).symm
      have hp1 : ∀ h : 0 < k, ∃ p0 p1 p2 p3 p4 p5 p6 p7, ls[k - 1]? = some [p0, p1, p2, p3, p4, p5, p6, p7] ∧ prevAt ls k = some [p0, p1, p2, p3, p4, p5, p6, p7] := fun h => by
        obtain ⟨p0, p1, p2, p3, p4, p5, p6, p7, hp⟩ := ex8 (hx ls[k - 1] (List.getElem_mem (by omega)))
        refine ⟨p0, p1, p2, p3, p4, p5, p6, p7, by rw [← hp]; exact List.getElem?_eq_getElem _, ?_⟩
        obtain ⟨k, rfl⟩ : ∃ j, k = j + 1 := ⟨k - 1, by omega⟩
        rw [← hp]; exact List.getElem?_eq_getElem _
      have hO2 := fun p0 p1 p2 p3 p4 p5 p6 p7 => t_of [p0, p1, p2, p3, p4, p5, p6, p7] rfl
      cases h4 : rightN a b c with
      | false =>
        rw [h4] at hR
        have hf := hno (by unfold okAt; rw [okLn8, h4]; rfl)
        repeat' ((conv => whnf); first | exact trivial | (refine nv_ (ln [a, b, c, d, e, f, g, j]) (by first | ((simp [h3, hxe]); done) | fail) ?_) | refine k_call _ (hO) ?_ | refine k_call _ (hR) ?_ | refine nT_ ?_ | refine aE1 ?_ | refine aE0 ?_ | refine aN1 ?_ | refine aN0 ?_ | refine aD1 ?_ | refine aD0 ?_ | refine nE_ (fun hq => ?_) (fun hq => ?_) | refine nN_ (fun hq => ?_) (fun hq => ?_) | refine nD_ (fun hq => ?_) (fun hq => ?_) | refine rb1 ?_ | refine rb0 ?_ | refine rbx ?_ | refine rix ?_ | (refine And.intro (by first | ((simp; omega); done) | fail) ?_) | refine aS ?_ | (exact ri hf trivial) | fail)
      | true =>
        rw [h4] at hR
        by_cases h5 : 1 ≤ d
        · by_cases h6 : d ≤ 1073741824
          · cases h7 : isSb [e, f, g, j] with
            | false =>
              rw [h7] at hC
              have hf := hno (by unfold okAt; rw [okLn8, h7]; simp)
              repeat' ((conv => whnf); first | exact trivial | (refine nv_ (ln [a, b, c, d, e, f, g, j]) (by first | ((simp [h3, hxe]); done) | fail) ?_) | refine k_call _ (hO) ?_ | refine k_call _ (hR) ?_ | refine k_call _ (hC) ?_ | refine nT_ ?_ | refine aE1 ?_ | refine aE0 ?_ | refine aN1 ?_ | refine aN0 ?_ | refine aD1 ?_ | refine aD0 ?_ | refine nE_ (fun hq => ?_) (fun hq => ?_) | refine nN_ (fun hq => ?_) (fun hq => ?_) | refine nD_ (fun hq => ?_) (fun hq => ?_) | refine rb1 ?_ | refine rb0 ?_ | refine rbx ?_ | refine rix ?_ | (refine And.intro (by first | ((simp; omega); done) | fail) ?_) | refine aS ?_ | (exact ri hf trivial) | fail)
            | true =>
              rw [h7] at hC
              have hok : okLn [a, b, c, d, e, f, g, j] = true := by rw [okLn8, h4, h7]; simp [h5, h6]
              by_cases h8 : 0 < k
              · obtain ⟨p0, p1, p2, p3, p4, p5, p6, p7, hp2, hp3⟩ := hp1 h8
                rw [hp3] at hno hgo
                have hcm := t_compare (p0, p1, p2) (a, b, c)
                have e1 : okAt (some [p0, p1, p2, p3, p4, p5, p6, p7]) [a, b, c, d, e, f, g, j] = decide (cmpN (p0, p1, p2) (a, b, c) < 0) := by unfold okAt; rw [hok]; rfl
                rw [e1] at hno hgo
                have e2 : (IntKind.i64.wrap ((k : Int) - 1)).toNat = k - 1 := by simp (disch := omega) only [wrap_id, w32, w8, w64]; omega
                have e3 : IntKind.i64.wrap ((k : Int) - 1) = k - 1 := by simp (disch := omega) only [wrap_id, w32, w8, w64]
                by_cases h9 : cmpN (p0, p1, p2) (a, b, c) < 0
                · repeat' ((conv => whnf); first | exact trivial | (refine nv_ (ln [a, b, c, d, e, f, g, j]) (by first | ((simp [h3, hxe]; done); done) | fail) ?_) | (refine nv_ (ln [p0, p1, p2, p3, p4, p5, p6, p7]) (by first | ((rw [e2, List.getElem?_map, hp2]; rfl); done) | fail) ?_) | refine k_call _ (hO) ?_ | refine k_call _ (hR) ?_ | refine k_call _ (hC) ?_ | refine k_call _ (hO2 p0 p1 p2 p3 p4 p5 p6 p7) ?_ | refine k_call _ (hcm) ?_ | refine nT_ ?_ | refine aE1 ?_ | refine aE0 ?_ | refine aN1 ?_ | refine aN0 ?_ | refine aD1 ?_ | refine aD0 ?_ | refine nE_ (fun hq => ?_) (fun hq => ?_) | refine nN_ (fun hq => ?_) (fun hq => ?_) | refine nD_ (fun hq => ?_) (fun hq => ?_) | refine rb1 ?_ | refine rb0 ?_ | refine rbx ?_ | refine rix ?_ | (refine And.intro (by first | ((simp; omega); done) | ((rw [e3]; simp; omega); done) | fail) ?_) | refine aS ?_ | fail)
                  exact ⟨k + 1, ⟨by omega, hgo (by simp [h9])⟩, by omega, by repeat' (first | exact trivial | exact LeV.same _ | exact LeB.same _ | exact rfl | exact fun _ _ _ => trivial | exact lI | exact LeV.nil _ _ _ | exact lB | refine leBd ?_ | refine leOwn ?_ | refine And.intro ?_ ?_)⟩
                · have hf := hno (by simp [h9])
                  repeat' ((conv => whnf); first | exact trivial | (refine nv_ (ln [a, b, c, d, e, f, g, j]) (by first | ((simp [h3, hxe]; done); done) | fail) ?_) | (refine nv_ (ln [p0, p1, p2, p3, p4, p5, p6, p7]) (by first | ((rw [e2, List.getElem?_map, hp2]; rfl); done) | fail) ?_) | refine k_call _ (hO) ?_ | refine k_call _ (hR) ?_ | refine k_call _ (hC) ?_ | refine k_call _ (hO2 p0 p1 p2 p3 p4 p5 p6 p7) ?_ | refine k_call _ (hcm) ?_ | refine nT_ ?_ | refine aE1 ?_ | refine aE0 ?_ | refine aN1 ?_ | refine aN0 ?_ | refine aD1 ?_ | refine aD0 ?_ | refine nE_ (fun hq => ?_) (fun hq => ?_) | refine nN_ (fun hq => ?_) (fun hq => ?_) | refine nD_ (fun hq => ?_) (fun hq => ?_) | refine rb1 ?_ | refine rb0 ?_ | refine rbx ?_ | refine rix ?_ | (refine And.intro (by first | ((simp; omega); done) | ((rw [e3]; simp; omega); done) | fail) ?_) | refine aS ?_ | (exact ri hf trivial) | fail)
              · have : k = 0 := by omega
                subst this
                repeat' ((conv => whnf); first | exact trivial | (refine nv_ (ln [a, b, c, d, e, f, g, j]) (by first | ((simp [h3, hxe]; done); done) | fail) ?_) | refine k_call _ (hO) ?_ | refine k_call _ (hR) ?_ | refine k_call _ (hC) ?_ | refine nT_ ?_ | refine aE1 ?_ | refine aE0 ?_ | refine aN1 ?_ | refine aN0 ?_ | refine aD1 ?_ | refine aD0 ?_ | refine nE_ (fun hq => ?_) (fun hq => ?_) | refine nN_ (fun hq => ?_) (fun hq => ?_) | refine nD_ (fun hq => ?_) (fun hq => ?_) | refine rb1 ?_ | refine rb0 ?_ | refine rbx ?_ | refine rix ?_ | (refine And.intro (by first | ((simp; omega); done) | fail) ?_) | refine aS ?_ | fail)
                exact ⟨0 + 1, ⟨by omega, hgo (by unfold okAt; rw [hok]; rfl)⟩, by omega, by repeat' (first | exact trivial | exact LeV.same _ | exact LeB.same _ | exact rfl | exact fun _ _ _ => trivial | exact lI | exact LeV.nil _ _ _ | exact lB | refine leBd ?_ | refine leOwn ?_ | refine And.intro ?_ ?_)⟩
          · have hf := hno (by unfold okAt; rw [okLn8]; simp [h6])
            repeat' ((conv => whnf); first | exact trivial | (refine nv_ (ln [a, b, c, d, e, f, g, j]) (by first | ((simp [h3, hxe]); done) | fail) ?_) | refine k_call _ (hO) ?_ | refine k_call _ (hR) ?_ | refine nT_ ?_ | refine aE1 ?_ | refine aE0 ?_ | refine aN1 ?_ | refine aN0 ?_ | refine aD1 ?_ | refine aD0 ?_ | refine nE_ (fun hq => ?_) (fun hq => ?_) | refine nN_ (fun hq => ?_) (fun hq => ?_) | refine nD_ (fun hq => ?_) (fun hq => ?_) | refine rb1 ?_ | refine rb0 ?_ | refine rbx ?_ | refine rix ?_ | (refine And.intro (by first | ((simp; omega); done) | fail) ?_) | refine aS ?_ | (exact ri hf trivial) | fail)
        · have hf := hno (by unfold okAt; rw [okLn8]; simp [h5])
          repeat' ((conv => whnf); first | exact trivial | (refine nv_ (ln [a, b, c, d, e, f, g, j]) (by first | ((simp [h3, hxe]); done) | fail) ?_) | refine k_call _ (hO) ?_ | refine k_call _ (hR) ?_ | refine nT_ ?_ | refine aE1 ?_ | refine aE0 ?_ | refine aN1 ?_ | refine aN0 ?_ | refine aD1 ?_ | refine aD0 ?_ | refine nE_ (fun hq => ?_) (fun hq => ?_) | refine nN_ (fun hq => ?_) (fun hq => ?_) | refine nD_ (fun hq => ?_) (fun hq => ?_) | refine rb1 ?_ | refine rb0 ?_ | refine rbx ?_ | refine rix ?_ | (refine And.intro (by first | ((simp; omega); done) | fail) ?_) | refine aS ?_ | (exact ri hf trivial) | fail)
    · have : k = ls.length := by omega
      subst this
      rw [List.drop_length] at ho
      repeat' ((conv => whnf); first | exact trivial | refine nT_ ?_ | refine aE1 ?_ | refine aE0 ?_ | refine aN1 ?_ | refine aN0 ?_ | refine aD1 ?_ | refine aD0 ?_ | refine nE_ (fun hq => ?_) (fun hq => ?_) | refine nN_ (fun hq => ?_) (fun hq => ?_) | refine nD_ (fun hq => ?_) (fun hq => ?_) | refine rb1 ?_ | refine rb0 ?_ | refine rbx ?_ | refine rix ?_ | refine aS ?_ | fail)
      exact ⟨(), ho.symm, by repeat' (first | exact trivial | exact LeV.same _ | exact LeB.same _ | exact rfl | exact fun _ _ _ => trivial | exact lI | exact LeV.nil _ _ _ | exact lB | refine leBd ?_ | refine leOwn ?_ | refine And.intro ?_ ?_)⟩
  rintro - hr
  rw [hr]
  repeat' ((conv => whnf); first | exact trivial | refine nT_ ?_ | refine aE1 ?_ | refine aE0 ?_ | refine aN1 ?_ | refine aN0 ?_ | refine aD1 ?_ | refine aD0 ?_ | refine nE_ (fun hq => ?_) (fun hq => ?_) | refine nN_ (fun hq => ?_) (fun hq => ?_) | refine nD_ (fun hq => ?_) (fun hq => ?_) | refine rb1 ?_ | refine rb0 ?_ | refine rbx ?_ | refine rix ?_ | refine aS ?_ | fail)
end Go.RC
end
section
namespace Go.RC
open Go Go.DL Go.Proofs
set_option maxRecDepth 100000
set_option maxHeartbeats 1000000
theorem eqL_map {k : IntKind} : ∀ (a b : List Int), eqL (a.map (T.int k)) (b.map (T.int k)) = decide (a = b)
  | [], [] => rfl
  | [], _ :: _ => rfl
  | _ :: _, [] => rfl
  | x :: a, y :: b => by
    show (x == y && eqL (a.map (T.int k)) (b.map (T.int k))) = _
    rw [eqL_map a b]
    by_cases h : x = y <;> by_cases h2 : a = b <;> simp [h, h2]
theorem fits_map {k : IntKind} : ∀ (a : List Int), fits (List.replicate a.length (.int k)) (a.map (T.int k))
  | [] => trivial
  | x :: a => ⟨rfl, fits_map a⟩
theorem fits8 {a : List Int} (h : a.length = 8) : fits [.int .i64, .int .i64, .int .i64, .int .i64, .int .i64, .int .i64, .int .i64, .int .i64] (a.map I) := by
  have := fits_map (k := .i64) a
  rw [h] at this; exact this
theorem fits4 {a : List Int} (h : a.length = 4) : fits [.int .i64, .int .i64, .int .i64, .int .i64] (a.map I) := by
  have := fits_map (k := .i64) a
  rw [h] at this; exact this
theorem fits16 {a : List Int} (h : a.length = 16) : fits [.int .u8, .int .u8, .int .u8, .int .u8, .int .u8, .int .u8, .int .u8, .int .u8, .int .u8, .int .u8, .int .u8, .int .u8, .int .u8, .int .u8, .int .u8, .int .u8] (a.map Y) := by
  have := fits_map (k := .u8) a
  rw [h] at this; exact this
theorem eqI {a b : List Int} {c : Bool} (h : decide (a = b) = c) : eqL (a.map I) (b.map I) = c := (eqL_map a b).trans h
theorem eqY {a b : List Int} {c : Bool} (h : decide (a = b) = c) : eqL (a.map Y) (b.map Y) = c := (eqL_map a b).trans h
theorem neI {a b : List Int} {c : Bool} (h : decide (a = b) = c) : (!eqL (a.map I) (b.map I)) = !c := congrArg (!·) (eqI h)
theorem neY {a b : List Int} {c : Bool} (h : decide (a = b) = c) : (!eqL (a.map Y) (b.map Y)) = !c := congrArg (!·) (eqY h)
theorem aggPv {n i : Int} {ls : List (List Int)} {pv : List Int} (hp : pv.length = 16) : T.agg (((rcC n i ls pv).drop 3).take 16) = dg16 pv := by
  show T.agg ((pv.map Y).take 16) = _
  rw [List.take_of_length_le (by simp [hp])]
theorem take_eq {α : Type} {a b : List α} {i : Nat} {x : α} (h : a.take i = b.take i) (ha : a[i]? = some x) (hb : b[i]? = some x) : a.take (i + 1) = b.take (i + 1) := by
  rw [List.take_add_one, List.take_add_one, h, ha, hb]
theorem t_EqualLine (a b : List (List Int)) (ha : ∀ x ∈ a, x.length = 8) (hb : ∀ x ∈ b, x.length = 8) (hl : a.length < 2 ^ 60) : DCalls Tryd.prog 47 [linesT a, linesT b] (.bool (decide (a = b))) := by
  refine dcalls_low (rs := [.tmp 4]) mixed Tryd.func47 l47 rfl rfl rfl (r := [.bool _]) (Nat.le_of_ble_eq_true rfl) ?_
  by_cases hll : a.length = b.length
  case neg =>
    have hf : false = decide (a = b) := (decide_eq_false (fun e => hll (by rw [e]))).symm
    repeat' ((conv => whnf); first | exact trivial | (refine now_N1 (by simp; omega) ?_) | refine nT_ ?_ | refine aE1 ?_ | refine aE0 ?_ | refine aN1 ?_ | refine aN0 ?_ | refine aD1 ?_ | refine aD0 ?_ | refine nE_ (fun hq => ?_) (fun hq => ?_) | refine nN_ (fun hq => ?_) (fun hq => ?_) | refine nD_ (fun hq => ?_) (fun hq => ?_) | refine rb1 ?_ | refine rb0 ?_ | refine rbx ?_ | refine rix ?_ | refine aS ?_ | (exact rb hf trivial) | fail)
  repeat' ((conv => whnf); first | exact trivial | refine now_N0 (by simp [hll]) ?_ | refine nT_ ?_ | refine aE1 ?_ | refine aE0 ?_ | refine aN1 ?_ | refine aN0 ?_ | refine aD1 ?_ | refine aD0 ?_ | refine nE_ (fun hq => ?_) (fun hq => ?_) | refine nN_ (fun hq => ?_) (fun hq => ?_) | refine nD_ (fun hq => ?_) (fun hq => ?_) | refine rb1 ?_ | refine rb0 ?_ | refine rbx ?_ | refine rix ?_ | refine aS ?_ | fail)
  refine wpC_loopE 0 (α := Nat) (β := Unit) (fun i => {sl := [(0, .t (linesT a)), (1, .t (linesT b)), (12, .t (I a.length)), (13, .t (I i))], bx := []})
    (fun i => i ≤ a.length ∧ a.take i = b.take i) (fun i => a.length - i) (fun _ => {sl := [], bx := []}) (fun _ => a = b) 0 ⟨by omega, rfl⟩ ?_ ?_ ?_
  · repeat' (first | ((refine leI ?_; simp; done)) | exact trivial | exact LeV.same _ | exact LeB.same _ | exact rfl | exact fun _ _ _ => trivial | exact lI | exact LeV.nil _ _ _ | exact lB | refine leBd ?_ | refine leOwn ?_ | refine And.intro ?_ ?_)
  · rintro i ⟨hi, ho⟩
    rcases Nat.lt_or_ge i a.length with h2 | h2
    · have h3 : i < b.length := by omega
      have hx8 := ha a[i] (List.getElem_mem h2)
      have hy8 := hb b[i] (List.getElem_mem h3)
      have hxa : a[i]? = some a[i] := List.getElem?_eq_getElem h2
      have hyb : b[i]? = some b[i] := List.getElem?_eq_getElem h3
      generalize a[i] = x at hx8 hxa
      generalize b[i] = y at hy8 hyb
      cases hxy : decide (x = y) with
      | true =>
        have := of_decide_eq_true hxy
        subst this
        repeat' ((conv => whnf); first | exact trivial | (refine nv_ (ln x) (by first | (exact aggLn (by simp only [Int.toNat_natCast]; first | exact hxa | exact hyb); done) | fail) ?_) | refine nb_ (!true) (neI hxy) ?_ | refine nT_ ?_ | refine aE1 ?_ | refine aE0 ?_ | refine aN1 ?_ | refine aN0 ?_ | refine aD1 ?_ | refine aD0 ?_ | refine nE_ (fun hq => ?_) (fun hq => ?_) | refine nN_ (fun hq => ?_) (fun hq => ?_) | refine nD_ (fun hq => ?_) (fun hq => ?_) | refine rb1 ?_ | refine rb0 ?_ | refine rbx ?_ | refine rix ?_ | (refine And.intro (by first | ((simp; omega); done) | (exact cells8 ha (by simp only [Int.toNat_natCast]; omega); done) | (exact cells8 hb (by simp only [Int.toNat_natCast]; omega); done) | (exact ⟨fits8 hx8, fits8 hx8⟩; done) | fail) ?_) | refine aS ?_ | fail)
        exact ⟨i + 1, ⟨by omega, take_eq ho hxa hyb⟩, by omega, by repeat' (first | exact trivial | exact LeV.same _ | exact LeB.same _ | exact rfl | exact fun _ _ _ => trivial | exact lI | exact LeV.nil _ _ _ | exact lB | refine leBd ?_ | refine leOwn ?_ | refine And.intro ?_ ?_)⟩
      | false =>
        have hf : false = decide (a = b) := (decide_eq_false (fun e => by subst e; rw [hxa] at hyb; exact of_decide_eq_false hxy (Option.some.inj hyb))).symm
        repeat' ((conv => whnf); first | exact trivial | (refine nv_ (ln x) (by first | (exact aggLn (by simp only [Int.toNat_natCast]; exact hxa); done) | fail) ?_) | (refine nv_ (ln y) (by first | (exact aggLn (by simp only [Int.toNat_natCast]; exact hyb); done) | fail) ?_) | refine nb_ (!false) (neI hxy) ?_ | refine nT_ ?_ | refine aE1 ?_ | refine aE0 ?_ | refine aN1 ?_ | refine aN0 ?_ | refine aD1 ?_ | refine aD0 ?_ | refine nE_ (fun hq => ?_) (fun hq => ?_) | refine nN_ (fun hq => ?_) (fun hq => ?_) | refine nD_ (fun hq => ?_) (fun hq => ?_) | refine rb1 ?_ | refine rb0 ?_ | refine rbx ?_ | refine rix ?_ | (refine And.intro (by first | ((simp; omega); done) | (exact cells8 ha (by simp only [Int.toNat_natCast]; omega); done) | (exact cells8 hb (by simp only [Int.toNat_natCast]; omega); done) | (exact ⟨fits8 hx8, fits8 hy8⟩; done) | fail) ?_) | refine aS ?_ | (exact rb hf trivial) | fail)
    · have : i = a.length := by omega
      subst this
      rw [List.take_length, hll, List.take_length] at ho
      repeat' ((conv => whnf); first | exact trivial | refine nT_ ?_ | refine aE1 ?_ | refine aE0 ?_ | refine aN1 ?_ | refine aN0 ?_ | refine aD1 ?_ | refine aD0 ?_ | refine nE_ (fun hq => ?_) (fun hq => ?_) | refine nN_ (fun hq => ?_) (fun hq => ?_) | refine nD_ (fun hq => ?_) (fun hq => ?_) | refine rb1 ?_ | refine rb0 ?_ | refine rbx ?_ | refine rix ?_ | refine aS ?_ | fail)
      exact ⟨(), ho, by repeat' (first | exact trivial | exact LeV.same _ | exact LeB.same _ | exact rfl | exact fun _ _ _ => trivial | exact lI | exact LeV.nil _ _ _ | exact lB | refine leBd ?_ | refine leOwn ?_ | refine And.intro ?_ ?_)⟩
  rintro - hr
  repeat' ((conv => whnf); first | exact trivial | refine nT_ ?_ | refine aE1 ?_ | refine aE0 ?_ | refine aN1 ?_ | refine aN0 ?_ | refine aD1 ?_ | refine aD0 ?_ | refine nE_ (fun hq => ?_) (fun hq => ?_) | refine nN_ (fun hq => ?_) (fun hq => ?_) | refine nD_ (fun hq => ?_) (fun hq => ?_) | refine rb1 ?_ | refine rb0 ?_ | refine rbx ?_ | refine rix ?_ | refine aS ?_ | (exact rb (decide_eq_true hr).symm trivial) | fail)
def sameB (n i : Int) (ls : List (List Int)) (pv : List Int) (n' i' : Int) (ls' : List (List Int)) (pv' : List Int) : Bool := n == n' && (i == i' && (decide (pv = pv') && decide (ls = ls')))
theorem t_Same (n i : Int) (ls : List (List Int)) (pv : List Int) (n' i' : Int) (ls' : List (List Int)) (pv' : List Int) (hx : ∀ x ∈ ls, x.length = 8) (hx' : ∀ x ∈ ls', x.length = 8) (hl : ls.length < 2 ^ 60) (hp : pv.length = 16) (hp' : pv'.length = 16) :
    DCalls Tryd.prog 23 [rcT n i ls pv, rcT n' i' ls' pv'] (.bool (sameB n i ls pv n' i' ls' pv')) := by
  have hE := t_EqualLine ls ls' hx hx' hl
  have hlen : (rcC n i ls pv).length = 19 := by simp [hp]
  have hlen' : (rcC n' i' ls' pv').length = 19 := by simp [hp']
  refine dcalls_low (rs := [.tmp 4]) mixed Tryd.func23 l23 rfl rfl rfl (r := [.bool _]) (Nat.le_of_ble_eq_true rfl) ?_
  unfold sameB
  cases hpp : decide (pv = pv') with
  | false => repeat' ((conv => whnf); first | exact trivial | (refine nv_ (dg16 pv) (by first | (exact aggPv hp; done) | fail) ?_) | (refine nv_ (dg16 pv') (by first | (exact aggPv hp'; done) | fail) ?_) | refine nb_ false (eqY hpp) ?_ | refine k_call _ (hE) ?_ | refine nT_ ?_ | refine aE1 ?_ | refine aE0 ?_ | refine aN1 ?_ | refine aN0 ?_ | refine aD1 ?_ | refine aD0 ?_ | refine nE_ (fun hq => ?_) (fun hq => ?_) | refine nN_ (fun hq => ?_) (fun hq => ?_) | refine nD_ (fun hq => ?_) (fun hq => ?_) | refine rb1 ?_ | refine rb0 ?_ | refine rbx ?_ | refine rix ?_ | (refine And.intro (by first | (exact hlen; done) | (exact hlen'; done) | (exact ⟨fits16 hp, fits16 hp'⟩; done) | fail) ?_) | refine aS ?_ | fail)
  | true => repeat' ((conv => whnf); first | exact trivial | (refine nv_ (dg16 pv) (by first | (exact aggPv hp; done) | fail) ?_) | (refine nv_ (dg16 pv') (by first | (exact aggPv hp'; done) | fail) ?_) | refine nb_ true (eqY hpp) ?_ | refine k_call _ (hE) ?_ | refine nT_ ?_ | refine aE1 ?_ | refine aE0 ?_ | refine aN1 ?_ | refine aN0 ?_ | refine aD1 ?_ | refine aD0 ?_ | refine nE_ (fun hq => ?_) (fun hq => ?_) | refine nN_ (fun hq => ?_) (fun hq => ?_) | refine nD_ (fun hq => ?_) (fun hq => ?_) | refine rb1 ?_ | refine rb0 ?_ | refine rbx ?_ | refine rix ?_ | (refine And.intro (by first | (exact hlen; done) | (exact hlen'; done) | (exact ⟨fits16 hp, fits16 hp'⟩; done) | fail) ?_) | refine aS ?_ | fail)
theorem t_refSame (n i : Int) (ls : List (List Int)) (pv : List Int) (n' i' : Int) (ls' : List (List Int)) (pv' : List Int) (hx : ∀ x ∈ ls, x.length = 8) (hx' : ∀ x ∈ ls', x.length = 8) (hl : ls.length < 2 ^ 60) (hp : pv.length = 16) (hp' : pv'.length = 16) :
    DCalls Tryd.prog 21 [rcT n i ls pv, rcT n' i' ls' pv'] (.bool (sameB n i ls pv n' i' ls' pv')) := by
  have hlen : (rcC n i ls pv).length = 19 := by simp [hp]
  have hlen' : (rcC n' i' ls' pv').length = 19 := by simp [hp']
  refine dcalls_low (rs := [.tmp 4]) mixed Tryd.func21 l21 rfl rfl rfl (r := [.bool _]) (Nat.le_of_ble_eq_true rfl) ?_
  unfold sameB
  by_cases hn : n = n'
  case neg =>
    repeat' ((conv => whnf); first | exact trivial | refine now_N1 hn ?_ | refine nT_ ?_ | refine aE1 ?_ | refine aE0 ?_ | refine aN1 ?_ | refine aN0 ?_ | refine aD1 ?_ | refine aD0 ?_ | refine nE_ (fun hq => ?_) (fun hq => ?_) | refine nN_ (fun hq => ?_) (fun hq => ?_) | refine nD_ (fun hq => ?_) (fun hq => ?_) | refine rb1 ?_ | refine rb0 ?_ | refine rbx ?_ | refine rix ?_ | (refine And.intro (by first | (exact hlen; done) | (exact hlen'; done) | fail) ?_) | refine aS ?_ | (exact rb (by simp [hn]) trivial) | fail)
  by_cases hi : i = i'
  case neg =>
    repeat' ((conv => whnf); first | exact trivial | refine now_N1 hi ?_ | refine now_N0 hn ?_ | refine nT_ ?_ | refine aE1 ?_ | refine aE0 ?_ | refine aN1 ?_ | refine aN0 ?_ | refine aD1 ?_ | refine aD0 ?_ | refine nE_ (fun hq => ?_) (fun hq => ?_) | refine nN_ (fun hq => ?_) (fun hq => ?_) | refine nD_ (fun hq => ?_) (fun hq => ?_) | refine rb1 ?_ | refine rb0 ?_ | refine rbx ?_ | refine rix ?_ | (refine And.intro (by first | (exact hlen; done) | (exact hlen'; done) | fail) ?_) | refine aS ?_ | (exact rb (by simp [hi]) trivial) | fail)
  subst hn
  subst hi
  cases hpp : decide (pv = pv') with
  | false => repeat' ((conv => whnf); first | exact trivial | (refine nv_ (dg16 pv) (by first | (exact aggPv hp; done) | fail) ?_) | (refine nv_ (dg16 pv') (by first | (exact aggPv hp'; done) | fail) ?_) | refine nb_ (!false) (neY hpp) ?_ | refine nT_ ?_ | refine aE1 ?_ | refine aE0 ?_ | refine aN1 ?_ | refine aN0 ?_ | refine aD1 ?_ | refine aD0 ?_ | refine nE_ (fun hq => ?_) (fun hq => ?_) | refine nN_ (fun hq => ?_) (fun hq => ?_) | refine nD_ (fun hq => ?_) (fun hq => ?_) | refine rb1 ?_ | refine rb0 ?_ | refine rbx ?_ | refine rix ?_ | (refine And.intro (by first | (exact hlen; done) | (exact hlen'; done) | (exact ⟨fits16 hp, fits16 hp'⟩; done) | fail) ?_) | refine aS ?_ | fail)
  | true =>
  by_cases hll : ls.length = ls'.length
  case neg =>
    repeat' ((conv => whnf); first | exact trivial | (refine nv_ (dg16 pv) (by first | (exact aggPv hp; done) | fail) ?_) | (refine nv_ (dg16 pv') (by first | (exact aggPv hp'; done) | fail) ?_) | refine nb_ (!true) (neY hpp) ?_ | (refine now_N1 (by simp; omega) ?_) | refine nT_ ?_ | refine aE1 ?_ | refine aE0 ?_ | refine aN1 ?_ | refine aN0 ?_ | refine aD1 ?_ | refine aD0 ?_ | refine nE_ (fun hq => ?_) (fun hq => ?_) | refine nN_ (fun hq => ?_) (fun hq => ?_) | refine nD_ (fun hq => ?_) (fun hq => ?_) | refine rb1 ?_ | refine rb0 ?_ | refine rbx ?_ | refine rix ?_ | (refine And.intro (by first | (exact hlen; done) | (exact hlen'; done) | (exact ⟨fits16 hp, fits16 hp'⟩; done) | fail) ?_) | refine aS ?_ | (exact rb (by simp; intro e; exact absurd (congrArg List.length e) hll) trivial) | fail)
  repeat' ((conv => whnf); first | exact trivial | (refine nv_ (dg16 pv) (by first | (exact aggPv hp; done) | fail) ?_) | (refine nv_ (dg16 pv') (by first | (exact aggPv hp'; done) | fail) ?_) | refine nb_ (!true) (neY hpp) ?_ | refine now_N0 (by simp [hll]) ?_ | refine nT_ ?_ | refine aE1 ?_ | refine aE0 ?_ | refine aN1 ?_ | refine aN0 ?_ | refine aD1 ?_ | refine aD0 ?_ | refine nE_ (fun hq => ?_) (fun hq => ?_) | refine nN_ (fun hq => ?_) (fun hq => ?_) | refine nD_ (fun hq => ?_) (fun hq => ?_) | refine rb1 ?_ | refine rb0 ?_ | refine rbx ?_ | refine rix ?_ | (refine And.intro (by first | (exact hlen; done) | (exact hlen'; done) | (exact ⟨fits16 hp, fits16 hp'⟩; done) | fail) ?_) | refine aS ?_ | fail)
  refine wpC_loopE 0 (α := Nat) (β := Unit) (fun k => {sl := [(2, .ptr 2 0), (3, .ptr 3 0), (5, .t (I k))], bx := [(2, .d 19 (rcC n i ls pv)), (3, .d 19 (rcC n i ls' pv'))]})
    (fun k => k ≤ ls.length ∧ ls.take k = ls'.take k) (fun k => ls.length - k) (fun _ => {sl := [], bx := []}) (fun _ => ls = ls') 0 ⟨by omega, rfl⟩ ?_ ?_ ?_
  · repeat' (first | exact trivial | exact LeV.same _ | exact LeB.same _ | exact rfl | exact fun _ _ _ => trivial | exact lI | exact LeV.nil _ _ _ | exact lB | refine leBd ?_ | refine leOwn ?_ | refine And.intro ?_ ?_)
  · rintro k ⟨hi, ho⟩
    rcases Nat.lt_or_ge k ls.length with h2 | h2
    · have h3 : k < ls'.length := by omega
      have hx8 := hx ls[k] (List.getElem_mem h2)
      have hy8 := hx' ls'[k] (List.getElem_mem h3)
      have hxa : ls[k]? = some ls[k] := List.getElem?_eq_getElem h2
      have hyb : ls'[k]? = some ls'[k] := List.getElem?_eq_getElem h3
      generalize ls[k] = x at hx8 hxa
      generalize ls'[k] = y at hy8 hyb
      cases hxy : decide (x = y) with
      | true =>
        have := of_decide_eq_true hxy
        subst this
        repeat' ((conv => whnf); first | exact trivial | (refine now_D1 (by simp; omega) ?_) | (refine nv_ (ln x) (by first | (exact aggLn (by simp only [Int.toNat_natCast]; first | exact hxa | exact hyb); done) | fail) ?_) | refine nb_ (!true) (neI hxy) ?_ | refine nT_ ?_ | refine aE1 ?_ | refine aE0 ?_ | refine aN1 ?_ | refine aN0 ?_ | refine aD1 ?_ | refine aD0 ?_ | refine nE_ (fun hq => ?_) (fun hq => ?_) | refine nN_ (fun hq => ?_) (fun hq => ?_) | refine nD_ (fun hq => ?_) (fun hq => ?_) | refine rb1 ?_ | refine rb0 ?_ | refine rbx ?_ | refine rix ?_ | (refine And.intro (by first | ((simp; omega); done) | (exact cells8 hx (by simp only [Int.toNat_natCast]; omega); done) | (exact cells8 hx' (by simp only [Int.toNat_natCast]; omega); done) | (exact ⟨fits8 hx8, fits8 hx8⟩; done) | fail) ?_) | refine aS ?_ | fail)
        exact ⟨k + 1, ⟨by omega, take_eq ho hxa hyb⟩, by omega, by repeat' (first | exact trivial | exact LeV.same _ | exact LeB.same _ | exact rfl | exact fun _ _ _ => trivial | exact lI | exact LeV.nil _ _ _ | exact lB | refine leBd ?_ | refine leOwn ?_ | refine And.intro ?_ ?_)⟩
      | false =>
        have hf : false = (n == n && (i == i && (true && decide (ls = ls')))) := by
          have : decide (ls = ls') = false := decide_eq_false fun e => by subst e; rw [hxa] at hyb; exact of_decide_eq_false hxy (Option.some.inj hyb)
          simp [this]
        repeat' ((conv => whnf); first | exact trivial | (refine now_D1 (by simp; omega) ?_) | (refine nv_ (ln x) (by first | (exact aggLn (by simp only [Int.toNat_natCast]; exact hxa); done) | fail) ?_) | (refine nv_ (ln y) (by first | (exact aggLn (by simp only [Int.toNat_natCast]; exact hyb); done) | fail) ?_) | refine nb_ (!false) (neI hxy) ?_ | refine nT_ ?_ | refine aE1 ?_ | refine aE0 ?_ | refine aN1 ?_ | refine aN0 ?_ | refine aD1 ?_ | refine aD0 ?_ | refine nE_ (fun hq => ?_) (fun hq => ?_) | refine nN_ (fun hq => ?_) (fun hq => ?_) | refine nD_ (fun hq => ?_) (fun hq => ?_) | refine rb1 ?_ | refine rb0 ?_ | refine rbx ?_ | refine rix ?_ | (refine And.intro (by first | ((simp; omega); done) | (exact cells8 hx (by simp only [Int.toNat_natCast]; omega); done) | (exact cells8 hx' (by simp only [Int.toNat_natCast]; omega); done) | (exact ⟨fits8 hx8, fits8 hy8⟩; done) | fail) ?_) | refine aS ?_ | (exact rb hf trivial) | fail)
    · have : k = ls.length := by omega
      subst this
      rw [List.take_length, hll, List.take_length] at ho
      repeat' ((conv => whnf); first | exact trivial | refine now_D0 (by simp) ?_ | refine nT_ ?_ | refine aE1 ?_ | refine aE0 ?_ | refine aN1 ?_ | refine aN0 ?_ | refine aD1 ?_ | refine aD0 ?_ | refine nE_ (fun hq => ?_) (fun hq => ?_) | refine nN_ (fun hq => ?_) (fun hq => ?_) | refine nD_ (fun hq => ?_) (fun hq => ?_) | refine rb1 ?_ | refine rb0 ?_ | refine rbx ?_ | refine rix ?_ | refine aS ?_ | fail)
      exact ⟨(), ho, by repeat' (first | exact trivial | exact LeV.same _ | exact LeB.same _ | exact rfl | exact fun _ _ _ => trivial | exact lI | exact LeV.nil _ _ _ | exact lB | refine leBd ?_ | refine leOwn ?_ | refine And.intro ?_ ?_)⟩
  rintro - hr
  repeat' ((conv => whnf); first | exact trivial | refine nT_ ?_ | refine aE1 ?_ | refine aE0 ?_ | refine aN1 ?_ | refine aN0 ?_ | refine aD1 ?_ | refine aD0 ?_ | refine nE_ (fun hq => ?_) (fun hq => ?_) | refine nN_ (fun hq => ?_) (fun hq => ?_) | refine nD_ (fun hq => ?_) (fun hq => ?_) | refine rb1 ?_ | refine rb0 ?_ | refine rbx ?_ | refine rix ?_ | refine aS ?_ | (exact rb (by simp [hr]) trivial) | fail)
end Go.RC
end
