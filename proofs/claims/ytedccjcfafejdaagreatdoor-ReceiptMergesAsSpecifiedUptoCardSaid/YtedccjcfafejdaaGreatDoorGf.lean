/- Joined by program: parts of a data level over the model, of the program's functions over it, and of the statement's proof. -/
import Derived.Test.YtedccjcfafejdaaGreatDoorGe
import Derived.Test.YtedccjcfafejdaaGreatDoorProg
import Derived.Test.YtedccjcfafejdaaGreatDoorGc
import Derived.KernelRfl
import Derived.Test.YtedccjcfafejdaaGreatDoorGd
import Derived.Shelf.SlLaysF0
import Derived.Shelf.SlGeneric
section
namespace Go.RC
open Go Go.DL Go.Proofs
set_option maxRecDepth 100000
set_option maxHeartbeats 1000000
attribute [local irreducible] rr
theorem areU8_Y : ∀ l : List Int, areU8 (l.map Y)
  | [] => trivial
  | _ :: l => areU8_Y l
theorem sB_strT (l : List Int) (h : areB l) : sB (strT (l.map Y)) = l := by
  unfold sB strT
  simp only [List.map_map]
  refine (List.map_congr_left (g := id) fun b hb => ?_).trans (List.map_id l)
  obtain ⟨h0, h1⟩ := h b hb
  show (((UInt8.ofNat b.toNat).toNat : Nat) : Int) = b
  rw [UInt8.toNat_ofNat', Nat.mod_eq_of_lt (by omega)]
  omega
theorem areB_tail (n : Nat) : areB (tail n) := by
  intro b hb
  have u8 : ∀ x : Int, 0 ≤ IntKind.u8.wrap x ∧ IntKind.u8.wrap x < 256 := fun x => by
    unfold IntKind.wrap
    simp [IntKind.bits, IntKind.signed]
    omega
  unfold tail at hb
  rcases List.mem_cons.1 hb with rfl | hb
  · omega
  rcases List.mem_append.1 hb with hb | hb
  · rw [List.eq_of_mem_replicate hb]; omega
  · obtain ⟨i, _, rfl⟩ := List.mem_map.1 hb
    exact u8 _
theorem aget {f : Int → T} {ws : List Int} {r : List T} {k' : Nat} {d : T} (k : Nat) (e : k' = k) (h : k < ws.length) : (ws.map f ++ r)[k']?.getD d = f (ws.getD k 0) := by
  rw [e, List.getElem?_append_left (by simpa using h)]
  exact mget h
def S0 : Str := ⟨V0, List.replicate 64 0, 0⟩
theorem t_Begin : DCalls Tryz.prog 128 [] S0.T := by
  refine dcalls_low (rs := [.cell 0 181]) mixed Tryz.func128 l128 rfl rfl rfl (r := [.agg _]) (Nat.le_of_ble_eq_true rfl) ?_
  repeat' ((conv => whnf); first | exact trivial | refine aS ?_ | fail)
theorem t_Sum (x : Str) (hx : x.blk.length = 64) (hn : x.n < 2 ^ 60) : DCalls Tryz.prog 130 [x.T] (.agg ((dig (x.add (tail x.n)).s).map Y)) := by
  refine dcalls_low (rs := [.cell 2 184]) mixed Tryz.func130 l130 rfl rfl rfl (r := [.agg _]) (Nat.le_of_ble_eq_true rfl) ?_
  have hcl := cells_len x hx
  have hz := (zer_spec x.n).2
  have hb8 : IntKind.u64.wrap (8 * (x.n : Int)) = bits8 x.n := by unfold bits8; rw [w64 (n := (x.n : Int)) (by omega) (by omega)]
  have hwn : IntKind.i64.wrap (x.n : Int) = x.n := by simp (disch := omega) only [wrap_id, w32, w8, w64]
  unfold Str.T
  generalize hcs : x.cells = cs at hcl
  have h72 : ∀ d, cs[0 + 72]?.getD d = Q x.n := fun d => by rw [← hcs]; exact cell72 x hx d
  repeat' ((conv => whnf); first | (refine nv_ (Q x.n) (by first | (exact h72 _; done) | fail) ?_) | (refine And.intro (by first | (exact hcl; done) | (omega; done) | fail) ?_) | refine aS ?_ | fail)
  refine wpC_loopE 0 (α := Nat × Nat) (β := Nat) (fun q => {sl := [(1, .ptr 1 0), (2, .ptr 2 0), (3, .t (Q (bits8 x.n))), (4, .own q.1 5 1 ((128 :: List.replicate q.2 0).map Y))], bx := [(1, .d 73 cs), (2, .d 32 z32)]})
    (fun q => q.2 ≤ zer x.n) (fun q => zer x.n - q.2) (fun q => {sl := [(1, .ptr 1 0), (2, .ptr 2 0), (3, .t (Q (bits8 x.n))), (4, .own q 5 1 ((128 :: List.replicate (zer x.n) 0).map Y))], bx := [(1, .d 73 cs), (2, .d 32 z32)]}) (fun _ => True) (11, 0) (by simp) ?_ ?_ ?_
  · repeat' (first | ((refine leT ?_; rw [hb8]; done)) | exact trivial | exact LeV.same _ | exact LeB.same _ | exact rfl | exact fun _ _ _ => trivial | refine And.intro ?_ ?_)
  · rintro ⟨q, z⟩ hzz
    dsimp only at hzz
    have hlen : ((((128 :: List.replicate z 0) : List Int).map Y).length : Int) = z + 1 := by simp
    have hw : IntKind.i64.wrap ((x.n : Int) + (z + 1)) = x.n + (z + 1) := by simp (disch := omega) only [wrap_id, w32, w8, w64]
    rcases Nat.lt_or_ge z (zer x.n) with h | h
    · have hne : (IntKind.i64.wrap (IntKind.i64.wrap (x.n : Int) + ((((128 :: List.replicate z 0) : List Int).map Y).length : Int))).tmod 64 ≠ 56 := by
        have := zer_lt x.n z h
        rw [hwn, hlen, hw, Int.tmod_eq_emod_of_nonneg (by omega)]
        omega
      repeat' ((conv => whnf); first | (refine nv_ (Q x.n) (by first | (exact h72 _; done) | fail) ?_) | refine now_N1 hne ?_ | (refine And.intro (by first | (omega; done) | ((simp; omega); done) | fail) ?_) | refine aS ?_ | fail)
      refine ⟨(22, z + 1), by dsimp only; omega, by dsimp only; omega, ?_⟩
      repeat' (first | exact trivial | exact LeV.same _ | exact LeB.same _ | exact rfl | exact fun _ _ _ => trivial | refine leOwn ?_ | refine And.intro ?_ ?_)
      simp [List.replicate_succ']
    · have : z = zer x.n := by omega
      subst this
      have heq : (IntKind.i64.wrap (IntKind.i64.wrap (x.n : Int) + ((((128 :: List.replicate (zer x.n) 0) : List Int).map Y).length : Int))).tmod 64 = 56 := by
        have := (zer_spec x.n).1
        rw [hwn, hlen, hw, Int.tmod_eq_emod_of_nonneg (by omega)]
        omega
      repeat' ((conv => whnf); first | (refine nv_ (Q x.n) (by first | (exact h72 _; done) | fail) ?_) | refine now_N0 heq ?_ | (refine And.intro (by first | (omega; done) | fail) ?_) | refine aS ?_ | fail)
      exact ⟨q, trivial, by repeat' (first | exact trivial | exact LeV.same _ | exact LeB.same _ | exact rfl | exact fun _ _ _ => trivial | refine And.intro ?_ ?_)⟩
  rintro q -
  skip
  refine wpC_loopE 2 (α := Nat × Nat) (β := Nat) (fun q => {sl := [(1, .ptr 1 0), (2, .ptr 2 0), (3, .t (Q (bits8 x.n))), (4, .own q.1 5 1 ((128 :: (List.replicate (zer x.n) 0 ++ (List.range q.2).map (ln8 (bits8 x.n)))).map Y)), (23, .t (I q.2))], bx := [(1, .d 73 cs), (2, .d 32 z32)]})
    (fun q => q.2 ≤ 8) (fun q => 8 - q.2) (fun q => {sl := [(1, .ptr 1 0), (2, .ptr 2 0), (4, .own q 5 1 ((tail x.n).map Y))], bx := [(1, .d 73 cs), (2, .d 32 z32)]}) (fun _ => True) (q, 0) (by simp) ?_ ?_ ?_
  · repeat' (first | exact trivial | exact LeV.same _ | exact LeB.same _ | exact rfl | exact fun _ _ _ => trivial | refine leOwn ?_ | refine And.intro ?_ ?_)
    simp
  · rintro ⟨q, i⟩ hi
    dsimp only at hi
    rcases Nat.lt_or_ge i 8 with h | h
    · repeat' ((conv => whnf); first | refine aD1 ?_ | (refine And.intro (by first | ((simp (disch := omega) only [wrap_id, w32, w8, w64]; omega); done) | ((simp; omega); done) | fail) ?_) | refine aS ?_ | fail)
      refine ⟨(34, i + 1), by dsimp only; omega, by dsimp only; omega, ?_⟩
      repeat' (first | exact trivial | exact LeV.same _ | exact LeB.same _ | exact rfl | exact fun _ _ _ => trivial | exact lI | refine leOwn ?_ | refine And.intro ?_ ?_)
      have e1 : IntKind.i64.wrap (8 * (i : Int)) = 8 * i := by simp (disch := omega) only [wrap_id, w32, w8, w64]
      have e2 : IntKind.i64.wrap (56 - 8 * (i : Int)) = 56 - 8 * i := by simp (disch := omega) only [wrap_id, w32, w8, w64]
      have e3 : min ((56 : Int) - 8 * i).toNat IntKind.u64.bits = 56 - 8 * i := by
        rw [show IntKind.u64.bits = 64 from rfl]; omega
      rw [e1, e2, e3]
      simp [List.range_succ, ln8]
    · have : i = 8 := by omega
      subst this
      repeat' ((conv => whnf); first | refine aD0 ?_ | refine aS ?_ | fail)
      exact ⟨q, trivial, by repeat' (first | exact trivial | exact LeV.same _ | exact LeB.same _ | exact rfl | exact fun _ _ _ => trivial | refine And.intro ?_ ?_)⟩
  rintro q -
  have htl := tail_len x.n
  have hsb := sB_strT (tail x.n) (areB_tail x.n)
  have hss : (strT ((tail x.n).map Y)).size = 9 + zer x.n := by rw [← sB_len, hsb, htl]
  have hadd := t_Add x (strT ((tail x.n).map Y)) hx (by rw [hss]; omega)
  rw [hsb] at hadd
  have hyl := (add_blk (tail x.n) x).1
  rw [hx] at hyl
  generalize x.add (tail x.n) = y at hadd hyl
  have hycl := cells_len y hyl
  have ha8 := areU8_Y (tail x.n)
  generalize hpad : (tail x.n).map Y = pad at hadd ha8
  unfold Str.T at hadd
  rw [hcs] at hadd
  repeat' ((conv => whnf); first | refine k_call _ (hadd) ?_ | refine nT_ ?_ | (refine And.intro (by first | (exact hcl; done) | (exact ha8; done) | (exact ⟨hycl, by simp [hcl]⟩; done) | ((simp [hycl]; done); done) | fail) ?_) | fail)
  refine wpC_loopE 4 (α := Nat) (β := Unit) (fun i => {sl := [(1, .ptr 1 0), (2, .ptr 2 0), (6, .ptr 6 0), (40, .t (I i))], bx := [(1, .d 73 y.cells), (2, .d 32 z32), (6, .d 32 ((DJ y.s.list i).map Y))]})
    (fun i => i ≤ 32) (fun i => 32 - i) (fun _ => {sl := [(2, .ptr 2 0), (6, .ptr 6 0)], bx := [(2, .d 32 z32), (6, .d 32 ((DJ y.s.list 32).map Y))]}) (fun _ => True) 0 (by omega) ?_ ?_ ?_
  · repeat' (first | exact trivial | exact LeV.same _ | exact LeB.same _ | exact rfl | exact fun _ _ _ => trivial | refine leBd ?_ | refine And.intro ?_ ?_)
    exact (putL_all hcl).symm
  · intro i hi
    rcases Nat.lt_or_ge i 32 with h2 | h2
    · have hR : DJ y.s.list (i + 1) = (DJ y.s.list i).set i (dgB y.s.list i) := rfl
      have hl := DJ_len y.s.list i
      generalize DJ y.s.list i = cur at hR hl
      have hsl : y.s.list.length = 8 := rfl
      unfold dgB at hR
      have q1 : (i : Int).tdiv 4 = (i / 4 : Nat) := rfl
      have q2 : (i : Int).tmod 4 = (i % 4 : Nat) := rfl
      have w1 : IntKind.i64.wrap ((i / 4 : Nat) : Int) = (i / 4 : Nat) := by simp (disch := omega) only [wrap_id, w32, w8, w64]
      have w2 : IntKind.i64.wrap (8 * ((i % 4 : Nat) : Int)) = (8 * (i % 4) : Nat) := by simp (disch := omega) only [wrap_id, w32, w8, w64]; omega
      have w3 : IntKind.i64.wrap (24 - ((8 * (i % 4) : Nat) : Int)) = (24 - 8 * (i % 4) : Nat) := by simp (disch := omega) only [wrap_id, w32, w8, w64]; omega
      repeat' ((conv => whnf); first | (refine nv_ (W (y.s.list.getD (i / 4) 0)) (by first | (exact aget (i / 4) (by rw [q1, w1]; omega) (by omega); done) | fail) ?_) | refine aD1 ?_ | (refine And.intro (by first | (omega; done) | ((rw [q1, w1]; omega); done) | ((rw [q2, w2, w3]; omega); done) | fail) ?_) | refine aS ?_ | fail)
      refine ⟨i + 1, by omega, by omega, ?_⟩
      repeat' (first | exact trivial | exact LeV.same _ | exact LeB.same _ | exact rfl | exact fun _ _ _ => trivial | exact lI | refine leBd ?_ | refine And.intro ?_ ?_)
      rw [hR, ← mset]
      rw [q2, w2, w3]
      have w4 : min (((24 - 8 * (i % 4) : Nat) : Int).toNat) IntKind.u32.bits = 24 - 8 * (i % 4) := by
        rw [show IntKind.u32.bits = 32 from rfl]; omega
      rw [w4]
      simp only [Int.toNat_natCast, Nat.zero_add, Nat.mul_one]
    · have : i = 32 := by omega
      subst this
      repeat' ((conv => whnf); first | refine aD0 ?_ | refine aS ?_ | fail)
      exact ⟨(), trivial, by repeat' (first | exact trivial | exact LeV.same _ | exact LeB.same _ | exact rfl | exact fun _ _ _ => trivial | refine And.intro ?_ ?_)⟩
  rintro - -
  rw [DJ_32]
  have hdl : (dig y.s).length = 32 := by simp [dig]
  generalize dig y.s = ds at hdl
  repeat' ((conv => whnf); first | (refine And.intro (by first | (exact ⟨by simpa using hdl, by decide⟩; done) | (simpa using hdl; done) | fail) ?_) | refine rt ?_ trivial | fail)
  exact congrArg T.agg (putL_all rfl)
end Go.RC
end
section
namespace Go.RC
open Go Go.DL Go.Proofs
set_option maxRecDepth 100000
noncomputable def c93 : DCode := (.seq (.region [oo 2 (.mov (.const .nil))] []) (.seq (.region [mv 5 0,oo 6 (.conv .u64 (tm 5)),oo 7 (.bin .shl (tm 6) (.const (.int .u64 1))),mv 8 0,oo 9 (.bin .shr (tm 8) (.const (.int .u64 63))),oo 10 (.conv .u64 (tm 9)),oo 11 (.bin .xor (tm 7) (tm 10)),mv 3 11] []) (.seq (.region [oo 4 (.mov (.const .nil))] []) (.seq (.block 0 (.loop (.seq (.seq (.region [mv 12 3,oo 13 (.bin .gtr (tm 12) (.const (.int .u64 127)))] []) (.cond (tm 13) .skip (.exit 0))) (.seq (.block 1 (.region [mv 16 4,mv 17 3,oo 18 (.conv .u8 (tm 17)),oo 19 (.bin .or (tm 18) (.const (Ui 128))),oo 20 (.buildF 1 1 [(Ui 0)] [(0, (tm 19))]),oo 21 (.append 116 5 1 1 (tm 16) (tm 20)),mv 4 21] [])) (.region [mv 14 3,oo 15 (.bin .shr (tm 14) (.const (.int .u64 7))),mv 3 15] []))))) (.seq (.region [mv 22 4,mv 23 3,oo 24 (.conv .u8 (tm 23)),oo 25 (.buildF 1 1 [(Ui 0)] [(0, (tm 24))]),oo 26 (.append 116 5 1 1 (tm 22) (tm 25)),mv 2 26] []) .ret)))))
theorem l93 : (Tryz.f93.body.bind (lowC Tryz.prog 27 [8000020, 8000025])) = some c93 := by kernel_rfl
noncomputable def c60 : DCode := (.seq (.region [oo 2 (.mov (.const .nil))] []) (.seq (.region [mv 3 0,oo 4 (.lenS (tm 3)),oo 5 (.inl 93 [(tm 4)]),mv 6 0,oo 7 (.append 116 5 1 1 (tm 5) (tm 6)),mv 2 7] []) .ret))
theorem l60 : (Tryz.f60.body.bind (lowC Tryz.prog 8 [93])) = some c60 := by kernel_rfl
noncomputable def c131 : DCode := (.seq (.region [oo 4 (.mov (.const .nil))] []) (.seq (.region [mv 8 0,oo 9 (.len (tm 8)),oo 10 (.inl 93 [(tm 9)]),mv 5 10] []) (.seq (.seq (.region [mv 11 0,oo 12 (.len (tm 11)),oo 13 (.mov (Kc 0))] []) (.block 0 (.loop (.seq (.region [oo 14 (.bin .lss (tm 13) (tm 12))] []) (.seq (.cond (tm 14) .skip (.exit 0)) (.seq (.block 1 (.seq (.region [oo 15 (.idxL 1 (tm 11) (tm 13)),oo 16 (.load 1 false (tm 15)),mv 7 16] []) (.region [mv 17 5,mv 18 1,mv 19 7,oo 20 (.callv (tm 18) [(tm 19)]),oo 21 (.append 116 5 1 1 (tm 17) (tm 20)),mv 5 21] []))) (.region [oo 22 (.bin .add (tm 13) (Kc 1)),mv 13 22] []))))))) (.seq (.region [mv 23 5,mv 4 23] []) .ret))))
theorem l131 : (Tryz.f131.body.bind (lowC Tryz.prog 24 [93])) = some c131 := by kernel_rfl
noncomputable def c140 : DCode := (.seq (.region [oo 4 (.mov (.const .nil))] []) (.seq (.region [mv 8 0,oo 9 (.len (tm 8)),oo 10 (.inl 93 [(tm 9)]),mv 5 10] []) (.seq (.seq (.region [mv 11 0,oo 12 (.len (tm 11)),oo 13 (.mov (Kc 0))] []) (.block 0 (.loop (.seq (.region [oo 14 (.bin .lss (tm 13) (tm 12))] []) (.seq (.cond (tm 14) .skip (.exit 0)) (.seq (.block 1 (.seq (.region [oo 15 (.idxL 16 (tm 11) (tm 13)),oo 16 (.load 16 true (tm 15)),oo 7 (.alloc [(Ui 0), (Ui 0), (Ui 0), (Ui 0), (Ui 0), (Ui 0), (Ui 0), (Ui 0), (Ui 0), (Ui 0), (Ui 0), (Ui 0), (Ui 0), (Ui 0), (Ui 0), (Ui 0)]),o0 (.store 16 (tm 7) (tm 16))] []) (.region [mv 17 5,mv 18 1,oo 19 (.load 16 true (tm 7)),oo 20 (.callv (tm 18) [(tm 19)]),oo 21 (.append 116 5 1 1 (tm 17) (tm 20)),mv 5 21] []))) (.region [oo 22 (.bin .add (tm 13) (Kc 1)),mv 13 22] []))))))) (.seq (.region [mv 23 5,mv 4 23] []) .ret))))
theorem l140 : (Tryz.f140.body.bind (lowC Tryz.prog 24 [93])) = some c140 := by kernel_rfl
noncomputable def c141 : DCode := (.seq (.region [oo 1 (.box 16 (tm 0)),oo 2 (.mov (.const .nil))] []) (.seq (.region [oo 3 (.sliceA 16 1 (tm 1) none none),oo 4 (.inl 171 [(tm 3)]),mv 2 4] []) .ret))
theorem l141 : (Tryz.f141.body.bind (lowC Tryz.prog 5 [171])) = some c141 := by kernel_rfl
noncomputable def c77 : DCode := (.seq (.region [oo 2 (.mov (.const .nil))] []) (.seq (.region [mv 3 0,oo 4 (.inl 131 [(tm 3), (.const (.clos 93 []))]),mv 2 4] []) .ret))
theorem l77 : (Tryz.f77.body.bind (lowC Tryz.prog 5 [131])) = some c77 := by kernel_rfl
noncomputable def c94 : DCode := (.seq (.region [oo 2 (.mov (.const .nil))] []) (.seq (.region [mv 3 0,oo 4 (.inl 140 [(tm 3), (.const (.clos 141 []))]),mv 2 4] []) .ret))
theorem l94 : (Tryz.f94.body.bind (lowC Tryz.prog 5 [140])) = some c94 := by kernel_rfl
noncomputable def c171 : DCode := (.seq (.region [oo 2 (.mov (.const .nil))] []) (.seq (.seq (.region [mv 3 0,oo 4 (.isnil 1 false (tm 3))] []) (.cond (tm 4) (.seq (.region [oo 2 (.mov (.const .nil))] []) .ret) .skip)) (.seq (.region [oo 5 (.buildS 5 1 0 [(Ui 0)] []),mv 6 0,oo 7 (.append 116 5 1 1 (tm 5) (tm 6)),mv 2 7] []) .ret)))
theorem l171 : (Tryz.f171.body.bind (lowC Tryz.prog 8 [])) = some c171 := by kernel_rfl
noncomputable def c100 : DCode := (.seq (.region [oo 2 (.mov (.const .nil))] []) (.seq (.region [mv 5 0,oo 6 (.conv .u64 (tm 5)),oo 7 (.bin .mul (tm 6) (.const (.int .u64 2))),mv 3 7] []) (.seq (.cut (.seq (.region [mv 8 0,oo 9 (.bin .lss (tm 8) (Kc 0))] []) (.cond (tm 9) (.region [mv 10 0,oo 11 (.bin .sub (.const (.int .i64 (-1))) (tm 10)),oo 12 (.conv .u64 (tm 11)),oo 13 (.bin .mul (tm 12) (.const (.int .u64 2))),oo 14 (.bin .add (tm 13) (.const (.int .u64 1))),mv 3 14] []) .skip))) (.seq (.region [oo 4 (.mov (.const .nil))] []) (.seq (.block 0 (.loop (.seq (.seq (.region [mv 15 3,oo 16 (.bin .geq (tm 15) (.const (.int .u64 128)))] []) (.cond (tm 16) .skip (.exit 0))) (.block 1 (.seq (.region [mv 17 4,mv 18 3,oo 19 (.bin .rem (tm 18) (.const (.int .u64 128))),oo 20 (.conv .u8 (tm 19)),oo 21 (.bin .add (tm 20) (.const (Ui 128))),oo 22 (.buildF 1 1 [(Ui 0)] [(0, (tm 21))]),oo 23 (.append 116 5 1 1 (tm 17) (tm 22)),mv 4 23] []) (.region [mv 24 3,oo 25 (.bin .quo (tm 24) (.const (.int .u64 128))),mv 3 25] [])))))) (.seq (.region [mv 26 4,mv 27 3,oo 28 (.conv .u8 (tm 27)),oo 29 (.buildF 1 1 [(Ui 0)] [(0, (tm 28))]),oo 30 (.append 116 5 1 1 (tm 26) (tm 29)),mv 2 30] []) .ret))))))
theorem l100 : (Tryz.f100.body.bind (lowC Tryz.prog 31 [8000022, 8000029, 5000002])) = some c100 := by kernel_rfl
noncomputable def c64 : DCode := (.seq (.region [oo 2 (.mov (.const .nil))] []) (.seq (.region [mv 3 0,oo 4 (.lenS (tm 3)),oo 5 (.inl 100 [(tm 4)]),mv 6 0,oo 7 (.append 116 5 1 1 (tm 5) (tm 6)),mv 2 7] []) .ret))
theorem l64 : (Tryz.f64.body.bind (lowC Tryz.prog 8 [100])) = some c64 := by kernel_rfl
noncomputable def c99 : DCode := (.seq (.region [oo 2 (.mov (.const .nil))] []) (.seq (.region [mv 5 0,oo 6 (.len (tm 5)),oo 7 (.inl 100 [(tm 6)]),mv 3 7] []) (.seq (.seq (.region [oo 4 (.mov (Kc 0))] []) (.block 0 (.loop (.seq (.seq (.region [mv 8 4,mv 9 0,oo 10 (.len (tm 9)),oo 11 (.bin .lss (tm 8) (tm 10))] []) (.cond (tm 11) .skip (.exit 0))) (.seq (.block 1 (.region [mv 14 3,mv 15 0,mv 16 4,oo 17 (.idxL 1 (tm 15) (tm 16)),oo 18 (.load 1 false (tm 17)),oo 19 (.inl 100 [(tm 18)]),oo 20 (.append 116 5 1 1 (tm 14) (tm 19)),mv 3 20] [])) (.region [mv 12 4,oo 13 (.bin .add (tm 12) (Kc 1)),mv 4 13] [])))))) (.seq (.region [mv 21 3,mv 2 21] []) .ret))))
theorem l99 : (Tryz.f99.body.bind (lowC Tryz.prog 22 [100])) = some c99 := by kernel_rfl
noncomputable def c101 : DCode := (.seq (.region [oo 2 (.mov (.const .nil))] []) (.seq (.region [mv 5 0,oo 6 (.len (tm 5)),oo 7 (.inl 100 [(tm 6)]),mv 3 7] []) (.seq (.seq (.region [oo 4 (.mov (Kc 0))] []) (.block 0 (.loop (.seq (.seq (.region [mv 8 4,mv 9 0,oo 10 (.len (tm 9)),oo 11 (.bin .lss (tm 8) (tm 10))] []) (.cond (tm 11) .skip (.exit 0))) (.seq (.block 1 (.region [mv 14 3,mv 15 0,mv 16 4,oo 17 (.idxL 16 (tm 15) (tm 16)),oo 18 (.sliceA 16 1 (tm 17) none none),oo 19 (.append 116 5 1 1 (tm 14) (tm 18)),mv 3 19] [])) (.region [mv 12 4,oo 13 (.bin .add (tm 12) (Kc 1)),mv 4 13] [])))))) (.seq (.region [mv 20 3,mv 2 20] []) .ret))))
theorem l101 : (Tryz.f101.body.bind (lowC Tryz.prog 21 [100])) = some c101 := by kernel_rfl
end Go.RC
end
section
namespace Go.RC
open Go Go.DL Go.Proofs
set_option maxRecDepth 100000
set_option maxHeartbeats 1000000
def vb (z : Nat) : List Int := if h : z < 128 then [(z : Int)] else ((z % 128 + 128 : Nat) : Int) :: vb (z / 128)
termination_by z
decreasing_by omega
theorem vb_lt {z : Nat} (h : z < 128) : vb z = [(z : Int)] := by rw [vb, dif_pos h]
theorem vb_ge {z : Nat} (h : ¬ z < 128) : vb z = ((z % 128 + 128 : Nat) : Int) :: vb (z / 128) := by rw [vb, dif_neg h]
theorem vb_areB (z : Nat) : areB (vb z) := by
  induction z using Nat.strongRecOn with
  | ind z ih =>
    intro b hb
    by_cases h : z < 128
    · rw [vb_lt h] at hb
      rw [List.mem_singleton.1 hb]; omega
    · rw [vb_ge h] at hb
      rcases List.mem_cons.1 hb with rfl | hb
      · omega
      · exact ih (z / 128) (by omega) b hb
theorem vb_len : ∀ (k z : Nat), z < 128 ^ (k + 1) → (vb z).length ≤ k + 1
  | 0, z, h => by rw [vb_lt (by simpa using h)]; simp
  | k + 1, z, h => by
    by_cases h1 : z < 128
    · rw [vb_lt h1]; simp
    · rw [vb_ge h1, List.length_cons]
      have := vb_len k (z / 128) (Nat.div_lt_of_lt_mul (by rw [← Nat.pow_succ']; exact h))
      omega
def zz (n : Int) : Nat := if 0 ≤ n then (2 * n).toNat else (2 * (-1 - n) + 1).toNat
def i64 (n : Int) : Prop := -9223372036854775808 ≤ n ∧ n < 9223372036854775808
theorem zz_lt {n : Int} (h : i64 n) : zz n < 18446744073709551616 := by
  unfold zz; obtain ⟨h1, h2⟩ := h; split <;> omega
def vi (n : Int) : List Int := vb (zz n)
theorem vi_areB (n : Int) : areB (vi n) := vb_areB _
theorem vi_len {n : Int} (h : i64 n) : (vi n).length ≤ 10 := vb_len 9 _ (Nat.lt_of_lt_of_le (zz_lt h) (by decide))
theorem xor_ones {a : Int} (h0 : 0 ≤ a) (h1 : a < 18446744073709551616) : bitsI .xor .u64 a 18446744073709551615 = 18446744073709551615 - a := by
  obtain ⟨a, rfl⟩ := Int.eq_ofNat_of_zero_le h0
  have ha : a < 2 ^ 64 := by omega
  have e1 : (BitVec.ofInt 64 18446744073709551615) = BitVec.allOnes 64 := by decide
  have e2 : (BitVec.ofInt 64 ((a : Nat) : Int)).toNat = a := by
    rw [BitVec.ofInt_natCast, BitVec.toNat_ofNat, Nat.mod_eq_of_lt ha]
  show IntKind.u64.wrap ((BitVec.ofInt 64 ((a : Nat) : Int) ^^^ BitVec.ofInt 64 18446744073709551615).toNat : Int) = _
  rw [e1, BitVec.xor_allOnes, BitVec.toNat_not, e2, w64 (by omega) (by omega)]
  omega
theorem xor_zero {a : Int} (h0 : 0 ≤ a) (h1 : a < 18446744073709551616) : bitsI .xor .u64 a 0 = a := by
  obtain ⟨a, rfl⟩ := Int.eq_ofNat_of_zero_le h0
  have ha : a < 2 ^ 64 := by omega
  have e2 : (BitVec.ofInt 64 ((a : Nat) : Int)).toNat = a := by
    rw [BitVec.ofInt_natCast, BitVec.toNat_ofNat, Nat.mod_eq_of_lt ha]
  show IntKind.u64.wrap ((BitVec.ofInt 64 ((a : Nat) : Int) ^^^ BitVec.ofInt 64 0).toNat : Int) = _
  rw [show BitVec.ofInt 64 0 = 0#64 from rfl, BitVec.xor_zero, e2, w64 (by omega) (by omega)]
theorem wrap64m (n : Int) : IntKind.u64.wrap n = n % 18446744073709551616 := by
  unfold IntKind.wrap
  simp [IntKind.bits, IntKind.signed]
theorem zig {n : Int} (h : i64 n) : bitsI .xor .u64 (IntKind.u64.wrap (IntKind.u64.wrap n * 2 ^ 1)) (IntKind.u64.wrap (n.fdiv (2 ^ 63))) = zz n := by
  obtain ⟨h1, h2⟩ := h
  unfold zz
  rw [show (2 : Int) ^ 1 = 2 from rfl, show (2 : Int) ^ 63 = 9223372036854775808 from rfl]
  rw [Int.fdiv_eq_ediv_of_nonneg _ (by decide)]
  by_cases h0 : 0 ≤ n
  · rw [if_pos h0, show n / 9223372036854775808 = 0 by omega, w64 (n := n) h0 (by omega), w64 (n := n * 2) (by omega) (by omega), w64 (n := 0) (by omega) (by omega), xor_zero (by omega) (by omega)]
    omega
  · rw [if_neg h0, show n / 9223372036854775808 = -1 by omega]
    rw [show IntKind.u64.wrap (-1) = 18446744073709551615 from rfl, xor_ones (by rw [wrap64m]; omega) (by rw [wrap64m]; omega), wrap64m, wrap64m]
    omega
theorem or128 : ∀ b : Fin 256, bitsI .or .u8 (b.val : Int) 128 = ((b.val % 128 + 128 : Nat) : Int) := by decide +kernel
theorem dig128 (z : Nat) : bitsI .or .u8 (IntKind.u8.wrap (z : Int)) 128 = ((z % 128 + 128 : Nat) : Int) := by
  have e : IntKind.u8.wrap (z : Int) = ((z % 256 : Nat) : Int) := by
    unfold IntKind.wrap
    simp [IntKind.bits, IntKind.signed]
  have := or128 ⟨z % 256, Nat.mod_lt _ (by decide)⟩
  dsimp only at this
  rw [e, this]
  omega
theorem flY (xs : List Int) : ∀ t ∈ (xs.map Y).flatMap T.cells, t.flat = true := fun t ht => by
  obtain ⟨x, hx, ht⟩ := List.mem_flatMap.1 ht
  obtain ⟨n, _, rfl⟩ := List.mem_map.1 hx
  rw [List.mem_singleton.1 ht]; rfl
theorem f_Int (n : Int) (h : i64 n) : FCalls Tryz.prog 93 [I n] 5 1 ((vi n).map Y) [] := by
  refine fcalls_low (rs := [.tmp 2]) mixed Tryz.func93 l93 rfl rfl rfl (Nat.le_of_ble_eq_true rfl) ?_
  have hz := zz_lt h
  have hl := vi_len h
  have hzig := zig h
  unfold vi at hl ⊢
  generalize zz n = z0 at hz hl hzig
  repeat' ((conv => whnf); first | refine aS ?_ | fail)
  refine wpC_loopE 0 (α := Nat × Nat × List Int) (β := Nat × Nat × List Int) (fun q => {sl := [(3, .t (Q q.2.1)), (4, .own q.1 5 1 (q.2.2.map Y))], bx := []})
    (fun q => q.2.1 < 18446744073709551616 ∧ q.2.2 ++ vb q.2.1 = vb z0) (fun q => q.2.1) (fun q => {sl := [(3, .t (Q q.2.1)), (4, .own q.1 5 1 (q.2.2.map Y))], bx := []}) (fun q => q.2.1 < 128 ∧ q.2.2 ++ vb q.2.1 = vb z0) (21, z0, []) (by dsimp only; exact ⟨hz, rfl⟩) ?_ ?_ ?_
  · repeat' (first | ((refine leT (congrArg Q ?_); rw [← hzig]; rfl)) | exact trivial | exact rfl | exact fun _ _ _ => trivial | exact LeV.nil _ _ _ | refine And.intro ?_ ?_)
  · rintro ⟨q, z, out⟩ ⟨h1, h2⟩
    dsimp only at h1 h2
    rcases Nat.lt_or_ge z 128 with h | h
    · repeat' ((conv => whnf); first | refine aD0 ?_ | refine aS ?_ | fail)
      exact ⟨(q, z, out), ⟨h, h2⟩, by repeat' (first | exact trivial | exact LeV.same _ | exact rfl | exact fun _ _ _ => trivial | refine And.intro ?_ ?_)⟩
    · have e := vb_ge (z := z) (by omega)
      rw [e] at h2
      have hol := congrArg List.length h2
      rw [List.length_append, List.length_cons] at hol
      have hdiv : (z : Int).fdiv (2 ^ 7) = (z / 128 : Nat) := by
        rw [Int.fdiv_eq_ediv_of_nonneg _ (by decide)]; rfl
      repeat' ((conv => whnf); first | refine aD1 ?_ | (refine And.intro (by first | ((simp; omega); done) | fail) ?_) | refine aS ?_ | fail)
      refine ⟨(21, z / 128, out ++ [((z % 128 + 128 : Nat) : Int)]), ⟨by dsimp only; omega, by simpa using h2⟩, by dsimp only; omega, ?_⟩
      repeat' (first | ((refine leT (congrArg Q ?_); exact hdiv.symm)) | exact trivial | exact rfl | exact fun _ _ _ => trivial | refine leOwn ?_ | refine And.intro ?_ ?_)
      rw [List.map_append, List.map_singleton, ← dig128]
      rfl
  rintro ⟨q, z, out⟩ ⟨h1, h2⟩
  dsimp only at h1 h2
  rw [vb_lt h1] at h2
  have hol := congrArg List.length h2
  rw [List.length_append, List.length_singleton] at hol
  have e1 : IntKind.u8.wrap (z : Int) = z := w8 (by omega) (by omega)
  rw [← h2]
  repeat' ((conv => whnf); first | (refine And.intro (by first | (exact flY _; done) | ((simp; omega); done) | fail) ?_) | refine aS ?_ | fail)
  refine ⟨_, rfl, .inl ⟨26, congrArg (V.own 26 5 1) ?_⟩⟩
  dsimp only
  rw [e1, List.map_append]
  rfl
theorem or_plus : ∀ b : Fin 128, IntKind.u8.wrap (IntKind.u8.wrap (b.val : Int) + 128) = ((b.val + 128 : Nat) : Int) := by decide +kernel
theorem zig2 {n : Int} (h : i64 n) : (n < 0 → IntKind.u64.wrap (IntKind.u64.wrap (IntKind.u64.wrap (IntKind.i64.wrap (-1 - n)) * 2) + 1) = zz n) ∧ (¬ n < 0 → IntKind.u64.wrap (IntKind.u64.wrap n * 2) = zz n) := by
  obtain ⟨h1, h2⟩ := h
  unfold zz
  refine ⟨fun h0 => ?_, fun h0 => ?_⟩
  · rw [if_neg (by omega), wrap_id (by omega) (by omega), w64 (n := -1 - n) (by omega) (by omega), w64 (n := (-1 - n) * 2) (by omega) (by omega), w64 (by omega) (by omega)]
    omega
  · rw [if_pos (by omega), w64 (n := n) (by omega) (by omega), w64 (by omega) (by omega)]
    omega
theorem f_refInt (n : Int) (h : i64 n) : FCalls Tryz.prog 100 [I n] 5 1 ((vi n).map Y) [] := by
  refine fcalls_low (rs := [.tmp 2]) mixed Tryz.func100 l100 rfl rfl rfl (Nat.le_of_ble_eq_true rfl) ?_
  have hz := zz_lt h
  have hl := vi_len h
  obtain ⟨hz1, hz2⟩ := zig2 h
  unfold vi at hl ⊢
  generalize zz n = z0 at hz hl hz1 hz2
  refine wpC_cut (β := Unit) (fun _ => {sl := [(3, .t (Q z0))], bx := []}) (fun _ => True) ?_ ?_
  · repeat' ((conv => whnf); first | refine nD_ (fun hq => ?_) (fun hq => ?_) | refine aS ?_ | fail)
    · exact ⟨(), trivial, by repeat' (first | ((refine leT (congrArg Q ?_); exact (hz1 hq).symm)) | exact trivial | exact rfl | exact fun _ _ _ => trivial | refine And.intro ?_ ?_)⟩
    · exact ⟨(), trivial, by repeat' (first | ((refine leT (congrArg Q ?_); exact (hz2 hq).symm)) | exact trivial | exact rfl | exact fun _ _ _ => trivial | refine And.intro ?_ ?_)⟩
  rintro - -
  skip
  refine wpC_loopE 0 (α := Nat × Nat × List Int) (β := Nat × Nat × List Int) (fun q => {sl := [(3, .t (Q q.2.1)), (4, .own q.1 5 1 (q.2.2.map Y))], bx := []})
    (fun q => q.2.1 < 18446744073709551616 ∧ q.2.2 ++ vb q.2.1 = vb z0) (fun q => q.2.1) (fun q => {sl := [(3, .t (Q q.2.1)), (4, .own q.1 5 1 (q.2.2.map Y))], bx := []}) (fun q => q.2.1 < 128 ∧ q.2.2 ++ vb q.2.1 = vb z0) (23, z0, []) (by dsimp only; exact ⟨hz, rfl⟩) ?_ ?_ ?_
  · repeat' (first | exact trivial | exact LeV.same _ | exact rfl | exact fun _ _ _ => trivial | exact LeV.nil _ _ _ | refine And.intro ?_ ?_)
  · rintro ⟨q, z, out⟩ ⟨h1, h2⟩
    dsimp only at h1 h2
    rcases Nat.lt_or_ge z 128 with h | h
    · repeat' ((conv => whnf); first | refine aD0 ?_ | refine aS ?_ | fail)
      exact ⟨(q, z, out), ⟨h, h2⟩, by repeat' (first | exact trivial | exact LeV.same _ | exact rfl | exact fun _ _ _ => trivial | refine And.intro ?_ ?_)⟩
    · have e := vb_ge (z := z) (by omega)
      rw [e] at h2
      have hol := congrArg List.length h2
      rw [List.length_append, List.length_cons] at hol
      have hdiv : IntKind.u64.wrap ((z : Int).tdiv 128) = (z / 128 : Nat) := by
        rw [show (z : Int).tdiv 128 = (z / 128 : Nat) from rfl, w64 (by omega) (by omega)]
      have hrem : IntKind.u8.wrap (IntKind.u8.wrap ((z : Int).tmod 128) + 128) = (z % 128 + 128 : Nat) := or_plus ⟨z % 128, Nat.mod_lt _ (by decide)⟩
      repeat' ((conv => whnf); first | refine aD1 ?_ | (refine And.intro (by first | ((simp; omega); done) | fail) ?_) | refine aS ?_ | fail)
      refine ⟨(23, z / 128, out ++ [((z % 128 + 128 : Nat) : Int)]), ⟨by dsimp only; omega, by simpa using h2⟩, by dsimp only; omega, ?_⟩
      repeat' (first | ((refine leT (congrArg Q ?_); exact hdiv.symm)) | exact trivial | exact rfl | exact fun _ _ _ => trivial | refine leOwn ?_ | refine And.intro ?_ ?_)
      rw [List.map_append, List.map_singleton, ← hrem]
      rfl
  rintro ⟨q, z, out⟩ ⟨h1, h2⟩
  dsimp only at h1 h2
  rw [vb_lt h1] at h2
  have hol := congrArg List.length h2
  rw [List.length_append, List.length_singleton] at hol
  have e1 : IntKind.u8.wrap (z : Int) = z := w8 (by omega) (by omega)
  rw [← h2]
  repeat' ((conv => whnf); first | (refine And.intro (by first | (exact flY _; done) | ((simp; omega); done) | fail) ?_) | refine aS ?_ | fail)
  refine ⟨_, rfl, .inl ⟨30, congrArg (V.own 30 5 1) ?_⟩⟩
  dsimp only
  rw [e1, List.map_append]
  rfl
end Go.RC
end
section
namespace Go.RC
open Go Go.DL Go.Proofs
set_option maxRecDepth 100000
set_option maxHeartbeats 1000000
def vs (s : ByteArray) : List Int := vi s.size ++ sB s
theorem i64_nat {n : Nat} (h : n < 2 ^ 62) : i64 (n : Int) := by unfold i64; omega
theorem f_Bytes (s : ByteArray) (h : s.size < 2 ^ 40) : FCalls Tryz.prog 60 [.str s] 5 1 ((vs s).map Y) [] := by
  refine fcalls_low (rs := [.tmp 2]) mixed Tryz.func60 l60 rfl rfl rfl (Nat.le_of_ble_eq_true rfl) ?_
  have hi := i64_nat (n := s.size) (by omega)
  have hl := vi_len hi
  have hb : (bytesT s).length = s.size := by rw [bytesT_sB, List.length_map, sB_len]
  repeat' ((conv => whnf); first | refine WC_own rfl (f_Int s.size hi) ?_ | (refine And.intro (by first | (exact flY _; done) | ((simp [hb]; omega); done) | fail) ?_) | refine aS ?_ | fail)
  refine ⟨_, rfl, .inl ⟨7, congrArg (V.own 7 5 1) ?_⟩⟩
  unfold vs
  rw [List.map_append, bytesT_sB]
theorem f_refBytes (s : ByteArray) (h : s.size < 2 ^ 40) : FCalls Tryz.prog 64 [.str s] 5 1 ((vs s).map Y) [] := by
  refine fcalls_low (rs := [.tmp 2]) mixed Tryz.func64 l64 rfl rfl rfl (Nat.le_of_ble_eq_true rfl) ?_
  have hi := i64_nat (n := s.size) (by omega)
  have hl := vi_len hi
  have hb : (bytesT s).length = s.size := by rw [bytesT_sB, List.length_map, sB_len]
  repeat' ((conv => whnf); first | refine WC_own rfl (f_refInt s.size hi) ?_ | (refine And.intro (by first | (exact flY _; done) | ((simp [hb]; omega); done) | fail) ?_) | refine aS ?_ | fail)
  refine ⟨_, rfl, .inl ⟨7, congrArg (V.own 7 5 1) ?_⟩⟩
  unfold vs
  rw [List.map_append, bytesT_sB]
def vis (l : List Int) : List Int := vi l.length ++ l.flatMap vi
theorem flat_take {α : Type} (f : α → List Int) {l : List α} {i : Nat} (h : i < l.length) : (l.take (i + 1)).flatMap f = (l.take i).flatMap f ++ f l[i] := by
  rw [List.take_succ_eq_append_getElem h, List.flatMap_append]; simp
theorem flat_le {α : Type} (f : α → List Int) (k : Nat) : ∀ {l : List α}, (∀ x ∈ l, (f x).length ≤ k) → (l.flatMap f).length ≤ k * l.length
  | [], _ => by simp
  | x :: l, h => by
    have h1 := flat_le f k (l := l) (fun y hy => h y (by simp [hy]))
    have h2 := h x (by simp)
    rw [List.flatMap_cons, List.length_append, List.length_cons, Nat.mul_add]
    omega
theorem f_list (l : List Int) (h : l.length < 2 ^ 40) (hi : ∀ x ∈ l, i64 x) : FCalls Tryz.prog 131 [.slice 1 (l.map I), .clos 93 []] 5 1 ((vis l).map Y) [] := by
  refine fcalls_low (rs := [.tmp 4]) mixed Tryz.func131 l131 rfl rfl rfl (Nat.le_of_ble_eq_true rfl) ?_
  have h0 := i64_nat (n := l.length) (by omega)
  have hl0 := vi_len h0
  repeat' ((conv => whnf); first | (refine WC_own (ts := [I l.length]) (by simp; rfl) (f_Int l.length h0) ?_) | fail)
  refine wpC_loopE 0 (α := Nat × Nat) (β := Nat) (fun q => {sl := [(1, .t (.clos 93 [])), (5, .own q.1 5 1 ((vi l.length ++ (l.take q.2).flatMap vi).map Y)), (11, .t (.slice 1 (l.map I))), (12, .t (I l.length)), (13, .t (I q.2))], bx := []})
    (fun q => q.2 ≤ l.length) (fun q => l.length - q.2) (fun q => {sl := [(5, .own q 5 1 ((vis l).map Y))], bx := []}) (fun _ => True) (10, 0) (by simp) ?_ ?_ ?_
  · repeat' (first | ((refine leI ?_; simp; done)) | exact trivial | exact LeV.same _ | exact rfl | exact fun _ _ _ => trivial | refine leOwn ?_ | refine And.intro ?_ ?_)
    simp
  · rintro ⟨q, i⟩ hq
    dsimp only at hq
    rcases Nat.lt_or_ge i l.length with h1 | h1
    · have hx := hi l[i] (List.getElem_mem h1)
      have hxl := vi_len hx
      have hfl := flat_le vi 10 (l := l.take i) (fun x hx => vi_len (hi x (List.mem_of_mem_take hx)))
      rw [List.length_take] at hfl
      repeat' ((conv => whnf); first | (refine nv_ (I l[i]) (by first | ((simp [h1]); done) | fail) ?_) | refine k_call _ ((f_Int l[i] hx).dcalls) ?_ | refine nT_ ?_ | refine aD1 ?_ | (refine And.intro (by first | ((simp; omega); done) | ((simp only [List.length_map, List.length_append]; omega); done) | fail) ?_) | refine aS ?_ | fail)
      refine ⟨(21, i + 1), by dsimp only; omega, by dsimp only; omega, ?_⟩
      repeat' (first | exact trivial | exact LeV.same _ | exact rfl | exact fun _ _ _ => trivial | exact lI | refine leOwn ?_ | refine And.intro ?_ ?_)
      rw [flat_take vi h1]
      simp
    · have : i = l.length := by omega
      subst this
      repeat' ((conv => whnf); first | refine aD0 ?_ | refine aS ?_ | fail)
      exact ⟨q, trivial, by repeat' (first | ((refine leOwn ?_; rw [List.take_length]; rfl)) | exact trivial | exact rfl | exact fun _ _ _ => trivial | refine And.intro ?_ ?_)⟩
  rintro q -
  repeat' ((conv => whnf); first | (refine And.intro (by first | (exact flY _; done) | fail) ?_) | refine aS ?_ | fail)
  exact ⟨_, rfl, .inl ⟨q, rfl⟩⟩
theorem f_Ints (l : List Int) (h : l.length < 2 ^ 40) (hi : ∀ x ∈ l, i64 x) : FCalls Tryz.prog 77 [.slice 1 (l.map I)] 5 1 ((vis l).map Y) [] := by
  refine fcalls_low (rs := [.tmp 2]) mixed Tryz.func77 l77 rfl rfl rfl (Nat.le_of_ble_eq_true rfl) ?_
  repeat' ((conv => whnf); first | refine WC_own rfl (f_list l h hi) ?_ | (refine And.intro (by first | (exact flY _; done) | fail) ?_) | refine aS ?_ | fail)
  exact ⟨_, rfl, .inl ⟨_, rfl⟩⟩
theorem f_refInts (l : List Int) (h : l.length < 2 ^ 40) (hi : ∀ x ∈ l, i64 x) : FCalls Tryz.prog 99 [.slice 1 (l.map I)] 5 1 ((vis l).map Y) [] := by
  refine fcalls_low (rs := [.tmp 2]) mixed Tryz.func99 l99 rfl rfl rfl (Nat.le_of_ble_eq_true rfl) ?_
  have h0 := i64_nat (n := l.length) (by omega)
  have hl0 := vi_len h0
  repeat' ((conv => whnf); first | (refine WC_own (ts := [I l.length]) (by simp; rfl) (f_refInt l.length h0) ?_) | fail)
  refine wpC_loopE 0 (α := Nat × Nat) (β := Nat) (fun q => {sl := [(0, .t (.slice 1 (l.map I))), (3, .own q.1 5 1 ((vi l.length ++ (l.take q.2).flatMap vi).map Y)), (4, .t (I q.2))], bx := []})
    (fun q => q.2 ≤ l.length) (fun q => l.length - q.2) (fun q => {sl := [(3, .own q 5 1 ((vis l).map Y))], bx := []}) (fun _ => True) (7, 0) (by simp) ?_ ?_ ?_
  · repeat' (first | exact trivial | exact LeV.same _ | exact rfl | exact fun _ _ _ => trivial | refine leOwn ?_ | refine And.intro ?_ ?_)
    simp
  · rintro ⟨q, i⟩ hq
    dsimp only at hq
    rcases Nat.lt_or_ge i l.length with h1 | h1
    · have hx := hi l[i] (List.getElem_mem h1)
      have hxl := vi_len hx
      have hfl := flat_le vi 10 (l := l.take i) (fun x hx => vi_len (hi x (List.mem_of_mem_take hx)))
      rw [List.length_take] at hfl
      repeat' ((conv => whnf); first | (refine nv_ (I l[i]) (by first | ((simp [h1]); done) | fail) ?_) | refine WC_dc rfl (f_refInt l[i] hx).dcalls (.inl rfl) ?_ | refine now_D1 (by simpa using h1) ?_ | refine nT_ ?_ | (refine And.intro (by first | ((simp; omega); done) | ((simp only [List.length_map, List.length_append]; omega); done) | fail) ?_) | refine aS ?_ | fail)
      refine ⟨(20, i + 1), by dsimp only; omega, by dsimp only; omega, ?_⟩
      repeat' (first | exact trivial | exact LeV.same _ | exact rfl | exact fun _ _ _ => trivial | exact lI | refine leOwn ?_ | refine And.intro ?_ ?_)
      rw [flat_take vi h1]
      simp
    · have : i = l.length := by omega
      subst this
      repeat' ((conv => whnf); first | refine now_D0 (by simp) ?_ | refine aS ?_ | fail)
      exact ⟨q, trivial, by repeat' (first | ((refine leOwn ?_; rw [List.take_length]; rfl)) | exact trivial | exact rfl | exact fun _ _ _ => trivial | refine And.intro ?_ ?_)⟩
  rintro q -
  repeat' ((conv => whnf); first | (refine And.intro (by first | (exact flY _; done) | fail) ?_) | refine aS ?_ | fail)
  exact ⟨_, rfl, .inl ⟨q, rfl⟩⟩
abbrev dg16 (d : List Int) : T := .agg (d.map Y)
def digs (l : List (List Int)) : List Int := vi l.length ++ l.flatten
theorem f_Clone (d : List Int) (h0 : d ≠ []) (h : d.length < 2 ^ 40) : FCalls Tryz.prog 171 [.slice 1 (d.map Y)] 5 1 (d.map Y) [] := by
  refine fcalls_low (rs := [.tmp 2]) mixed Tryz.func171 l171 rfl rfl rfl (Nat.le_of_ble_eq_true rfl) ?_
  have hne : 0 < ((d.map Y).flatMap T.cells).length := by
    rw [flat_ones (mones (fun _ => rfl) d), List.length_map]
    exact List.length_pos_iff.2 h0
  repeat' ((conv => whnf); first | (refine And.intro (by first | (exact hne; done) | (exact flY _; done) | ((simp; omega); done) | fail) ?_) | refine aS ?_ | fail)
  exact ⟨_, rfl, .inl ⟨7, rfl⟩⟩
theorem f_digest (d : List Int) (h : d.length = 16) : FCalls Tryz.prog 141 [dg16 d] 5 1 (d.map Y) [] := by
  refine fcalls_low (rs := [.tmp 2]) mixed Tryz.func141 l141 rfl rfl rfl (Nat.le_of_ble_eq_true rfl) ?_
  have hc : chunk 1 16 (d.map Y) = d.map Y := chunk1 d 16 h
  repeat' ((conv => whnf); first | (refine WC_own (ts := [.slice 1 (chunk 1 16 (d.map Y))]) rfl (by rw [hc]; exact f_Clone d (by intro e; rw [e] at h; cases h) (by omega)) ?_) | (refine And.intro (by first | ((simp [h]; done); done) | (exact flY _; done) | fail) ?_) | fail)
  exact ⟨_, rfl, .inl ⟨_, rfl⟩⟩
theorem flatten_take {l : List (List Int)} {i : Nat} (h : i < l.length) : (l.take (i + 1)).flatten = (l.take i).flatten ++ l[i] := by
  rw [List.take_succ_eq_append_getElem h, List.flatten_append]; simp
theorem flatten_le : ∀ {l : List (List Int)}, (∀ x ∈ l, x.length = 16) → l.flatten.length ≤ 16 * l.length
  | [], _ => by simp
  | x :: l, h => by
    have h1 := flatten_le (l := l) (fun y hy => h y (by simp [hy]))
    have h2 := h x (by simp)
    rw [List.flatten_cons, List.length_append, List.length_cons, Nat.mul_add]
    omega
theorem f_listD (l : List (List Int)) (h : l.length < 2 ^ 40) (hi : ∀ x ∈ l, x.length = 16) : FCalls Tryz.prog 140 [.slice 16 (l.map dg16), .clos 141 []] 5 1 ((digs l).map Y) [] := by
  refine fcalls_low (rs := [.tmp 4]) mixed Tryz.func140 l140 rfl rfl rfl (Nat.le_of_ble_eq_true rfl) ?_
  have h0 := i64_nat (n := l.length) (by omega)
  have hl0 := vi_len h0
  repeat' ((conv => whnf); first | (refine WC_own (ts := [I l.length]) (by simp; rfl) (f_Int l.length h0) ?_) | fail)
  refine wpC_loopE 0 (α := Nat × Nat) (β := Nat) (fun q => {sl := [(1, .t (.clos 141 [])), (5, .own q.1 5 1 ((vi l.length ++ (l.take q.2).flatten).map Y)), (11, .t (.slice 16 (l.map dg16))), (12, .t (I l.length)), (13, .t (I q.2))], bx := []})
    (fun q => q.2 ≤ l.length) (fun q => l.length - q.2) (fun q => {sl := [(5, .own q 5 1 ((digs l).map Y))], bx := []}) (fun _ => True) (10, 0) (by simp) ?_ ?_ ?_
  · repeat' (first | ((refine leI ?_; simp; done)) | exact trivial | exact LeV.same _ | exact rfl | exact fun _ _ _ => trivial | refine leOwn ?_ | refine And.intro ?_ ?_)
    simp
  · rintro ⟨q, i⟩ hq
    dsimp only at hq
    rcases Nat.lt_or_ge i l.length with h1 | h1
    · have hx := hi l[i] (List.getElem_mem h1)
      have hfl := flatten_le (l := l.take i) (fun x hx => hi x (List.mem_of_mem_take hx))
      rw [List.length_take] at hfl
      have hd : DCalls Tryz.prog 141 [.agg (putL (List.replicate 16 (Y 0)) 0 16 (l[i].map Y))] (.slice 1 (l[i].map Y)) := by
        rw [putL_all (n := 16) (cs := List.replicate 16 (Y 0)) rfl]; exact (f_digest l[i] hx).dcalls
      repeat' ((conv => whnf); first | (refine nv_ (dg16 l[i]) (by first | ((simp [h1]; done); done) | fail) ?_) | refine k_call _ (hd) ?_ | refine nT_ ?_ | refine aD1 ?_ | (refine And.intro (by first | ((simp; omega); done) | (exact (List.length_map _).trans hx; done) | (exact ⟨(List.length_map _).trans hx, by decide⟩; done) | ((simp only [List.length_map, List.length_append]; omega); done) | fail) ?_) | refine aS ?_ | fail)
      refine ⟨(21, i + 1), by dsimp only; omega, by dsimp only; omega, ?_⟩
      repeat' (first | exact trivial | exact LeV.same _ | exact rfl | exact fun _ _ _ => trivial | exact lI | refine leOwn ?_ | refine And.intro ?_ ?_)
      rw [flatten_take h1]
      simp
    · have : i = l.length := by omega
      subst this
      repeat' ((conv => whnf); first | refine aD0 ?_ | refine aS ?_ | fail)
      exact ⟨q, trivial, by repeat' (first | ((refine leOwn ?_; rw [List.take_length]; rfl)) | exact trivial | exact rfl | exact fun _ _ _ => trivial | refine And.intro ?_ ?_)⟩
  rintro q -
  repeat' ((conv => whnf); first | (refine And.intro (by first | (exact flY _; done) | fail) ?_) | refine aS ?_ | fail)
  exact ⟨_, rfl, .inl ⟨q, rfl⟩⟩
theorem f_Digests (l : List (List Int)) (h : l.length < 2 ^ 40) (hi : ∀ x ∈ l, x.length = 16) : FCalls Tryz.prog 94 [.slice 16 (l.map dg16)] 5 1 ((digs l).map Y) [] := by
  refine fcalls_low (rs := [.tmp 2]) mixed Tryz.func94 l94 rfl rfl rfl (Nat.le_of_ble_eq_true rfl) ?_
  repeat' ((conv => whnf); first | refine WC_own rfl (f_listD l h hi) ?_ | (refine And.intro (by first | (exact flY _; done) | fail) ?_) | refine aS ?_ | fail)
  exact ⟨_, rfl, .inl ⟨_, rfl⟩⟩
theorem f_refDigests (l : List (List Int)) (h : l.length < 2 ^ 40) (hi : ∀ x ∈ l, x.length = 16) : FCalls Tryz.prog 101 [.slice 16 (l.map dg16)] 5 1 ((digs l).map Y) [] := by
  refine fcalls_low (rs := [.tmp 2]) mixed Tryz.func101 l101 rfl rfl rfl (Nat.le_of_ble_eq_true rfl) ?_
  have h0 := i64_nat (n := l.length) (by omega)
  have hl0 := vi_len h0
  repeat' ((conv => whnf); first | (refine WC_own (ts := [I l.length]) (by simp; rfl) (f_refInt l.length h0) ?_) | fail)
  refine wpC_loopE 0 (α := Nat × Nat) (β := Nat) (fun q => {sl := [(0, .t (.slice 16 (l.map dg16))), (3, .own q.1 5 1 ((vi l.length ++ (l.take q.2).flatten).map Y)), (4, .t (I q.2))], bx := []})
    (fun q => q.2 ≤ l.length) (fun q => l.length - q.2) (fun q => {sl := [(3, .own q 5 1 ((digs l).map Y))], bx := []}) (fun _ => True) (7, 0) (by simp) ?_ ?_ ?_
  · repeat' (first | exact trivial | exact LeV.same _ | exact rfl | exact fun _ _ _ => trivial | refine leOwn ?_ | refine And.intro ?_ ?_)
    simp
  · rintro ⟨q, i⟩ hq
    dsimp only at hq
    rcases Nat.lt_or_ge i l.length with h1 | h1
    · have hx := hi l[i] (List.getElem_mem h1)
      have hfl := flatten_le (l := l.take i) (fun x hx => hi x (List.mem_of_mem_take hx))
      rw [List.length_take] at hfl
      have hcl : (dg16 l[i]).cells.length = 16 := (List.length_map _).trans hx
      repeat' ((conv => whnf); first | (refine nv_ (dg16 l[i]) (by first | ((simp [h1]; done); done) | fail) ?_) | (refine nv_ (.slice 1 (l[i].map Y)) (by first | (exact congrArg (T.slice 1) (chunk1 l[i] 16 hx); done) | fail) ?_) | refine now_D1 (by simpa using h1) ?_ | (refine And.intro (by first | ((simp; omega); done) | ((rw [hcl]; decide); done) | ((simp only [List.length_map, List.length_append]; omega); done) | fail) ?_) | refine aS ?_ | fail)
      refine ⟨(19, i + 1), by dsimp only; omega, by dsimp only; omega, ?_⟩
      repeat' (first | exact trivial | exact LeV.same _ | exact rfl | exact fun _ _ _ => trivial | exact lI | refine leOwn ?_ | refine And.intro ?_ ?_)
      rw [flatten_take h1]
      simp
    · have : i = l.length := by omega
      subst this
      repeat' ((conv => whnf); first | refine now_D0 (by simp) ?_ | refine aS ?_ | fail)
      exact ⟨q, trivial, by repeat' (first | ((refine leOwn ?_; rw [List.take_length]; rfl)) | exact trivial | exact rfl | exact fun _ _ _ => trivial | refine And.intro ?_ ?_)⟩
  rintro q -
  repeat' ((conv => whnf); first | (refine And.intro (by first | (exact flY _; done) | fail) ?_) | refine aS ?_ | fail)
  exact ⟨_, rfl, .inl ⟨q, rfl⟩⟩
def msg (tag : Int) (ps : List ByteArray) : List Int := IntKind.u8.wrap tag :: ps.flatMap vs
def H (m : List Int) : List Int := (dig ((S0.add m).add (tail m.length)).s).take 16
def H2 (m : List Int) : List Int := (dig (bl2 (m ++ tail m.length) ((m ++ tail m.length).length / 64))).take 16
theorem u8_range (x : Int) : 0 ≤ IntKind.u8.wrap x ∧ IntKind.u8.wrap x < 256 := by
  unfold IntKind.wrap
  simp [IntKind.bits, IntKind.signed]
  omega
theorem vs_areB (s : ByteArray) : areB (vs s) := fun b hb => by
  rcases List.mem_append.1 hb with h | h
  · exact vi_areB _ b h
  · exact sB_areB _ b h
theorem msg_areB (tag : Int) (ps : List ByteArray) : areB (msg tag ps) := fun b hb => by
  rcases List.mem_cons.1 hb with rfl | h
  · exact u8_range _
  · obtain ⟨s, _, hs⟩ := List.mem_flatMap.1 h
    exact vs_areB s b hs
theorem vs_len {s : ByteArray} (h : s.size < 2 ^ 40) : (vs s).length ≤ s.size + 10 := by
  have := vi_len (i64_nat (n := s.size) (by omega))
  unfold vs
  rw [List.length_append, sB_len]
  omega
theorem t_Of (tag : Int) (ps : List ByteArray) (hp : ∀ s ∈ ps, s.size < 2 ^ 40) (hl : ps.length < 2 ^ 10) : DCalls Tryz.prog 76 [I tag, .slice 1 (ps.map .str)] (.agg ((H (msg tag ps)).map Y)) := by
  refine dcalls_low (rs := [.cell 4 30]) mixed Tryz.func76 l76 rfl rfl rfl (r := [.agg _]) (Nat.le_of_ble_eq_true rfl) ?_
  have h1 : sB (strT [Y (IntKind.u8.wrap tag)]) = [IntKind.u8.wrap tag] := sB_strT [IntKind.u8.wrap tag] (fun b hb => by rw [List.mem_singleton.1 hb]; exact u8_range _)
  have hs1 : (strT [Y (IntKind.u8.wrap tag)]).size = 1 := by rw [← sB_len, h1]; rfl
  have hadd := t_Add S0 (strT [Y (IntKind.u8.wrap tag)]) rfl (by rw [hs1]; decide)
  rw [h1] at hadd
  repeat' ((conv => whnf); first | refine k_call _ (t_Begin) ?_ | refine k_call _ (hadd) ?_ | refine nT_ ?_ | refine aS ?_ | fail)
  have hX : ∀ k, ((S0.add [IntKind.u8.wrap tag]).add ((ps.take k).flatMap vs)).blk.length = 64 := fun k => by rw [(add_blk _ _).1, (add_blk _ _).1]; rfl
  have hXn : ∀ k, ((S0.add [IntKind.u8.wrap tag]).add ((ps.take k).flatMap vs)).n = 1 + ((ps.take k).flatMap vs).length := fun k => by rw [(add_blk _ _).2, (add_blk _ _).2]; show 0 + 1 + _ = _; omega
  have hfl : ∀ k, ((ps.take k).flatMap vs).length ≤ (2 ^ 40 + 10) * ps.length := fun k => by
    have := flat_le vs (2 ^ 40 + 10) (l := ps.take k) (fun s hs => by have := hp s (List.mem_of_mem_take hs); have := vs_len this; omega)
    refine Nat.le_trans this (Nat.mul_le_mul_left _ ?_)
    rw [List.length_take]; exact Nat.min_le_right _ _
  refine wpC_loopE 0 (α := Nat) (β := Unit) (fun k => {sl := [(4, .ptr 4 0), (5, .ptr 5 0), (15, .t (.slice 1 (ps.map .str))), (16, .t (I ps.length)), (17, .t (I k))], bx := [(4, .d 16 (List.replicate 16 (Y 0))), (5, .d 73 ((S0.add [IntKind.u8.wrap tag]).add ((ps.take k).flatMap vs)).cells)]})
    (fun k => k ≤ ps.length) (fun k => ps.length - k) (fun _ => {sl := [(4, .ptr 4 0), (5, .ptr 5 0)], bx := [(4, .d 16 (List.replicate 16 (Y 0))), (5, .d 73 (S0.add (msg tag ps)).cells)]}) (fun _ => True) 0 (by omega) ?_ ?_ ?_
  · repeat' (first | ((refine leI ?_; simp; done)) | ((refine leBd ?_; exact (putL_all rfl).symm)) | exact trivial | exact LeV.same _ | exact LeB.same _ | exact rfl | exact fun _ _ _ => trivial | refine And.intro ?_ ?_)
  · intro k hk
    rcases Nat.lt_or_ge k ps.length with h2 | h2
    · have hx := hp ps[k] (List.getElem_mem h2)
      have hvl := vs_len hx
      have hft := flat_take vs h2
      have hb := hX k
      have hn := hXn k
      have hfk := hfl k
      have ha : ((S0.add [IntKind.u8.wrap tag]).add ((ps.take (k + 1)).flatMap vs)) = ((S0.add [IntKind.u8.wrap tag]).add ((ps.take k).flatMap vs)).add (vs ps[k]) := by
        rw [hft]; unfold Str.add; rw [List.foldl_append]
      generalize (S0.add [IntKind.u8.wrap tag]).add ((ps.take k).flatMap vs) = x at hb hn ha
      have hsb := sB_strT (vs ps[k]) (vs_areB _)
      have hss : (strT ((vs ps[k]).map Y)).size = (vs ps[k]).length := by rw [← sB_len, hsb]
      have hcl := cells_len x hb
      have hcall := t_Add x (strT ((vs ps[k]).map Y)) hb (by rw [hss, hn]; omega)
      rw [hsb] at hcall
      repeat' ((conv => whnf); first | (refine nv_ (.str ps[k]) (by first | ((simp [h2]; done); done) | fail) ?_) | refine k_call _ ((f_Bytes ps[k] hx).dcalls) ?_ | refine k_call _ (hcall) ?_ | refine nT_ ?_ | refine aD1 ?_ | (refine And.intro (by first | ((simp; omega); done) | (exact hcl; done) | (exact areU8_Y _; done) | (exact ⟨cells_len _ (by rw [(add_blk _ _).1]; exact hb), by decide⟩; done) | ((rw [hcl]; decide); done) | fail) ?_) | refine aS ?_ | fail)
      refine ⟨k + 1, by omega, by omega, ?_⟩
      repeat' (first | exact trivial | exact LeV.same _ | exact LeB.same _ | exact rfl | exact fun _ _ _ => trivial | exact lI | refine leBd ?_ | refine And.intro ?_ ?_)
      rw [ha]
      exact (putL_all hcl).symm
    · have : k = ps.length := by omega
      subst this
      repeat' ((conv => whnf); first | refine aD0 ?_ | refine aS ?_ | fail)
      exact ⟨(), trivial, by repeat' (first | ((refine leBd ?_; rw [List.take_length]; rfl)) | exact trivial | exact LeV.same _ | exact LeB.same _ | exact rfl | exact fun _ _ _ => trivial | refine And.intro ?_ ?_)⟩
  rintro - -
  have hb := hX ps.length
  have hn := hXn ps.length
  have hfk := hfl ps.length
  rw [List.take_length] at hb hn hfk
  have hm : (S0.add [IntKind.u8.wrap tag]).add (ps.flatMap vs) = S0.add (msg tag ps) := rfl
  have hml : (msg tag ps).length = 1 + (ps.flatMap vs).length := by unfold msg; rw [List.length_cons]; omega
  rw [hm] at hb hn
  unfold H
  rw [hml]
  have hsum := t_Sum (S0.add (msg tag ps)) hb (by rw [hn]; omega)
  rw [hn] at hsum
  generalize S0.add (msg tag ps) = x at hb hsum
  have hcl := cells_len x hb
  unfold Str.T at hsum
  generalize x.cells = cs at hcl hsum
  have hdl : (dig (x.add (tail (1 + (ps.flatMap vs).length))).s).length = 32 := by simp [dig]
  generalize dig (x.add (tail (1 + (ps.flatMap vs).length))).s = ds at hdl hsum
  have hput : putL (List.replicate 32 (Y 0)) 0 32 (ds.map Y) = ds.map Y := putL_all rfl
  have hput2 : ((putL (List.replicate 32 (Y 0)) 0 32 (ds.map Y)).drop (0 + Int.toNat 0 * 1)).take 16 = (ds.take 16).map Y := by
    rw [hput, List.map_take]; rfl
  have hl16 : (((putL (List.replicate 32 (Y 0)) 0 32 (ds.map Y)).drop (0 + Int.toNat 0 * 1)).take 16).length = 16 := by
    rw [hput2]; simp [hdl]
  repeat' ((conv => whnf); first | refine k_call _ (hsum) ?_ | refine nT_ ?_ | (refine And.intro (by first | (exact hcl; done) | (exact ⟨(List.length_map _).trans hdl, by decide⟩; done) | (exact ⟨hl16, by decide⟩; done) | fail) ?_) | refine aS ?_ | refine rt ?_ trivial | fail)
  exact congrArg T.agg ((putL_all rfl).trans hput2)
end Go.RC
end
section
namespace Go.RC
open Go Go.DL Go.Proofs
set_option maxRecDepth 100000
set_option maxHeartbeats 1000000
attribute [local irreducible] bl2
theorem t_Input (tag : Int) (ps : List ByteArray) (hp : ∀ s ∈ ps, s.size < 2 ^ 40) (hl : ps.length < 2 ^ 5) : DCalls Tryz.prog 133 [I tag, .slice 1 (ps.map .str)] (.slice 1 ((msg tag ps).map Y)) := by
  refine dcalls_low (rs := [.tmp 4]) mixed Tryz.func133 l133 rfl rfl rfl (r := [.slice 1 _]) (Nat.le_of_ble_eq_true rfl) ?_
  have hfl : ∀ k, ((ps.take k).flatMap vs).length ≤ (2 ^ 40 + 10) * ps.length := fun k => by
    have := flat_le vs (2 ^ 40 + 10) (l := ps.take k) (fun s hs => by have := hp s (List.mem_of_mem_take hs); have := vs_len this; omega)
    refine Nat.le_trans this (Nat.mul_le_mul_left _ ?_)
    rw [List.length_take]; exact Nat.min_le_right _ _
  repeat' ((conv => whnf); first | refine aS ?_ | fail)
  refine wpC_loopE 0 (α := Nat × Nat) (β := Nat) (fun q => {sl := [(1, .t (.slice 1 (ps.map .str))), (5, .own q.1 5 1 ((IntKind.u8.wrap tag :: (ps.take q.2).flatMap vs).map Y)), (6, .t (I q.2))], bx := []})
    (fun q => q.2 ≤ ps.length) (fun q => ps.length - q.2) (fun q => {sl := [(5, .own q 5 1 ((msg tag ps).map Y))], bx := []}) (fun _ => True) (9, 0) (by simp) ?_ ?_ ?_
  · repeat' (first | exact trivial | exact LeV.same _ | exact rfl | exact fun _ _ _ => trivial | refine And.intro ?_ ?_)
  · rintro ⟨q, k⟩ hk
    dsimp only at hk
    rcases Nat.lt_or_ge k ps.length with h2 | h2
    · have hx := hp ps[k] (List.getElem_mem h2)
      have hvl := vs_len hx
      have hft := flat_take vs h2
      have hfk := hfl k
      repeat' ((conv => whnf); first | refine now_D1 (by simpa using h2) ?_ | (refine nv_ (.str ps[k]) (by first | ((simp [h2]; done); done) | fail) ?_) | refine k_call _ ((f_refBytes ps[k] hx).dcalls) ?_ | refine nT_ ?_ | (refine And.intro (by first | ((simp; omega); done) | ((simp only [List.length_map, List.length_cons]; omega); done) | fail) ?_) | refine aS ?_ | fail)
      refine ⟨(22, k + 1), by dsimp only; omega, by dsimp only; omega, ?_⟩
      repeat' (first | exact trivial | exact LeV.same _ | exact rfl | exact fun _ _ _ => trivial | exact lI | refine leOwn ?_ | refine And.intro ?_ ?_)
      rw [hft]
      simp
    · have : k = ps.length := by omega
      subst this
      repeat' ((conv => whnf); first | refine now_D0 (by simp) ?_ | refine aS ?_ | fail)
      exact ⟨q, trivial, by repeat' (first | ((refine leOwn ?_; rw [List.take_length]; rfl)) | exact trivial | exact rfl | exact fun _ _ _ => trivial | refine And.intro ?_ ?_)⟩
  rintro q -
  repeat' ((conv => whnf); first | exact trivial | refine aS ?_ | fail)
theorem t_Short (bs : List Int) (hb : bs.length < 2 ^ 40) : DCalls Tryz.prog 132 [.slice 1 (bs.map Y)] (.agg ((H2 bs).map Y)) := by
  refine dcalls_low (rs := [.cell 2 30]) mixed Tryz.func132 l132 rfl rfl rfl (r := [.agg _]) (Nat.le_of_ble_eq_true rfl) ?_
  have hs := t_refSum bs hb
  unfold H2
  have hdl : (dig (bl2 (bs ++ tail bs.length) ((bs ++ tail bs.length).length / 64))).length = 32 := by simp [dig]
  generalize dig (bl2 (bs ++ tail bs.length) ((bs ++ tail bs.length).length / 64)) = ds at hs hdl
  repeat' ((conv => whnf); first | refine k_call _ (hs) ?_ | (refine And.intro (by first | (exact ⟨(List.length_map _).trans hdl, by decide⟩; done) | fail) ?_) | refine aS ?_ | fail)
  refine wpC_loopE 0 (α := Nat) (β := Unit) (fun i => {sl := [(2, .ptr 2 0), (3, .ptr 3 0), (4, .ptr 4 0), (5, .t (I i))], bx := [(2, .d 16 (List.replicate 16 (Y 0))), (3, .d 32 (ds.map Y)), (4, .d 16 ((ds.take i ++ List.replicate (16 - i) 0).map Y))]})
    (fun i => i ≤ 16) (fun i => 16 - i) (fun _ => {sl := [(2, .ptr 2 0), (4, .ptr 4 0)], bx := [(2, .d 16 (List.replicate 16 (Y 0))), (4, .d 16 ((ds.take 16).map Y))]}) (fun _ => True) 0 (by omega) ?_ ?_ ?_
  · repeat' (first | ((refine leBd ?_; exact (putL_all rfl).symm)) | exact trivial | exact LeV.same _ | exact LeB.same _ | exact rfl | exact fun _ _ _ => trivial | refine And.intro ?_ ?_)
  · intro i hi
    rcases Nat.lt_or_ge i 16 with h2 | h2
    · repeat' ((conv => whnf); first | (refine nv_ (Y (ds.getD i 0)) (by first | (exact mgetk i (by omega) (by omega); done) | fail) ?_) | refine aD1 ?_ | (refine And.intro (by first | ((simp; omega); done) | fail) ?_) | refine aS ?_ | fail)
      refine ⟨i + 1, by omega, by omega, ?_⟩
      repeat' (first | exact trivial | exact LeV.same _ | exact LeB.same _ | exact rfl | exact fun _ _ _ => trivial | exact lI | refine leBd ?_ | refine And.intro ?_ ?_)
      show _ = List.set _ (0 + (i : Int).toNat * 1) (Y (ds.getD i 0))
      rw [mset]
      congr 1
      have e1 : ds.take (i + 1) = ds.take i ++ [ds.getD i 0] := by
        rw [List.take_succ_eq_append_getElem (by omega), List.getD_eq_getElem?_getD, List.getElem?_eq_getElem (by omega)]; rfl
      have e2 : List.replicate (16 - i) (0 : Int) = 0 :: List.replicate (16 - (i + 1)) 0 := by
        rw [show 16 - i = (16 - (i + 1)) + 1 by omega, List.replicate_succ]
      have e3 : (ds.take i).length = i := by rw [List.length_take]; omega
      rw [e1, e2, List.set_append, if_neg (by rw [e3]; omega), e3]
      simp
    · have : i = 16 := by omega
      subst this
      repeat' ((conv => whnf); first | refine aD0 ?_ | refine aS ?_ | fail)
      exact ⟨(), trivial, by repeat' (first | ((refine leBd ?_; simp; done)) | exact trivial | exact LeV.same _ | exact rfl | exact fun _ _ _ => trivial | refine And.intro ?_ ?_)⟩
  rintro - -
  have hl16 : ((ds.take 16).map Y).length = 16 := by simp [hdl]
  repeat' ((conv => whnf); first | (refine And.intro (by first | (exact ⟨hl16, by decide⟩; done) | fail) ?_) | refine rt ?_ trivial | fail)
  exact congrArg T.agg (putL_all rfl)
theorem t_refOf (tag : Int) (ps : List ByteArray) (hp : ∀ s ∈ ps, s.size < 2 ^ 34) (hl : ps.length < 2 ^ 5) : DCalls Tryz.prog 78 [I tag, .slice 1 (ps.map .str)] (.agg ((H2 (msg tag ps)).map Y)) := by
  refine dcalls_low (rs := [.cell 4 30]) mixed Tryz.func78 l78 rfl rfl rfl (r := [.agg _]) (Nat.le_of_ble_eq_true rfl) ?_
  have hi := t_Input tag ps (fun s hs => by have := hp s hs; omega) hl
  have hml : (msg tag ps).length < 2 ^ 40 := by
    have := flat_le vs (2 ^ 34 + 10) (l := ps) (fun s hs => by have := hp s hs; have := vs_len (s := s) (by omega); omega)
    have h2 : (2 ^ 34 + 10) * ps.length ≤ (2 ^ 34 + 10) * 32 := Nat.mul_le_mul_left _ (by omega)
    unfold msg
    rw [List.length_cons]
    omega
  have hs := t_Short (msg tag ps) hml
  have hdl : (H2 (msg tag ps)).length = 16 := by simp [H2, dig]
  generalize H2 (msg tag ps) = ds at hs hdl
  repeat' ((conv => whnf); first | refine k_call _ (hi) ?_ | refine k_call _ (hs) ?_ | (refine And.intro (by first | (exact ⟨(List.length_map _).trans hdl, by decide⟩; done) | fail) ?_) | refine rt ?_ trivial | fail)
  exact congrArg T.agg (putL_all rfl)
end Go.RC
end
section
namespace Go.RC
open Go Go.DL Go.Proofs
def bl1 (m : List Int) : Nat → V8
  | 0 => V0
  | k + 1 => cpr (bl1 m k) ((m.drop (64 * k)).take 64)
theorem bl1_pre (m r : List Int) : ∀ k, 64 * k ≤ m.length → bl1 (m ++ r) k = bl1 m k
  | 0, _ => rfl
  | k + 1, h => by
    unfold bl1
    rw [bl1_pre m r k (by omega), List.drop_append_of_le_length (by omega), List.take_append_of_le_length (by rw [List.length_drop]; omega)]
theorem bl12 (m : List Int) (hb : areB m) : ∀ k, 64 * k ≤ m.length → bl2 m k = bl1 m k
  | 0, _ => by unfold bl2 bl1; rfl
  | k + 1, h => by
    unfold bl2 bl1
    rw [bl12 m hb k (by omega)]
    exact cpr_eq _ _ (fun b hb' => hb b (List.mem_of_mem_drop (List.mem_of_mem_take hb'))) (by rw [List.length_take, List.length_drop]; omega)
structure Knows (x : Str) (m : List Int) : Prop where
  n : x.n = m.length
  blk : x.blk.length = 64
  s : x.s = bl1 m (m.length / 64)
  part : x.blk.take (m.length % 64) = m.drop (64 * (m.length / 64))
theorem Knows.put {x : Str} {m : List Int} (h : Knows x m) (b : Int) : Knows (x.put1 b) (m ++ [b]) := by
  obtain ⟨hn, hb, hs, hp⟩ := h
  have hlen : (m ++ [b]).length = m.length + 1 := by simp
  have hq : 64 * (m.length / 64) ≤ m.length := Nat.mul_div_le _ _
  have hpre := bl1_pre m [b] (m.length / 64) hq
  have ha : m.length % 64 < 64 := Nat.mod_lt _ (by decide)
  have hset : (x.blk.set (m.length % 64) b).take (m.length % 64 + 1) = x.blk.take (m.length % 64) ++ [b] := by
    rw [List.take_set, List.take_succ_eq_append_getElem (by omega), List.set_append, if_neg (by rw [List.length_take]; omega)]
    simp [List.length_take, hb, Nat.min_eq_left (Nat.le_of_lt ha)]
  have hdrop : (m ++ [b]).drop (64 * (m.length / 64)) = m.drop (64 * (m.length / 64)) ++ [b] := List.drop_append_of_le_length hq
  unfold Str.put1
  rw [hn]
  by_cases hf : m.length % 64 = 63
  · rw [if_pos hf]
    have h1 : (m.length + 1) / 64 = m.length / 64 + 1 := by omega
    have h2 : (m.length + 1) % 64 = 0 := by omega
    refine ⟨hlen.symm, by simpa using hb, ?_, ?_⟩
    · show cpr x.s (x.blk.set (m.length % 64) b) = bl1 (m ++ [b]) ((m ++ [b]).length / 64)
      rw [hlen, h1]
      show _ = cpr (bl1 (m ++ [b]) (m.length / 64)) (((m ++ [b]).drop (64 * (m.length / 64))).take 64)
      rw [hpre, ← hs, hdrop, ← hp, ← hset]
      congr 1
      rw [List.take_take, List.take_of_length_le (by rw [List.length_set]; omega)]
    · rw [hlen, h2, h1, List.take_zero, List.drop_eq_nil_of_le (by rw [hlen]; omega)]
  · rw [if_neg hf]
    have h1 : (m.length + 1) / 64 = m.length / 64 := by omega
    have h2 : (m.length + 1) % 64 = m.length % 64 + 1 := by omega
    refine ⟨hlen.symm, by simpa using hb, ?_, ?_⟩
    · show x.s = _
      rw [hlen, h1, hpre, hs]
    · show (x.blk.set (m.length % 64) b).take _ = _
      rw [hlen, h1, h2, hset, hp, hdrop]
theorem knows_add : ∀ (bs m : List Int) (x : Str), Knows x m → Knows (x.add bs) (m ++ bs)
  | [], m, x, h => by simpa [Str.add] using h
  | b :: bs, m, x, h => by
    have := knows_add bs (m ++ [b]) (x.put1 b) (h.put b)
    rw [List.append_assoc] at this
    exact this
theorem knows_0 (bs : List Int) : Knows (S0.add bs) bs := by
  have := knows_add bs [] S0 ⟨rfl, rfl, rfl, rfl⟩
  simpa using this
theorem H_eq (m : List Int) (hb : areB m) : H m = H2 m := by
  unfold H H2
  have h1 : (S0.add m).add (tail m.length) = S0.add (m ++ tail m.length) := by
    unfold Str.add; rw [List.foldl_append]
  have hall : areB (m ++ tail m.length) := fun b h => (List.mem_append.1 h).elim (hb b) (areB_tail _ b)
  rw [h1, (knows_0 (m ++ tail m.length)).s, bl12 _ hall _ (Nat.mul_div_le _ _)]
theorem H_len (m : List Int) : (H m).length = 16 := by simp [H, dig]
theorem H_areB (m : List Int) : areB (H m) := fun b hb => by
  have := List.mem_of_mem_take hb
  obtain ⟨i, _, rfl⟩ := List.mem_map.1 this
  exact u8_range _
end Go.RC
end
section
namespace Go.RC
open Go Go.DL Go.Proofs
set_option maxRecDepth 100000
noncomputable def c137 : DCode := (.seq (.region [oo 2 (.mov (.const (.bool false)))] []) (.seq (.region [mv 3 0,mv 4 0,oo 5 (.bin .neq (tm 3) (tm 4)),mv 2 5] []) .ret))
theorem l137 : (Tryz.f137.body.bind (lowC Tryz.prog 6 [])) = some c137 := by kernel_rfl
noncomputable def c85 : DCode := (.seq (.region [oo 4 (.mov (Kc 0))] []) (.seq (.region [mv 7 0,oo 8 (.call 137 [(tm 7)]),mv 5 8] []) (.seq (.region [mv 9 1,oo 10 (.call 137 [(tm 9)]),mv 6 10] []) (.seq (.seq (.region [mv 11 5] []) (.cond (tm 11) (.seq (.seq (.region [mv 12 6] []) (.cond (tm 12) (.seq (.region [oo 4 (.mov (Kc 0))] []) .ret) .skip)) (.seq (.region [oo 4 (.mov (.const (.int .i64 (-1))))] []) .ret)) .skip)) (.seq (.seq (.region [mv 13 6] []) (.cond (tm 13) (.seq (.region [oo 4 (.mov (Kc 1))] []) .ret) .skip)) (.seq (.seq (.region [mv 14 0,mv 15 1,oo 16 (.bin .lss (tm 14) (tm 15))] []) (.cond (tm 16) (.seq (.region [oo 4 (.mov (.const (.int .i64 (-1))))] []) .ret) .skip)) (.seq (.seq (.region [mv 17 0,mv 18 1,oo 19 (.bin .gtr (tm 17) (tm 18))] []) (.cond (tm 19) (.seq (.region [oo 4 (.mov (Kc 1))] []) .ret) .skip)) (.seq (.region [oo 4 (.mov (Kc 0))] []) .ret))))))))
theorem l85 : (Tryz.f85.body.bind (lowC Tryz.prog 20 [])) = some c85 := by kernel_rfl
noncomputable def c84 : DCode := (.seq (.region [oo 2 (.mov (Kc 0))] []) (.seq (.region [oo 3 (.mov (Kc 0))] []) (.seq (.seq (.region [mv 6 0,oo 7 (.len (tm 6)),oo 8 (.mov (Kc 0))] []) (.block 0 (.loop (.seq (.region [oo 9 (.bin .lss (tm 8) (tm 7))] []) (.seq (.cond (tm 9) .skip (.exit 0)) (.seq (.block 1 (.seq (.region [oo 10 (.idxL 1 (tm 6) (tm 8)),oo 11 (.load 1 false (tm 10)),mv 5 11] []) (.seq (.region [mv 12 5,mv 13 3,oo 14 (.bin .neq (tm 12) (tm 13))] []) (.cond (tm 14) (.seq (.region [mv 15 5,mv 2 15] []) .ret) .skip)))) (.region [oo 16 (.bin .add (tm 8) (Kc 1)),mv 8 16] []))))))) (.seq (.region [mv 17 3,mv 2 17] []) .ret))))
theorem l84 : (Tryz.f84.body.bind (lowC Tryz.prog 18 [])) = some c84 := by kernel_rfl
noncomputable def c80 : DCode := (.seq (.region [oo 4 (.mov (Kc 0))] []) (.seq (.seq (.region [mv 6 0,oo 7 (.len (tm 6)),oo 8 (.mov (Kc 0))] []) (.block 0 (.loop (.seq (.region [oo 9 (.bin .lss (tm 8) (tm 7))] []) (.seq (.cond (tm 9) .skip (.exit 0)) (.seq (.block 1 (.seq (.region [mv 10 8,mv 5 10] []) (.seq (.region [mv 11 1,mv 12 0,mv 13 5,oo 14 (.idxL 1 (tm 12) (tm 13)),oo 15 (.load 1 false (tm 14)),oo 16 (.callv (tm 11) [(tm 15)])] []) (.cond (tm 16) (.seq (.region [mv 17 5,mv 4 17] []) .ret) .skip)))) (.region [oo 18 (.bin .add (tm 8) (Kc 1)),mv 8 18] []))))))) (.seq (.region [oo 4 (.mov (.const (.int .i64 (-1))))] []) .ret)))
theorem l80 : (Tryz.f80.body.bind (lowC Tryz.prog 19 [])) = some c80 := by kernel_rfl
noncomputable def c39 : DCode := (.seq (.region [oo 4 (.mov (.const (.bool false)))] []) (.seq (.region [mv 5 0,mv 6 1,oo 7 (.call 80 [(tm 5), (tm 6)]),oo 8 (.bin .geq (tm 7) (Kc 0)),mv 4 8] []) .ret))
theorem l39 : (Tryz.f39.body.bind (lowC Tryz.prog 9 [])) = some c39 := by kernel_rfl
noncomputable def c87 : DCode := (.seq (.region [oo 4 (.mov (.const (.bool false)))] []) (.seq (.seq (.region [mv 6 0,oo 7 (.len (tm 6)),mv 8 1,oo 9 (.len (tm 8)),oo 10 (.bin .neq (tm 7) (tm 9))] []) (.cond (tm 10) (.seq (.region [oo 4 (.mov (.const (.bool false)))] []) .ret) .skip)) (.seq (.seq (.region [mv 11 0,oo 12 (.len (tm 11)),oo 13 (.mov (Kc 0))] []) (.block 0 (.loop (.seq (.region [oo 14 (.bin .lss (tm 13) (tm 12))] []) (.seq (.cond (tm 14) .skip (.exit 0)) (.seq (.block 1 (.seq (.region [mv 15 13,mv 5 15] []) (.seq (.region [mv 16 0,mv 17 5,oo 18 (.idxL 8 (tm 16) (tm 17)),oo 19 (.load 8 true (tm 18)),mv 20 1,mv 21 5,oo 22 (.idxL 8 (tm 20) (tm 21)),oo 23 (.load 8 true (tm 22)),oo 24 (.eqv true [.int .i64, .int .i64, .int .i64, .int .i64, .int .i64, .int .i64, .int .i64, .int .i64] (tm 19) (tm 23))] []) (.cond (tm 24) (.seq (.region [oo 4 (.mov (.const (.bool false)))] []) .ret) .skip)))) (.region [oo 25 (.bin .add (tm 13) (Kc 1)),mv 13 25] []))))))) (.seq (.region [oo 4 (.mov (.const (.bool true)))] []) .ret))))
theorem l87 : (Tryz.f87.body.bind (lowC Tryz.prog 26 [])) = some c87 := by kernel_rfl
noncomputable def c74 : DCode := (.seq (.region [oo 4 (.mov (Kc 0))] []) (.seq (.seq (.region [mv 6 0,oo 7 (.len (tm 6)),oo 8 (.mov (Kc 0))] []) (.block 0 (.loop (.seq (.region [oo 9 (.bin .lss (tm 8) (tm 7))] []) (.seq (.cond (tm 9) .skip (.exit 0)) (.seq (.block 1 (.seq (.region [mv 10 8,mv 5 10] []) (.seq (.region [mv 11 1,mv 12 0,mv 13 5,oo 14 (.idxL 8 (tm 12) (tm 13)),oo 15 (.load 8 true (tm 14)),oo 16 (.callv (tm 11) [(tm 15)])] []) (.cond (tm 16) (.seq (.region [mv 17 5,mv 4 17] []) .ret) .skip)))) (.region [oo 18 (.bin .add (tm 8) (Kc 1)),mv 8 18] []))))))) (.seq (.region [oo 4 (.mov (.const (.int .i64 (-1))))] []) .ret)))
theorem l74 : (Tryz.f74.body.bind (lowC Tryz.prog 19 [])) = some c74 := by kernel_rfl
noncomputable def c31 : DCode := (.seq (.region [oo 1 (.box 10 (tm 0)),oo 2 (.alloc [(Zi 0), (Zi 0), (Zi 0), (Zi 0)])] []) (.seq (.region [oo 6 (.sliceA 10 1 (tm 1) none none),oo 7 (.inl 77 [(tm 6)]),oo 8 (.prim .strB (tm 7)),⟨some 9, .buildS 9 1 1 [(.str ⟨#[]⟩)] [(0, (tm 8))], none, []⟩,oo 10 (.call 76 [(Kc 4), (tm 9)]),oo 3 (.alloc [(Ui 0), (Ui 0), (Ui 0), (Ui 0), (Ui 0), (Ui 0), (Ui 0), (Ui 0), (Ui 0), (Ui 0), (Ui 0), (Ui 0), (Ui 0), (Ui 0), (Ui 0), (Ui 0)]),o0 (.store 16 (tm 3) (tm 10))] []) (.seq (.region [oo 4 (.alloc [(Zi 0), (Zi 0), (Zi 0), (Zi 0)])] []) (.seq (.seq (.region [oo 11 (.mov (Kc 0))] []) (.block 0 (.loop (.seq (.region [oo 12 (.bin .lss (tm 11) (Kc 16))] []) (.seq (.cond (tm 12) .skip (.exit 0)) (.seq (.block 1 (.seq (.region [mv 13 11,mv 5 13] []) (.region [mv 14 5,oo 15 (.bin .quo (tm 14) (Kc 4)),mv 16 5,oo 17 (.bin .quo (tm 16) (Kc 4)),oo 18 (.idxA 4 1 (tm 4) (tm 17)),oo 19 (.load 1 false (tm 18)),oo 20 (.bin .shl (tm 19) (.const (.int .u64 8))),mv 21 5,oo 22 (.idxA 16 1 (tm 3) (tm 21)),oo 23 (.load 1 false (tm 22)),oo 24 (.conv .i64 (tm 23)),oo 25 (.bin .or (tm 20) (tm 24)),oo 26 (.idxA 4 1 (tm 4) (tm 15)),o0 (.store 1 (tm 26) (tm 25))] []))) (.region [oo 27 (.bin .add (tm 11) (Kc 1)),mv 11 27] []))))))) (.seq (.region [oo 28 (.load 4 true (tm 4)),o0 (.store 4 (tm 2) (tm 28))] []) .ret)))))
theorem l31 : (Tryz.f31.body.bind (lowC Tryz.prog 29 [77])) = some c31 := by kernel_rfl
noncomputable def c26 : DCode := (.seq (.region [oo 2 (.box 4 (tm 0)),oo 3 (.box 4 (tm 1)),oo 4 (.alloc [(Zi 0), (Zi 0), (Zi 0), (Zi 0)])] []) (.seq (.seq (.region [oo 6 (.mov (Kc 0))] []) (.block 0 (.loop (.seq (.region [oo 7 (.bin .lss (tm 6) (Kc 4))] []) (.seq (.cond (tm 7) .skip (.exit 0)) (.seq (.block 1 (.seq (.region [mv 8 6,mv 5 8] []) (.region [mv 9 5,mv 10 5,oo 11 (.idxA 4 1 (tm 2) (tm 10)),oo 12 (.load 1 false (tm 11)),mv 13 5,oo 14 (.idxA 4 1 (tm 3) (tm 13)),oo 15 (.load 1 false (tm 14)),oo 16 (.bin .add (tm 12) (tm 15)),oo 17 (.bin .and (tm 16) (Kc 4294967295)),oo 18 (.idxA 4 1 (tm 2) (tm 9)),o0 (.store 1 (tm 18) (tm 17))] []))) (.region [oo 19 (.bin .add (tm 6) (Kc 1)),mv 6 19] []))))))) (.seq (.region [oo 20 (.load 4 true (tm 2)),o0 (.store 4 (tm 4) (tm 20))] []) .ret)))
theorem l26 : (Tryz.f26.body.bind (lowC Tryz.prog 21 [])) = some c26 := by kernel_rfl
noncomputable def c27 : DCode := (.seq (.region [oo 2 (.box 4 (tm 0)),oo 3 (.box 4 (tm 1)),oo 4 (.alloc [(Zi 0), (Zi 0), (Zi 0), (Zi 0)])] []) (.seq (.seq (.region [oo 6 (.mov (Kc 0))] []) (.block 0 (.loop (.seq (.region [oo 7 (.bin .lss (tm 6) (Kc 4))] []) (.seq (.cond (tm 7) .skip (.exit 0)) (.seq (.block 1 (.seq (.region [mv 8 6,mv 5 8] []) (.region [mv 9 5,mv 10 5,oo 11 (.idxA 4 1 (tm 2) (tm 10)),oo 12 (.load 1 false (tm 11)),mv 13 5,oo 14 (.idxA 4 1 (tm 3) (tm 13)),oo 15 (.load 1 false (tm 14)),oo 16 (.bin .sub (tm 12) (tm 15)),oo 17 (.bin .and (tm 16) (Kc 4294967295)),oo 18 (.idxA 4 1 (tm 2) (tm 9)),o0 (.store 1 (tm 18) (tm 17))] []))) (.region [oo 19 (.bin .add (tm 6) (Kc 1)),mv 6 19] []))))))) (.seq (.region [oo 20 (.load 4 true (tm 2)),o0 (.store 4 (tm 4) (tm 20))] []) .ret)))
theorem l27 : (Tryz.f27.body.bind (lowC Tryz.prog 21 [])) = some c27 := by kernel_rfl
noncomputable def c29 : DCode := (.seq (.region [oo 2 (.box 8 (tm 0)),oo 3 (.box 8 (tm 1)),oo 4 (.mov (Kc 0)),oo 5 (.mov (Kc 0))] []) (.seq (.region [oo 7 (.offA 3 (tm 2)),oo 8 (.load 1 false (tm 7)),oo 9 (.offA 3 (tm 3)),oo 10 (.load 1 false (tm 9)),oo 11 (.bin .sub (tm 8) (tm 10)),mv 6 11] []) (.seq (.seq (.region [mv 12 6,oo 13 (.bin .lss (tm 12) (Kc 0)),mv 14 13,mF 15 6 14,oF 16 14 (.bin .eql (tm 15) (Kc 0)),mF 17 16 14,oT 18 17 (.offA 4 (tm 2)),oT 19 17 (.load 4 true (tm 18)),oT 20 17 (.offA 4 (tm 3)),oT 21 17 (.load 4 true (tm 20)),oT 22 17 (.eqv true [.int .i64, .int .i64, .int .i64, .int .i64] (tm 19) (tm 21)),oF 23 14 (.pick (tm 17) (tm 22) (.const (.bool false))),oo 24 (.pick (tm 14) (.const (.bool true)) (tm 23))] []) (.cond (tm 24) (.seq (.region [oo 4 (.mov (Kc 0)),oo 5 (.mov (Kc 26))] []) .ret) .skip)) (.seq (.region [mv 25 6,mv 4 25,oo 5 (.mov (Kc 0))] []) .ret))))
theorem l29 : (Tryz.f29.body.bind (lowC Tryz.prog 26 [])) = some c29 := by kernel_rfl
noncomputable def c46 : DCode := (.seq (.region [oo 1 (.box 8 (tm 0)),oo 2 (.alloc [(Zi 0), (Zi 0), (Zi 0)])] []) (.seq (.region [oo 3 (.offA 0 (tm 1)),oo 4 (.load 1 false (tm 3)),oo 5 (.offA 1 (tm 1)),oo 6 (.load 1 false (tm 5)),oo 7 (.offA 2 (tm 1)),oo 8 (.load 1 false (tm 7)),oo 9 (.build [(Zi 0), (Zi 0), (Zi 0)] [(0, 1, (tm 4)), (1, 1, (tm 6)), (2, 1, (tm 8))]),o0 (.store 3 (tm 2) (tm 9))] []) .ret))
theorem l46 : (Tryz.f46.body.bind (lowC Tryz.prog 10 [])) = some c46 := by kernel_rfl
noncomputable def c38 : DCode := (.seq (.region [oo 1 (.box 3 (tm 0)),oo 2 (.mov (.const (.bool false)))] []) (.seq (.region [oo 3 (.offA 0 (tm 1)),oo 4 (.load 1 false (tm 3)),oo 5 (.bin .geq (tm 4) (Kc 1)),mv 6 5,oT 7 6 (.offA 0 (tm 1)),oT 8 6 (.load 1 false (tm 7)),oT 9 6 (.bin .leq (tm 8) (Kc 2)),oo 10 (.pick (tm 6) (tm 9) (.const (.bool false))),mv 11 10,oT 12 11 (.offA 1 (tm 1)),oT 13 11 (.load 1 false (tm 12)),oT 14 11 (.bin .geq (tm 13) (Kc 0)),oo 15 (.pick (tm 11) (tm 14) (.const (.bool false))),mv 16 15,oT 17 16 (.offA 1 (tm 1)),oT 18 16 (.load 1 false (tm 17)),oT 19 16 (.bin .leq (tm 18) (Kc 65535)),oo 20 (.pick (tm 16) (tm 19) (.const (.bool false))),mv 21 20,oT 22 21 (.offA 2 (tm 1)),oT 23 21 (.load 1 false (tm 22)),oT 24 21 (.bin .geq (tm 23) (Kc 0)),oo 25 (.pick (tm 21) (tm 24) (.const (.bool false))),mv 26 25,oT 27 26 (.offA 2 (tm 1)),oT 28 26 (.load 1 false (tm 27)),oT 29 26 (.bin .leq (tm 28) (Kc 1073741824)),oo 30 (.pick (tm 26) (tm 29) (.const (.bool false))),mv 2 30] []) .ret))
theorem l38 : (Tryz.f38.body.bind (lowC Tryz.prog 31 [])) = some c38 := by kernel_rfl
noncomputable def c43 : DCode := (.seq (.region [oo 2 (.box 3 (tm 0)),oo 3 (.box 3 (tm 1)),oo 4 (.mov (Kc 0))] []) (.seq (.region [oo 5 (.offA 0 (tm 2)),oo 6 (.load 1 false (tm 5)),oo 7 (.offA 0 (tm 3)),oo 8 (.load 1 false (tm 7)),oo 9 (.call 85 [(tm 6), (tm 8)]),oo 10 (.offA 1 (tm 2)),oo 11 (.load 1 false (tm 10)),oo 12 (.offA 1 (tm 3)),oo 13 (.load 1 false (tm 12)),oo 14 (.call 85 [(tm 11), (tm 13)]),oo 15 (.offA 2 (tm 2)),oo 16 (.load 1 false (tm 15)),oo 17 (.offA 2 (tm 3)),oo 18 (.load 1 false (tm 17)),oo 19 (.call 85 [(tm 16), (tm 18)]),oo 20 (.buildT 1 3 [(Zi 0)] [(0, (tm 9)), (1, (tm 14)), (2, (tm 19))]),oo 21 (.call 84 [(tm 20)]),mv 4 21] []) .ret))
theorem l43 : (Tryz.f43.body.bind (lowC Tryz.prog 22 [])) = some c43 := by kernel_rfl
noncomputable def c13 : DCode := (.seq (.region [oo 1 (.box 19 (tm 0)),oo 2 (.mov (Kc 0))] []) (.seq (.seq (.region [oo 6 (.offA 2 (tm 1)),oo 7 (.load 1 false (tm 6)),oo 8 (.len (tm 7)),oo 9 (.bin .gtr (tm 8) (Kc 1000))] []) (.cond (tm 9) (.seq (.region [oo 2 (.mov (Kc 2))] []) .ret) .skip)) (.seq (.seq (.region [oo 10 (.offA 0 (tm 1)),oo 11 (.load 1 false (tm 10)),oo 12 (.bin .lss (tm 11) (Kc 0)),mv 13 12,oF 14 13 (.offA 0 (tm 1)),oF 15 13 (.load 1 false (tm 14)),oF 16 13 (.bin .geq (tm 15) (Kc 200)),oo 17 (.pick (tm 13) (.const (.bool true)) (tm 16)),mv 18 17,oF 19 18 (.offA 1 (tm 1)),oF 20 18 (.load 1 false (tm 19)),oF 21 18 (.bin .lss (tm 20) (Kc 0)),oo 22 (.pick (tm 18) (.const (.bool true)) (tm 21)),mv 23 22,oF 24 23 (.offA 1 (tm 1)),oF 25 23 (.load 1 false (tm 24)),oF 26 23 (.bin .gtr (tm 25) (Kc 1048576)),oo 27 (.pick (tm 23) (.const (.bool true)) (tm 26))] []) (.cond (tm 27) (.seq (.region [oo 2 (.mov (Kc 1))] []) .ret) .skip)) (.seq (.region [oo 3 (.mov (.const (.clos 45 [])))] []) (.seq (.seq (.region [oo 28 (.offA 2 (tm 1)),oo 29 (.load 1 false (tm 28)),oo 30 (.len (tm 29)),oo 31 (.mov (Kc 0))] []) (.block 0 (.loop (.seq (.region [oo 32 (.bin .lss (tm 31) (tm 30))] []) (.seq (.cond (tm 32) .skip (.exit 0)) (.seq (.block 1 (.seq (.region [mv 33 31,oo 34 (.idxL 8 (tm 29) (tm 31)),oo 35 (.load 8 true (tm 34)),oo 5 (.alloc [(Zi 0), (Zi 0), (Zi 0), (Zi 0), (Zi 0), (Zi 0), (Zi 0), (Zi 0)]),mv 4 33,o0 (.store 8 (tm 5) (tm 35))] []) (.seq (.region [oo 36 (.load 8 true (tm 5)),oo 37 (.call 46 [(tm 36)]),oo 38 (.call 38 [(tm 37)]),oo 39 (.not (tm 38)),mv 40 39,oF 41 40 (.offA 3 (tm 5)),oF 42 40 (.load 1 false (tm 41)),oF 43 40 (.bin .lss (tm 42) (Kc 1)),oo 44 (.pick (tm 40) (.const (.bool true)) (tm 43)),mv 45 44,oF 46 45 (.offA 3 (tm 5)),oF 47 45 (.load 1 false (tm 46)),oF 48 45 (.bin .gtr (tm 47) (Kc 1073741824)),oo 49 (.pick (tm 45) (.const (.bool true)) (tm 48)),mv 50 49,oF 51 50 (.offA 4 (tm 5)),oF 52 50 (.sliceA 4 1 (tm 51) none none),mF 53 3 50,oF 54 50 (.call 39 [(tm 52), (tm 53)]),oo 55 (.pick (tm 50) (.const (.bool true)) (tm 54)),mv 56 55,mF 57 4 56,oF 58 56 (.bin .gtr (tm 57) (Kc 0)),mF 59 58 56,oT 60 59 (.offA 2 (tm 1)),oT 61 59 (.load 1 false (tm 60)),mT 62 4 59,oT 63 59 (.bin .sub (tm 62) (Kc 1)),oT 64 59 (.idxL 8 (tm 61) (tm 63)),oT 65 59 (.load 8 true (tm 64)),oT 66 59 (.call 46 [(tm 65)]),oT 67 59 (.load 8 true (tm 5)),oT 68 59 (.call 46 [(tm 67)]),oT 69 59 (.call 43 [(tm 66), (tm 68)]),oT 70 59 (.bin .geq (tm 69) (Kc 0)),oF 71 56 (.pick (tm 59) (tm 70) (.const (.bool false))),oo 72 (.pick (tm 56) (.const (.bool true)) (tm 71))] []) (.cond (tm 72) (.seq (.region [oo 2 (.mov (Kc 1))] []) .ret) .skip)))) (.region [oo 73 (.bin .add (tm 31) (Kc 1)),mv 31 73] []))))))) (.seq (.region [oo 2 (.mov (Kc 0))] []) .ret))))))
theorem l13 : (Tryz.f13.body.bind (lowC Tryz.prog 74 [])) = some c13 := by kernel_rfl
noncomputable def c45 : DCode := (.seq (.region [oo 2 (.mov (.const (.bool false)))] []) (.seq (.region [mv 3 0,oo 4 (.bin .lss (tm 3) (Kc 0)),mv 5 4,mF 6 0 5,oF 7 5 (.bin .gtr (tm 6) (Kc 4294967295)),oo 8 (.pick (tm 5) (.const (.bool true)) (tm 7)),mv 2 8] []) .ret))
theorem l45 : (Tryz.f45.body.bind (lowC Tryz.prog 9 [])) = some c45 := by kernel_rfl
noncomputable def c28 : DCode := (.seq (.region [oo 4 (.box 19 (tm 0)),oo 5 (.box 1 (tm 1)),oo 6 (.box 1 (tm 2)),oo 7 (.box 1 (tm 3)),oo 8 (.alloc [(Zi 0), (Zi 0), (Zi 0), (Zi 0), (Zi 0), (Zi 0), (Zi 0), (Zi 0)]),oo 9 (.mov (.const (.bool false)))] []) (.seq (.region [oo 11 (.offA 2 (tm 4)),oo 12 (.load 1 false (tm 11)),oo 13 (.mkfn 75 [(tm 5), (tm 6), (tm 7)]),oo 14 (.call 74 [(tm 12), (tm 13)]),mv 10 14] []) (.seq (.seq (.region [mv 15 10,oo 16 (.bin .lss (tm 15) (Kc 0))] []) (.cond (tm 16) (.seq (.region [oo 17 (.build [(Zi 0), (Zi 0), (Zi 0), (Zi 0), (Zi 0), (Zi 0), (Zi 0), (Zi 0)] []),o0 (.store 8 (tm 8) (tm 17)),oo 9 (.mov (.const (.bool false)))] []) .ret) .skip)) (.seq (.region [oo 18 (.offA 2 (tm 4)),oo 19 (.load 1 false (tm 18)),mv 20 10,oo 21 (.idxL 8 (tm 19) (tm 20)),oo 22 (.load 8 true (tm 21)),o0 (.store 8 (tm 8) (tm 22)),oo 9 (.mov (.const (.bool true)))] []) .ret))))
theorem l28 : (Tryz.f28.body.bind (lowC Tryz.prog 23 [])) = some c28 := by kernel_rfl
noncomputable def c75 : DCode := (.seq (.region [oo 4 (.box 8 (tm 0)),oo 5 (.mov (.const (.bool false)))] []) (.seq (.region [oo 6 (.load 8 true (tm 4)),oo 7 (.call 46 [(tm 6)]),oo 8 (.load 1 false (tm 1)),oo 9 (.load 1 false (tm 2)),oo 10 (.load 1 false (tm 3)),oo 11 (.build [(Zi 0), (Zi 0), (Zi 0)] [(0, 1, (tm 8)), (1, 1, (tm 9)), (2, 1, (tm 10))]),oo 12 (.eqv false [.int .i64, .int .i64, .int .i64] (tm 7) (tm 11)),mv 5 12] []) .ret))
theorem l75 : (Tryz.f75.body.bind (lowC Tryz.prog 13 [])) = some c75 := by kernel_rfl
noncomputable def c48 : DCode := (.seq (.region [oo 2 (.box 19 (tm 0)),oo 3 (.box 19 (tm 1)),oo 4 (.mov (.const (.bool false)))] []) (.seq (.region [oo 5 (.offA 0 (tm 2)),oo 6 (.load 1 false (tm 5)),oo 7 (.offA 0 (tm 3)),oo 8 (.load 1 false (tm 7)),oo 9 (.bin .eql (tm 6) (tm 8)),mv 10 9,oT 11 10 (.offA 1 (tm 2)),oT 12 10 (.load 1 false (tm 11)),oT 13 10 (.offA 1 (tm 3)),oT 14 10 (.load 1 false (tm 13)),oT 15 10 (.bin .eql (tm 12) (tm 14)),oo 16 (.pick (tm 10) (tm 15) (.const (.bool false))),mv 17 16,oT 18 17 (.offA 3 (tm 2)),oT 19 17 (.load 16 true (tm 18)),oT 20 17 (.offA 3 (tm 3)),oT 21 17 (.load 16 true (tm 20)),oT 22 17 (.eqv false [.int .u8, .int .u8, .int .u8, .int .u8, .int .u8, .int .u8, .int .u8, .int .u8, .int .u8, .int .u8, .int .u8, .int .u8, .int .u8, .int .u8, .int .u8, .int .u8] (tm 19) (tm 21)),oo 23 (.pick (tm 17) (tm 22) (.const (.bool false))),mv 24 23,oT 25 24 (.offA 2 (tm 2)),oT 26 24 (.load 1 false (tm 25)),oT 27 24 (.offA 2 (tm 3)),oT 28 24 (.load 1 false (tm 27)),oT 29 24 (.call 87 [(tm 26), (tm 28)]),oo 30 (.pick (tm 24) (tm 29) (.const (.bool false))),mv 4 30] []) .ret))
theorem l48 : (Tryz.f48.body.bind (lowC Tryz.prog 31 [])) = some c48 := by kernel_rfl
noncomputable def c14 : DCode := (.seq (.region [oo 4 (.mov (Kc 0)),oo 5 (.mov (Kc 0))] []) (.seq (.region [oo 6 (.alloc [(Ui 0), (Ui 0), (Ui 0), (Ui 0), (Ui 0), (Ui 0), (Ui 0), (Ui 0), (Ui 0), (Ui 0), (Ui 0), (Ui 0), (Ui 0), (Ui 0), (Ui 0), (Ui 0)])] []) (.seq (.seq (.region [mv 10 1,oo 11 (.len (tm 10)),oo 12 (.mov (Kc 0))] []) (.block 0 (.loop (.seq (.region [oo 13 (.bin .lss (tm 12) (tm 11))] []) (.seq (.cond (tm 13) .skip (.exit 0)) (.seq (.block 1 (.seq (.region [mv 14 12,oo 15 (.idxL 19 (tm 10) (tm 12)),oo 16 (.load 19 true (tm 15)),oo 8 (.alloc [(Zi 0), (Zi 0), .nil, (Ui 0), (Ui 0), (Ui 0), (Ui 0), (Ui 0), (Ui 0), (Ui 0), (Ui 0), (Ui 0), (Ui 0), (Ui 0), (Ui 0), (Ui 0), (Ui 0), (Ui 0), (Ui 0)]),mv 7 14,o0 (.store 19 (tm 8) (tm 16))] []) (.seq (.region [oo 17 (.load 19 true (tm 8)),oo 18 (.call 13 [(tm 17)]),mv 9 18] []) (.seq (.block 2 (.seq (.region [mv 20 9,oo 21 (.bin .neq (tm 20) (Kc 0)),mv 19 21] []) (.cond (tm 19) .skip (.seq (.region [oo 23 (.offA 0 (tm 8)),oo 24 (.load 1 false (tm 23)),mv 25 0,oo 26 (.bin .neq (tm 24) (tm 25)),mv 22 26] []) (.cond (tm 22) (.region [oo 9 (.mov (Kc 1))] []) (.seq (.region [oo 28 (.offA 1 (tm 8)),oo 29 (.load 1 false (tm 28)),mv 30 7,oo 31 (.bin .neq (tm 29) (tm 30)),mv 27 31] []) (.cond (tm 27) (.region [oo 9 (.mov (Kc 25))] []) (.seq (.region [oo 33 (.offA 3 (tm 8)),oo 34 (.load 16 true (tm 33)),oo 35 (.load 16 true (tm 6)),oo 36 (.eqv true [.int .u8, .int .u8, .int .u8, .int .u8, .int .u8, .int .u8, .int .u8, .int .u8, .int .u8, .int .u8, .int .u8, .int .u8, .int .u8, .int .u8, .int .u8, .int .u8] (tm 34) (tm 35)),mv 32 36] []) (.cond (tm 32) (.region [oo 9 (.mov (Kc 7))] []) .skip))))))))) (.seq (.seq (.region [mv 37 9,oo 38 (.bin .neq (tm 37) (Kc 0))] []) (.cond (tm 38) (.seq (.region [mv 39 7,mv 40 9,mv 4 39,mv 5 40] []) .ret) .skip)) (.region [oo 41 (.load 19 true (tm 8)),oo 42 (.call 30 [(tm 41)]),o0 (.store 16 (tm 6) (tm 42))] [])))))) (.region [oo 43 (.bin .add (tm 12) (Kc 1)),mv 12 43] []))))))) (.seq (.region [mv 44 1,oo 45 (.len (tm 44)),mv 4 45,oo 5 (.mov (Kc 0))] []) .ret))))
theorem l14 : (Tryz.f14.body.bind (lowC Tryz.prog 46 [])) = some c14 := by kernel_rfl
noncomputable def c58 : DCode := (.seq (.region [oo 1 (.box 19 (tm 0)),oo 2 (.mov (.const .nil))] []) (.seq (.region [oo 6 (.offA 0 (tm 1)),oo 7 (.load 1 false (tm 6)),oo 8 (.offA 1 (tm 1)),oo 9 (.load 1 false (tm 8)),oo 10 (.buildT 1 2 [(Zi 0)] [(0, (tm 7)), (1, (tm 9))]),oo 11 (.fcall 77 [(tm 10)]),oo 12 (.offA 2 (tm 1)),oo 13 (.load 1 false (tm 12)),oo 14 (.len (tm 13)),oo 15 (.call 93 [(tm 14)]),oo 16 (.append 116 5 1 1 (tm 11) (tm 15)),mv 3 16] []) (.seq (.seq (.region [oo 17 (.offA 2 (tm 1)),oo 18 (.load 1 false (tm 17)),oo 19 (.len (tm 18)),oo 20 (.mov (Kc 0))] []) (.block 0 (.loop (.seq (.region [oo 21 (.bin .lss (tm 20) (tm 19))] []) (.seq (.cond (tm 21) .skip (.exit 0)) (.seq (.block 1 (.seq (.region [oo 22 (.idxL 8 (tm 18) (tm 20)),oo 23 (.load 8 true (tm 22)),oo 5 (.alloc [(Zi 0), (Zi 0), (Zi 0), (Zi 0), (Zi 0), (Zi 0), (Zi 0), (Zi 0)]),o0 (.store 8 (tm 5) (tm 23))] []) (.region [mv 24 3,oo 25 (.offA 0 (tm 5)),oo 26 (.load 1 false (tm 25)),oo 27 (.offA 1 (tm 5)),oo 28 (.load 1 false (tm 27)),oo 29 (.offA 2 (tm 5)),oo 30 (.load 1 false (tm 29)),oo 31 (.offA 3 (tm 5)),oo 32 (.load 1 false (tm 31)),oo 33 (.buildF 1 4 [(Zi 0)] [(0, (tm 26)), (1, (tm 28)), (2, (tm 30)), (3, (tm 32))]),oo 34 (.offA 4 (tm 5)),oo 35 (.sliceA 4 1 (tm 34) none none),oo 36 (.appT 1 8 (tm 33) (tm 35)),oo 37 (.call 77 [(tm 36)]),oo 38 (.append 116 5 1 1 (tm 24) (tm 37)),mv 3 38] []))) (.region [oo 39 (.bin .add (tm 20) (Kc 1)),mv 20 39] []))))))) (.seq (.region [mv 40 3,oo 41 (.offA 3 (tm 1)),oo 42 (.load 16 true (tm 41)),oo 43 (.buildS 30 16 1 [(Ui 0), (Ui 0), (Ui 0), (Ui 0), (Ui 0), (Ui 0), (Ui 0), (Ui 0), (Ui 0), (Ui 0), (Ui 0), (Ui 0), (Ui 0), (Ui 0), (Ui 0), (Ui 0)] [(0, (tm 42))]),oo 44 (.call 94 [(tm 43)]),oo 45 (.append 116 5 1 1 (tm 40) (tm 44)),mv 2 45] []) .ret))))
theorem l58 : (Tryz.f58.body.bind (lowC Tryz.prog 46 [8000033, 3000011])) = some c58 := by kernel_rfl
noncomputable def c30 : DCode := (.seq (.region [oo 1 (.box 19 (tm 0)),oo 2 (.alloc [(Ui 0), (Ui 0), (Ui 0), (Ui 0), (Ui 0), (Ui 0), (Ui 0), (Ui 0), (Ui 0), (Ui 0), (Ui 0), (Ui 0), (Ui 0), (Ui 0), (Ui 0), (Ui 0)])] []) (.seq (.region [oo 3 (.load 19 true (tm 1)),oo 4 (.call 58 [(tm 3)]),oo 5 (.prim .strB (tm 4)),⟨some 6, .buildS 9 1 1 [(.str ⟨#[]⟩)] [(0, (tm 5))], none, []⟩,oo 7 (.call 76 [(Kc 5), (tm 6)]),o0 (.store 16 (tm 2) (tm 7))] []) .ret))
theorem l30 : (Tryz.f30.body.bind (lowC Tryz.prog 8 [])) = some c30 := by kernel_rfl
noncomputable def c7 : DCode := (.seq (.region [oo 2 (.mov (.const .nilptr)),oo 3 (.mov (Kc 0))] []) (.seq (.seq (.region [mv 4 0,oo 5 (.bin .lss (tm 4) (Kc 0)),mv 6 5,mF 7 0 6,oF 8 6 (.bin .geq (tm 7) (Kc 200)),oo 9 (.pick (tm 6) (.const (.bool true)) (tm 8))] []) (.cond (tm 9) (.seq (.region [oo 2 (.mov (.const .nilptr)),oo 3 (.mov (Kc 1))] []) .ret) .skip)) (.seq (.region [mv 10 0,oo 11 (.mkmap true [.int .i64, .int .i64, .int .i64]),oo 12 (.build [(Zi 0), (Zi 0), .nilmap, (Ui 0), (Ui 0), (Ui 0), (Ui 0), (Ui 0), (Ui 0), (Ui 0), (Ui 0), (Ui 0), (Ui 0), (Ui 0), (Ui 0), (Ui 0), (Ui 0), (Ui 0), (Ui 0)] [(0, 1, (tm 10)), (2, 1, (tm 11))]),oo 13 (.box 19 (tm 12)),mv 2 13,oo 3 (.mov (Kc 0))] []) .ret)))
theorem l7 : (Tryz.f7.body.bind (lowC Tryz.prog 14 [])) = some c7 := by kernel_rfl
noncomputable def c9 : DCode := (.seq (.region [oo 9 (.box 10 (tm 4)),oo 10 (.mov (Kc 0))] []) (.seq (.region [mv 14 1,mv 15 2,mv 16 3,oo 17 (.build [(Zi 0), (Zi 0), (Zi 0)] [(0, 1, (tm 14)), (1, 1, (tm 15)), (2, 1, (tm 16))]),oo 11 (.alloc [(Zi 0), (Zi 0), (Zi 0)]),o0 (.store 3 (tm 11) (tm 17))] []) (.seq (.seq (.region [oo 18 (.load 3 true (tm 11)),oo 19 (.call 38 [(tm 18)]),oo 20 (.not (tm 19)),mv 21 20,oF 22 21 (.sliceA 10 1 (tm 9) none none),oF 23 21 (.call 39 [(tm 22), (.const (.clos 40 []))]),oo 24 (.pick (tm 21) (.const (.bool true)) (tm 23))] []) (.cond (tm 24) (.seq (.region [oo 10 (.mov (Kc 1))] []) .ret) .skip)) (.seq (.region [mv 26 0,oo 27 (.nilck (tm 26)),oo 28 (.offA 2 (tm 27)),oo 29 (.load 1 false (tm 28)),oo 30 (.load 3 true (tm 11)),oo 31 (.mlook true [.int .i64, .int .i64, .int .i64] (.agg [(Zi 0), (Zi 0), (Zi 0), (Zi 0), (Zi 0)]) true (tm 29) (tm 30)),mv 25 31,oo 32 (.ext (tm 25) 0),oo 33 (.ext (tm 25) 1),oo 12 (.alloc [(Zi 0), (Zi 0), (Zi 0), (Zi 0), (Zi 0)]),o0 (.store 5 (tm 12) (tm 32)),mv 13 33] []) (.seq (.seq (.region [mv 34 13,oo 35 (.not (tm 34)),mv 36 35,mT 37 0 36,oT 38 36 (.nilck (tm 37)),oT 39 36 (.offA 2 (tm 38)),oT 40 36 (.load 1 false (tm 39)),oT 41 36 (.mlen (tm 40)),oT 42 36 (.bin .geq (tm 41) (Kc 1000)),oo 43 (.pick (tm 36) (tm 42) (.const (.bool false))),mv 44 43,oF 45 44 (.offA 0 (tm 12)),oF 46 44 (.load 1 false (tm 45)),oF 47 44 (.bin .geq (tm 46) (Kc 1073741824)),oo 48 (.pick (tm 44) (.const (.bool true)) (tm 47))] []) (.cond (tm 48) (.seq (.region [oo 10 (.mov (Kc 2))] []) .ret) .skip)) (.seq (.region [mv 49 0,oo 50 (.nilck (tm 49)),oo 51 (.offA 2 (tm 50)),oo 52 (.load 1 false (tm 51)),oo 53 (.load 3 true (tm 11)),oo 54 (.offA 0 (tm 12)),oo 55 (.load 1 false (tm 54)),oo 56 (.bin .add (tm 55) (Kc 1)),oo 57 (.offA 1 (tm 12)),oo 58 (.load 4 true (tm 57)),oo 59 (.load 10 true (tm 9)),oo 60 (.call 31 [(tm 59)]),oo 61 (.call 26 [(tm 58), (tm 60)]),oo 62 (.build [(Zi 0), (Zi 0), (Zi 0), (Zi 0), (Zi 0)] [(0, 1, (tm 56)), (1, 4, (tm 61))]),o0 (.mput true [.int .i64, .int .i64, .int .i64] (tm 52) (tm 53) (tm 62))] []) (.seq (.region [oo 10 (.mov (Kc 0))] []) .ret)))))))
theorem l9 : (Tryz.f9.body.bind (lowC Tryz.prog 63 [])) = some c9 := by kernel_rfl
noncomputable def c40 : DCode := (.seq (.region [oo 2 (.mov (.const (.bool false)))] []) (.seq (.region [mv 3 0,oo 4 (.bin .lss (tm 3) (Kc 0)),mv 5 4,mF 6 0 5,oF 7 5 (.bin .gtr (tm 6) (Kc 65535)),oo 8 (.pick (tm 5) (.const (.bool true)) (tm 7)),mv 2 8] []) .ret))
theorem l40 : (Tryz.f40.body.bind (lowC Tryz.prog 9 [])) = some c40 := by kernel_rfl
noncomputable def c10 : DCode := (.seq (.region [oo 2 (.alloc [(Zi 0), (Zi 0), .nil, (Ui 0), (Ui 0), (Ui 0), (Ui 0), (Ui 0), (Ui 0), (Ui 0), (Ui 0), (Ui 0), (Ui 0), (Ui 0), (Ui 0), (Ui 0), (Ui 0), (Ui 0), (Ui 0)]),oo 3 (.mov (Kc 0))] []) (.seq (.seq (.region [mv 8 0,oo 9 (.nilck (tm 8)),oo 10 (.offA 1 (tm 9)),oo 11 (.load 1 false (tm 10)),oo 12 (.bin .gtr (tm 11) (Kc 1048576))] []) (.cond (tm 12) (.seq (.region [oo 13 (.build [(Zi 0), (Zi 0), .nil, (Ui 0), (Ui 0), (Ui 0), (Ui 0), (Ui 0), (Ui 0), (Ui 0), (Ui 0), (Ui 0), (Ui 0), (Ui 0), (Ui 0), (Ui 0), (Ui 0), (Ui 0), (Ui 0)] []),o0 (.store 19 (tm 2) (tm 13)),oo 3 (.mov (Kc 2))] []) .ret) .skip)) (.seq (.region [mv 14 0,oo 15 (.nilck (tm 14)),oo 16 (.offA 0 (tm 15)),oo 17 (.load 1 false (tm 16)),mv 18 0,oo 19 (.nilck (tm 18)),oo 20 (.offA 1 (tm 19)),oo 21 (.load 1 false (tm 20)),mv 22 0,oo 23 (.nilck (tm 22)),oo 24 (.offA 3 (tm 23)),oo 25 (.load 16 true (tm 24)),oo 26 (.build [(Zi 0), (Zi 0), .nil, (Ui 0), (Ui 0), (Ui 0), (Ui 0), (Ui 0), (Ui 0), (Ui 0), (Ui 0), (Ui 0), (Ui 0), (Ui 0), (Ui 0), (Ui 0), (Ui 0), (Ui 0), (Ui 0)] [(0, 1, (tm 17)), (1, 1, (tm 21)), (3, 16, (tm 25))]),oo 4 (.alloc [(Zi 0), (Zi 0), .nil, (Ui 0), (Ui 0), (Ui 0), (Ui 0), (Ui 0), (Ui 0), (Ui 0), (Ui 0), (Ui 0), (Ui 0), (Ui 0), (Ui 0), (Ui 0), (Ui 0), (Ui 0), (Ui 0)]),o0 (.store 19 (tm 4) (tm 26))] []) (.seq (.seq (.region [mv 27 0,oo 28 (.nilck (tm 27)),oo 29 (.offA 2 (tm 28)),oo 30 (.load 1 false (tm 29)),oo 31 (.inl 42 [(tm 30)]),oo 32 (.inl 41 [(tm 31), (.const (.clos 43 []))]),oo 33 (.len (tm 32)),oo 34 (.mov (Kc 0))] []) (.block 0 (.loop (.seq (.region [oo 35 (.bin .lss (tm 34) (tm 33))] []) (.seq (.cond (tm 35) .skip (.exit 0)) (.seq (.block 1 (.seq (.region [oo 36 (.idxL 3 (tm 32) (tm 34)),oo 37 (.load 3 true (tm 36)),oo 6 (.alloc [(Zi 0), (Zi 0), (Zi 0)]),o0 (.store 3 (tm 6) (tm 37))] []) (.seq (.region [mv 38 0,oo 39 (.nilck (tm 38)),oo 40 (.offA 2 (tm 39)),oo 41 (.load 1 false (tm 40)),oo 42 (.load 3 true (tm 6)),oo 43 (.mlook true [.int .i64, .int .i64, .int .i64] (.agg [(Zi 0), (Zi 0), (Zi 0), (Zi 0), (Zi 0)]) false (tm 41) (tm 42)),oo 7 (.alloc [(Zi 0), (Zi 0), (Zi 0), (Zi 0), (Zi 0)]),o0 (.store 5 (tm 7) (tm 43))] []) (.region [oo 44 (.offA 2 (tm 4)),oo 45 (.load 1 false (tm 44)),oo 46 (.offA 0 (tm 6)),oo 47 (.load 1 false (tm 46)),oo 48 (.offA 1 (tm 6)),oo 49 (.load 1 false (tm 48)),oo 50 (.offA 2 (tm 6)),oo 51 (.load 1 false (tm 50)),oo 52 (.offA 0 (tm 7)),oo 53 (.load 1 false (tm 52)),oo 54 (.offA 1 (tm 7)),oo 55 (.load 4 true (tm 54)),oo 56 (.build [(Zi 0), (Zi 0), (Zi 0), (Zi 0), (Zi 0), (Zi 0), (Zi 0), (Zi 0)] [(0, 1, (tm 47)), (1, 1, (tm 49)), (2, 1, (tm 51)), (3, 1, (tm 53)), (4, 4, (tm 55))]),oo 57 (.buildF 8 1 [(Zi 0), (Zi 0), (Zi 0), (Zi 0), (Zi 0), (Zi 0), (Zi 0), (Zi 0)] [(0, (tm 56))]),oo 58 (.append 28 71 8 64 (tm 45) (tm 57)),oo 59 (.offA 2 (tm 4)),o0 (.store 1 (tm 59) (tm 58))] [])))) (.region [oo 60 (.bin .add (tm 34) (Kc 1)),mv 34 60] []))))))) (.seq (.region [mv 61 0,oo 62 (.nilck (tm 61)),oo 63 (.offA 2 (tm 62)),oo 64 (.load 1 false (tm 63)),o0 (.mclr (tm 64))] []) (.seq (.region [mv 65 0,oo 66 (.load 19 true (tm 4)),oo 67 (.call 30 [(tm 66)]),oo 68 (.nilck (tm 65)),oo 69 (.offA 3 (tm 68)),o0 (.store 16 (tm 69) (tm 67))] []) (.seq (.region [mv 70 0,oo 71 (.nilck (tm 70)),oo 72 (.offA 1 (tm 71)),oo 73 (.load 1 false (tm 72)),oo 74 (.bin .add (tm 73) (Kc 1)),oo 75 (.nilck (tm 70)),oo 76 (.offA 1 (tm 75)),o0 (.store 1 (tm 76) (tm 74))] []) (.seq (.region [oo 77 (.load 19 true (tm 4)),o0 (.store 19 (tm 2) (tm 77)),oo 3 (.mov (Kc 0))] []) .ret))))))))
theorem l10 : (Tryz.f10.body.bind (lowC Tryz.prog 78 [41, 42, 8000057])) = some c10 := by kernel_rfl
noncomputable def c126 : DCode := (.seq (.region [oo 1 (.box 4 (tm 0)),oo 2 (.mov (.const (.bool false)))] []) (.seq (.seq (.region [oo 3 (.mov (Kc 0))] []) (.block 0 (.loop (.seq (.seq (.region [mv 4 3,oo 5 (.bin .lss (tm 4) (Kc 4))] []) (.cond (tm 5) .skip (.exit 0))) (.seq (.block 1 (.seq (.region [mv 8 3,oo 9 (.idxA 4 1 (tm 1) (tm 8)),oo 10 (.load 1 false (tm 9)),oo 11 (.bin .lss (tm 10) (Kc 0)),mv 12 11,mF 13 3 12,oF 14 12 (.idxA 4 1 (tm 1) (tm 13)),oF 15 12 (.load 1 false (tm 14)),oF 16 12 (.bin .geq (tm 15) (Kc 4294967296)),oo 17 (.pick (tm 12) (.const (.bool true)) (tm 16))] []) (.cond (tm 17) (.seq (.region [oo 2 (.mov (.const (.bool false)))] []) .ret) .skip))) (.region [mv 6 3,oo 7 (.bin .add (tm 6) (Kc 1)),mv 3 7] [])))))) (.seq (.region [oo 2 (.mov (.const (.bool true)))] []) .ret)))
theorem l126 : (Tryz.f126.body.bind (lowC Tryz.prog 18 [])) = some c126 := by kernel_rfl
noncomputable def c17 : DCode := (.seq (.region [oo 4 (.mov (.const (.bool false)))] []) (.seq (.seq (.region [oo 5 (.mov (Kc 0))] []) (.block 0 (.loop (.seq (.seq (.region [mv 6 5,mv 7 0,oo 8 (.len (tm 7)),oo 9 (.bin .lss (tm 6) (tm 8))] []) (.cond (tm 9) .skip (.exit 0))) (.seq (.block 1 (.seq (.region [mv 12 0,mv 13 5,oo 14 (.idxL 19 (tm 12) (tm 13)),oo 15 (.offA 2 (tm 14)),oo 16 (.load 1 false (tm 15)),oo 17 (.len (tm 16)),oo 18 (.bin .gtr (tm 17) (Kc 12))] []) (.cond (tm 18) (.seq (.region [oo 4 (.mov (.const (.bool false)))] []) .ret) .skip))) (.region [mv 10 5,oo 11 (.bin .add (tm 10) (Kc 1)),mv 5 11] [])))))) (.seq (.region [mv 19 0,oo 20 (.len (tm 19)),mv 21 1,oo 22 (.bin .leq (tm 20) (tm 21)),mv 4 22] []) .ret)))
theorem l17 : (Tryz.f17.body.bind (lowC Tryz.prog 23 [])) = some c17 := by kernel_rfl
noncomputable def c12 : DCode := (.seq (.region [oo 2 (.box 19 (tm 0)),oo 3 (.box 19 (tm 1)),oo 4 (.mov (.const (.bool false)))] []) (.seq (.seq (.region [oo 6 (.offA 0 (tm 2)),oo 7 (.load 1 false (tm 6)),oo 8 (.offA 0 (tm 3)),oo 9 (.load 1 false (tm 8)),oo 10 (.bin .neq (tm 7) (tm 9)),mv 11 10,oF 12 11 (.offA 1 (tm 2)),oF 13 11 (.load 1 false (tm 12)),oF 14 11 (.offA 1 (tm 3)),oF 15 11 (.load 1 false (tm 14)),oF 16 11 (.bin .neq (tm 13) (tm 15)),oo 17 (.pick (tm 11) (.const (.bool true)) (tm 16)),mv 18 17,oF 19 18 (.offA 3 (tm 2)),oF 20 18 (.load 16 true (tm 19)),oF 21 18 (.offA 3 (tm 3)),oF 22 18 (.load 16 true (tm 21)),oF 23 18 (.eqv true [.int .u8, .int .u8, .int .u8, .int .u8, .int .u8, .int .u8, .int .u8, .int .u8, .int .u8, .int .u8, .int .u8, .int .u8, .int .u8, .int .u8, .int .u8, .int .u8] (tm 20) (tm 22)),oo 24 (.pick (tm 18) (.const (.bool true)) (tm 23)),mv 25 24,oF 26 25 (.offA 2 (tm 2)),oF 27 25 (.load 1 false (tm 26)),oF 28 25 (.len (tm 27)),oF 29 25 (.offA 2 (tm 3)),oF 30 25 (.load 1 false (tm 29)),oF 31 25 (.len (tm 30)),oF 32 25 (.bin .neq (tm 28) (tm 31)),oo 33 (.pick (tm 25) (.const (.bool true)) (tm 32))] []) (.cond (tm 33) (.seq (.region [oo 4 (.mov (.const (.bool false)))] []) .ret) .skip)) (.seq (.seq (.region [oo 5 (.mov (Kc 0))] []) (.block 0 (.loop (.seq (.seq (.region [mv 34 5,oo 35 (.offA 2 (tm 2)),oo 36 (.load 1 false (tm 35)),oo 37 (.len (tm 36)),oo 38 (.bin .lss (tm 34) (tm 37))] []) (.cond (tm 38) .skip (.exit 0))) (.seq (.block 1 (.seq (.region [oo 41 (.offA 2 (tm 2)),oo 42 (.load 1 false (tm 41)),mv 43 5,oo 44 (.idxL 8 (tm 42) (tm 43)),oo 45 (.load 8 true (tm 44)),oo 46 (.offA 2 (tm 3)),oo 47 (.load 1 false (tm 46)),mv 48 5,oo 49 (.idxL 8 (tm 47) (tm 48)),oo 50 (.load 8 true (tm 49)),oo 51 (.eqv true [.int .i64, .int .i64, .int .i64, .int .i64, .int .i64, .int .i64, .int .i64, .int .i64] (tm 45) (tm 50))] []) (.cond (tm 51) (.seq (.region [oo 4 (.mov (.const (.bool false)))] []) .ret) .skip))) (.region [mv 39 5,oo 40 (.bin .add (tm 39) (Kc 1)),mv 5 40] [])))))) (.seq (.region [oo 4 (.mov (.const (.bool true)))] []) .ret))))
theorem l12 : (Tryz.f12.body.bind (lowC Tryz.prog 52 [])) = some c12 := by kernel_rfl
noncomputable def c16 : DCode := (.seq (.region [oo 4 (.mov (.const (.bool false)))] []) (.seq (.seq (.region [mv 7 0,oo 8 (.len (tm 7)),mv 9 1,oo 10 (.len (tm 9)),oo 11 (.bin .neq (tm 8) (tm 10))] []) (.cond (tm 11) (.seq (.region [oo 4 (.mov (.const (.bool false)))] []) .ret) .skip)) (.seq (.seq (.region [oo 5 (.mov (Kc 0))] []) (.block 0 (.loop (.seq (.seq (.region [mv 12 5,mv 13 0,oo 14 (.len (tm 13)),oo 15 (.bin .lss (tm 12) (tm 14))] []) (.cond (tm 15) .skip (.exit 0))) (.seq (.block 1 (.seq (.region [mv 18 0,mv 19 5,oo 20 (.idxL 19 (tm 18) (tm 19)),oo 21 (.load 19 true (tm 20)),mv 22 1,mv 23 5,oo 24 (.idxL 19 (tm 22) (tm 23)),oo 25 (.load 19 true (tm 24)),oo 26 (.call 12 [(tm 21), (tm 25)]),mv 6 26] []) (.seq (.region [mv 27 6,oo 28 (.not (tm 27))] []) (.cond (tm 28) (.seq (.region [oo 4 (.mov (.const (.bool false)))] []) .ret) .skip)))) (.region [mv 16 5,oo 17 (.bin .add (tm 16) (Kc 1)),mv 5 17] [])))))) (.seq (.region [oo 4 (.mov (.const (.bool true)))] []) .ret))))
theorem l16 : (Tryz.f16.body.bind (lowC Tryz.prog 29 [])) = some c16 := by kernel_rfl
noncomputable def c24 : DCode := (.seq (.region [oo 1 (.box 19 (tm 0)),oo 2 (.mov (Kc 0))] []) (.seq (.seq (.region [oo 6 (.offA 2 (tm 1)),oo 7 (.load 1 false (tm 6)),oo 8 (.len (tm 7)),oo 9 (.bin .gtr (tm 8) (Kc 1000))] []) (.cond (tm 9) (.seq (.region [oo 2 (.mov (Kc 2))] []) .ret) .skip)) (.seq (.seq (.region [oo 10 (.offA 0 (tm 1)),oo 11 (.load 1 false (tm 10)),oo 12 (.bin .lss (tm 11) (Kc 0)),mv 13 12,oF 14 13 (.offA 0 (tm 1)),oF 15 13 (.load 1 false (tm 14)),oF 16 13 (.bin .gtr (tm 15) (Kc 199)),oo 17 (.pick (tm 13) (.const (.bool true)) (tm 16)),mv 18 17,oF 19 18 (.offA 1 (tm 1)),oF 20 18 (.load 1 false (tm 19)),oF 21 18 (.bin .lss (tm 20) (Kc 0)),oo 22 (.pick (tm 18) (.const (.bool true)) (tm 21)),mv 23 22,oF 24 23 (.offA 1 (tm 1)),oF 25 23 (.load 1 false (tm 24)),oF 26 23 (.bin .gtr (tm 25) (Kc 1048576)),oo 27 (.pick (tm 23) (.const (.bool true)) (tm 26))] []) (.cond (tm 27) (.seq (.region [oo 2 (.mov (Kc 1))] []) .ret) .skip)) (.seq (.seq (.region [oo 3 (.mov (Kc 0))] []) (.block 0 (.loop (.seq (.seq (.region [mv 28 3,oo 29 (.offA 2 (tm 1)),oo 30 (.load 1 false (tm 29)),oo 31 (.len (tm 30)),oo 32 (.bin .lss (tm 28) (tm 31))] []) (.cond (tm 32) .skip (.exit 0))) (.seq (.block 1 (.seq (.region [oo 35 (.offA 2 (tm 1)),oo 36 (.load 1 false (tm 35)),mv 37 3,oo 38 (.idxL 8 (tm 36) (tm 37)),oo 39 (.load 8 true (tm 38)),oo 40 (.call 71 [(tm 39)]),mv 4 40] []) (.seq (.seq (.region [mv 41 4,oo 42 (.not (tm 41))] []) (.cond (tm 42) (.seq (.region [oo 2 (.mov (Kc 1))] []) .ret) .skip)) (.seq (.region [mv 43 3,oo 44 (.bin .gtr (tm 43) (Kc 0))] []) (.cond (tm 44) (.seq (.region [oo 45 (.offA 2 (tm 1)),oo 46 (.load 1 false (tm 45)),mv 47 3,oo 48 (.bin .sub (tm 47) (Kc 1)),oo 49 (.idxL 8 (tm 46) (tm 48)),oo 50 (.load 8 true (tm 49)),oo 51 (.offA 2 (tm 1)),oo 52 (.load 1 false (tm 51)),mv 53 3,oo 54 (.idxL 8 (tm 52) (tm 53)),oo 55 (.load 8 true (tm 54)),oo 56 (.call 36 [(tm 50), (tm 55)]),mv 5 56] []) (.seq (.region [mv 57 5,oo 58 (.not (tm 57))] []) (.cond (tm 58) (.seq (.region [oo 2 (.mov (Kc 1))] []) .ret) .skip))) .skip))))) (.region [mv 33 3,oo 34 (.bin .add (tm 33) (Kc 1)),mv 3 34] [])))))) (.seq (.region [oo 2 (.mov (Kc 0))] []) .ret)))))
theorem l24 : (Tryz.f24.body.bind (lowC Tryz.prog 59 [])) = some c24 := by kernel_rfl
noncomputable def c61 : DCode := (.seq (.region [oo 1 (.box 19 (tm 0)),oo 2 (.mov (.const .nil))] []) (.seq (.region [oo 6 (.offA 0 (tm 1)),oo 7 (.load 1 false (tm 6)),oo 8 (.offA 1 (tm 1)),oo 9 (.load 1 false (tm 8)),oo 10 (.buildS 3 1 2 [(Zi 0)] [(0, (tm 7)), (1, (tm 9))]),oo 11 (.inl 99 [(tm 10)]),mv 3 11] []) (.seq (.region [mv 12 3,oo 13 (.offA 2 (tm 1)),oo 14 (.load 1 false (tm 13)),oo 15 (.len (tm 14)),oo 16 (.call 100 [(tm 15)]),oo 17 (.append 116 5 1 1 (tm 12) (tm 16)),mv 3 17] []) (.seq (.seq (.region [oo 4 (.mov (Kc 0))] []) (.block 0 (.loop (.seq (.seq (.region [mv 18 4,oo 19 (.offA 2 (tm 1)),oo 20 (.load 1 false (tm 19)),oo 21 (.len (tm 20)),oo 22 (.bin .lss (tm 18) (tm 21))] []) (.cond (tm 22) .skip (.exit 0))) (.seq (.block 1 (.seq (.region [oo 25 (.offA 2 (tm 1)),oo 26 (.load 1 false (tm 25)),mv 27 4,oo 28 (.idxL 8 (tm 26) (tm 27)),oo 29 (.load 8 true (tm 28)),oo 5 (.alloc [(Zi 0), (Zi 0), (Zi 0), (Zi 0), (Zi 0), (Zi 0), (Zi 0), (Zi 0)]),o0 (.store 8 (tm 5) (tm 29))] []) (.region [mv 30 3,oo 31 (.offA 0 (tm 5)),oo 32 (.load 1 false (tm 31)),oo 33 (.offA 1 (tm 5)),oo 34 (.load 1 false (tm 33)),oo 35 (.offA 2 (tm 5)),oo 36 (.load 1 false (tm 35)),oo 37 (.offA 3 (tm 5)),oo 38 (.load 1 false (tm 37)),oo 39 (.offA 4 (tm 5)),oo 40 (.idxA 4 1 (tm 39) (Kc 0)),oo 41 (.load 1 false (tm 40)),oo 42 (.offA 4 (tm 5)),oo 43 (.idxA 4 1 (tm 42) (Kc 1)),oo 44 (.load 1 false (tm 43)),oo 45 (.offA 4 (tm 5)),oo 46 (.idxA 4 1 (tm 45) (Kc 2)),oo 47 (.load 1 false (tm 46)),oo 48 (.offA 4 (tm 5)),oo 49 (.idxA 4 1 (tm 48) (Kc 3)),oo 50 (.load 1 false (tm 49)),oo 51 (.buildS 3 1 8 [(Zi 0)] [(0, (tm 32)), (1, (tm 34)), (2, (tm 36)), (3, (tm 38)), (4, (tm 41)), (5, (tm 44)), (6, (tm 47)), (7, (tm 50))]),oo 52 (.inl 99 [(tm 51)]),oo 53 (.append 116 5 1 1 (tm 30) (tm 52)),mv 3 53] []))) (.region [mv 23 4,oo 24 (.bin .add (tm 23) (Kc 1)),mv 4 24] [])))))) (.seq (.region [mv 54 3,oo 55 (.offA 3 (tm 1)),oo 56 (.load 16 true (tm 55)),oo 57 (.buildS 30 16 1 [(Ui 0), (Ui 0), (Ui 0), (Ui 0), (Ui 0), (Ui 0), (Ui 0), (Ui 0), (Ui 0), (Ui 0), (Ui 0), (Ui 0), (Ui 0), (Ui 0), (Ui 0), (Ui 0)] [(0, (tm 56))]),oo 58 (.call 101 [(tm 57)]),oo 59 (.append 116 5 1 1 (tm 54) (tm 58)),mv 2 59] []) .ret)))))
theorem l61 : (Tryz.f61.body.bind (lowC Tryz.prog 60 [99])) = some c61 := by kernel_rfl
noncomputable def c44 : DCode := (.seq (.region [oo 1 (.box 19 (tm 0)),oo 2 (.alloc [(Ui 0), (Ui 0), (Ui 0), (Ui 0), (Ui 0), (Ui 0), (Ui 0), (Ui 0), (Ui 0), (Ui 0), (Ui 0), (Ui 0), (Ui 0), (Ui 0), (Ui 0), (Ui 0)])] []) (.seq (.region [oo 3 (.load 19 true (tm 1)),oo 4 (.call 61 [(tm 3)]),oo 5 (.prim .strB (tm 4)),⟨some 6, .buildS 9 1 1 [(.str ⟨#[]⟩)] [(0, (tm 5))], none, []⟩,oo 7 (.call 78 [(Kc 5), (tm 6)]),o0 (.store 16 (tm 2) (tm 7))] []) .ret))
theorem l44 : (Tryz.f44.body.bind (lowC Tryz.prog 8 [])) = some c44 := by kernel_rfl
noncomputable def c71 : DCode := (.seq (.region [oo 1 (.box 8 (tm 0)),oo 2 (.mov (.const (.bool false)))] []) (.seq (.region [oo 5 (.offA 0 (tm 1)),oo 6 (.load 1 false (tm 5)),oo 7 (.offA 1 (tm 1)),oo 8 (.load 1 false (tm 7)),oo 9 (.offA 2 (tm 1)),oo 10 (.load 1 false (tm 9)),oo 11 (.call 32 [(tm 6), (tm 8), (tm 10)]),mv 3 11] []) (.seq (.region [oo 12 (.offA 4 (tm 1)),oo 13 (.load 4 true (tm 12)),oo 14 (.call 126 [(tm 13)]),mv 4 14] []) (.seq (.region [mv 15 3,mv 16 15,mT 17 4 16,oo 18 (.pick (tm 16) (tm 17) (.const (.bool false))),mv 19 18,oT 20 19 (.offA 3 (tm 1)),oT 21 19 (.load 1 false (tm 20)),oT 22 19 (.bin .geq (tm 21) (Kc 1)),oo 23 (.pick (tm 19) (tm 22) (.const (.bool false))),mv 24 23,oT 25 24 (.offA 3 (tm 1)),oT 26 24 (.load 1 false (tm 25)),oT 27 24 (.bin .leq (tm 26) (Kc 1073741824)),oo 28 (.pick (tm 24) (tm 27) (.const (.bool false))),mv 2 28] []) .ret))))
theorem l71 : (Tryz.f71.body.bind (lowC Tryz.prog 29 [])) = some c71 := by kernel_rfl
noncomputable def c36 : DCode := (.seq (.region [oo 2 (.box 8 (tm 0)),oo 3 (.box 8 (tm 1)),oo 4 (.mov (.const (.bool false)))] []) (.seq (.seq (.region [oo 5 (.offA 0 (tm 2)),oo 6 (.load 1 false (tm 5)),oo 7 (.offA 0 (tm 3)),oo 8 (.load 1 false (tm 7)),oo 9 (.bin .neq (tm 6) (tm 8))] []) (.cond (tm 9) (.seq (.region [oo 10 (.offA 0 (tm 2)),oo 11 (.load 1 false (tm 10)),oo 12 (.offA 0 (tm 3)),oo 13 (.load 1 false (tm 12)),oo 14 (.bin .lss (tm 11) (tm 13)),mv 4 14] []) .ret) .skip)) (.seq (.seq (.region [oo 15 (.offA 1 (tm 2)),oo 16 (.load 1 false (tm 15)),oo 17 (.offA 1 (tm 3)),oo 18 (.load 1 false (tm 17)),oo 19 (.bin .neq (tm 16) (tm 18))] []) (.cond (tm 19) (.seq (.region [oo 20 (.offA 1 (tm 2)),oo 21 (.load 1 false (tm 20)),oo 22 (.offA 1 (tm 3)),oo 23 (.load 1 false (tm 22)),oo 24 (.bin .lss (tm 21) (tm 23)),mv 4 24] []) .ret) .skip)) (.seq (.region [oo 25 (.offA 2 (tm 2)),oo 26 (.load 1 false (tm 25)),oo 27 (.offA 2 (tm 3)),oo 28 (.load 1 false (tm 27)),oo 29 (.bin .lss (tm 26) (tm 28)),mv 4 29] []) .ret))))
theorem l36 : (Tryz.f36.body.bind (lowC Tryz.prog 30 [])) = some c36 := by kernel_rfl
noncomputable def c32 : DCode := (.seq (.region [oo 6 (.mov (.const (.bool false)))] []) (.seq (.region [mv 7 0,oo 8 (.bin .eql (tm 7) (Kc 1)),mv 9 8,mF 10 0 9,oF 11 9 (.bin .eql (tm 10) (Kc 2)),oo 12 (.pick (tm 9) (.const (.bool true)) (tm 11)),mv 13 12,mT 14 1 13,oT 15 13 (.bin .geq (tm 14) (Kc 0)),oo 16 (.pick (tm 13) (tm 15) (.const (.bool false))),mv 17 16,mT 18 1 17,oT 19 17 (.bin .leq (tm 18) (Kc 65535)),oo 20 (.pick (tm 17) (tm 19) (.const (.bool false))),mv 21 20,mT 22 2 21,oT 23 21 (.bin .geq (tm 22) (Kc 0)),oo 24 (.pick (tm 21) (tm 23) (.const (.bool false))),mv 25 24,mT 26 2 25,oT 27 25 (.bin .leq (tm 26) (Kc 1073741824)),oo 28 (.pick (tm 25) (tm 27) (.const (.bool false))),mv 6 28] []) .ret))
theorem l32 : (Tryz.f32.body.bind (lowC Tryz.prog 29 [])) = some c32 := by kernel_rfl
noncomputable def c42 : DCode := (.seq (.region [oo 1 (.box 1 (tm 0)),oo 2 (.mov (.const .nilfn))] []) (.seq (.region [oo 3 (.mkfn 83 [(tm 1)]),mv 2 3] []) .ret))
theorem l42 : (Tryz.f42.body.bind (lowC Tryz.prog 4 [])) = some c42 := by kernel_rfl
noncomputable def c83 : DCode := (.seq (.region [oo 4 (.load 1 false (tm 1)),oo 5 (.mrng (tm 4))] []) (.block 0 (.loop (.seq (.region [oo 6 (.mnext (tm 5)),oo 7 (.ext (tm 6) 0)] []) (.seq (.cond (tm 7) .skip (.exit 0)) (.block 1 (.seq (.region [oo 8 (.ment (tm 5)),oo 9 (.ext (tm 8) 0),oo 3 (.alloc [(Zi 0), (Zi 0), (Zi 0)]),o0 (.store 3 (tm 3) (tm 9))] []) (.seq (.sem 14 (rg0 3 Tryz.f83.body)) (.cond (tm 13) .ret .skip)))))))))
theorem l83 : (Tryz.f83.body.bind (lowC Tryz.prog 14 [1000003])) = some c83 := by kernel_rfl
noncomputable def c81 : DCode := (.seq (.region [oo 2 (.mov (.const .nil))] []) (.seq (.region [mv 3 0,oo 4 (.inl 134 [(.const .nil), (tm 3)]),mv 2 4] []) .ret))
theorem l81 : (Tryz.f81.body.bind (lowC Tryz.prog 5 [134])) = some c81 := by kernel_rfl
noncomputable def c41 : DCode := (.seq (.region [oo 4 (.mov (.const .nil))] []) (.seq (.region [mv 6 0,oo 7 (.inl 81 [(tm 6)]),mv 5 7] []) (.seq (.region [mv 8 5,mv 9 1,oo 10 (.inl 82 [(tm 8), (tm 9)])] []) (.seq (.region [mv 11 5,mv 4 11] []) .ret))))
theorem l41 : (Tryz.f41.body.bind (lowC Tryz.prog 12 [81, 82])) = some c41 := by kernel_rfl
end Go.RC
end
section
namespace Go.RC
open Go Go.DL Go.Proofs
set_option maxRecDepth 100000
set_option maxHeartbeats 1000000
abbrev M32 : Int := 4294967296
theorem and_mask {x : Int} (h : i64 x) : bitsI .and .i64 x 4294967295 = x % M32 := by
  obtain ⟨h1, h2⟩ := h
  have e1 : (BitVec.ofInt 64 4294967295).toNat = 2 ^ 32 - 1 := by decide
  have e2 : (BitVec.ofInt 64 x).toNat = (x % 18446744073709551616).toNat := by
    rw [BitVec.toNat_ofInt]; rfl
  show IntKind.i64.wrap ((BitVec.ofInt 64 x &&& BitVec.ofInt 64 4294967295).toNat : Int) = _
  rw [BitVec.toNat_and, e1, e2, Nat.and_two_pow_sub_one_eq_mod, wrap_id (by omega) (by omega)]
  unfold M32
  omega
def isS (a : List Int) : Prop := a.length = 4 ∧ ∀ x ∈ a, 0 ≤ x ∧ x < M32
def sAdd (a b : List Int) : List Int := List.zipWith (fun x y => (x + y) % M32) a b
def sSub (a b : List Int) : List Int := List.zipWith (fun x y => (x - y) % M32) a b
theorem isS_get {a : List Int} (h : isS a) {k : Nat} (hk : k < 4) : 0 ≤ a.getD k 0 ∧ a.getD k 0 < M32 := by
  have hk : k < a.length := by rw [h.1]; exact hk
  rw [List.getD_eq_getElem?_getD, List.getElem?_eq_getElem hk]
  exact h.2 _ (List.getElem_mem hk)
theorem isS_add {a b : List Int} (ha : isS a) (hb : isS b) : isS (sAdd a b) := by
  refine ⟨by simp [sAdd, ha.1, hb.1], fun x hx => ?_⟩
  unfold sAdd at hx
  obtain ⟨i, hi⟩ := List.mem_iff_getElem?.1 hx
  rw [List.getElem?_zipWith] at hi
  split at hi
  · simp only [Option.some.injEq] at hi; subst hi; unfold M32; omega
  · cases hi
theorem isS_sub {a b : List Int} (ha : isS a) (hb : isS b) : isS (sSub a b) := by
  refine ⟨by simp [sSub, ha.1, hb.1], fun x hx => ?_⟩
  unfold sSub at hx
  obtain ⟨i, hi⟩ := List.mem_iff_getElem?.1 hx
  rw [List.getElem?_zipWith] at hi
  split at hi
  · simp only [Option.some.injEq] at hi; subst hi; unfold M32; omega
  · cases hi
def ZJ (f : Int → Int → Int) (a b : List Int) : Nat → List Int
  | 0 => []
  | k + 1 => ZJ f a b k ++ [f (a.getD k 0) (b.getD k 0)]
theorem ZJ_len (f : Int → Int → Int) (a b : List Int) : ∀ k, (ZJ f a b k).length = k
  | 0 => rfl
  | k + 1 => by unfold ZJ; rw [List.length_append, ZJ_len f a b k]; rfl
theorem ZJ_4 (f : Int → Int → Int) {a b : List Int} (ha : a.length = 4) (hb : b.length = 4) : ZJ f a b 4 = List.zipWith f a b := by
  match a, b, ha, hb with
  | [_, _, _, _], [_, _, _, _], _, _ => rfl
theorem ZJ_set (f : Int → Int → Int) (a b r : List Int) (k : Nat) (hr : k < r.length) : (ZJ f a b k ++ r.drop k).set k (f (a.getD k 0) (b.getD k 0)) = ZJ f a b (k + 1) ++ r.drop (k + 1) := by
  have hl := ZJ_len f a b k
  rw [List.set_append, if_neg (by omega), hl, Nat.sub_self, List.drop_eq_getElem_cons hr]
  show ZJ f a b k ++ f (a.getD k 0) (b.getD k 0) :: r.drop (k + 1) = (ZJ f a b k ++ [f (a.getD k 0) (b.getD k 0)]) ++ r.drop (k + 1)
  rw [List.append_assoc]
  rfl
theorem ZJ_get (f : Int → Int → Int) (a b r : List Int) (k : Nat) (hr : k < r.length) : (ZJ f a b k ++ r.drop k).getD k 0 = r.getD k 0 := by
  have hl := ZJ_len f a b k
  rw [List.getD_eq_getElem?_getD, List.getElem?_append_right (by omega), hl, Nat.sub_self, List.getElem?_drop, Nat.add_zero, ← List.getD_eq_getElem?_getD]
abbrev sm (a : List Int) : T := .agg (a.map I)
abbrev zI4 : List T := [I 0, I 0, I 0, I 0]
theorem t_sAdd (a b : List Int) (ha : isS a) (hb : isS b) : DCalls Tryz.prog 26 [sm a, sm b] (sm (sAdd a b)) := by
  refine dcalls_low (rs := [.cell 4 67]) mixed Tryz.func26 l26 rfl rfl rfl (r := [.agg _]) (Nat.le_of_ble_eq_true rfl) ?_
  have hal := ha.1
  have hbl := hb.1
  repeat' ((conv => whnf); first | (refine And.intro (by first | (exact (List.length_map _).trans hal; done) | (exact (List.length_map _).trans hbl; done) | fail) ?_) | fail)
  refine wpC_loopE 0 (α := Nat) (β := Unit) (fun k => {sl := [(2, .ptr 2 0), (3, .ptr 3 0), (4, .ptr 4 0), (6, .t (I k))], bx := [(2, .d 4 ((ZJ (fun x y => (x + y) % M32) a b k ++ a.drop k).map I)), (3, .d 4 (b.map I)), (4, .d 4 zI4)]})
    (fun k => k ≤ 4) (fun k => 4 - k) (fun _ => {sl := [(2, .ptr 2 0), (4, .ptr 4 0)], bx := [(2, .d 4 ((sAdd a b).map I)), (4, .d 4 zI4)]}) (fun _ => True) 0 (by omega) ?_ ?_ ?_
  · repeat' (first | exact trivial | exact LeV.same _ | exact LeB.same _ | exact rfl | exact fun _ _ _ => trivial | refine And.intro ?_ ?_)
  · intro k hk
    rcases Nat.lt_or_ge k 4 with h | h
    · have hS := ZJ_set (fun x y => (x + y) % M32) a b a k (by omega)
      have hG := ZJ_get (fun x y => (x + y) % M32) a b a k (by omega)
      have hl : (ZJ (fun x y => (x + y) % M32) a b k ++ a.drop k).length = 4 := by rw [List.length_append, ZJ_len, List.length_drop]; omega
      generalize ZJ (fun x y => (x + y) % M32) a b k ++ a.drop k = cur at hS hG hl
      obtain ⟨a0, a1⟩ := isS_get ha h
      obtain ⟨b0, b1⟩ := isS_get hb h
      generalize a.getD k 0 = x at *
      have hw : bitsI .and .i64 (IntKind.i64.wrap (x + b.getD k 0)) 4294967295 = (x + b.getD k 0) % M32 := by
        unfold M32 at *
        rw [wrap_id (by omega) (by omega), and_mask (by unfold i64; omega)]
      repeat' ((conv => whnf); first | (refine nv_ (I (cur.getD k 0)) (by first | (exact mgetk k (by omega) (by omega); done) | fail) ?_) | (refine nv_ (I (b.getD k 0)) (by first | (exact mgetk k (by omega) (by omega); done) | fail) ?_) | refine aD1 ?_ | (refine And.intro (by first | (omega; done) | fail) ?_) | refine aS ?_ | fail)
      refine ⟨k + 1, by omega, by omega, ?_⟩
      repeat' (first | exact trivial | exact LeV.same _ | exact LeB.same _ | exact rfl | exact fun _ _ _ => trivial | exact lI | refine leBd ?_ | refine And.intro ?_ ?_)
      rw [← hS, ← mset, hG, hw]
      simp only [Int.toNat_natCast, Nat.zero_add, Nat.mul_one]
    · have : k = 4 := by omega
      subst this
      repeat' ((conv => whnf); first | refine aD0 ?_ | refine aS ?_ | fail)
      refine ⟨(), trivial, by repeat' (first | ((refine leBd ?_; rw [ZJ_4 _ hal hbl, List.drop_eq_nil_of_le (by omega), List.append_nil]; rfl)) | exact trivial | exact LeV.same _ | exact LeB.same _ | exact rfl | exact fun _ _ _ => trivial | refine And.intro ?_ ?_)⟩
  rintro - -
  have hsl := (isS_add ha hb).1
  repeat' ((conv => whnf); first | (refine And.intro (by first | (exact ⟨(List.length_map _).trans hsl, by decide⟩; done) | fail) ?_) | refine rt ?_ trivial | fail)
  exact congrArg T.agg (putL_all rfl)
theorem t_sSub (a b : List Int) (ha : isS a) (hb : isS b) : DCalls Tryz.prog 27 [sm a, sm b] (sm (sSub a b)) := by
  refine dcalls_low (rs := [.cell 4 67]) mixed Tryz.func27 l27 rfl rfl rfl (r := [.agg _]) (Nat.le_of_ble_eq_true rfl) ?_
  have hal := ha.1
  have hbl := hb.1
  repeat' ((conv => whnf); first | (refine And.intro (by first | (exact (List.length_map _).trans hal; done) | (exact (List.length_map _).trans hbl; done) | fail) ?_) | fail)
  refine wpC_loopE 0 (α := Nat) (β := Unit) (fun k => {sl := [(2, .ptr 2 0), (3, .ptr 3 0), (4, .ptr 4 0), (6, .t (I k))], bx := [(2, .d 4 ((ZJ (fun x y => (x - y) % M32) a b k ++ a.drop k).map I)), (3, .d 4 (b.map I)), (4, .d 4 zI4)]})
    (fun k => k ≤ 4) (fun k => 4 - k) (fun _ => {sl := [(2, .ptr 2 0), (4, .ptr 4 0)], bx := [(2, .d 4 ((sSub a b).map I)), (4, .d 4 zI4)]}) (fun _ => True) 0 (by omega) ?_ ?_ ?_
  · repeat' (first | exact trivial | exact LeV.same _ | exact LeB.same _ | exact rfl | exact fun _ _ _ => trivial | refine And.intro ?_ ?_)
  · intro k hk
    rcases Nat.lt_or_ge k 4 with h | h
    · have hS := ZJ_set (fun x y => (x - y) % M32) a b a k (by omega)
      have hG := ZJ_get (fun x y => (x - y) % M32) a b a k (by omega)
      have hl : (ZJ (fun x y => (x - y) % M32) a b k ++ a.drop k).length = 4 := by rw [List.length_append, ZJ_len, List.length_drop]; omega
      generalize ZJ (fun x y => (x - y) % M32) a b k ++ a.drop k = cur at hS hG hl
      obtain ⟨a0, a1⟩ := isS_get ha h
      obtain ⟨b0, b1⟩ := isS_get hb h
      generalize a.getD k 0 = x at *
      have hw : bitsI .and .i64 (IntKind.i64.wrap (x - b.getD k 0)) 4294967295 = (x - b.getD k 0) % M32 := by
        unfold M32 at *
        rw [wrap_id (by omega) (by omega), and_mask (by unfold i64; omega)]
      repeat' ((conv => whnf); first | (refine nv_ (I (cur.getD k 0)) (by first | (exact mgetk k (by omega) (by omega); done) | fail) ?_) | (refine nv_ (I (b.getD k 0)) (by first | (exact mgetk k (by omega) (by omega); done) | fail) ?_) | refine aD1 ?_ | (refine And.intro (by first | (omega; done) | fail) ?_) | refine aS ?_ | fail)
      refine ⟨k + 1, by omega, by omega, ?_⟩
      repeat' (first | exact trivial | exact LeV.same _ | exact LeB.same _ | exact rfl | exact fun _ _ _ => trivial | exact lI | refine leBd ?_ | refine And.intro ?_ ?_)
      rw [← hS, ← mset, hG, hw]
      simp only [Int.toNat_natCast, Nat.zero_add, Nat.mul_one]
    · have : k = 4 := by omega
      subst this
      repeat' ((conv => whnf); first | refine aD0 ?_ | refine aS ?_ | fail)
      refine ⟨(), trivial, by repeat' (first | ((refine leBd ?_; rw [ZJ_4 _ hal hbl, List.drop_eq_nil_of_le (by omega), List.append_nil]; rfl)) | exact trivial | exact LeV.same _ | exact LeB.same _ | exact rfl | exact fun _ _ _ => trivial | refine And.intro ?_ ?_)⟩
  rintro - -
  have hsl := (isS_sub ha hb).1
  repeat' ((conv => whnf); first | (refine And.intro (by first | (exact ⟨(List.length_map _).trans hsl, by decide⟩; done) | fail) ?_) | refine rt ?_ trivial | fail)
  exact congrArg T.agg (putL_all rfl)
end Go.RC
end
section
namespace Go.RC
open Go Go.DL Go.Proofs
set_option maxRecDepth 100000
set_option maxHeartbeats 1000000
theorem or_add64 {a b : Int} (k : Nat) (ha : 0 ≤ a) (ha2 : a < 4611686018427387904) (hd : a % 2 ^ k = 0) (hb : 0 ≤ b) (hb2 : b < 2 ^ k) (hk : k ≤ 32) : bitsI .or .i64 a b = a + b := by
  obtain ⟨a, rfl⟩ := Int.eq_ofNat_of_zero_le ha
  obtain ⟨b, rfl⟩ := Int.eq_ofNat_of_zero_le hb
  have hk2 : (2 : Nat) ^ k ≤ 2 ^ 32 := Nat.pow_le_pow_right (by decide) hk
  have hb3 : b < 2 ^ k := by exact_mod_cast hb2
  have hd2 : a % 2 ^ k = 0 := by exact_mod_cast hd
  have e : a ||| b = a + b := by
    have := Nat.two_pow_add_eq_or_of_lt hb3 (a / 2 ^ k)
    have h2 : 2 ^ k * (a / 2 ^ k) = a := Nat.mul_div_cancel' (Nat.dvd_of_mod_eq_zero hd2)
    rw [h2] at this
    exact this.symm
  have e1 : (BitVec.ofInt 64 ((a : Nat) : Int)).toNat = a := by
    rw [BitVec.ofInt_natCast, BitVec.toNat_ofNat, Nat.mod_eq_of_lt (by omega)]
  have e2 : (BitVec.ofInt 64 ((b : Nat) : Int)).toNat = b := by
    rw [BitVec.ofInt_natCast, BitVec.toNat_ofNat, Nat.mod_eq_of_lt (by omega)]
  show IntKind.i64.wrap ((BitVec.ofInt 64 ((a : Nat) : Int) ||| BitVec.ofInt 64 ((b : Nat) : Int)).toNat : Int) = _
  rw [BitVec.toNat_or, e1, e2, e, wrap_id (by omega) (by omega)]
  rfl
def OJ (ds : List Int) : Nat → List Int
  | 0 => [0, 0, 0, 0]
  | k + 1 => (OJ ds k).set (k / 4) (256 * (OJ ds k).getD (k / 4) 0 + ds.getD k 0)
theorem OJ_len (ds : List Int) : ∀ k, (OJ ds k).length = 4
  | 0 => rfl
  | k + 1 => by unfold OJ; rw [List.length_set, OJ_len ds k]
theorem OJ_s (ds : List Int) (k : Nat) : OJ ds (k + 1) = (OJ ds k).set (k / 4) (256 * (OJ ds k).getD (k / 4) 0 + ds.getD k 0) := rfl
theorem getB {ds : List Int} (hb : areB ds) (hl : ds.length = 16) {k : Nat} (hk : k < 16) : 0 ≤ ds.getD k 0 ∧ ds.getD k 0 < 256 := by
  rw [List.getD_eq_getElem?_getD, List.getElem?_eq_getElem (by omega)]
  exact hb _ (List.getElem_mem (by omega))
theorem OJ_lt {ds : List Int} (hb : areB ds) (hl : ds.length = 16) : ∀ k, k ≤ 16 → ∀ j, j < 4 → 0 ≤ (OJ ds k).getD j 0 ∧ (OJ ds k).getD j 0 < 256 ^ (min 4 (k - 4 * j))
  | 0, _, j, hj => by
    match j, hj with
    | 0, _ => exact (show 0 ≤ (0 : Int) ∧ (0 : Int) < 1 by decide)
    | 1, _ => exact (show 0 ≤ (0 : Int) ∧ (0 : Int) < 1 by decide)
    | 2, _ => exact (show 0 ≤ (0 : Int) ∧ (0 : Int) < 1 by decide)
    | 3, _ => exact (show 0 ≤ (0 : Int) ∧ (0 : Int) < 1 by decide)
  | k + 1, hk, j, hj => by
    have ih := OJ_lt hb hl k (by omega)
    have hlen := OJ_len ds k
    rw [OJ_s]
    by_cases e : j = k / 4
    · subst e
      obtain ⟨i0, i1⟩ := ih (k / 4) hj
      obtain ⟨b0, b1⟩ := getB hb hl (k := k) (by omega)
      rw [getD_set_self (by omega)]
      have e1 : min 4 (k - 4 * (k / 4)) = k % 4 := by omega
      have e2 : min 4 (k + 1 - 4 * (k / 4)) = k % 4 + 1 := by omega
      rw [e1] at i1
      rw [e2, Int.pow_succ]
      generalize (256 : Int) ^ (k % 4) = p at *
      omega
    · have : (((OJ ds k).set (k / 4) (256 * (OJ ds k).getD (k / 4) 0 + ds.getD k 0)).getD j 0) = (OJ ds k).getD j 0 := by
        rw [List.getD_eq_getElem?_getD, List.getElem?_set_ne (fun h => e h.symm), ← List.getD_eq_getElem?_getD]
      rw [this]
      obtain ⟨i0, i1⟩ := ih j hj
      refine ⟨i0, ?_⟩
      have : min 4 (k - 4 * j) = min 4 (k + 1 - 4 * j) := by omega
      rw [← this]
      exact i1
theorem OJ_24 {ds : List Int} (hb : areB ds) (hl : ds.length = 16) {k : Nat} (hk : k < 16) : 0 ≤ (OJ ds k).getD (k / 4) 0 ∧ (OJ ds k).getD (k / 4) 0 < 16777216 := by
  obtain ⟨h0, h1⟩ := OJ_lt hb hl k (by omega) (k / 4) (by omega)
  refine ⟨h0, Int.lt_of_lt_of_le h1 ?_⟩
  have e : min 4 (k - 4 * (k / 4)) = k % 4 := by omega
  rw [e]
  have : k % 4 < 4 := Nat.mod_lt _ (by decide)
  generalize k % 4 = r at this
  match r, this with
  | 0, _ => decide
  | 1, _ => decide
  | 2, _ => decide
  | 3, _ => decide
theorem OJ_isS {ds : List Int} (hb : areB ds) (hl : ds.length = 16) : isS (OJ ds 16) := by
  refine ⟨OJ_len ds 16, fun x hx => ?_⟩
  obtain ⟨j, hj⟩ := List.mem_iff_getElem?.1 hx
  have hj4 : j < 4 := by rw [← OJ_len ds 16]; exact (List.getElem?_eq_some_iff.1 hj).1
  obtain ⟨h0, h1⟩ := OJ_lt hb hl 16 (Nat.le_refl _) j hj4
  have e : (OJ ds 16).getD j 0 = x := by rw [List.getD_eq_getElem?_getD, hj]; rfl
  rw [e] at h0 h1
  refine ⟨h0, Int.lt_of_lt_of_le h1 ?_⟩
  have : min 4 (16 - 4 * j) = 4 := by omega
  rw [this]; decide
def okH (h : List Int) : Prop := h.length = 10 ∧ ∀ x ∈ h, 0 ≤ x ∧ x ≤ 65535
abbrev hd (h : List Int) : T := .agg (h.map I)
def txH (h : List Int) : ByteArray := strT ((vis h).map Y)
def dgH (h : List Int) : List Int := H (msg 4 [txH h])
def ofH (h : List Int) : List Int := OJ (dgH h) 16
theorem ofH_isS (h : List Int) : isS (ofH h) := OJ_isS (H_areB _) (H_len _)
theorem vis_areB (l : List Int) : areB (vis l) := fun b hb => by
  rcases List.mem_append.1 hb with h | h
  · exact vi_areB _ b h
  · obtain ⟨x, _, hx⟩ := List.mem_flatMap.1 h
    exact vi_areB x b hx
theorem vis_len {l : List Int} (h : ∀ x ∈ l, i64 x) (hl : l.length < 2 ^ 40) : (vis l).length ≤ 10 * l.length + 10 := by
  have h1 := flat_le vi 10 (l := l) (fun x hx => vi_len (h x hx))
  have h2 := vi_len (i64_nat (n := l.length) (by omega))
  unfold vis
  rw [List.length_append]
  omega
theorem txH_size {h : List Int} (hh : okH h) : (txH h).size ≤ 110 := by
  rw [← sB_len, txH, sB_strT _ (vis_areB h)]
  have := vis_len (l := h) (fun x hx => by have := hh.2 x hx; unfold i64; omega) (by rw [hh.1]; decide)
  rw [hh.1] at this
  omega
theorem t_OfH (h : List Int) (hh : okH h) : DCalls Tryz.prog 31 [hd h] (sm (ofH h)) := by
  refine dcalls_low (rs := [.cell 2 67]) mixed Tryz.func31 l31 rfl rfl rfl (r := [.agg _]) (Nat.le_of_ble_eq_true rfl) ?_
  have hl := hh.1
  have hI := f_Ints h (by rw [hl]; decide) (fun x hx => by have := hh.2 x hx; unfold i64; omega)
  rw [← chunk1 (f := I) h 10 hl] at hI
  have hsz := txH_size hh
  have hO := t_Of 4 [txH h] (fun s hs => by rw [List.mem_singleton.1 hs]; omega) (Nat.le_of_ble_eq_true rfl)
  have hdl : (dgH h).length = 16 := H_len _
  have hdb : areB (dgH h) := H_areB _
  unfold ofH
  unfold dgH at *
  generalize H (msg 4 [txH h]) = ds at hO hdl hdb
  unfold txH at hO
  repeat' ((conv => whnf); first | refine WC_own rfl hI ?_ | refine k_call _ (hO) ?_ | refine nT_ ?_ | (refine And.intro (by first | (exact (List.length_map _).trans hl; done) | (exact areU8_Y _; done) | (exact ⟨(List.length_map _).trans hdl, by decide⟩; done) | fail) ?_) | refine aS ?_ | fail)
  refine wpC_loopE 0 (α := Nat) (β := Unit) (fun k => {sl := [(2, .ptr 2 0), (3, .ptr 3 0), (4, .ptr 4 0), (11, .t (I k))], bx := [(2, .d 4 zI4), (3, .d 16 (ds.map Y)), (4, .d 4 ((OJ ds k).map I))]})
    (fun k => k ≤ 16) (fun k => 16 - k) (fun _ => {sl := [(2, .ptr 2 0), (4, .ptr 4 0)], bx := [(2, .d 4 zI4), (4, .d 4 ((OJ ds 16).map I))]}) (fun _ => True) 0 (by omega) ?_ ?_ ?_
  · repeat' (first | ((refine leBd ?_; exact (putL_all rfl).symm)) | exact trivial | exact LeV.same _ | exact LeB.same _ | exact rfl | exact fun _ _ _ => trivial | refine And.intro ?_ ?_)
  · intro k hk
    rcases Nat.lt_or_ge k 16 with h2 | h2
    · have hS := OJ_s ds k
      have hol := OJ_len ds k
      obtain ⟨o0, o1⟩ := OJ_24 hdb hdl h2
      obtain ⟨b0, b1⟩ := getB hdb hdl h2
      generalize OJ ds k = cur at hS hol o0 o1
      have q1 : IntKind.i64.wrap ((k : Int).tdiv 4) = (k / 4 : Nat) := by
        rw [show (k : Int).tdiv 4 = (k / 4 : Nat) from rfl]; simp (disch := omega) only [wrap_id, w32, w8, w64]
      have hw : bitsI .or .i64 (IntKind.i64.wrap (cur.getD (k / 4) 0 * 2 ^ 8)) (IntKind.i64.wrap (ds.getD k 0)) = 256 * cur.getD (k / 4) 0 + ds.getD k 0 := by
        rw [show (2 : Int) ^ 8 = 256 from rfl, wrap_id (by omega) (by omega), wrap_id (by omega) (by omega), or_add64 8 (by omega) (by omega) (by omega) (by omega) (by omega) (by omega)]
        omega
      repeat' ((conv => whnf); first | (refine nv_ (I (cur.getD (k / 4) 0)) (by first | (exact mgetk (k / 4) (by rw [q1]; omega) (by omega); done) | fail) ?_) | (refine nv_ (Y (ds.getD k 0)) (by first | (exact mgetk k (by omega) (by omega); done) | fail) ?_) | refine aD1 ?_ | (refine And.intro (by first | (omega; done) | ((rw [q1]; omega); done) | fail) ?_) | refine aS ?_ | fail)
      refine ⟨k + 1, by omega, by omega, ?_⟩
      repeat' (first | exact trivial | exact LeV.same _ | exact LeB.same _ | exact rfl | exact fun _ _ _ => trivial | exact lI | refine leBd ?_ | refine And.intro ?_ ?_)
      rw [hS, ← mset, ← hw, q1]
      simp only [Int.toNat_natCast, Nat.zero_add, Nat.mul_one]
      rfl
    · have : k = 16 := by omega
      subst this
      repeat' ((conv => whnf); first | refine aD0 ?_ | refine aS ?_ | fail)
      exact ⟨(), trivial, by repeat' (first | exact trivial | exact LeV.same _ | exact LeB.same _ | exact rfl | exact fun _ _ _ => trivial | refine And.intro ?_ ?_)⟩
  rintro - -
  have hol := OJ_len ds 16
  generalize OJ ds 16 = os at hol
  repeat' ((conv => whnf); first | (refine And.intro (by first | (exact ⟨(List.length_map _).trans hol, by decide⟩; done) | fail) ?_) | refine rt ?_ trivial | fail)
  exact congrArg T.agg (putL_all rfl)
end Go.RC
end
section
namespace Go.RC
open Go Go.DL Go.Proofs
set_option maxRecDepth 100000
set_option maxHeartbeats 1000000
def rightH (h : List Int) : Bool := h.all fun x => decide (0 ≤ x) && decide (x ≤ 65535)
theorem rightH_ok {h : List Int} (hl : h.length = 10) : rightH h = true ↔ okH h := by
  unfold rightH okH
  simp [List.all_eq_true, hl]
theorem all_take {α : Type} {p : α → Bool} {l : List α} {i : Nat} (h : i < l.length) (ha : (l.take i).all p = true) (hp : p l[i] = true) : (l.take (i + 1)).all p = true := by
  rw [List.take_succ_eq_append_getElem h, List.all_append, ha]; simp [hp]
theorem all_no {α : Type} {p : α → Bool} {l : List α} {i : Nat} (h : i < l.length) (hp : p l[i] = false) : l.all p = false := by
  rw [List.all_eq_false]; exact ⟨l[i], List.getElem_mem h, by simp [hp]⟩
def isSb (a : List Int) : Bool := a.all fun x => decide (0 ≤ x) && decide (x < M32)
theorem isSb_ok {a : List Int} (hl : a.length = 4) : isSb a = true ↔ isS a := by
  unfold isSb isS
  simp [List.all_eq_true, hl]
theorem t_IsSum (h : List Int) (hl : h.length = 4) : DCalls Tryz.prog 126 [sm h] (.bool (isSb h)) := by
  refine dcalls_low (rs := [.tmp 2]) mixed Tryz.func126 l126 rfl rfl rfl (r := [.bool _]) (Nat.le_of_ble_eq_true rfl) ?_
  repeat' ((conv => whnf); first | (refine And.intro (by first | (exact (List.length_map _).trans hl; done) | fail) ?_) | fail)
  refine wpC_loopE 0 (α := Nat) (β := Unit) (fun i => {sl := [(1, .ptr 1 0), (3, .t (I i))], bx := [(1, .d 4 (h.map I))]})
    (fun i => i ≤ 4 ∧ (h.take i).all (fun x => decide (0 ≤ x) && decide (x < M32)) = true) (fun i => 4 - i) (fun _ => {sl := [], bx := []}) (fun _ => isSb h = true) 0 (by simp) ?_ ?_ ?_
  · repeat' (first | exact trivial | exact LeV.same _ | exact LeB.same _ | exact rfl | exact fun _ _ _ => trivial | refine And.intro ?_ ?_)
  · rintro i ⟨hi, ha⟩
    rcases Nat.lt_or_ge i 4 with h2 | h2
    · have hg : h.getD i 0 = h[i] := by rw [List.getD_eq_getElem?_getD, List.getElem?_eq_getElem (by omega)]; rfl
      have hno := all_no (p := fun x => decide (0 ≤ x) && decide (x < M32)) (l := h) (i := i) (by omega)
      have hye := all_take (p := fun x => decide (0 ≤ x) && decide (x < M32)) (l := h) (i := i) (by omega) ha
      rw [← hg] at hno hye
      generalize h.getD i 0 = x at hno hye hg
      repeat' ((conv => whnf); first | (refine nv_ (I x) (by first | ((rw [mgetk i (by omega) (by omega), List.getD_eq_getElem?_getD, List.getElem?_eq_getElem (by omega)]; exact congrArg I hg.symm); done) | fail) ?_) | refine aD1 ?_ | refine nD_ (fun hq => ?_) (fun hq => ?_) | (refine And.intro (by first | (omega; done) | fail) ?_) | refine aS ?_ | fail)
      · exact rb (hno (by simp [M32]; omega)).symm trivial
      · exact rb (hno (by simp [M32]; omega)).symm trivial
      · exact ⟨i + 1, ⟨by omega, hye (by simp [M32]; omega)⟩, by omega, by repeat' (first | exact trivial | exact LeV.same _ | exact LeB.same _ | exact rfl | exact fun _ _ _ => trivial | exact lI | refine And.intro ?_ ?_)⟩
    · have : i = 4 := by omega
      subst this
      repeat' ((conv => whnf); first | refine aD0 ?_ | refine aS ?_ | fail)
      rw [List.take_of_length_le (by omega)] at ha
      exact ⟨(), ha, by repeat' (first | exact trivial | exact rfl | exact fun _ _ _ => trivial | refine And.intro ?_ ?_)⟩
  rintro - hr
  repeat' ((conv => whnf); first | exact trivial | refine rb1 ?_ | fail)
def cmpI (x y : Int) : Int := if x < y then -1 else if y < x then 1 else 0
theorem t_isNaN (x : Int) : DCalls Tryz.prog 137 [I x] (.bool false) := by
  refine dcalls_low (rs := [.tmp 2]) mixed Tryz.func137 l137 rfl rfl rfl (r := [.bool _]) (Nat.le_of_ble_eq_true rfl) ?_
  repeat' ((conv => whnf); first | exact trivial | refine aN0 ?_ | refine rb0 ?_ | refine aS ?_ | fail)
theorem t_cmp (x y : Int) : DCalls Tryz.prog 85 [I x, I y] (I (cmpI x y)) := by
  refine dcalls_low (rs := [.tmp 4]) mixed Tryz.func85 l85 rfl rfl rfl (r := [I _]) (Nat.le_of_ble_eq_true rfl) ?_
  unfold cmpI
  repeat' ((conv => whnf); first | exact trivial | refine k_call _ (t_isNaN _) ?_ | refine nD_ (fun hq => ?_) (fun hq => ?_) | refine rix ?_ | refine aS ?_ | fail)
  all_goals (refine ri ?_ trivial; split <;> (try split) <;> first | rfl | omega)
def orI : List Int → Int
  | [] => 0
  | x :: l => if x ≠ 0 then x else orI l
theorem t_Or3 (x y z : Int) : DCalls Tryz.prog 84 [.slice 1 [I x, I y, I z]] (I (orI [x, y, z])) := by
  refine dcalls_low (rs := [.tmp 2]) mixed Tryz.func84 l84 rfl rfl rfl (r := [I _]) (Nat.le_of_ble_eq_true rfl) ?_
  skip
  refine wpC_loopE 0 (α := Nat) (β := Unit) (fun i => {sl := [(3, .t (I 0)), (6, .t (.slice 1 [I x, I y, I z])), (7, .t (I 3)), (8, .t (I i))], bx := []})
    (fun i => i ≤ 3 ∧ orI ([x, y, z].drop i) = orI [x, y, z]) (fun i => 3 - i) (fun _ => {sl := [(3, .t (I 0))], bx := []}) (fun _ => orI [x, y, z] = 0) 0 ⟨by omega, rfl⟩ ?_ ?_ ?_
  · repeat' (first | exact trivial | exact LeV.same _ | exact rfl | exact fun _ _ _ => trivial | refine And.intro ?_ ?_)
  · rintro i ⟨hi, ho⟩
    have step : ∀ w l, orI (w :: l) = orI [x, y, z] → (w ≠ 0 → w = orI [x, y, z]) ∧ (w = 0 → orI l = orI [x, y, z]) := fun w l h => by
      unfold orI at h
      refine ⟨fun hw => ?_, fun hw => ?_⟩
      · rw [if_pos hw] at h; exact h
      · rw [if_neg (by simpa using hw)] at h; exact h
    match i, hi with
    | 0, _ =>
      obtain ⟨s1, s2⟩ := step x [y, z] ho
      repeat' ((conv => whnf); first | exact trivial | refine nT_ ?_ | refine aD1 ?_ | refine nN_ (fun hq => ?_) (fun hq => ?_) | refine rix ?_ | refine aS ?_ | fail)
      exact ⟨1, ⟨by omega, s2 hq⟩, by omega, by repeat' (first | exact trivial | exact LeV.same _ | exact rfl | exact fun _ _ _ => trivial | refine And.intro ?_ ?_)⟩
    | 1, _ =>
      obtain ⟨s1, s2⟩ := step y [z] ho
      repeat' ((conv => whnf); first | exact trivial | refine nT_ ?_ | refine aD1 ?_ | refine nN_ (fun hq => ?_) (fun hq => ?_) | refine rix ?_ | refine aS ?_ | fail)
      exact ⟨2, ⟨by omega, s2 hq⟩, by omega, by repeat' (first | exact trivial | exact LeV.same _ | exact rfl | exact fun _ _ _ => trivial | refine And.intro ?_ ?_)⟩
    | 2, _ =>
      obtain ⟨s1, s2⟩ := step z [] ho
      repeat' ((conv => whnf); first | exact trivial | refine nT_ ?_ | refine aD1 ?_ | refine nN_ (fun hq => ?_) (fun hq => ?_) | refine rix ?_ | refine aS ?_ | fail)
      exact ⟨3, ⟨by omega, s2 hq⟩, by omega, by repeat' (first | exact trivial | exact LeV.same _ | exact rfl | exact fun _ _ _ => trivial | refine And.intro ?_ ?_)⟩
    | 3, _ =>
      repeat' ((conv => whnf); first | refine aD0 ?_ | refine aS ?_ | fail)
      exact ⟨(), ho.symm, by repeat' (first | exact trivial | exact LeV.same _ | exact rfl | exact fun _ _ _ => trivial | refine And.intro ?_ ?_)⟩
    | i + 4, h => omega
  rintro - hr
  repeat' ((conv => whnf); first | exact trivial | refine rix ?_ | fail)
abbrev nm (s p f : Int) : T := .agg [I s, I p, I f]
def cmpN (a b : Int × Int × Int) : Int := orI [cmpI a.1 b.1, cmpI a.2.1 b.2.1, cmpI a.2.2 b.2.2]
def rightN (s p f : Int) : Bool := decide (s ≥ 1) && decide (s ≤ 2) && decide (p ≥ 0) && decide (p ≤ 65535) && decide (f ≥ 0) && decide (f ≤ 1073741824)
theorem t_right (s p f : Int) : DCalls Tryz.prog 38 [nm s p f] (.bool (rightN s p f)) := by
  refine dcalls_low (rs := [.tmp 2]) mixed Tryz.func38 l38 rfl rfl rfl (r := [.bool _]) (Nat.le_of_ble_eq_true rfl) ?_
  unfold rightN
  repeat' ((conv => whnf); first | exact trivial | refine nD_ (fun hq => ?_) (fun hq => ?_) | refine nT_ ?_ | refine rb1 ?_ | refine rb0 ?_ | refine aS ?_ | fail)
  all_goals (refine rb ?_ trivial; simp [*])
theorem t_compare (a b : Int × Int × Int) : DCalls Tryz.prog 43 [nm a.1 a.2.1 a.2.2, nm b.1 b.2.1 b.2.2] (I (cmpN a b)) := by
  refine dcalls_low (rs := [.tmp 4]) mixed Tryz.func43 l43 rfl rfl rfl (r := [I _]) (Nat.le_of_ble_eq_true rfl) ?_
  unfold cmpN
  repeat' ((conv => whnf); first | exact trivial | refine k_call _ (t_cmp _ _) ?_ | refine k_call _ (t_Or3 _ _ _) ?_ | refine nT_ ?_ | refine rix ?_ | refine aS ?_ | fail)
abbrev ln (x : List Int) : T := .agg (x.map I)
theorem t_of (x : List Int) (hx : x.length = 8) : DCalls Tryz.prog 46 [ln x] (nm (x.getD 0 0) (x.getD 1 0) (x.getD 2 0)) := by
  refine dcalls_low (rs := [.cell 2 85]) mixed Tryz.func46 l46 rfl rfl rfl (r := [.agg _]) (Nat.le_of_ble_eq_true rfl) ?_
  match x, hx with
  | [_, _, _, _, _, _, _, _], _ => repeat' ((conv => whnf); first | exact trivial | refine nT_ ?_ | refine aS ?_ | fail)
def ixP {α : Type} (p : α → Bool) : List α → Int → Int
  | [], _ => -1
  | x :: l, i => if p x then i else ixP p l (i + 1)
theorem ixP_any {α : Type} (p : α → Bool) : ∀ (l : List α) (i : Int), 0 ≤ i → decide (ixP p l i ≥ 0) = l.any p
  | [], _, _ => rfl
  | x :: l, i, h => by
    unfold ixP
    cases hp : p x with
    | true => simp [hp, h]
    | false =>
      simp only [Bool.false_eq_true, if_false, List.any_cons, hp, Bool.false_or]
      exact ixP_any p l (i + 1) (by omega)
theorem ixP_drop {α : Type} (p : α → Bool) {l : List α} {i : Nat} (h : i < l.length) : ixP p (l.drop i) i = if p l[i] then (i : Int) else ixP p (l.drop (i + 1)) (i + 1 : Nat) := by
  rw [List.drop_eq_getElem_cons h]
  conv => lhs; unfold ixP
  rfl
theorem t_IndexFunc (f : FuncId) (p : Int → Bool) (l : List Int) (hl : l.length < 2 ^ 60) (hf : ∀ x ∈ l, DCalls Tryz.prog f [I x] (.bool (p x))) : DCalls Tryz.prog 80 [.slice 1 (l.map I), .clos f []] (I (ixP p l 0)) := by
  refine dcalls_low (rs := [.tmp 4]) mixed Tryz.func80 l80 rfl rfl rfl (r := [I _]) (Nat.le_of_ble_eq_true rfl) ?_
  skip
  refine wpC_loopE 0 (α := Nat) (β := Unit) (fun i => {sl := [(0, .t (.slice 1 (l.map I))), (1, .t (.clos f [])), (7, .t (I l.length)), (8, .t (I i))], bx := []})
    (fun i => i ≤ l.length ∧ ixP p (l.drop i) i = ixP p l 0) (fun i => l.length - i) (fun _ => {sl := [], bx := []}) (fun _ => ixP p l 0 = -1) 0 ⟨by omega, rfl⟩ ?_ ?_ ?_
  · repeat' (first | ((refine leI ?_; simp; done)) | exact trivial | exact LeV.same _ | exact rfl | exact fun _ _ _ => trivial | refine And.intro ?_ ?_)
  · rintro i ⟨hi, ho⟩
    rcases Nat.lt_or_ge i l.length with h2 | h2
    · rw [ixP_drop p h2] at ho
      have hc := hf l[i] (List.getElem_mem h2)
      generalize hxe : l[i] = x at ho hc
      cases hp : p x with
      | true =>
        rw [hp, if_pos rfl] at ho
        rw [hp] at hc
        repeat' ((conv => whnf); first | exact trivial | (refine nv_ (I x) (by first | ((simp [h2, hxe]; done); done) | fail) ?_) | refine k_call _ (hc) ?_ | refine nT_ ?_ | refine aD1 ?_ | refine rix ?_ | (refine And.intro (by first | ((simp; omega); done) | fail) ?_) | refine aS ?_ | fail)
      | false =>
        rw [hp, if_neg (by simp)] at ho
        rw [hp] at hc
        repeat' ((conv => whnf); first | (refine nv_ (I x) (by first | ((simp [h2, hxe]; done); done) | fail) ?_) | refine k_call _ (hc) ?_ | refine nT_ ?_ | refine aD1 ?_ | (refine And.intro (by first | ((simp; omega); done) | fail) ?_) | refine aS ?_ | fail)
        exact ⟨i + 1, ⟨by omega, ho⟩, by omega, by repeat' (first | exact trivial | exact LeV.same _ | exact rfl | exact fun _ _ _ => trivial | exact lI | refine And.intro ?_ ?_)⟩
    · have : i = l.length := by omega
      subst this
      rw [List.drop_length] at ho
      repeat' ((conv => whnf); first | refine aD0 ?_ | refine aS ?_ | fail)
      exact ⟨(), ho.symm, by repeat' (first | exact trivial | exact rfl | exact fun _ _ _ => trivial | refine And.intro ?_ ?_)⟩
  rintro - hr
  repeat' ((conv => whnf); first | exact trivial | refine rix ?_ | fail)
theorem t_ContainsFunc (f : FuncId) (p : Int → Bool) (l : List Int) (hl : l.length < 2 ^ 60) (hf : ∀ x ∈ l, DCalls Tryz.prog f [I x] (.bool (p x))) : DCalls Tryz.prog 39 [.slice 1 (l.map I), .clos f []] (.bool (l.any p)) := by
  refine dcalls_low (rs := [.tmp 4]) mixed Tryz.func39 l39 rfl rfl rfl (r := [.bool _]) (Nat.le_of_ble_eq_true rfl) ?_
  have hc := t_IndexFunc f p l hl hf
  rw [← ixP_any p l 0 (Int.le_refl 0)]
  repeat' ((conv => whnf); first | exact trivial | refine k_call _ (hc) ?_ | refine nD_ (fun hq => ?_) (fun hq => ?_) | refine rb1 ?_ | refine rb0 ?_ | refine aS ?_ | fail)
theorem t_odd (x : Int) : DCalls Tryz.prog 45 [I x] (.bool (decide (x < 0) || decide (x > 4294967295))) := by
  refine dcalls_low (rs := [.tmp 2]) mixed Tryz.func45 l45 rfl rfl rfl (r := [.bool _]) (Nat.le_of_ble_eq_true rfl) ?_
  repeat' ((conv => whnf); first | exact trivial | refine nD_ (fun hq => ?_) (fun hq => ?_) | refine rb1 ?_ | refine rb0 ?_ | refine aS ?_ | fail)
  all_goals (refine rb ?_ trivial; simp [*])
theorem t_wide (x : Int) : DCalls Tryz.prog 40 [I x] (.bool (decide (x < 0) || decide (x > 65535))) := by
  refine dcalls_low (rs := [.tmp 2]) mixed Tryz.func40 l40 rfl rfl rfl (r := [.bool _]) (Nat.le_of_ble_eq_true rfl) ?_
  repeat' ((conv => whnf); first | exact trivial | refine nD_ (fun hq => ?_) (fun hq => ?_) | refine rb1 ?_ | refine rb0 ?_ | refine aS ?_ | fail)
  all_goals (refine rb ?_ trivial; simp [*])
end Go.RC
end
section
namespace Go.RC
open Go Go.DL Go.Proofs
set_option maxRecDepth 100000
set_option maxHeartbeats 1000000
abbrev N3 := Int × Int × Int
abbrev linesT (ls : List (List Int)) : T := .slice 8 (ls.map ln)
abbrev rcC (n i : Int) (ls : List (List Int)) (pv : List Int) : List T := I n :: I i :: linesT ls :: pv.map Y
abbrev rcT (n i : Int) (ls : List (List Int)) (pv : List Int) : T := .agg (rcC n i ls pv)
theorem ex8 {x : List Int} (h : x.length = 8) : ∃ a b c d e f g i, x = [a, b, c, d, e, f, g, i] := by
  match x, h with
  | [a, b, c, d, e, f, g, i], _ => exact ⟨a, b, c, d, e, f, g, i, rfl⟩
theorem cells8 {ls : List (List Int)} (hx : ∀ x ∈ ls, x.length = 8) {j : Nat} (h : j < ls.length) : ((ls.map ln)[j]?.getD .nil).cells.length = 8 := by
  rw [List.getElem?_map, List.getElem?_eq_getElem h]
  exact (List.length_map _).trans (hx _ (List.getElem_mem h))
theorem aggLn {ls : List (List Int)} {j : Nat} {x : List Int} (h : ls[j]? = some x) : T.agg (((ls.map ln)[j]?.getD .nil).cells) = ln x := by
  rw [List.getElem?_map, h]; rfl
def nmOf (x : List Int) : N3 := (x.getD 0 0, x.getD 1 0, x.getD 2 0)
def okLn (x : List Int) : Bool := rightN (x.getD 0 0) (x.getD 1 0) (x.getD 2 0) && (decide (1 ≤ x.getD 3 0) && (decide (x.getD 3 0 ≤ 1073741824) && isSb (x.drop 4)))
def okAt (p : Option (List Int)) (x : List Int) : Bool := okLn x && (match p with | none => true | some q => decide (cmpN (nmOf q) (nmOf x) < 0))
def okFrom : Option (List Int) → List (List Int) → Bool
  | _, [] => true
  | p, x :: r => okAt p x && okFrom (some x) r
def prevAt (ls : List (List Int)) : Nat → Option (List Int)
  | 0 => none
  | k + 1 => ls[k]?
def chk (n i : Int) (ls : List (List Int)) : Int := if ls.length > 1000 then 2 else if n < 0 ∨ n ≥ 200 ∨ i < 0 ∨ i > 1048576 then 1 else if okFrom none ls then 0 else 1
theorem okFrom_drop {ls : List (List Int)} {k : Nat} (h : k < ls.length) : okFrom (prevAt ls k) (ls.drop k) = (okAt (prevAt ls k) ls[k] && okFrom (prevAt ls (k + 1)) (ls.drop (k + 1))) := by
  rw [List.drop_eq_getElem_cons h]
  show (okAt _ _ && okFrom (some ls[k]) _) = _
  show _ = (_ && okFrom ls[k]? _)
  rw [List.getElem?_eq_getElem h]
theorem odd_any (e f g i : Int) : ([e, f, g, i].any fun x => decide (x < 0) || decide (x > 4294967295)) = !isSb [e, f, g, i] := by
  have h : ∀ x : Int, (decide (x < 0) || decide (x > 4294967295)) = !(decide (0 ≤ x) && decide (x < M32)) := fun x => by
    unfold M32
    by_cases h1 : x < 0 <;> by_cases h2 : x > 4294967295 <;> simp [h1, h2] <;> omega
  simp only [isSb, List.any_cons, List.all_cons, h, Bool.not_and, List.any_nil, List.all_nil, Bool.or_false, Bool.and_true]
theorem okLn8 (a b c d e f g j : Int) : okLn [a, b, c, d, e, f, g, j] = (rightN a b c && (decide (1 ≤ d) && (decide (d ≤ 1073741824) && isSb [e, f, g, j]))) := rfl
theorem t_Check (n i : Int) (ls : List (List Int)) (pv : List Int) (hl : ls.length < 2 ^ 40) (hx : ∀ x ∈ ls, x.length = 8) (hp : pv.length = 16) : DCalls Tryz.prog 13 [rcT n i ls pv] (I (chk n i ls)) := by
  refine dcalls_low (rs := [.tmp 2]) mixed Tryz.func13 l13 rfl rfl rfl (r := [I _]) (Nat.le_of_ble_eq_true rfl) ?_
  have hlen : (rcC n i ls pv).length = 19 := by simp [hp]
  unfold chk
  by_cases h1 : ls.length > 1000
  · rw [if_pos h1]
    repeat' ((conv => whnf); first | exact trivial | (refine now_D1 (by simp; omega) ?_) | refine nT_ ?_ | refine rix ?_ | (refine And.intro (by first | (exact hlen; done) | fail) ?_) | refine aS ?_ | fail)
  rw [if_neg h1]
  by_cases h2 : n < 0 ∨ n ≥ 200 ∨ i < 0 ∨ i > 1048576
  · rw [if_pos h2]
    repeat' ((conv => whnf); first | exact trivial | (refine now_D0 (by simp; omega) ?_) | refine nT_ ?_ | refine aD1 ?_ | refine nD_ (fun hq => ?_) (fun hq => ?_) | refine rix ?_ | (refine And.intro (by first | (exact hlen; done) | fail) ?_) | refine aS ?_ | fail)
    all_goals omega
  rw [if_neg h2]
  repeat' ((conv => whnf); first | (refine now_D0 (by simp; omega) ?_) | refine nT_ ?_ | (refine And.intro (by first | (exact hlen; done) | fail) ?_) | refine aS ?_ | fail)
  refine wpC_loopE 0 (α := Nat) (β := Unit) (fun k => {sl := [(1, .ptr 1 0), (3, .t (.clos 45 [])), (29, .t (linesT ls)), (30, .t (I ls.length)), (31, .t (I k))], bx := [(1, .d 19 (rcC n i ls pv))]})
    (fun k => k ≤ ls.length ∧ okFrom (prevAt ls k) (ls.drop k) = okFrom none ls) (fun k => ls.length - k) (fun _ => {sl := [], bx := []}) (fun _ => okFrom none ls = true) 0 ⟨by omega, rfl⟩ ?_ ?_ ?_
  · repeat' (first | ((refine leI ?_; simp; done)) | exact trivial | exact LeV.same _ | exact LeB.same _ | exact rfl | exact fun _ _ _ => trivial | refine And.intro ?_ ?_)
  · rintro k ⟨hk, ho⟩
    rcases Nat.lt_or_ge k ls.length with h3 | h3
    · rw [okFrom_drop h3] at ho
      have hgo : okAt (prevAt ls k) ls[k] = true → okFrom (prevAt ls (k + 1)) (ls.drop (k + 1)) = okFrom none ls := fun h => by rw [h] at ho; exact ho
      have hno : okAt (prevAt ls k) ls[k] = false → (if okFrom none ls = true then (0 : Int) else 1) = 1 := fun h => by rw [← ho, h]; rfl
      obtain ⟨a, b, c, d, e, f, g, j, hxe⟩ := ex8 (hx ls[k] (List.getElem_mem h3))
      have hC := t_ContainsFunc 45 _ [e, f, g, j] (Nat.le_of_ble_eq_true rfl) (fun x _ => t_odd x)
      rw [odd_any] at hC
      have hR := t_right a b c
      have hO := t_of [a, b, c, d, e, f, g, j] rfl
      rw [hxe] at hgo hno
      have hno : okAt (prevAt ls k) [a, b, c, d, e, f, g, j] = false → (1 : Int) = if okFrom none ls = true then (0 : Int) else 1 := fun h => (hno h).symm
      have hp1 : ∀ h : 0 < k, ∃ p0 p1 p2 p3 p4 p5 p6 p7, ls[k - 1]? = some [p0, p1, p2, p3, p4, p5, p6, p7] ∧ prevAt ls k = some [p0, p1, p2, p3, p4, p5, p6, p7] := fun h => by
        obtain ⟨p0, p1, p2, p3, p4, p5, p6, p7, hp⟩ := ex8 (hx ls[k - 1] (List.getElem_mem (by omega)))
        refine ⟨p0, p1, p2, p3, p4, p5, p6, p7, by rw [← hp]; exact List.getElem?_eq_getElem _, ?_⟩
        obtain ⟨k, rfl⟩ : ∃ j, k = j + 1 := ⟨k - 1, by omega⟩
        rw [← hp]; exact List.getElem?_eq_getElem _
      have hO2 := fun p0 p1 p2 p3 p4 p5 p6 p7 => t_of [p0, p1, p2, p3, p4, p5, p6, p7] rfl
      cases h4 : rightN a b c with
      | false =>
        rw [h4] at hR
        have hf := hno (by unfold okAt; rw [okLn8, h4]; rfl)
        repeat' ((conv => whnf); first | exact trivial | (refine nv_ (ln [a, b, c, d, e, f, g, j]) (by first | ((simp [h3, hxe]); done) | fail) ?_) | refine k_call _ (hO) ?_ | refine k_call _ (hR) ?_ | refine nT_ ?_ | refine aD1 ?_ | refine rix ?_ | (refine And.intro (by first | ((simp; omega); done) | fail) ?_) | refine aS ?_ | fail)
      | true =>
        rw [h4] at hR
        by_cases h5 : 1 ≤ d
        · by_cases h6 : d ≤ 1073741824
          · cases h7 : isSb [e, f, g, j] with
            | false =>
              rw [h7] at hC
              have hf := hno (by unfold okAt; rw [okLn8, h7]; simp)
              repeat' ((conv => whnf); first | exact trivial | (refine nv_ (ln [a, b, c, d, e, f, g, j]) (by first | ((simp [h3, hxe]); done) | fail) ?_) | refine k_call _ (hO) ?_ | refine k_call _ (hR) ?_ | refine k_call _ (hC) ?_ | refine nT_ ?_ | refine aD1 ?_ | refine aD0 ?_ | refine rix ?_ | (refine And.intro (by first | ((simp; omega); done) | fail) ?_) | refine aS ?_ | fail)
            | true =>
              rw [h7] at hC
              have hok : okLn [a, b, c, d, e, f, g, j] = true := by rw [okLn8, h4, h7]; simp [h5, h6]
              by_cases h8 : 0 < k
              · obtain ⟨p0, p1, p2, p3, p4, p5, p6, p7, hp2, hp3⟩ := hp1 h8
                rw [hp3] at hno hgo
                have hcm := t_compare (p0, p1, p2) (a, b, c)
                have e1 : okAt (some [p0, p1, p2, p3, p4, p5, p6, p7]) [a, b, c, d, e, f, g, j] = decide (cmpN (p0, p1, p2) (a, b, c) < 0) := by unfold okAt; rw [hok]; rfl
                rw [e1] at hno hgo
                have e2 : (IntKind.i64.wrap ((k : Int) - 1)).toNat = k - 1 := by simp (disch := omega) only [wrap_id, w32, w8, w64]; omega
                have e3 : IntKind.i64.wrap ((k : Int) - 1) = k - 1 := by simp (disch := omega) only [wrap_id, w32, w8, w64]
                by_cases h9 : cmpN (p0, p1, p2) (a, b, c) < 0
                · repeat' ((conv => whnf); first | (refine nv_ (ln [a, b, c, d, e, f, g, j]) (by first | ((simp [h3, hxe]; done); done) | fail) ?_) | (refine nv_ (ln [p0, p1, p2, p3, p4, p5, p6, p7]) (by first | ((rw [e2, List.getElem?_map, hp2]; rfl); done) | fail) ?_) | refine k_call _ (hO) ?_ | refine k_call _ (hR) ?_ | refine k_call _ (hC) ?_ | refine k_call _ (hO2 p0 p1 p2 p3 p4 p5 p6 p7) ?_ | refine k_call _ (hcm) ?_ | refine nT_ ?_ | refine aD1 ?_ | refine aD0 ?_ | (refine And.intro (by first | ((simp; omega); done) | ((rw [e3]; simp; omega); done) | fail) ?_) | refine aS ?_ | fail)
                  exact ⟨k + 1, ⟨by omega, hgo (by simp [h9])⟩, by omega, by repeat' (first | exact trivial | exact LeV.same _ | exact LeB.same _ | exact rfl | exact fun _ _ _ => trivial | exact lI | refine And.intro ?_ ?_)⟩
                · have hf := hno (by simp [h9])
                  repeat' ((conv => whnf); first | exact trivial | (refine nv_ (ln [a, b, c, d, e, f, g, j]) (by first | ((simp [h3, hxe]; done); done) | fail) ?_) | (refine nv_ (ln [p0, p1, p2, p3, p4, p5, p6, p7]) (by first | ((rw [e2, List.getElem?_map, hp2]; rfl); done) | fail) ?_) | refine k_call _ (hO) ?_ | refine k_call _ (hR) ?_ | refine k_call _ (hC) ?_ | refine k_call _ (hO2 p0 p1 p2 p3 p4 p5 p6 p7) ?_ | refine k_call _ (hcm) ?_ | refine nT_ ?_ | refine aD1 ?_ | refine aD0 ?_ | refine rix ?_ | (refine And.intro (by first | ((simp; omega); done) | ((rw [e3]; simp; omega); done) | fail) ?_) | refine aS ?_ | fail)
              · have : k = 0 := by omega
                subst this
                repeat' ((conv => whnf); first | (refine nv_ (ln [a, b, c, d, e, f, g, j]) (by first | ((simp [h3, hxe]; done); done) | fail) ?_) | refine k_call _ (hO) ?_ | refine k_call _ (hR) ?_ | refine k_call _ (hC) ?_ | refine nT_ ?_ | refine aD1 ?_ | refine aD0 ?_ | (refine And.intro (by first | ((simp; omega); done) | fail) ?_) | refine aS ?_ | fail)
                exact ⟨0 + 1, ⟨by omega, hgo (by unfold okAt; rw [hok]; rfl)⟩, by omega, by repeat' (first | exact trivial | exact LeV.same _ | exact LeB.same _ | exact rfl | exact fun _ _ _ => trivial | refine And.intro ?_ ?_)⟩
          · have hf := hno (by unfold okAt; rw [okLn8]; simp [h6])
            repeat' ((conv => whnf); first | exact trivial | (refine nv_ (ln [a, b, c, d, e, f, g, j]) (by first | ((simp [h3, hxe]); done) | fail) ?_) | refine k_call _ (hO) ?_ | refine k_call _ (hR) ?_ | refine nT_ ?_ | refine aD1 ?_ | refine aD0 ?_ | refine rix ?_ | (refine And.intro (by first | ((simp; omega); done) | fail) ?_) | refine aS ?_ | fail)
        · have hf := hno (by unfold okAt; rw [okLn8]; simp [h5])
          repeat' ((conv => whnf); first | exact trivial | (refine nv_ (ln [a, b, c, d, e, f, g, j]) (by first | ((simp [h3, hxe]); done) | fail) ?_) | refine k_call _ (hO) ?_ | refine k_call _ (hR) ?_ | refine nT_ ?_ | refine aD1 ?_ | refine rix ?_ | (refine And.intro (by first | ((simp; omega); done) | fail) ?_) | refine aS ?_ | fail)
    · have : k = ls.length := by omega
      subst this
      rw [List.drop_length] at ho
      repeat' ((conv => whnf); first | refine aD0 ?_ | refine aS ?_ | fail)
      exact ⟨(), ho.symm, by repeat' (first | exact trivial | exact rfl | exact fun _ _ _ => trivial | refine And.intro ?_ ?_)⟩
  rintro - hr
  rw [hr]
  repeat' ((conv => whnf); first | exact trivial | refine rix ?_ | fail)
end Go.RC
end
section
namespace Go.RC
open Go Go.DL Go.Proofs
set_option maxRecDepth 100000
set_option maxHeartbeats 1000000
theorem eqL_map {k : IntKind} : ∀ (a b : List Int), eqL (a.map (T.int k)) (b.map (T.int k)) = decide (a = b)
  | [], [] => rfl
  | [], _ :: _ => rfl
  | _ :: _, [] => rfl
  | x :: a, y :: b => by
    show (x == y && eqL (a.map (T.int k)) (b.map (T.int k))) = _
    rw [eqL_map a b]
    by_cases h : x = y <;> by_cases h2 : a = b <;> simp [h, h2]
theorem fits_map {k : IntKind} : ∀ (a : List Int), fits (List.replicate a.length (.int k)) (a.map (T.int k))
  | [] => trivial
  | x :: a => ⟨rfl, fits_map a⟩
theorem fits8 {a : List Int} (h : a.length = 8) : fits [.int .i64, .int .i64, .int .i64, .int .i64, .int .i64, .int .i64, .int .i64, .int .i64] (a.map I) := by
  have := fits_map (k := .i64) a
  rw [h] at this; exact this
theorem fits4 {a : List Int} (h : a.length = 4) : fits [.int .i64, .int .i64, .int .i64, .int .i64] (a.map I) := by
  have := fits_map (k := .i64) a
  rw [h] at this; exact this
theorem fits16 {a : List Int} (h : a.length = 16) : fits [.int .u8, .int .u8, .int .u8, .int .u8, .int .u8, .int .u8, .int .u8, .int .u8, .int .u8, .int .u8, .int .u8, .int .u8, .int .u8, .int .u8, .int .u8, .int .u8] (a.map Y) := by
  have := fits_map (k := .u8) a
  rw [h] at this; exact this
theorem eqI {a b : List Int} {c : Bool} (h : decide (a = b) = c) : eqL (a.map I) (b.map I) = c := (eqL_map a b).trans h
theorem eqY {a b : List Int} {c : Bool} (h : decide (a = b) = c) : eqL (a.map Y) (b.map Y) = c := (eqL_map a b).trans h
theorem neI {a b : List Int} {c : Bool} (h : decide (a = b) = c) : (!eqL (a.map I) (b.map I)) = !c := congrArg (!·) (eqI h)
theorem neY {a b : List Int} {c : Bool} (h : decide (a = b) = c) : (!eqL (a.map Y) (b.map Y)) = !c := congrArg (!·) (eqY h)
theorem aggPv {n i : Int} {ls : List (List Int)} {pv : List Int} (hp : pv.length = 16) : T.agg (((rcC n i ls pv).drop 3).take 16) = dg16 pv := by
  show T.agg ((pv.map Y).take 16) = _
  rw [List.take_of_length_le (by simp [hp])]
theorem take_eq {α : Type} {a b : List α} {i : Nat} {x : α} (h : a.take i = b.take i) (ha : a[i]? = some x) (hb : b[i]? = some x) : a.take (i + 1) = b.take (i + 1) := by
  rw [List.take_add_one, List.take_add_one, h, ha, hb]
theorem t_EqualLine (a b : List (List Int)) (ha : ∀ x ∈ a, x.length = 8) (hb : ∀ x ∈ b, x.length = 8) (hl : a.length < 2 ^ 60) : DCalls Tryz.prog 87 [linesT a, linesT b] (.bool (decide (a = b))) := by
  refine dcalls_low (rs := [.tmp 4]) mixed Tryz.func87 l87 rfl rfl rfl (r := [.bool _]) (Nat.le_of_ble_eq_true rfl) ?_
  by_cases hll : a.length = b.length
  case neg =>
    have hf : false = decide (a = b) := (decide_eq_false (fun e => hll (by rw [e]))).symm
    repeat' ((conv => whnf); first | exact trivial | (refine now_N1 (by simp; omega) ?_) | refine rb0 ?_ | refine aS ?_ | fail)
  repeat' ((conv => whnf); first | refine now_N0 (by simp [hll]) ?_ | refine aS ?_ | fail)
  refine wpC_loopE 0 (α := Nat) (β := Unit) (fun i => {sl := [(0, .t (linesT a)), (1, .t (linesT b)), (12, .t (I a.length)), (13, .t (I i))], bx := []})
    (fun i => i ≤ a.length ∧ a.take i = b.take i) (fun i => a.length - i) (fun _ => {sl := [], bx := []}) (fun _ => a = b) 0 ⟨by omega, rfl⟩ ?_ ?_ ?_
  · repeat' (first | ((refine leI ?_; simp; done)) | exact trivial | exact LeV.same _ | exact rfl | exact fun _ _ _ => trivial | refine And.intro ?_ ?_)
  · rintro i ⟨hi, ho⟩
    rcases Nat.lt_or_ge i a.length with h2 | h2
    · have h3 : i < b.length := by omega
      have hx8 := ha a[i] (List.getElem_mem h2)
      have hy8 := hb b[i] (List.getElem_mem h3)
      have hxa : a[i]? = some a[i] := List.getElem?_eq_getElem h2
      have hyb : b[i]? = some b[i] := List.getElem?_eq_getElem h3
      generalize a[i] = x at hx8 hxa
      generalize b[i] = y at hy8 hyb
      cases hxy : decide (x = y) with
      | true =>
        have := of_decide_eq_true hxy
        subst this
        repeat' ((conv => whnf); first | (refine nv_ (ln x) (by first | (exact aggLn (by simp only [Int.toNat_natCast]; first | exact hxa | exact hyb); done) | fail) ?_) | refine nb_ (!true) (neI hxy) ?_ | refine nT_ ?_ | refine aD1 ?_ | (refine And.intro (by first | ((simp; omega); done) | (exact cells8 ha (by simp only [Int.toNat_natCast]; omega); done) | (exact cells8 hb (by simp only [Int.toNat_natCast]; omega); done) | (exact ⟨fits8 hx8, fits8 hx8⟩; done) | fail) ?_) | refine aS ?_ | fail)
        exact ⟨i + 1, ⟨by omega, take_eq ho hxa hyb⟩, by omega, by repeat' (first | exact trivial | exact LeV.same _ | exact rfl | exact fun _ _ _ => trivial | exact lI | refine And.intro ?_ ?_)⟩
      | false =>
        have hf : false = decide (a = b) := (decide_eq_false (fun e => by subst e; rw [hxa] at hyb; exact of_decide_eq_false hxy (Option.some.inj hyb))).symm
        repeat' ((conv => whnf); first | exact trivial | (refine nv_ (ln x) (by first | (exact aggLn (by simp only [Int.toNat_natCast]; exact hxa); done) | fail) ?_) | (refine nv_ (ln y) (by first | (exact aggLn (by simp only [Int.toNat_natCast]; exact hyb); done) | fail) ?_) | refine nb_ (!false) (neI hxy) ?_ | refine nT_ ?_ | refine aD1 ?_ | refine rb0 ?_ | (refine And.intro (by first | ((simp; omega); done) | (exact cells8 ha (by simp only [Int.toNat_natCast]; omega); done) | (exact cells8 hb (by simp only [Int.toNat_natCast]; omega); done) | (exact ⟨fits8 hx8, fits8 hy8⟩; done) | fail) ?_) | refine aS ?_ | fail)
    · have : i = a.length := by omega
      subst this
      rw [List.take_length, hll, List.take_length] at ho
      repeat' ((conv => whnf); first | refine aD0 ?_ | refine aS ?_ | fail)
      exact ⟨(), ho, by repeat' (first | exact trivial | exact rfl | exact fun _ _ _ => trivial | refine And.intro ?_ ?_)⟩
  rintro - hr
  repeat' ((conv => whnf); first | exact trivial | refine rb1 ?_ | fail)
def sameB (n i : Int) (ls : List (List Int)) (pv : List Int) (n' i' : Int) (ls' : List (List Int)) (pv' : List Int) : Bool := n == n' && (i == i' && (decide (pv = pv') && decide (ls = ls')))
theorem t_Same (n i : Int) (ls : List (List Int)) (pv : List Int) (n' i' : Int) (ls' : List (List Int)) (pv' : List Int) (hx : ∀ x ∈ ls, x.length = 8) (hx' : ∀ x ∈ ls', x.length = 8) (hl : ls.length < 2 ^ 60) (hp : pv.length = 16) (hp' : pv'.length = 16) :
    DCalls Tryz.prog 48 [rcT n i ls pv, rcT n' i' ls' pv'] (.bool (sameB n i ls pv n' i' ls' pv')) := by
  have hE := t_EqualLine ls ls' hx hx' hl
  have hlen : (rcC n i ls pv).length = 19 := by simp [hp]
  have hlen' : (rcC n' i' ls' pv').length = 19 := by simp [hp']
  refine dcalls_low (rs := [.tmp 4]) mixed Tryz.func48 l48 rfl rfl rfl (r := [.bool _]) (Nat.le_of_ble_eq_true rfl) ?_
  unfold sameB
  cases hpp : decide (pv = pv') with
  | false => repeat' ((conv => whnf); first | exact trivial | (refine nv_ (dg16 pv) (by first | (exact aggPv hp; done) | fail) ?_) | (refine nv_ (dg16 pv') (by first | (exact aggPv hp'; done) | fail) ?_) | refine nb_ false (eqY hpp) ?_ | refine nT_ ?_ | refine nE_ (fun hq => ?_) (fun hq => ?_) | refine rb0 ?_ | (refine And.intro (by first | (exact hlen; done) | (exact hlen'; done) | (exact ⟨fits16 hp, fits16 hp'⟩; done) | fail) ?_) | refine aS ?_ | fail)
  | true => repeat' ((conv => whnf); first | exact trivial | (refine nv_ (dg16 pv) (by first | (exact aggPv hp; done) | fail) ?_) | (refine nv_ (dg16 pv') (by first | (exact aggPv hp'; done) | fail) ?_) | refine nb_ true (eqY hpp) ?_ | refine k_call _ (hE) ?_ | refine nT_ ?_ | refine nE_ (fun hq => ?_) (fun hq => ?_) | refine rb0 ?_ | refine rbx ?_ | (refine And.intro (by first | (exact hlen; done) | (exact hlen'; done) | (exact ⟨fits16 hp, fits16 hp'⟩; done) | fail) ?_) | refine aS ?_ | fail)
theorem t_refSame (n i : Int) (ls : List (List Int)) (pv : List Int) (n' i' : Int) (ls' : List (List Int)) (pv' : List Int) (hx : ∀ x ∈ ls, x.length = 8) (hx' : ∀ x ∈ ls', x.length = 8) (hl : ls.length < 2 ^ 60) (hp : pv.length = 16) (hp' : pv'.length = 16) :
    DCalls Tryz.prog 12 [rcT n i ls pv, rcT n' i' ls' pv'] (.bool (sameB n i ls pv n' i' ls' pv')) := by
  have hlen : (rcC n i ls pv).length = 19 := by simp [hp]
  have hlen' : (rcC n' i' ls' pv').length = 19 := by simp [hp']
  refine dcalls_low (rs := [.tmp 4]) mixed Tryz.func12 l12 rfl rfl rfl (r := [.bool _]) (Nat.le_of_ble_eq_true rfl) ?_
  unfold sameB
  by_cases hn : n = n'
  case neg =>
    repeat' ((conv => whnf); first | exact trivial | refine now_N1 hn ?_ | refine nT_ ?_ | refine rb0 ?_ | (refine And.intro (by first | (exact hlen; done) | (exact hlen'; done) | fail) ?_) | refine aS ?_ | fail)
  by_cases hi : i = i'
  case neg =>
    repeat' ((conv => whnf); first | exact trivial | refine now_N1 hi ?_ | refine now_N0 hn ?_ | refine nT_ ?_ | refine rb0 ?_ | (refine And.intro (by first | (exact hlen; done) | (exact hlen'; done) | fail) ?_) | refine aS ?_ | fail)
  subst hn
  subst hi
  cases hpp : decide (pv = pv') with
  | false => repeat' ((conv => whnf); first | exact trivial | (refine nv_ (dg16 pv) (by first | (exact aggPv hp; done) | fail) ?_) | (refine nv_ (dg16 pv') (by first | (exact aggPv hp'; done) | fail) ?_) | refine nb_ (!false) (neY hpp) ?_ | refine nT_ ?_ | refine aN0 ?_ | refine rb0 ?_ | (refine And.intro (by first | (exact hlen; done) | (exact hlen'; done) | (exact ⟨fits16 hp, fits16 hp'⟩; done) | fail) ?_) | refine aS ?_ | fail)
  | true =>
  by_cases hll : ls.length = ls'.length
  case neg =>
    repeat' ((conv => whnf); first | (refine nv_ (dg16 pv) (by first | (exact aggPv hp; done) | fail) ?_) | (refine nv_ (dg16 pv') (by first | (exact aggPv hp'; done) | fail) ?_) | refine nb_ (!true) (neY hpp) ?_ | (refine now_N1 (by simp; omega) ?_) | refine nT_ ?_ | refine aN0 ?_ | (refine And.intro (by first | (exact hlen; done) | (exact hlen'; done) | (exact ⟨fits16 hp, fits16 hp'⟩; done) | fail) ?_) | refine aS ?_ | (exact rb (by simp; intro e; exact absurd (congrArg List.length e) hll) trivial) | fail)
  repeat' ((conv => whnf); first | (refine nv_ (dg16 pv) (by first | (exact aggPv hp; done) | fail) ?_) | (refine nv_ (dg16 pv') (by first | (exact aggPv hp'; done) | fail) ?_) | refine nb_ (!true) (neY hpp) ?_ | refine now_N0 (by simp [hll]) ?_ | refine nT_ ?_ | (refine And.intro (by first | (exact hlen; done) | (exact hlen'; done) | (exact ⟨fits16 hp, fits16 hp'⟩; done) | fail) ?_) | refine aS ?_ | fail)
  refine wpC_loopE 0 (α := Nat) (β := Unit) (fun k => {sl := [(2, .ptr 2 0), (3, .ptr 3 0), (5, .t (I k))], bx := [(2, .d 19 (rcC n i ls pv)), (3, .d 19 (rcC n i ls' pv'))]})
    (fun k => k ≤ ls.length ∧ ls.take k = ls'.take k) (fun k => ls.length - k) (fun _ => {sl := [], bx := []}) (fun _ => ls = ls') 0 ⟨by omega, rfl⟩ ?_ ?_ ?_
  · repeat' (first | exact trivial | exact LeV.same _ | exact LeB.same _ | exact rfl | exact fun _ _ _ => trivial | refine And.intro ?_ ?_)
  · rintro k ⟨hi, ho⟩
    rcases Nat.lt_or_ge k ls.length with h2 | h2
    · have h3 : k < ls'.length := by omega
      have hx8 := hx ls[k] (List.getElem_mem h2)
      have hy8 := hx' ls'[k] (List.getElem_mem h3)
      have hxa : ls[k]? = some ls[k] := List.getElem?_eq_getElem h2
      have hyb : ls'[k]? = some ls'[k] := List.getElem?_eq_getElem h3
      generalize ls[k] = x at hx8 hxa
      generalize ls'[k] = y at hy8 hyb
      cases hxy : decide (x = y) with
      | true =>
        have := of_decide_eq_true hxy
        subst this
        repeat' ((conv => whnf); first | (refine now_D1 (by simp; omega) ?_) | (refine nv_ (ln x) (by first | (exact aggLn (by simp only [Int.toNat_natCast]; first | exact hxa | exact hyb); done) | fail) ?_) | refine nb_ (!true) (neI hxy) ?_ | refine nT_ ?_ | (refine And.intro (by first | ((simp; omega); done) | (exact cells8 hx (by simp only [Int.toNat_natCast]; omega); done) | (exact cells8 hx' (by simp only [Int.toNat_natCast]; omega); done) | (exact ⟨fits8 hx8, fits8 hx8⟩; done) | fail) ?_) | refine aS ?_ | fail)
        exact ⟨k + 1, ⟨by omega, take_eq ho hxa hyb⟩, by omega, by repeat' (first | exact trivial | exact LeV.same _ | exact LeB.same _ | exact rfl | exact fun _ _ _ => trivial | exact lI | refine And.intro ?_ ?_)⟩
      | false =>
        have hf : false = (n == n && (i == i && (true && decide (ls = ls')))) := by
          have : decide (ls = ls') = false := decide_eq_false fun e => by subst e; rw [hxa] at hyb; exact of_decide_eq_false hxy (Option.some.inj hyb)
          simp [this]
        repeat' ((conv => whnf); first | exact trivial | (refine now_D1 (by simp; omega) ?_) | (refine nv_ (ln x) (by first | (exact aggLn (by simp only [Int.toNat_natCast]; exact hxa); done) | fail) ?_) | (refine nv_ (ln y) (by first | (exact aggLn (by simp only [Int.toNat_natCast]; exact hyb); done) | fail) ?_) | refine nb_ (!false) (neI hxy) ?_ | refine nT_ ?_ | refine rb0 ?_ | (refine And.intro (by first | ((simp; omega); done) | (exact cells8 hx (by simp only [Int.toNat_natCast]; omega); done) | (exact cells8 hx' (by simp only [Int.toNat_natCast]; omega); done) | (exact ⟨fits8 hx8, fits8 hy8⟩; done) | fail) ?_) | refine aS ?_ | fail)
    · have : k = ls.length := by omega
      subst this
      rw [List.take_length, hll, List.take_length] at ho
      repeat' ((conv => whnf); first | refine now_D0 (by simp) ?_ | refine nT_ ?_ | refine aS ?_ | fail)
      exact ⟨(), ho, by repeat' (first | exact trivial | exact rfl | exact fun _ _ _ => trivial | refine And.intro ?_ ?_)⟩
  rintro - hr
  repeat' ((conv => whnf); first | exact trivial | refine rb1 ?_ | fail)
end Go.RC
end
section
namespace Go.RC
open Go Go.DL Go.Proofs
set_option maxRecDepth 100000
set_option maxHeartbeats 1000000
structure okR (n i : Int) (ls : List (List Int)) (pv : List Int) : Prop where
  hn : i64 n
  hi : i64 i
  hx : ∀ x ∈ ls, x.length = 8 ∧ ∀ y ∈ x, i64 y
  hp : pv.length = 16
  hb : areB pv
theorem okR.two {n i : Int} {ls : List (List Int)} {pv : List Int} (h : okR n i ls pv) : ∀ x ∈ [n, i], i64 x := fun x hx => by
  rcases List.mem_cons.1 hx with rfl | hx
  · exact h.hn
  · rw [List.mem_singleton.1 hx]; exact h.hi
theorem okR.l8 {n i : Int} {ls : List (List Int)} {pv : List Int} (h : okR n i ls pv) : ∀ x ∈ ls, x.length = 8 := fun x hx => (h.hx x hx).1
def encL (ls : List (List Int)) : List Int := ls.flatMap vis
def enc0 (n i : Int) (k : Nat) : List Int := vis [n, i] ++ vi k
def enc (n i : Int) (ls : List (List Int)) (pv : List Int) : List Int := (enc0 n i ls.length ++ encL ls) ++ digs [pv]
theorem vis8 {x : List Int} (h : x.length = 8 ∧ ∀ y ∈ x, i64 y) : (vis x).length ≤ 90 := by
  have := vis_len h.2 (by omega)
  omega
theorem encL_len {ls : List (List Int)} (h : ∀ x ∈ ls, x.length = 8 ∧ ∀ y ∈ x, i64 y) : (encL ls).length ≤ 90 * ls.length := flat_le vis 90 (fun x hx => vis8 (h x hx))
theorem enc0_len {n i : Int} {k : Nat} (hn : i64 n) (hi : i64 i) (hk : k < 2 ^ 40) : (enc0 n i k).length ≤ 40 := by
  have h1 := vis_len (l := [n, i]) (fun x hx => by simp at hx; rcases hx with rfl | rfl <;> assumption) (Nat.le_of_ble_eq_true rfl)
  have h2 := vi_len (i64_nat (n := k) (by omega))
  unfold enc0
  rw [List.length_append]
  have : [n, i].length = 2 := rfl
  omega
theorem enc_step {ls : List (List Int)} {k : Nat} (h : k < ls.length) : encL (ls.take (k + 1)) = encL (ls.take k) ++ vis ls[k] := flat_take vis h
theorem encL_take {ls : List (List Int)} (h : ∀ x ∈ ls, x.length = 8 ∧ ∀ y ∈ x, i64 y) (k : Nat) : (encL (ls.take k)).length ≤ 90 * ls.length := by
  have h1 := encL_len (ls := ls.take k) (fun x hx => h x (List.mem_of_mem_take hx))
  rw [List.length_take] at h1
  omega
theorem digs1_len {pv : List Int} (h : pv.length = 16) : (digs [pv]).length ≤ 26 := by
  have := vi_len (i64_nat (n := 1) (by decide))
  unfold digs
  rw [List.length_append]
  simp only [List.length_cons, List.length_nil, List.flatten_cons, List.flatten_nil, List.append_nil, h]
  have h2 : (vi ((0 + 1 : Nat) : Int)).length ≤ 10 := this
  omega
theorem f_Encode (n i : Int) (ls : List (List Int)) (pv : List Int) (h : okR n i ls pv) (hl : ls.length < 2 ^ 20) : FCalls Tryz.prog 58 [rcT n i ls pv] 5 1 ((enc n i ls pv).map Y) [] := by
  have hlen : (rcC n i ls pv).length = 19 := by simp [h.hp]
  have h0 := f_Ints [n, i] (Nat.le_of_ble_eq_true rfl) h.two
  have h1 := (f_Int ls.length (i64_nat (by omega))).dcalls
  have hD := (f_Digests [pv] (Nat.le_of_ble_eq_true rfl) (fun x hx => by rw [List.mem_singleton.1 hx]; exact h.hp)).dcalls
  have hLl : (vis [n, i]).length ≤ 30 := vis_len h.two (Nat.le_of_ble_eq_true rfl)
  have hIl := vi_len (i64_nat (n := ls.length) (by omega))
  have hel := enc0_len (k := ls.length) h.hn h.hi (by omega)
  refine fcalls_low (rs := [.tmp 2]) mixed Tryz.func58 l58 rfl rfl rfl (Nat.le_of_ble_eq_true rfl) ?_
  have e0 : (linesT ls).cells = [linesT ls] := rfl
  repeat' ((conv => whnf); first | refine k_fcall (h0) (fun _ => ?_) | refine k_call _ (by simpa using h1) ?_ | refine nT_ ?_ | (refine And.intro (by first | (exact hlen; done) | ((simp only [List.length_map]; omega); done) | fail) ?_) | refine aS ?_ | fail)
  refine wpC_loopE 0 (α := Nat × Nat) (β := Nat) (fun q => {sl := [(1, .ptr 1 0), (3, .own q.1 5 1 ((enc0 n i ls.length ++ encL (ls.take q.2)).map Y)), (18, .t (linesT ls)), (19, .t (I ls.length)), (20, .t (I q.2))], bx := [(1, .d 19 (rcC n i ls pv))]})
    (fun q => q.2 ≤ ls.length ∧ (q.1 = 16 ∨ q.1 = 38)) (fun q => ls.length - q.2) (fun q => {sl := [(1, .ptr 1 0), (3, .own q 5 1 ((enc0 n i ls.length ++ encL ls).map Y))], bx := [(1, .d 19 (rcC n i ls pv))]}) (fun q => q = 16 ∨ q = 38) (16, 0) (by simp) ?_ ?_ ?_
  · repeat' (first | ((refine leI ?_; simp; done)) | exact trivial | exact LeV.same _ | exact LeB.same _ | exact rfl | exact fun _ _ _ => trivial | refine leOwn ?_ | refine And.intro ?_ ?_)
    simp [enc0, encL]
  · rintro ⟨q, k⟩ ⟨hk, hq0⟩
    dsimp only at hk hq0
    rcases Nat.lt_or_ge k ls.length with h2 | h2
    · have hx8 := h.hx ls[k] (List.getElem_mem h2)
      have hst := enc_step h2
      generalize hxe : ls[k] = x at hx8 hst
      obtain ⟨a, b, c, d, e, f, g, j, rfl⟩ := ex8 hx8.1
      have hv := (f_Ints [a, b, c, d, e, f, g, j] (Nat.le_of_ble_eq_true rfl) hx8.2).dcalls
      have hvl := vis8 hx8
      have htl := encL_take h.hx k
      repeat' ((conv => whnf); first | (refine nv_ (ln [a, b, c, d, e, f, g, j]) (by first | ((simp [h2, hxe]; done); done) | fail) ?_) | refine k_call _ (hv) ?_ | refine nT_ ?_ | refine aD1 ?_ | (refine And.intro (by first | ((simp; omega); done) | (exact ⟨.inl rfl, Nat.le_of_ble_eq_true rfl⟩; done) | ((simp only [List.length_map, List.length_append]; omega); done) | fail) ?_) | refine aS ?_ | fail)
      refine ⟨(38, k + 1), ⟨by dsimp only; omega, .inr rfl⟩, by dsimp only; omega, ?_⟩
      repeat' (first | exact trivial | exact LeV.same _ | exact LeB.same _ | exact rfl | exact fun _ _ _ => trivial | exact lI | refine leOwn ?_ | refine And.intro ?_ ?_)
      rw [hst]
      simp
    · have : k = ls.length := by omega
      subst this
      repeat' ((conv => whnf); first | refine aD0 ?_ | refine aS ?_ | fail)
      exact ⟨q, hq0, by repeat' (first | ((refine leOwn ?_; rw [List.take_length]; done)) | exact trivial | exact LeV.same _ | exact LeB.same _ | exact rfl | exact fun _ _ _ => trivial | refine And.intro ?_ ?_)⟩
  rintro q hq0
  have hcl := encL_len h.hx
  have hdl := digs1_len h.hp
  rcases hq0 with rfl | rfl
  all_goals repeat' ((conv => whnf); first | (refine nv_ (dg16 pv) (by first | (exact aggPv h.hp; done) | fail) ?_) | refine k_call _ (hD) ?_ | (refine And.intro (by first | (exact hlen; done) | (exact ⟨trivial, (List.length_map _).trans h.hp⟩; done) | ((simp only [List.length_map, List.length_append]; omega); done) | (exact flY _; done) | fail) ?_) | refine aS ?_ | fail)
  all_goals exact ⟨_, rfl, .inl ⟨_, congrArg (V.own _ _ _) (List.map_append ..).symm⟩⟩
theorem f_refEncode (n i : Int) (ls : List (List Int)) (pv : List Int) (h : okR n i ls pv) (hl : ls.length < 2 ^ 20) : FCalls Tryz.prog 61 [rcT n i ls pv] 5 1 ((enc n i ls pv).map Y) [] := by
  have hlen : (rcC n i ls pv).length = 19 := by simp [h.hp]
  have h0 := f_refInts [n, i] (Nat.le_of_ble_eq_true rfl) h.two
  have h1 := (f_refInt ls.length (i64_nat (by omega))).dcalls
  have hD := (f_refDigests [pv] (Nat.le_of_ble_eq_true rfl) (fun x hx => by rw [List.mem_singleton.1 hx]; exact h.hp)).dcalls
  have hLl : (vis [n, i]).length ≤ 30 := vis_len h.two (Nat.le_of_ble_eq_true rfl)
  have hIl := vi_len (i64_nat (n := ls.length) (by omega))
  have hel := enc0_len (k := ls.length) h.hn h.hi (by omega)
  refine fcalls_low (rs := [.tmp 2]) mixed Tryz.func61 l61 rfl rfl rfl (Nat.le_of_ble_eq_true rfl) ?_
  repeat' ((conv => whnf); first | refine WC_own rfl h0 ?_ | refine k_call _ (by simpa using h1) ?_ | refine nT_ ?_ | (refine And.intro (by first | (exact hlen; done) | ((simp only [List.length_map]; omega); done) | fail) ?_) | refine aS ?_ | fail)
  refine wpC_loopE 0 (α := Nat × Nat) (β := Nat) (fun q => {sl := [(1, .ptr 1 0), (3, .own q.1 5 1 ((enc0 n i ls.length ++ encL (ls.take q.2)).map Y)), (4, .t (I q.2))], bx := [(1, .d 19 (rcC n i ls pv))]})
    (fun q => q.2 ≤ ls.length ∧ (q.1 = 17 ∨ q.1 = 53)) (fun q => ls.length - q.2) (fun q => {sl := [(1, .ptr 1 0), (3, .own q 5 1 ((enc0 n i ls.length ++ encL ls).map Y))], bx := [(1, .d 19 (rcC n i ls pv))]}) (fun q => q = 17 ∨ q = 53) (17, 0) (by simp) ?_ ?_ ?_
  · repeat' (first | exact trivial | exact LeV.same _ | exact LeB.same _ | exact rfl | exact fun _ _ _ => trivial | refine leOwn ?_ | refine And.intro ?_ ?_)
    simp [enc0, encL]
  · rintro ⟨q, k⟩ ⟨hk, hq0⟩
    dsimp only at hk hq0
    rcases Nat.lt_or_ge k ls.length with h2 | h2
    · have hx8 := h.hx ls[k] (List.getElem_mem h2)
      have hst := enc_step h2
      generalize hxe : ls[k] = x at hx8 hst
      obtain ⟨a, b, c, d, e, f, g, j, rfl⟩ := ex8 hx8.1
      have hv := (f_refInts [a, b, c, d, e, f, g, j] (Nat.le_of_ble_eq_true rfl) hx8.2).dcalls
      have hvl := vis8 hx8
      have htl := encL_take h.hx k
      rcases hq0 with rfl | rfl
      all_goals repeat' ((conv => whnf); first | (refine now_D1 (by simp; omega) ?_) | (refine nv_ (ln [a, b, c, d, e, f, g, j]) (by first | ((simp [h2, hxe]; done); done) | fail) ?_) | refine WC_dc (rd := []) rfl hv (.inl rfl) ?_ | refine nT_ ?_ | (refine And.intro (by first | ((simp; omega); done) | (exact ⟨.inl rfl, Nat.le_of_ble_eq_true rfl⟩; done) | ((simp only [List.length_map, List.length_append]; omega); done) | fail) ?_) | refine aS ?_ | fail)
      all_goals refine ⟨(53, k + 1), ⟨by dsimp only; omega, .inr rfl⟩, by dsimp only; omega, ?_⟩
      all_goals repeat' (first | exact trivial | exact LeV.same _ | exact LeB.same _ | exact rfl | exact fun _ _ _ => trivial | exact lI | refine leOwn ?_ | refine And.intro ?_ ?_)
      all_goals rw [hst]
      all_goals simp
    · have : k = ls.length := by omega
      subst this
      repeat' ((conv => whnf); first | refine now_D0 (by simp) ?_ | refine nT_ ?_ | refine aS ?_ | fail)
      exact ⟨q, hq0, by repeat' (first | ((refine leOwn ?_; rw [List.take_length]; done)) | exact trivial | exact LeV.same _ | exact LeB.same _ | exact rfl | exact fun _ _ _ => trivial | refine And.intro ?_ ?_)⟩
  rintro q hq0
  have hcl := encL_len h.hx
  have hdl := digs1_len h.hp
  rcases hq0 with rfl | rfl
  all_goals repeat' ((conv => whnf); first | (refine nv_ (dg16 pv) (by first | (exact aggPv h.hp; done) | fail) ?_) | refine k_call _ (hD) ?_ | (refine And.intro (by first | (exact hlen; done) | (exact ⟨trivial, (List.length_map _).trans h.hp⟩; done) | ((simp only [List.length_map, List.length_append]; omega); done) | (exact flY _; done) | fail) ?_) | refine aS ?_ | fail)
  all_goals exact ⟨_, rfl, .inl ⟨_, congrArg (V.own _ _ _) (List.map_append ..).symm⟩⟩
theorem enc_areB {n i : Int} {ls : List (List Int)} {pv : List Int} (hb : areB pv) : areB (enc n i ls pv) := fun b h => by
  unfold enc enc0 at h
  simp only [List.mem_append] at h
  rcases h with ((h | h) | h) | h
  · exact vis_areB _ b h
  · exact vi_areB _ b h
  · obtain ⟨x, _, hx⟩ := List.mem_flatMap.1 h
    exact vis_areB x b hx
  · unfold digs at h
    rcases List.mem_append.1 h with h | h
    · exact vi_areB _ b h
    · exact hb b (by simpa using h)
def txR (n i : Int) (ls : List (List Int)) (pv : List Int) : ByteArray := strT ((enc n i ls pv).map Y)
def dgR (n i : Int) (ls : List (List Int)) (pv : List Int) : List Int := H (msg 5 [txR n i ls pv])
theorem dgR_len (n i : Int) (ls : List (List Int)) (pv : List Int) : (dgR n i ls pv).length = 16 := H_len _
theorem dgR_areB (n i : Int) (ls : List (List Int)) (pv : List Int) : areB (dgR n i ls pv) := H_areB _
theorem txR_size {n i : Int} {ls : List (List Int)} {pv : List Int} (h : okR n i ls pv) (hl : ls.length < 2 ^ 20) : (txR n i ls pv).size < 2 ^ 33 := by
  rw [← sB_len, txR, sB_strT _ (enc_areB h.hb)]
  have hcl := encL_len h.hx
  have hdl := digs1_len h.hp
  have hel := enc0_len (k := ls.length) h.hn h.hi (by omega)
  unfold enc
  simp only [List.length_append]
  omega
theorem t_Digest (n i : Int) (ls : List (List Int)) (pv : List Int) (h : okR n i ls pv) (hl : ls.length < 2 ^ 20) : DCalls Tryz.prog 30 [rcT n i ls pv] (dg16 (dgR n i ls pv)) := by
  have hlen : (rcC n i ls pv).length = 19 := by simp [h.hp]
  have hE := (f_Encode n i ls pv h hl).dcalls
  have hsz := txR_size h hl
  have hO := t_Of 5 [txR n i ls pv] (fun s hs => by rw [List.mem_singleton.1 hs]; omega) (Nat.le_of_ble_eq_true rfl)
  have hdl : (dgR n i ls pv).length = 16 := dgR_len ..
  refine dcalls_low (rs := [.cell 2 30]) mixed Tryz.func30 l30 rfl rfl rfl (r := [.agg _]) (Nat.le_of_ble_eq_true rfl) ?_
  unfold dgR at *
  generalize H (msg 5 [txR n i ls pv]) = ds at hO hdl
  unfold txR at hO
  repeat' ((conv => whnf); first | refine k_call _ (hE) ?_ | refine k_call _ (hO) ?_ | refine nT_ ?_ | (refine And.intro (by first | (exact hlen; done) | (exact areU8_Y _; done) | (exact ⟨(List.length_map _).trans hdl, by decide⟩; done) | fail) ?_) | refine aS ?_ | refine rt ?_ trivial | fail)
  exact congrArg T.agg (putL_all rfl)
theorem t_refDigest (n i : Int) (ls : List (List Int)) (pv : List Int) (h : okR n i ls pv) (hl : ls.length < 2 ^ 20) : DCalls Tryz.prog 44 [rcT n i ls pv] (dg16 (dgR n i ls pv)) := by
  have hlen : (rcC n i ls pv).length = 19 := by simp [h.hp]
  have hE := (f_refEncode n i ls pv h hl).dcalls
  have hsz := txR_size h hl
  have hO := t_refOf 5 [txR n i ls pv] (fun s hs => by rw [List.mem_singleton.1 hs]; omega) (Nat.le_of_ble_eq_true rfl)
  rw [← H_eq _ (msg_areB _ _)] at hO
  have hdl : (dgR n i ls pv).length = 16 := dgR_len ..
  refine dcalls_low (rs := [.cell 2 30]) mixed Tryz.func44 l44 rfl rfl rfl (r := [.agg _]) (Nat.le_of_ble_eq_true rfl) ?_
  unfold dgR at *
  generalize H (msg 5 [txR n i ls pv]) = ds at hO hdl
  unfold txR at hO
  repeat' ((conv => whnf); first | refine k_call _ (hE) ?_ | refine k_call _ (hO) ?_ | refine nT_ ?_ | (refine And.intro (by first | (exact hlen; done) | (exact areU8_Y _; done) | (exact ⟨(List.length_map _).trans hdl, by decide⟩; done) | fail) ?_) | refine aS ?_ | refine rt ?_ trivial | fail)
  exact congrArg T.agg (putL_all rfl)
end Go.RC
end
section
namespace Go.RC
open Go Go.DL Go.Proofs
set_option maxRecDepth 100000
set_option maxHeartbeats 1000000
theorem t_key (s p f : Int) : DCalls Tryz.prog 32 [I s, I p, I f] (.bool (rightN s p f)) := by
  refine dcalls_low (rs := [.tmp 6]) mixed Tryz.func32 l32 rfl rfl rfl (r := [.bool _]) (Nat.le_of_ble_eq_true rfl) ?_
  unfold rightN
  repeat' ((conv => whnf); first | exact trivial | refine nD_ (fun hq => ?_) (fun hq => ?_) | refine rb1 ?_ | refine rb0 ?_ | refine aS ?_ | fail)
  all_goals (refine rb ?_ trivial; simp [*] <;> omega)
theorem t_line (x : List Int) (hx : x.length = 8) : DCalls Tryz.prog 71 [ln x] (.bool (okLn x)) := by
  obtain ⟨a, b, c, d, e, f, g, j, rfl⟩ := ex8 hx
  refine dcalls_low (rs := [.tmp 2]) mixed Tryz.func71 l71 rfl rfl rfl (r := [.bool _]) (Nat.le_of_ble_eq_true rfl) ?_
  have hk := t_key a b c
  have hS := t_IsSum [e, f, g, j] rfl
  rw [okLn8]
  cases h1 : rightN a b c with
  | false =>
    rw [h1] at hk
    repeat' ((conv => whnf); first | exact trivial | refine k_call _ (hk) ?_ | refine k_call _ (hS) ?_ | refine nT_ ?_ | refine rb0 ?_ | refine aS ?_ | fail)
  | true =>
    rw [h1] at hk
    cases h2 : isSb [e, f, g, j] with
    | false =>
      rw [h2] at hS
      repeat' ((conv => whnf); first | exact trivial | refine k_call _ (hk) ?_ | refine k_call _ (hS) ?_ | refine nT_ ?_ | refine rb0 ?_ | refine aS ?_ | fail)
    | true =>
      rw [h2] at hS
      repeat' ((conv => whnf); first | exact trivial | refine k_call _ (hk) ?_ | refine k_call _ (hS) ?_ | refine nD_ (fun hq => ?_) (fun hq => ?_) | refine nT_ ?_ | refine rb1 ?_ | refine rb0 ?_ | refine aS ?_ | fail)
      all_goals (refine rb ?_ trivial; simp [*] <;> omega)
theorem cmpN_lt (a b : N3) : (cmpN a b < 0) ↔ (a.1 < b.1 ∨ a.1 = b.1 ∧ (a.2.1 < b.2.1 ∨ a.2.1 = b.2.1 ∧ a.2.2 < b.2.2)) := by
  simp only [cmpN, orI, cmpI]
  repeat' split
  all_goals omega
theorem t_before (x y : List Int) (hx : x.length = 8) (hy : y.length = 8) : DCalls Tryz.prog 36 [ln x, ln y] (.bool (decide (cmpN (nmOf x) (nmOf y) < 0))) := by
  obtain ⟨a, b, c, d, e, f, g, j, rfl⟩ := ex8 hx
  obtain ⟨a', b', c', d', e', f', g', j', rfl⟩ := ex8 hy
  refine dcalls_low (rs := [.tmp 4]) mixed Tryz.func36 l36 rfl rfl rfl (r := [.bool _]) (Nat.le_of_ble_eq_true rfl) ?_
  have h0 : decide (cmpN (nmOf [a, b, c, d, e, f, g, j]) (nmOf [a', b', c', d', e', f', g', j']) < 0) = decide (a < a' ∨ a = a' ∧ (b < b' ∨ b = b' ∧ c < c')) := decide_eq_decide.2 (cmpN_lt _ _)
  rw [h0]
  repeat' ((conv => whnf); first | exact trivial | refine nD_ (fun hq => ?_) (fun hq => ?_) | refine nT_ ?_ | refine nN_ (fun hq => ?_) (fun hq => ?_) | refine rb1 ?_ | refine rb0 ?_ | refine aS ?_ | fail)
  all_goals (refine rb ?_ trivial; simp only [true_eq_decide_iff, false_eq_decide_iff]; omega)
theorem t_refCheck (n i : Int) (ls : List (List Int)) (pv : List Int) (hl : ls.length < 2 ^ 40) (hx : ∀ x ∈ ls, x.length = 8) (hp : pv.length = 16) : DCalls Tryz.prog 24 [rcT n i ls pv] (I (chk n i ls)) := by
  refine dcalls_low (rs := [.tmp 2]) mixed Tryz.func24 l24 rfl rfl rfl (r := [I _]) (Nat.le_of_ble_eq_true rfl) ?_
  have hlen : (rcC n i ls pv).length = 19 := by simp [hp]
  unfold chk
  by_cases h1 : ls.length > 1000
  · rw [if_pos h1]
    repeat' ((conv => whnf); first | exact trivial | (refine now_D1 (by simp; omega) ?_) | refine nT_ ?_ | refine rix ?_ | (refine And.intro (by first | (exact hlen; done) | fail) ?_) | refine aS ?_ | fail)
  rw [if_neg h1]
  by_cases h2 : n < 0 ∨ n ≥ 200 ∨ i < 0 ∨ i > 1048576
  · rw [if_pos h2]
    repeat' ((conv => whnf); first | exact trivial | (refine now_D0 (by simp; omega) ?_) | refine nT_ ?_ | refine aD1 ?_ | refine nD_ (fun hq => ?_) (fun hq => ?_) | refine rix ?_ | (refine And.intro (by first | (exact hlen; done) | fail) ?_) | refine aS ?_ | fail)
    all_goals omega
  rw [if_neg h2]
  repeat' ((conv => whnf); first | (refine now_D0 (by simp; omega) ?_) | refine nT_ ?_ | (refine And.intro (by first | (exact hlen; done) | fail) ?_) | refine aS ?_ | fail)
  refine wpC_loopE 0 (α := Nat) (β := Unit) (fun k => {sl := [(1, .ptr 1 0), (3, .t (I k))], bx := [(1, .d 19 (rcC n i ls pv))]})
    (fun k => k ≤ ls.length ∧ okFrom (prevAt ls k) (ls.drop k) = okFrom none ls) (fun k => ls.length - k) (fun _ => {sl := [], bx := []}) (fun _ => okFrom none ls = true) 0 ⟨by omega, rfl⟩ ?_ ?_ ?_
  · repeat' (first | exact trivial | exact LeV.same _ | exact LeB.same _ | exact rfl | exact fun _ _ _ => trivial | refine And.intro ?_ ?_)
  · rintro k ⟨hk, ho⟩
    rcases Nat.lt_or_ge k ls.length with h3 | h3
    · rw [okFrom_drop h3] at ho
      have hgo : okAt (prevAt ls k) ls[k] = true → okFrom (prevAt ls (k + 1)) (ls.drop (k + 1)) = okFrom none ls := fun h => by rw [h] at ho; exact ho
      have hno : okAt (prevAt ls k) ls[k] = false → (1 : Int) = if okFrom none ls = true then (0 : Int) else 1 := fun h => by rw [← ho, h]; rfl
      have hx8 := hx ls[k] (List.getElem_mem h3)
      have hL := t_line ls[k] hx8
      generalize hxe : ls[k] = x at hgo hno hx8 hL
      cases h4 : okLn x with
      | false =>
        rw [h4] at hL
        have hf := hno (by unfold okAt; rw [h4]; rfl)
        repeat' ((conv => whnf); first | exact trivial | (refine now_D1 (by simp; omega) ?_) | (refine nv_ (ln x) (by first | (exact aggLn (by simp [h3, hxe]; done); done) | fail) ?_) | refine k_call _ (hL) ?_ | refine nT_ ?_ | refine rix ?_ | (refine And.intro (by first | ((simp; omega); done) | (exact cells8 hx (by simp only [Int.toNat_natCast]; omega); done) | fail) ?_) | refine aS ?_ | fail)
      | true =>
        rw [h4] at hL
        by_cases h8 : 0 < k
        · have hp8 := hx ls[k - 1] (List.getElem_mem (by omega))
          have hB := t_before ls[k - 1] x hp8 hx8
          have hp3 : prevAt ls k = some ls[k - 1] := by
            obtain ⟨k, rfl⟩ : ∃ j, k = j + 1 := ⟨k - 1, by omega⟩
            exact List.getElem?_eq_getElem _
          have e1 : okAt (prevAt ls k) x = decide (cmpN (nmOf ls[k - 1]) (nmOf x) < 0) := by rw [hp3]; unfold okAt; rw [h4]; rfl
          rw [e1] at hno hgo
          generalize hpe : ls[k - 1] = p at hB hno hgo
          have e2 : (IntKind.i64.wrap ((k : Int) - 1)).toNat = k - 1 := by simp (disch := omega) only [wrap_id, w32, w8, w64]; omega
          have e3 : IntKind.i64.wrap ((k : Int) - 1) = k - 1 := by simp (disch := omega) only [wrap_id, w32, w8, w64]
          cases h9 : decide (cmpN (nmOf p) (nmOf x) < 0) with
          | true =>
            rw [h9] at hB
            repeat' ((conv => whnf); first | (refine now_D1 (by simp; omega) ?_) | (refine nv_ (ln x) (by first | (exact aggLn (by simp [h3, hxe]; done); done) | fail) ?_) | (refine nv_ (ln p) (by first | (exact aggLn (by rw [e2]; simp [hpe, show k - 1 < ls.length by omega]; done); done) | fail) ?_) | refine k_call _ (hL) ?_ | refine k_call _ (hB) ?_ | refine nT_ ?_ | (refine And.intro (by first | ((simp; omega); done) | ((rw [e3]; simp; omega); done) | (exact cells8 hx (by simp only [Int.toNat_natCast]; omega); done) | (exact cells8 hx (by rw [e2]; omega); done) | fail) ?_) | refine aS ?_ | fail)
            exact ⟨k + 1, ⟨by omega, hgo h9⟩, by omega, by repeat' (first | exact trivial | exact LeV.same _ | exact LeB.same _ | exact rfl | exact fun _ _ _ => trivial | exact lI | refine And.intro ?_ ?_)⟩
          | false =>
            rw [h9] at hB
            have hf := hno h9
            repeat' ((conv => whnf); first | exact trivial | (refine now_D1 (by simp; omega) ?_) | (refine nv_ (ln x) (by first | (exact aggLn (by simp [h3, hxe]; done); done) | fail) ?_) | (refine nv_ (ln p) (by first | (exact aggLn (by rw [e2]; simp [hpe, show k - 1 < ls.length by omega]; done); done) | fail) ?_) | refine k_call _ (hL) ?_ | refine k_call _ (hB) ?_ | refine nT_ ?_ | refine rix ?_ | (refine And.intro (by first | ((simp; omega); done) | ((rw [e3]; simp; omega); done) | (exact cells8 hx (by simp only [Int.toNat_natCast]; omega); done) | (exact cells8 hx (by rw [e2]; omega); done) | fail) ?_) | refine aS ?_ | fail)
        · have : k = 0 := by omega
          subst this
          repeat' ((conv => whnf); first | (refine now_D1 (by simp; omega) ?_) | (refine nv_ (ln x) (by first | (exact aggLn (by simp [h3, hxe]; done); done) | fail) ?_) | refine k_call _ (hL) ?_ | refine nT_ ?_ | refine aD0 ?_ | (refine And.intro (by first | ((simp; omega); done) | (exact cells8 hx (by simp only [Int.toNat_natCast]; omega); done) | fail) ?_) | refine aS ?_ | fail)
          exact ⟨0 + 1, ⟨by omega, hgo (by unfold okAt; rw [h4]; rfl)⟩, by omega, by repeat' (first | exact trivial | exact LeV.same _ | exact LeB.same _ | exact rfl | exact fun _ _ _ => trivial | refine And.intro ?_ ?_)⟩
    · have : k = ls.length := by omega
      subst this
      rw [List.drop_length] at ho
      repeat' ((conv => whnf); first | refine now_D0 (by simp) ?_ | refine nT_ ?_ | refine aS ?_ | fail)
      exact ⟨(), ho.symm, by repeat' (first | exact trivial | exact rfl | exact fun _ _ _ => trivial | refine And.intro ?_ ?_)⟩
  rintro - hr
  rw [hr]
  repeat' ((conv => whnf); first | exact trivial | refine rix ?_ | fail)
end Go.RC
end
section
namespace Go.RC
open Go Go.DL Go.Proofs
set_option maxRecDepth 100000
set_option maxHeartbeats 1000000
def isN (s p f : Int) (x : List Int) : Bool := x.getD 0 0 == s && (x.getD 1 0 == p && x.getD 2 0 == f)
theorem ixP_find {α : Type} (p : α → Bool) : ∀ (l : List α) (i : Int), 0 ≤ i → (ixP p l i = -1 ∧ l.find? p = none) ∨ (∃ (k : Nat) (x : α), ixP p l i = i + k ∧ l[k]? = some x ∧ k < l.length ∧ l.find? p = some x)
  | [], _, _ => .inl ⟨rfl, rfl⟩
  | x :: l, i, h => by
    unfold ixP
    rw [List.find?_cons]
    cases hp : p x with
    | true => exact .inr ⟨0, x, by simp, rfl, by simp, rfl⟩
    | false =>
      simp only [Bool.false_eq_true, if_false]
      rcases ixP_find p l (i + 1) (by omega) with ⟨h1, h2⟩ | ⟨k, y, h1, h2, h3, h4⟩
      · exact .inl ⟨h1, h2⟩
      · exact .inr ⟨k + 1, y, by rw [h1]; omega, h2, by simp; omega, h4⟩
theorem t_IndexLine (f : FuncId) (p : List Int → Bool) (c1 c2 c3 : T) (l : List (List Int)) (hl : l.length < 2 ^ 60) (h8 : ∀ x ∈ l, x.length = 8) (hf : ∀ x ∈ l, DCalls Tryz.prog f [ln x, c1, c2, c3] (.bool (p x))) : DCalls Tryz.prog 74 [.slice 8 (l.map ln), .clos f [c1, c2, c3]] (I (ixP p l 0)) := by
  refine dcalls_low (rs := [.tmp 4]) mixed Tryz.func74 l74 rfl rfl rfl (r := [I _]) (Nat.le_of_ble_eq_true rfl) ?_
  skip
  refine wpC_loopE 0 (α := Nat) (β := Unit) (fun i => {sl := [(0, .t (.slice 8 (l.map ln))), (1, .t (.clos f [c1, c2, c3])), (7, .t (I l.length)), (8, .t (I i))], bx := []})
    (fun i => i ≤ l.length ∧ ixP p (l.drop i) i = ixP p l 0) (fun i => l.length - i) (fun _ => {sl := [], bx := []}) (fun _ => ixP p l 0 = -1) 0 ⟨by omega, rfl⟩ ?_ ?_ ?_
  · repeat' (first | ((refine leI ?_; simp; done)) | exact trivial | exact LeV.same _ | exact rfl | exact fun _ _ _ => trivial | refine And.intro ?_ ?_)
  · rintro i ⟨hi, ho⟩
    rcases Nat.lt_or_ge i l.length with h2 | h2
    · rw [ixP_drop p h2] at ho
      have hc := hf l[i] (List.getElem_mem h2)
      generalize hxe : l[i] = x at ho hc
      cases hp : p x with
      | true =>
        rw [hp, if_pos rfl] at ho
        rw [hp] at hc
        repeat' ((conv => whnf); first | exact trivial | (refine nv_ (ln x) (by first | (exact aggLn (by simp [h2, hxe]; done); done) | fail) ?_) | refine k_call _ (hc) ?_ | refine nT_ ?_ | refine aD1 ?_ | refine rix ?_ | (refine And.intro (by first | ((simp; omega); done) | (exact cells8 h8 (by simp only [Int.toNat_natCast]; omega); done) | fail) ?_) | refine aS ?_ | fail)
      | false =>
        rw [hp, if_neg (by simp)] at ho
        rw [hp] at hc
        repeat' ((conv => whnf); first | (refine nv_ (ln x) (by first | (exact aggLn (by simp [h2, hxe]; done); done) | fail) ?_) | refine k_call _ (hc) ?_ | refine nT_ ?_ | refine aD1 ?_ | (refine And.intro (by first | ((simp; omega); done) | (exact cells8 h8 (by simp only [Int.toNat_natCast]; omega); done) | fail) ?_) | refine aS ?_ | fail)
        exact ⟨i + 1, ⟨by omega, ho⟩, by omega, by repeat' (first | exact trivial | exact LeV.same _ | exact rfl | exact fun _ _ _ => trivial | exact lI | refine And.intro ?_ ?_)⟩
    · have : i = l.length := by omega
      subst this
      rw [List.drop_length] at ho
      repeat' ((conv => whnf); first | refine aD0 ?_ | refine aS ?_ | fail)
      exact ⟨(), ho.symm, by repeat' (first | exact trivial | exact rfl | exact fun _ _ _ => trivial | refine And.intro ?_ ?_)⟩
  rintro - hr
  repeat' ((conv => whnf); first | exact trivial | refine rix ?_ | fail)
abbrev caps3 (s p f : Int) : List T := [.cptr [I s] 0, .cptr [I p] 0, .cptr [I f] 0]
theorem t_Find1 (x : List Int) (hx : x.length = 8) (s p f : Int) : DCalls Tryz.prog 75 (ln x :: caps3 s p f) (.bool (isN s p f x)) := by
  obtain ⟨a, b, c, d, e, f', g, j, rfl⟩ := ex8 hx
  have hO := t_of [a, b, c, d, e, f', g, j] rfl
  refine dcalls_low (rs := [.tmp 5]) mixed Tryz.func75 l75 rfl rfl rfl (r := [.bool _]) (Nat.le_of_ble_eq_true rfl) ?_
  repeat' ((conv => whnf); first | exact trivial | refine k_call _ (hO) ?_ | (refine nb_ (isN s p f [a, b, c, d, e, f', g, j]) (show (a == s && (b == p && (c == f && true))) = _ by rw [Bool.and_true]; rfl) ?_) | refine nT_ ?_ | refine rbx ?_ | (refine And.intro (by first | (exact ⟨⟨rfl, rfl, rfl, trivial⟩, ⟨rfl, rfl, rfl, trivial⟩⟩; done) | fail) ?_) | refine aS ?_ | fail)
def fnd (ls : List (List Int)) (s p f : Int) : T := match ls.find? (isN s p f) with
  | some x => .tup [ln x, .bool true]
  | none => .tup [ln [0, 0, 0, 0, 0, 0, 0, 0], .bool false]
theorem t_Find (n i : Int) (ls : List (List Int)) (pv : List Int) (s p f : Int) (hl : ls.length < 2 ^ 60) (hx : ∀ x ∈ ls, x.length = 8) (hp : pv.length = 16) : DCalls Tryz.prog 28 [rcT n i ls pv, I s, I p, I f] (fnd ls s p f) := by
  have hI := t_IndexLine 75 (isN s p f) (.cptr [I s] 0) (.cptr [I p] 0) (.cptr [I f] 0) ls hl hx (fun x h => t_Find1 x (hx x h) s p f)
  have hlen : (rcC n i ls pv).length = 19 := by simp [hp]
  unfold fnd
  rcases ixP_find (isN s p f) ls 0 (Int.le_refl 0) with ⟨h1, h2⟩ | ⟨k, x, h1, h2, h3, h4⟩
  · rw [h2]
    rw [h1] at hI
    refine dcalls_low (rs := [.cell 8 71, .tmp 9]) mixed Tryz.func28 l28 rfl rfl rfl (r := [_, _]) (Nat.le_of_ble_eq_true rfl) ?_
    repeat' ((conv => whnf); first | exact trivial | refine k_call _ (hI) ?_ | refine nT_ ?_ | refine aD1 ?_ | refine rb0 ?_ | (refine And.intro (by first | (exact hlen; done) | fail) ?_) | refine aS ?_ | fail)
  · rw [h4]
    rw [h1, Int.zero_add] at hI
    obtain ⟨a, b, c, d, e, f', g, j, rfl⟩ := ex8 (hx x (List.mem_of_getElem? h2))
    refine dcalls_low (rs := [.cell 8 71, .tmp 9]) mixed Tryz.func28 l28 rfl rfl rfl (r := [_, _]) (Nat.le_of_ble_eq_true rfl) ?_
    repeat' ((conv => whnf); first | exact trivial | refine k_call _ (hI) ?_ | (refine nv_ (ln [a, b, c, d, e, f', g, j]) (by first | ((simp [h2]; done); done) | fail) ?_) | refine nT_ ?_ | refine aD0 ?_ | refine rb1 ?_ | (refine And.intro (by first | (exact hlen; done) | ((simp; omega); done) | fail) ?_) | refine aS ?_ | fail)
end Go.RC
end
section
namespace Go.RC
open Go Go.DL Go.Proofs
set_option maxRecDepth 100000
set_option maxHeartbeats 1000000
structure Rc where
  n : Int
  i : Int
  ls : List (List Int)
  pv : List Int
abbrev rc (r : Rc) : T := rcT r.n r.i r.ls r.pv
abbrev Rc.ok (r : Rc) : Prop := okR r.n r.i r.ls r.pv ∧ r.ls.length < 2 ^ 20
abbrev rcs (l : List Rc) : T := .slice 19 (l.map rc)
abbrev Rc.dg (r : Rc) : List Int := dgR r.n r.i r.ls r.pv
def chkR (r : Rc) : Int := chk r.n r.i r.ls
abbrev zero16 : List Int := [0, 0, 0, 0, 0, 0, 0, 0, 0, 0, 0, 0, 0, 0, 0, 0]
theorem rc_len {r : Rc} (h : r.ok) : (rcC r.n r.i r.ls r.pv).length = 19 := by simp [h.1.hp]
theorem eltRc {l : List Rc} {j : Nat} {r : Rc} (h : l[j]? = some r) : ((l.map rc)[j]?.getD .nil) = rc r := by
  rw [List.getElem?_map, h]; rfl
theorem aggPv2 {n i : Int} {ls : List (List Int)} {pv : List Int} {z : List T} (hz : z.length = 19) (hp : pv.length = 16) : T.agg (((putL z 0 19 (rcC n i ls pv)).drop 3).take 16) = dg16 pv := by
  rw [putL_all hz]; exact aggPv hp
abbrev z19 : List T := [I 0, I 0, .nil, Y 0, Y 0, Y 0, Y 0, Y 0, Y 0, Y 0, Y 0, Y 0, Y 0, Y 0, Y 0, Y 0, Y 0, Y 0, Y 0]
theorem with19 {f : FuncId} {n i : Int} {ls : List (List Int)} {pv : List Int} {r : T} (h : DCalls Tryz.prog f [rcT n i ls pv] r) : DCalls Tryz.prog f [.agg (putL z19 0 19 (rcC n i ls pv))] r := by
  rw [putL_all (n := 19) (cs := z19) rfl]; exact h
def ver (node : Int) : Nat → List Int → List Rc → Int × Int
  | k, _, [] => (k, 0)
  | k, pv, r :: l => if chkR r ≠ 0 then (k, chkR r) else if r.n ≠ node then (k, 1) else if r.i ≠ k then (k, 25) else if r.pv ≠ pv then (k, 7) else ver node (k + 1) r.dg l
theorem ver_drop {node : Int} {l : List Rc} {k : Nat} {pv : List Int} (h : k < l.length) : ver node k pv (l.drop k) = if chkR l[k] ≠ 0 then ((k : Int), chkR l[k]) else if l[k].n ≠ node then ((k : Int), 1) else if l[k].i ≠ k then ((k : Int), 25) else if l[k].pv ≠ pv then ((k : Int), 7) else ver node (k + 1) l[k].dg (l.drop (k + 1)) := by
  rw [List.drop_eq_getElem_cons h]
  rfl
abbrev verT (x : Int × Int) : T := .tup [I x.1, I x.2]
theorem t_Verify (node : Int) (l : List Rc) (hl : l.length < 2 ^ 40) (hr : ∀ r ∈ l, r.ok) : DCalls Tryz.prog 14 [I node, rcs l] (verT (ver node 0 zero16 l)) := by
  refine dcalls_low (rs := [.tmp 4, .tmp 5]) mixed Tryz.func14 l14 rfl rfl rfl (r := [I _, I _]) (Nat.le_of_ble_eq_true rfl) ?_
  skip
  refine wpC_loopE 0 (α := Nat × List Int) (β := Unit) (fun q => {sl := [(0, .t (I node)), (1, .t (rcs l)), (6, .ptr 6 0), (10, .t (rcs l)), (11, .t (I l.length)), (12, .t (I q.1))], bx := [(6, .d 16 (q.2.map Y))]})
    (fun q => q.1 ≤ l.length ∧ q.2.length = 16 ∧ ver node q.1 q.2 (l.drop q.1) = ver node 0 zero16 l) (fun q => l.length - q.1) (fun _ => {sl := [(1, .t (rcs l))], bx := []}) (fun _ => ver node 0 zero16 l = ((l.length : Int), 0)) (0, zero16) ⟨by simp, rfl, rfl⟩ ?_ ?_ ?_
  · repeat' (first | ((refine leI ?_; simp; done)) | exact trivial | exact LeV.same _ | exact LeB.same _ | exact rfl | exact fun _ _ _ => trivial | refine And.intro ?_ ?_)
  · rintro ⟨k, pv⟩ ⟨hk, hpl, ho⟩
    dsimp only at hk hpl ho
    rcases Nat.lt_or_ge k l.length with h2 | h2
    · rw [ver_drop h2] at ho
      have hok := hr l[k] (List.getElem_mem h2)
      have hxe : l[k]? = some l[k] := List.getElem?_eq_getElem h2
      generalize l[k] = r at ho hok hxe
      obtain ⟨n, i, ls, rp⟩ := r
      have hC := with19 (t_Check n i ls rp (by have := hok.2; dsimp only at this; omega) hok.1.l8 hok.1.hp)
      have hD := with19 (t_Digest n i ls rp hok.1 hok.2)
      have hdl := dgR_len n i ls rp
      have hp1 : rp.length = 16 := hok.1.hp
      have hlen : (rcC n i ls rp).length = 19 := rc_len hok
      have hf : chk n i ls = chkR ⟨n, i, ls, rp⟩ := rfl
      dsimp only at ho
      rw [hf] at hC
      generalize chkR ⟨n, i, ls, rp⟩ = e at *
      by_cases c0 : e = 0
      case neg =>
        rw [if_pos c0] at ho
        repeat' ((conv => whnf); first | (refine nv_ (rcT n i ls rp) (by first | (exact eltRc (r := ⟨n, i, ls, rp⟩) (by simp only [Int.toNat_natCast]; exact hxe); done) | fail) ?_) | refine k_call _ (hC) ?_ | refine now_N1 c0 ?_ | refine nT_ ?_ | refine aD1 ?_ | (refine And.intro (by first | ((simp; omega); done) | (exact hlen; done) | (exact ⟨hlen, Nat.le_of_ble_eq_true rfl⟩; done) | fail) ?_) | refine aS ?_ | (exact ri (by rw [← ho]) (ri (by rw [← ho]) trivial)) | fail)
      subst c0
      rw [if_neg (by simp)] at ho
      by_cases c1 : n = node
      case neg =>
        rw [if_pos c1] at ho
        repeat' ((conv => whnf); first | (refine nv_ (rcT n i ls rp) (by first | (exact eltRc (r := ⟨n, i, ls, rp⟩) (by simp only [Int.toNat_natCast]; exact hxe); done) | fail) ?_) | refine k_call _ (hC) ?_ | refine now_N1 c1 ?_ | refine nT_ ?_ | refine aN1 ?_ | refine aN0 ?_ | refine aD1 ?_ | (refine And.intro (by first | ((simp; omega); done) | (exact hlen; done) | (exact ⟨hlen, Nat.le_of_ble_eq_true rfl⟩; done) | fail) ?_) | refine aS ?_ | (exact ri (by rw [← ho]) (ri (by rw [← ho]) trivial)) | fail)
      rw [if_neg (by simpa using c1)] at ho
      by_cases c2 : i = k
      case neg =>
        rw [if_pos c2] at ho
        repeat' ((conv => whnf); first | (refine nv_ (rcT n i ls rp) (by first | (exact eltRc (r := ⟨n, i, ls, rp⟩) (by simp only [Int.toNat_natCast]; exact hxe); done) | fail) ?_) | refine k_call _ (hC) ?_ | refine now_N0 c1 ?_ | refine now_N1 c2 ?_ | refine nT_ ?_ | refine aN1 ?_ | refine aN0 ?_ | refine aD1 ?_ | (refine And.intro (by first | ((simp; omega); done) | (exact hlen; done) | (exact ⟨hlen, Nat.le_of_ble_eq_true rfl⟩; done) | fail) ?_) | refine aS ?_ | (exact ri (by rw [← ho]) (ri (by rw [← ho]) trivial)) | fail)
      rw [if_neg (by simpa using c2)] at ho
      by_cases c3 : rp = pv
      case neg =>
        rw [if_pos c3] at ho
        repeat' ((conv => whnf); first | (refine nv_ (rcT n i ls rp) (by first | (exact eltRc (r := ⟨n, i, ls, rp⟩) (by simp only [Int.toNat_natCast]; exact hxe); done) | fail) ?_) | refine k_call _ (hC) ?_ | refine now_N0 c1 ?_ | refine now_N0 c2 ?_ | (refine nv_ (dg16 rp) (by first | (exact aggPv2 rfl hp1; done) | fail) ?_) | refine nb_ (!false) (neY (decide_eq_false c3)) ?_ | refine nT_ ?_ | refine aN1 ?_ | refine aN0 ?_ | refine aD1 ?_ | (refine And.intro (by first | ((simp; omega); done) | (exact hlen; done) | (exact ⟨hlen, Nat.le_of_ble_eq_true rfl⟩; done) | (exact ⟨fits16 hp1, fits16 hpl⟩; done) | fail) ?_) | refine aS ?_ | (exact ri (by rw [← ho]) (ri (by rw [← ho]) trivial)) | fail)
      rw [if_neg (by simpa using c3)] at ho
      repeat' ((conv => whnf); first | (refine nv_ (rcT n i ls rp) (by first | (exact eltRc (r := ⟨n, i, ls, rp⟩) (by simp only [Int.toNat_natCast]; exact hxe); done) | fail) ?_) | refine k_call _ (hC) ?_ | refine now_N0 c1 ?_ | refine now_N0 c2 ?_ | (refine nv_ (dg16 rp) (by first | (exact aggPv2 rfl hp1; done) | fail) ?_) | refine nb_ (!true) (neY (decide_eq_true c3)) ?_ | refine k_call _ (hD) ?_ | refine nT_ ?_ | refine aN0 ?_ | refine aD1 ?_ | (refine And.intro (by first | ((simp; omega); done) | (exact hlen; done) | (exact ⟨hlen, Nat.le_of_ble_eq_true rfl⟩; done) | (exact ⟨fits16 hp1, fits16 hpl⟩; done) | (exact ⟨(List.length_map _).trans hdl, Nat.le_of_ble_eq_true rfl⟩; done) | (exact ⟨(List.length_map _).trans hdl, (Nat.le_of_eq ((List.length_map _).trans hpl).symm)⟩; done) | fail) ?_) | refine aS ?_ | fail)
      refine ⟨(k + 1, dgR n i ls rp), ⟨by dsimp only; omega, hdl, ho⟩, by dsimp only; omega, ?_⟩
      repeat' (first | ((refine leBd ?_; exact (putL_all (by simpa using hpl)).symm)) | exact trivial | exact LeV.same _ | exact rfl | exact fun _ _ _ => trivial | exact lI | refine And.intro ?_ ?_)
    · have : k = l.length := by omega
      subst this
      rw [List.drop_length] at ho
      repeat' ((conv => whnf); first | refine aD0 ?_ | refine aS ?_ | fail)
      exact ⟨(), ho.symm, by repeat' (first | exact trivial | exact LeV.same _ | exact rfl | exact fun _ _ _ => trivial | refine And.intro ?_ ?_)⟩
  rintro - hr
  rw [hr]
  repeat' ((conv => whnf); first | exact trivial | refine rix ?_ | fail)
end Go.RC
end
section
namespace Go.RC
open Go Go.DL Go.Proofs Go.RowKit
set_option maxRecDepth 100000
theorem cells5 : Tryz.prog.cellsOf 5 = 1 := by kernel_rfl
theorem cells36 : Tryz.prog.cellsOf 71 = 8 := by kernel_rfl
theorem cells47 : Tryz.prog.cellsOf 28 = 1 := by kernel_rfl
theorem cells49 : Tryz.prog.cellsOf 30 = 16 := by kernel_rfl
theorem cells51 : Tryz.prog.cellsOf 41 = 19 := by kernel_rfl
theorem wf64 {n : Int} (h : (Lit.int .i64 n).wf = true) : i64 n := by
  simp only [Lit.wf, Bool.and_eq_true, decide_eq_true_eq] at h
  obtain ⟨h1, h2⟩ := h
  have e1 : IntKind.i64.min = -9223372036854775808 := by decide
  have e2 : IntKind.i64.max = 9223372036854775807 := by decide
  rw [e1] at h1; rw [e2] at h2
  unfold i64; omega
theorem wf8 {n : Int} (h : (Lit.int .u8 n).wf = true) : 0 ≤ n ∧ n < 256 := by
  simp only [Lit.wf, Bool.and_eq_true, decide_eq_true_eq] at h
  obtain ⟨h1, h2⟩ := h
  have e1 : IntKind.u8.min = 0 := by decide
  have e2 : IntKind.u8.max = 255 := by decide
  rw [e1] at h1; rw [e2] at h2
  omega
theorem hasU8 {us : List T} (h : HasC Tryz.prog 5 us) : ∃ n, us = [Y n] ∧ (Lit.int .u8 n).wf = true := by
  cases h with
  | int h n hw => rw [Tryz.underlying5] at h; cases h; exact ⟨n, rfl, hw⟩
  | bool h | str h | nil h | slice h | struct h | array h => rw [Tryz.underlying5] at h; cases h
theorem hasDig {us : List T} (h : HasC Tryz.prog 30 us) : ∃ x : List Int, us = x.map Y ∧ x.length = 16 ∧ areB x := by
  cases h with
  | array h us hl hf =>
    rw [Tryz.underlying30] at h
    cases h
    rw [cells49] at hl
    have key : ∀ i, i < 16 → ∃ n, us[i]? = some (Y n) ∧ (Lit.int .u8 n).wf = true := fun i hi => by
      obtain ⟨n, e, w⟩ := hasU8 (hf i hi)
      rw [cells5, Nat.mul_one, List.take_one] at e
      refine ⟨n, ?_, w⟩
      have : (us.drop i).head? = us[i]? := by rw [List.head?_drop]
      rw [this] at e
      cases hx : us[i]? with
      | none => rw [hx] at e; cases e
      | some x => rw [hx] at e; cases e; rfl
    refine ⟨us.map fun t => match t with | .int _ n => n | _ => 0, ?_, by simpa using hl, fun n hn => ?_⟩
    · refine List.ext_getElem? fun i => ?_
      rcases Nat.lt_or_ge i 16 with hi | hi
      · obtain ⟨n, e, _⟩ := key i hi
        rw [e]
        simp [e]
      · rw [List.getElem?_eq_none (by omega), List.getElem?_eq_none (by simp; omega)]
    · obtain ⟨t, ht, rfl⟩ := List.mem_map.1 hn
      obtain ⟨i, hi⟩ := List.mem_iff_getElem?.1 ht
      obtain ⟨n, e, w⟩ := key i (by have := (List.getElem?_eq_some_iff.1 hi).1; omega)
      rw [e] at hi
      cases hi
      exact wf8 w
  | int h | bool h | str h | nil h | slice h | struct h => rw [Tryz.underlying30] at h; cases h
theorem hasLine {us : List T} (h : HasC Tryz.prog 71 us) : ∃ x : List Int, us = x.map I ∧ x.length = 8 ∧ ∀ n ∈ x, i64 n := by
  cases h with
  | struct h us hl hf =>
    rw [Tryz.underlying71] at h
    cases h
    rw [cells36] at hl
    match us, hl with
    | [a, b, c, d, e, f, g, j], _ =>
      have f0 := hf ⟨ "Side", 3, 0, false, "", "", 0⟩ (by simp)
      have f1 := hf ⟨ "Port", 3, 1, false, "", "", 8⟩ (by simp)
      have f2 := hf ⟨ "Flow", 3, 2, false, "", "", 16⟩ (by simp)
      have f3 := hf ⟨ "Count", 3, 3, false, "", "", 24⟩ (by simp)
      have f4 := hf ⟨ "Sum", 67, 4, false, "", "", 32⟩ (by simp)
      simp only [cells3, cells25, List.drop, List.take] at f0 f1 f2 f3 f4
      obtain ⟨n0, e0, w0⟩ := hasInt f0
      obtain ⟨n1, e1, w1⟩ := hasInt f1
      obtain ⟨n2, e2, w2⟩ := hasInt f2
      obtain ⟨n3, e3, w3⟩ := hasInt f3
      obtain ⟨x, ex, hx, wx⟩ := hasInts Tryz.underlying67 cells25 f4
      simp only [List.cons.injEq, and_true] at e0 e1 e2 e3
      subst e0; subst e1; subst e2; subst e3
      refine ⟨n0 :: n1 :: n2 :: n3 :: x, by rw [ex]; rfl, by simp [hx], fun n hn => ?_⟩
      simp only [List.mem_cons] at hn
      rcases hn with rfl | rfl | rfl | rfl | hn
      · exact wf64 w0
      · exact wf64 w1
      · exact wf64 w2
      · exact wf64 w3
      · exact wf64 (wx n hn)
  | int h | bool h | str h | nil h | slice h | array h => rw [Tryz.underlying71] at h; cases h
theorem mk36 (us : List T) : mkT Tryz.prog 71 us = .agg us := by unfold mkT; rw [Tryz.underlying71]
theorem mk51 (us : List T) : mkT Tryz.prog 41 us = .agg us := by unfold mkT; rw [Tryz.underlying41]
theorem aLine {us : List T} (h : HasC Tryz.prog 71 us) : ∃ x : List Int, mkT Tryz.prog 71 us = ln x ∧ x.length = 8 ∧ ∀ n ∈ x, i64 n := by
  obtain ⟨x, rfl, hx, hw⟩ := hasLine h
  exact ⟨x, mk36 _, hx, hw⟩
theorem hasLines {us : List T} (h : HasC Tryz.prog 28 us) : ∃ (t : T) (ls : List (List Int)), us = [t] ∧ Les t (linesT ls) ∧ ls.length ≤ bulkL us ∧ ∀ x ∈ ls, x.length = 8 ∧ ∀ y ∈ x, i64 y := by
  cases h with
  | nil h => exact ⟨.nil, [], rfl, Les.nil 8, by simp, by simp⟩
  | slice h xs hx hl =>
    rw [Tryz.underlying28] at h
    cases h
    rw [cells36]
    have key : ∃ ls : List (List Int), xs.map (mkT Tryz.prog 71) = ls.map ln ∧ ls.length ≤ bulkL (xs.map (mkT Tryz.prog 71)) ∧ ∀ x ∈ ls, x.length = 8 ∧ ∀ y ∈ x, i64 y := by
      clear hl
      induction xs with
      | nil => exact ⟨[], rfl, by simp, by simp⟩
      | cons x xs ih =>
        obtain ⟨y, h1, h2, h3⟩ := aLine (hx x (by simp))
        obtain ⟨l, k2, k3, k4⟩ := ih fun y hy => hx y (by simp [hy])
        refine ⟨y :: l, by simp only [List.map_cons, k2, h1], ?_, fun z hz => ?_⟩
        · simp only [List.map_cons, bulkL, List.length_cons]
          rw [h1]
          obtain ⟨a, b, c, d, e, f, g, j, rfl⟩ := ex8 h2
          simp only [ln, T.bulk, List.map_cons, bulkL]
          omega
        · rcases List.mem_cons.1 hz with rfl | hz
          · exact ⟨h2, h3⟩
          · exact k4 z hz
    obtain ⟨ls, k2, k3, k4⟩ := key
    exact ⟨_, ls, rfl, by rw [k2]; exact Les.refl _, by simp only [bulkL, T.bulk]; omega, k4⟩
  | int h | bool h | str h | array h | struct h => rw [Tryz.underlying28] at h; cases h
theorem lesL_refl : ∀ (us : List T), (∀ u ∈ us, u.one = true) → LesL us us
  | [], _ => .nil
  | u :: us, h => .cons (Les.refl _) (h u (by simp)) (lesL_refl us fun x hx => h x (by simp [hx]))
theorem rd_receipt {us : List T} (h : HasC Tryz.prog 41 us) (hb : bulkL us < 2 ^ 20) : ∃ r : Rc, LesL us (rcC r.n r.i r.ls r.pv) ∧ r.ok ∧ 1 ≤ bulkL us := by
  cases h with
  | struct h us hl hf =>
    rw [Tryz.underlying41] at h
    cases h
    rw [cells51] at hl
    match us, hl with
    | a :: b :: c :: ps, hl =>
      have f0 := hf ⟨ "Node", 3, 0, false, "", "", 0⟩ (by simp)
      have f1 := hf ⟨ "Interval", 3, 1, false, "", "", 8⟩ (by simp)
      have f2 := hf ⟨ "Lines", 28, 2, false, "", "", 16⟩ (by simp)
      have f3 := hf ⟨ "Prev", 30, 3, false, "", "", 40⟩ (by simp)
      simp only [cells3, cells47, cells49, List.drop, List.take] at f0 f1 f2 f3
      have hp : ps.length = 16 := by simpa using hl
      rw [List.take_of_length_le (by omega)] at f3
      obtain ⟨n, e0, w0⟩ := hasInt f0
      obtain ⟨i, e1, w1⟩ := hasInt f1
      obtain ⟨t, ls, e2, l1, l2, l3⟩ := hasLines f2
      obtain ⟨pv, e3, p1, p2⟩ := hasDig f3
      simp only [List.cons.injEq, and_true] at e0 e1 e2
      subst e0; subst e1; subst e2; subst e3
      refine ⟨⟨n, i, ls, pv⟩, .cons (Les.refl _) rfl (.cons (Les.refl _) rfl (.cons l1 rfl (lesL_refl _ (mones (fun _ => rfl) pv)))), ⟨⟨wf64 w0, wf64 w1, l3, p1, p2⟩, ?_⟩, by simp only [bulkL, T.bulk]; omega⟩
      simp only [bulkL, T.bulk] at hb l2
      show ls.length < 2 ^ 20
      omega
    | [], hl => simp at hl
    | [_], hl => simp at hl
    | [_, _], hl => simp at hl
  | int h | bool h | str h | nil h | slice h | array h => rw [Tryz.underlying41] at h; cases h
theorem aRcs {us : List T} (h : HasC Tryz.prog 33 us) (hb : bulkL us < 2 ^ 20) : ∃ l : List Rc, Les (mkT Tryz.prog 33 us) (rcs l) ∧ l.length < 2 ^ 20 ∧ ∀ r ∈ l, r.ok := by
  have e : ∀ t, mkT Tryz.prog 33 [t] = t := fun t => by unfold mkT; rw [Tryz.underlying33]; rfl
  cases h with
  | nil h => exact ⟨[], by rw [e]; exact Les.nil 19, by simp, by simp⟩
  | slice h xs hx hl =>
    rw [Tryz.underlying33] at h
    cases h
    rw [e, cells51]
    have em : xs.map (mkT Tryz.prog 41) = xs.map .agg := List.map_congr_left fun x _ => mk51 x
    rw [em] at hb ⊢
    simp only [bulkL, T.bulk] at hb
    have key : ∃ l : List Rc, l.length = xs.length ∧ l.length ≤ bulkL (xs.map .agg) ∧ (∀ r ∈ l, r.ok) ∧ ∀ (i : Nat) x (r : Rc), xs[i]? = some x → l[i]? = some r → LesL x (rcC r.n r.i r.ls r.pv) := by
      clear hl em
      induction xs with
      | nil => exact ⟨[], rfl, by simp, by simp, by simp⟩
      | cons x xs ih =>
        simp only [List.map_cons, bulkL, T.bulk] at hb
        obtain ⟨r, h1, h2, hp⟩ := rd_receipt (hx x (by simp)) (by omega)
        obtain ⟨l, k1, k2, k3, k4⟩ := ih (fun y hy => hx y (by simp [hy])) (by omega)
        refine ⟨r :: l, by simp [k1], by simp only [List.map_cons, bulkL, T.bulk, List.length_cons]; omega, fun s hs => ?_, fun i y s hy hs => ?_⟩
        · rcases List.mem_cons.1 hs with rfl | hs
          · exact h2
          · exact k3 s hs
        · cases i with
          | zero => simp at hy hs; subst hy; subst hs; exact h1
          | succ i => exact k4 i y s (by simpa using hy) (by simpa using hs)
    obtain ⟨l, k1, k2, k3, k4⟩ := key
    refine ⟨l, Les.slice (by simp [k1]) fun i x y hx hy => ?_, by omega, k3⟩
    rw [List.getElem?_map] at hx hy
    obtain ⟨x', hx', rfl⟩ := Option.map_eq_some_iff.1 hx
    obtain ⟨r', hr', rfl⟩ := Option.map_eq_some_iff.1 hy
    exact ⟨k4 i x' r' hx' hr', rc_len (k3 r' (List.mem_of_getElem? hr'))⟩
  | int h | bool h | str h | array h | struct h => rw [Tryz.underlying33] at h; cases h
end Go.RC
end
section
namespace Go.RC
open Go Go.DL Go.Proofs
set_option maxRecDepth 100000
set_option maxHeartbeats 1000000
abbrev nk (k : N3) : T := nm k.1 k.2.1 k.2.2
abbrev sh3 : List Sh := [.int .i64, .int .i64, .int .i64]
abbrev mpT (ks : List N3) (vs : List T) : T := .mapd true sh3 (ks.map nk) vs
noncomputable def ropsOf (id : Nat) (c : Option Code) : Array Oper := match rg0 id c with
  | .region _ ops _ => ops
  | _ => #[]
noncomputable abbrev fA : Option Code := Tryz.f134.body
noncomputable abbrev fK : Option Code := Tryz.f83.body
theorem bA : fA = some (.seq (.region 0 (ropsOf 0 fA) false) (.seq (.seq (.region 1 (ropsOf 1 fA) false)
    (.block 0 (.rangeFunc (.tmp 6) #[7] (.region 2 (ropsOf 2 fA) false) (.block 1 (.region 3 (ropsOf 3 fA) false))))) (.seq (.region 4 (ropsOf 4 fA) false) .ret))) := by kernel_rfl
abbrev isA2 : List DI := [⟨some 5, .alloc [I 0, I 0, I 0], none, []⟩, ⟨none, .store 3 (.tmp 5) (.tmp 7), none, [0, 0]⟩]
abbrev isA3 : List DI := [⟨some 8, .load 1 false (.tmp 2), none, []⟩, ⟨some 9, .load 3 true (.tmp 5), none, []⟩, ⟨some 10, .buildS 85 3 1 [I 0, I 0, I 0] [(0, .tmp 9)], none, [1]⟩,
  ⟨some 11, .append 92 85 3 24 (.tmp 8) (.tmp 10), none, [0, 2]⟩, ⟨none, .store 1 (.tmp 2) (.tmp 11), none, [3, 3, 0, 1, 2, 3]⟩]
theorem bA_0 : lowIs Tryz.prog 13 [] (ropsOf 0 fA) (ropsOf 0 fA).toList = some [⟨some 2, .box 1 (.tmp 0), none, []⟩, ⟨some 4, .mov (.const .nil), none, []⟩] := by kernel_rfl
theorem bA_1 : lowIs Tryz.prog 13 [] (ropsOf 1 fA) (ropsOf 1 fA).toList = some [⟨some 6, .mov (.tmp 1), none, []⟩] := by kernel_rfl
theorem bA_2 : lowIs Tryz.prog 13 [] (ropsOf 2 fA) (ropsOf 2 fA).toList = some isA2 := by kernel_rfl
theorem bA_3 : lowIs Tryz.prog 13 [] (ropsOf 3 fA) (ropsOf 3 fA).toList = some isA3 := by kernel_rfl
theorem bA_4 : lowIs Tryz.prog 13 [] (ropsOf 4 fA) (ropsOf 4 fA).toList = some [⟨some 12, .load 1 false (.tmp 2), none, []⟩, ⟨some 4, .mov (.tmp 12), none, [0, 0]⟩] := by kernel_rfl
noncomputable abbrev yK : Array Oper := ropsOf 3 fK
theorem bK : rg0 3 fK = .region 3 yK false := by kernel_rfl
theorem bK_1 : lowK Tryz.prog 14 yK [0, 1] = some [⟨some 10, .mov (.tmp 0), none, []⟩, ⟨some 11, .load 3 true (.tmp 3), none, []⟩] := by kernel_rfl
theorem bK_2 : lowK Tryz.prog 14 yK [3] = some [⟨some 13, .not (.tmp 12), none, [2]⟩] := by kernel_rfl
theorem bK_o : ∃ o ats, yK[2]? = some o ∧ o.guard = none ∧ o.op = .call { callee := .value (.tmp 10), args := #[.tmp 11], argTypes := ats } ∧ o.dst = some 12 := by
  refine ⟨((ropsOf 3 fK)[2]?).getD default, (match (((ropsOf 3 fK)[2]?).getD default).op with | .call c => c.argTypes | _ => #[]), by kernel_rfl, by kernel_rfl, by kernel_rfl, by kernel_rfl⟩
noncomputable abbrev itA (l d : Nat) (f : FuncId) (tmps : Array Value) : Base → World → Prop := iterCx l (readyRec f tmps 7 (.region 2 (ropsOf 2 fA) false) (.block 1 (.region 3 (ropsOf 3 fA) false)) d)
end Go.RC
end
section
namespace Go.RC
open Go Go.DL Go.Proofs
set_option maxRecDepth 100000
set_option maxHeartbeats 1000000
def permOf (ks : List N3) (xs : List T) : Prop := ∃ js : List Nat, js.Perm (List.range ks.length) ∧ xs = js.map fun j => nk (ks.getD j (0, 0, 0))
theorem range_perm {ix : List Nat} {n : Nat} (hn : ix.Nodup) (hl : ∀ j ∈ ix, j < n) (ha : ∀ j, j < n → j ∈ ix) : ix.Perm (List.range n) :=
  (List.perm_ext_iff_of_nodup hn List.nodup_range).2 fun j => ⟨fun h => List.mem_range.2 (hl j h), fun h => ha j (List.mem_range.1 h)⟩
abbrev outK (ks : List N3) (ix : List Nat) : List T := ix.map fun j => nk (ks.getD j (0, 0, 0))
abbrev esK (ks : List N3) (vs : List T) : List (T × T) := (ks.map nk).zip vs
theorem esK_get {ks : List N3} {vs : List T} {j : Nat} {e : T × T} (h : (esK ks vs)[j]? = some e) : e.1 = nk (ks.getD j (0, 0, 0)) ∧ j < ks.length := by
  rw [List.getElem?_zip_eq_some] at h
  obtain ⟨h1, _⟩ := h
  rw [List.getElem?_map, Option.map_eq_some_iff] at h1
  obtain ⟨k, hk, hk2⟩ := h1
  refine ⟨?_, (List.getElem?_eq_some_iff.1 hk).1⟩
  rw [List.getD_eq_getElem?_getD, hk, ← hk2]; rfl
theorem ent_last (es : List (T × T)) (ix : List Nat) (j : Nat) (e : T × T) (h : es[j]? = some e) : entT es (ix ++ [j]) = .tup [e.1, e.2] := by
  unfold entT
  rw [List.getLast?_concat]
  simp [h]
abbrev WK (l : Nat) (C : Base → World → Prop) (ks : List N3) (vs : List T) (ix : List Nat) (sl : List (Nat × V)) (bx : List (Nat × BX)) : Wk :=
  { sl := (0, .raw (.func (.yield l) #[] #[])) :: (5, .ptr 2005 0) :: sl, bx := (2, .v [.own 3011 85 3 (outK ks ix)]) :: (2005, .itd (esK ks vs) ix) :: bx, gh := [(0, [(2, .ptr 2 0)])], off := 2000, cx := C }
theorem cK_wp (l d : Nat) (f : FuncId) (tmps : Array Value) (ht : tmps.size = 13) (ks : List N3) (vs : List T) (hvs : vs.length = ks.length) (hl : ks.length < 2 ^ 40) (st0 : St)
    (h0 : st0 = ({sl := [(2, .ptr 2 0), (6, .fn 83 [.t (.cptr [mpT ks vs] 0)])], bx := [(2, .v [.own 3011 85 3 []])]} : Wk).mk') :
    wpC Tryz.prog c83 (st0.iter l (readyRec f tmps 7 (.region 2 (ropsOf 2 fA) false) (.block 1 (.region 3 (ropsOf 3 fA) false)) d) [.t (.cptr [mpT ks vs] 0)] 2000)
      (PostI st0 fun st => st.sl 2 = .ptr 2 0 ∧ (∃ xs, permOf ks xs ∧ st.bx 2 = some (.v [.own 3011 85 3 xs])) ∧ ∀ S w, st.cx S w) := by
  subst h0
  have hes : (esK ks vs).length = ks.length := by simp [hvs]
  repeat' ((conv => whnf); first | refine nT_ ?_ | refine aS ?_ | fail)
  refine wpC_loopE 0 (α := List Nat) (β := List Nat) (fun ix => WK l (itA l d f tmps) ks vs ix [] []) (fun ix => ix.Nodup ∧ ∀ j ∈ ix, j < ks.length) (fun ix => ks.length - ix.length)
    (fun ix => WK l (itA l d f tmps) ks vs ix [] []) (fun ix => ix.Perm (List.range ks.length)) [] ⟨List.nodup_nil, by simp⟩ ?_ ?_ ?_
  · exact ⟨⟨.same _, .same _, trivial⟩, ⟨.same _, .same _, trivial⟩, ⟨⟨.same _, trivial⟩, trivial⟩, rfl, fun _ _ h => h, rfl⟩
  · rintro ix ⟨hnd, hix⟩
    refine And.intro (fun j hj => by rw [hes]; exact hix j hj) (And.intro ?_ ?_)
    · intro j e he hj
      obtain ⟨he1, hjl⟩ := esK_get he
      have hent := ent_last _ ix j e he
      have hje : (ix ++ [j]).getLast?.getD 0 < (esK ks vs).length := by rw [List.getLast?_concat, hes]; exact hjl
      obtain ⟨e1, e2⟩ := e
      dsimp only at he1 hent
      subst he1
      have hixl : ix.length ≤ ks.length := by
        have := hnd.length_le_of_subset (l₂ := List.range ks.length) (fun j hj => List.mem_range.2 (hix j hj))
        simpa using this
      have hnd' : (ix ++ [j]).Nodup := by
        rw [List.nodup_append]
        exact ⟨hnd, by simp, fun a ha b hb => by rw [List.mem_singleton.1 hb]; exact fun e => hj (e ▸ ha)⟩
      have hix' : ∀ i ∈ ix ++ [j], i < ks.length := fun i hi => by
        rcases List.mem_append.1 hi with h | h
        · exact hix i h
        · rw [List.mem_singleton.1 h]; exact hjl
      have hixl' : (ix ++ [j]).length ≤ ks.length := by
        have := hnd'.length_le_of_subset (l₂ := List.range ks.length) (fun j hj => List.mem_range.2 (hix' j hj))
        simpa using this
      repeat' ((conv => whnf); first | refine nv_ (.tup [nk (ks.getD j (0, 0, 0)), e2]) hent ?_ | (refine And.intro (by first | (exact ⟨by simp, hje⟩; done) | fail) ?_) | refine aS ?_ | fail)
      obtain ⟨o, ats, o1, o2, o3, o4⟩ := bK_o
      have hsem : ∀ (st : St) (Q : DExit → St → Prop), SemC Tryz.prog 14 (.region 3 yK false) st Q → SemC Tryz.prog 14 (rg0 3 fK) st Q := fun st Q h => by rw [bK]; exact h
      refine hsem _ _ ?_
      refine yield_sem (P := Tryz.prog) (k1 := [0, 1]) (k := 2) (k2 := [3]) (by kernel_rfl) bK_1 rfl bK_2 rfl o1 o2 o3 o4 (by decide) (p := 7) ht (by decide) bA_2 rfl bA_3 rfl 3000 (l := l) (fn := f) (dd := d) (id1 := 2) (id2 := 3) (bl := 1) ?_
      refine ⟨fun _ _ h => h, rfl, ?_⟩
      repeat' ((conv => whnf); first | (refine And.intro (by first | (exact fun _ _ => trivial; done) | (exact ⟨rfl, Nat.le_of_ble_eq_true rfl⟩; done) | ((simp; omega); done) | (exact .inl rfl; done) | fail) ?_) | refine aS ?_ | fail)
      refine ⟨ix ++ [j], ⟨hnd', hix'⟩, by rw [List.length_append]; simp at hixl' ⊢; omega, ?_⟩
      refine ⟨⟨.same _, .same _, trivial⟩, ⟨?_, .same _, trivial⟩, ⟨⟨.same _, trivial⟩, trivial⟩, rfl, fun _ _ h => h, rfl⟩
      refine .v _ _ ⟨leOwn ?_, trivial⟩
      simp [outK, putL]
    · intro hall
      skip
      refine ⟨ix, range_perm hnd hix (fun j hj => hall j (by rw [hes]; exact hj)), ?_⟩
      exact ⟨⟨.same _, .same _, trivial⟩, ⟨.same _, .same _, trivial⟩, ⟨⟨.same _, trivial⟩, trivial⟩, rfl, fun _ _ h => h, rfl⟩
  rintro ix hp
  repeat' ((conv => whnf); first | refine aS ?_ | fail)
  exact ⟨⟨_, ⟨ix, hp, rfl⟩, rfl⟩, fun _ _ => trivial⟩
theorem upd_same_id {α : Type} {f : Nat → α} {n : Nat} {v : α} (h : f n = v) : upd f n v = f := by
  funext m
  by_cases e : m = n
  · rw [e, upd_same, h]
  · rw [upd_other _ _ _ _ e]
theorem nk_flat (js : List Nat) (ks : List N3) : ∀ t ∈ (js.map fun j => nk (ks.getD j (0, 0, 0))).flatMap T.cells, t.flat = true := fun t ht => by
  simp only [List.mem_flatMap, List.mem_map] at ht
  obtain ⟨x, ⟨j, _, rfl⟩, hx⟩ := ht
  simp only [T.cells, List.mem_cons, List.not_mem_nil, or_false] at hx
  rcases hx with rfl | rfl | rfl <;> rfl
abbrev keysC (ks : List N3) (vs : List T) : T := .clos 83 [.cptr [mpT ks vs] 0]
theorem f_AppendSeq (ks : List N3) (vs : List T) (hvs : vs.length = ks.length) (hl : ks.length < 2 ^ 40) : FCallsR Tryz.prog 134 [.nil, keysC ks vs] 85 3 (permOf ks) := by
  refine fcallsR_mark Tryz.func134 bA rfl (Nat.le_of_ble_eq_true rfl) ?_
  intro S w a0 hsr hdf
  let K0 : St → Prop := fun st => wpIs Tryz.prog [⟨some 6, .mov (.tmp 1), none, []⟩] st fun st =>
    weak { sl := [(2, .ptr 2 0), (6, .t (keysC ks vs))], bx := [(2, .d 1 [.nil])] } st
  have hK0 : wpIs Tryz.prog [⟨some 2, .box 1 (.tmp 0), none, []⟩, ⟨some 4, .mov (.const .nil), none, []⟩] (initSt [.nil, keysC ks vs]) K0 := by
    repeat' ((conv => whnf); first | refine aS ?_ | fail)
    exact ⟨⟨.same _, .same _, trivial⟩, ⟨.same _, trivial⟩, trivial, rfl, fun _ _ _ => trivial, rfl⟩
  refine wp_seq (region_wp (X := []) (N := 13) hsr bA_0 (fun a1 w1 h1 => ?_) hK0)
  obtain ⟨E1, s1, rfl, k1, k2, k3⟩ := h1
  refine wp_seq (wp_seq (region_wp (X := []) k1 bA_1 (fun a2 w2 h2 => ?_) k3))
  obtain ⟨E2, s2, rfl, k4, k5, k6⟩ := h2
  obtain ⟨E3, e3, k7⟩ := k4.weak k6
  rw [← e3]
  have k8 := k7.reread (k := 6) (k7.sl 6).clos_fn
  obtain ⟨E4, e4, k10⟩ := SR.weak (a := a2) (s := {sl := [(2, .ptr 2 0), (6, .fn 83 [.t (.cptr [mpT ks vs] 0)])], bx := [(2, .v [.own 3011 85 3 []])]}) k8 ⟨⟨.same _, .same _, trivial⟩, ⟨.dv _ _ _ ⟨.nil _ _ _, trivial⟩, trivial⟩, trivial, rfl, fun _ _ _ => trivial, rfl⟩
  rw [← e4]
  refine wp_block ?_
  refine range_wp mixed k10 (fun _ _ => trivial) (y := .tmp 6) rfl (gf := 83) (caps := [.t (.cptr [mpT ks vs] 0)]) rfl Tryz.func83 l83 rfl rfl rfl (Nat.le_of_ble_eq_true rfl) 2000
    (K := fun st => st.sl 2 = .ptr 2 0 ∧ (∃ xs, permOf ks xs ∧ st.bx 2 = some (.v [.own 3011 85 3 xs])) ∧ ∀ S w, st.cx S w) (fun l d f tmps ht => ?_) (fun a5 w5 h5 => ?_)
  · exact cK_wp l d f tmps ht ks vs hvs hl _ rfl
  · obtain ⟨S0', E5, s5, D, rfl, q1, q2, q3, q4, q5, q6, r1, ⟨xs, hxs, r2⟩, r3⟩ := h5
    have q6' : a5.defers = [{ target := .collected D, args := #[] }] := by rw [q6, k5, k2, hdf]
    show Code.wp _ _ _ _ _
    refine wp_seq (region_wp (X := []) q1 bA_4 (K := fun st => (∀ S w, st.cx S w) ∧ st.sl 4 = .own 3011 85 3 xs) (fun a6 w6 h6 => ?_) ?_)
    · obtain ⟨E6, s6, rfl, p1, p2, p3, p4⟩ := h6
      obtain ⟨js, hjs, rfl⟩ := hxs
      refine wp_ret ⟨.inr rfl, S0', E6, s6, D, rfl, p1, q2, q3, q4, q5, by rw [p2, q6'], p3, _, _, ⟨js, hjs, rfl⟩, nk_flat js ks, ?_, .inl ⟨3011, rfl⟩⟩
      have : resV s6 Tryz.f134.results.toList = some [s6.sl 4] := by
        rw [show Tryz.f134.results.toList = [.tmp 4] from rfl]; rfl
      rw [this, p4]
    · obtain ⟨sl5, bx5, gh5, off5, cx5⟩ := s5
      dsimp only at r1 r2 r3
      obtain ⟨g, rfl⟩ : ∃ g, sl5 = upd g 2 (.ptr 2 0) := ⟨sl5, (upd_same_id r1).symm⟩
      obtain ⟨b, rfl⟩ : ∃ b, bx5 = upd b 2 (some (.v [.own 3011 85 3 xs])) := ⟨bx5, (upd_same_id r2).symm⟩
      exact ⟨r3, rfl⟩
theorem f_Collect (ks : List N3) (vs : List T) (hvs : vs.length = ks.length) (hl : ks.length < 2 ^ 40) : FCallsR Tryz.prog 81 [keysC ks vs] 85 3 (permOf ks) := by
  refine fcallsR_low (rs := [.tmp 2]) mixed Tryz.func81 l81 rfl rfl rfl (Nat.le_of_ble_eq_true rfl) ?_
  repeat' ((conv => whnf); first | refine WC_ownR (ts := [.nil, keysC ks vs]) rfl (f_AppendSeq ks vs hvs hl) (fun xs hx => ?_) | fail)
  obtain ⟨js, hjs, rfl⟩ := hx
  exact ⟨_, _, ⟨js, hjs, rfl⟩, nk_flat js ks, rfl, .inl ⟨_, rfl⟩⟩
end Go.RC
end
section
namespace Go.Proofs
open Go.Shelf
def Tryz.laysSort82_ren : Go.Shelf.Ren := ⟨fun | 6 => 82 | 15 => 136 | 14 => 135 | 28 => 161 | 29 => 162 | 20 => 153 | 21 => 154 | 22 => 155 | 23 => 156 | 24 => 157 | 25 => 158 | 26 => 159 | 27 => 160 | 46 => 184 | 47 => 185 | 48 => 186 | 49 => 187 | 50 => 188 | 57 => 193 | n => n, fun | 22 => 92 | 24 => 85 | 25 => 97 | 3 => 3 | 39 => 133 | 0 => 0 | 53 => 176 | 55 => 179 | 4 => 4 | 46 => 202 | 45 => 201 | 50 => 206 | 5 => 5 | 9 => 9 | 66 => 228 | 70 => 232 | 76 => 237 | 77 => 238 | n => n, fun | n => n⟩
theorem Tryz.laysSort82 : Go.Proofs.SlLaysF0.n6 Tryz.prog Tryz.laysSort82_ren := {
  mixed := by kernel_rfl
  f6 := ⟨Tryz.f82.name, by decide, Tryz.func82.trans (congrArg some (by kernel_rfl))⟩
  f14 := ⟨Tryz.f135.name, by decide, Tryz.func135.trans (congrArg some (by kernel_rfl))⟩
  f15 := Tryz.func136.trans (congrArg some (by kernel_rfl))
  f20 := ⟨Tryz.f153.name, by decide, Tryz.func153.trans (congrArg some (by kernel_rfl))⟩
  f21 := ⟨Tryz.f154.name, by decide, Tryz.func154.trans (congrArg some (by kernel_rfl))⟩
  f22 := ⟨Tryz.f155.name, by decide, Tryz.func155.trans (congrArg some (by kernel_rfl))⟩
  f23 := ⟨Tryz.f156.name, by decide, Tryz.func156.trans (congrArg some (by kernel_rfl))⟩
  f24 := ⟨Tryz.f157.name, by decide, Tryz.func157.trans (congrArg some (by kernel_rfl))⟩
  f25 := ⟨Tryz.f158.name, by decide, Tryz.func158.trans (congrArg some (by kernel_rfl))⟩
  f26 := ⟨Tryz.f159.name, by decide, Tryz.func159.trans (congrArg some (by kernel_rfl))⟩
  f27 := ⟨Tryz.f160.name, by decide, Tryz.func160.trans (congrArg some (by kernel_rfl))⟩
  f28 := Tryz.func161.trans (congrArg some (by kernel_rfl))
  f29 := Tryz.func162.trans (congrArg some (by kernel_rfl))
  f46 := ⟨Tryz.f184.name, by decide, Tryz.func184.trans (congrArg some (by kernel_rfl))⟩
  f47 := Tryz.func185.trans (congrArg some (by kernel_rfl))
  f48 := Tryz.func186.trans (congrArg some (by kernel_rfl))
  f49 := ⟨Tryz.f187.name, by decide, Tryz.func187.trans (congrArg some (by kernel_rfl))⟩
  f50 := ⟨Tryz.f188.name, by decide, Tryz.func188.trans (congrArg some (by kernel_rfl))⟩
  f57 := ⟨Tryz.f193.name, by decide, Tryz.func193.trans (congrArg some (by kernel_rfl))⟩
  t0 := Tryz.underlying0
  a0 := Tryz.isAgg0
  z0 := Tryz.sizeOf0
  v0 := Tryz.zeroValue0
  t3 := Tryz.underlying3
  a3 := Tryz.isAgg3
  z3 := Tryz.sizeOf3
  v3 := Tryz.zeroValue3
  t4 := Tryz.underlying4
  a4 := Tryz.isAgg4
  z4 := Tryz.sizeOf4
  v4 := Tryz.zeroValue4
  t5 := Tryz.underlying5
  a5 := Tryz.isAgg5
  z5 := Tryz.sizeOf5
  v5 := Tryz.zeroValue5
  t9 := Tryz.underlying9
  a9 := Tryz.isAgg9
  z9 := Tryz.sizeOf9
  v9 := Tryz.zeroValue9
  t22 := Tryz.underlying92
  a22 := Tryz.isAgg92
  z22 := Tryz.sizeOf92
  v22 := Tryz.zeroValue92
  t25 := Tryz.underlying97
  a25 := Tryz.isAgg97
  z25 := Tryz.sizeOf97
  v25 := Tryz.zeroValue97
  t39 := Tryz.underlying133
  a39 := Tryz.isAgg133
  z39 := Tryz.sizeOf133
  v39 := Tryz.zeroValue133
  t45 := Tryz.underlying201
  a45 := Tryz.isAgg201
  z45 := Tryz.sizeOf201
  v45 := Tryz.zeroValue201
  t46 := Tryz.underlying202
  a46 := Tryz.isAgg202
  z46 := Tryz.sizeOf202
  v46 := Tryz.zeroValue202
  t50 := Tryz.underlying206
  a50 := Tryz.isAgg206
  z50 := Tryz.sizeOf206
  v50 := Tryz.zeroValue206
  t53 := Tryz.underlying176
  a53 := Tryz.isAgg176
  z53 := Tryz.sizeOf176
  v53 := Tryz.zeroValue176
  t55 := Tryz.underlying179
  a55 := Tryz.isAgg179
  z55 := Tryz.sizeOf179
  v55 := Tryz.zeroValue179
  t66 := Tryz.underlying228
  a66 := Tryz.isAgg228
  z66 := Tryz.sizeOf228
  v66 := Tryz.zeroValue228
  t70 := Tryz.underlying232
  a70 := Tryz.isAgg232
  z70 := Tryz.sizeOf232
  v70 := Tryz.zeroValue232
  t76 := Tryz.underlying237
  a76 := Tryz.isAgg237
  z76 := Tryz.sizeOf237
  v76 := Tryz.zeroValue237
  t77 := Tryz.underlying238
  a77 := Tryz.isAgg238
  z77 := Tryz.sizeOf238
  v77 := Tryz.zeroValue238 }
end Go.Proofs
end
section
namespace Go.RC
open Go Go.DL Go.Proofs
set_option maxRecDepth 100000
set_option maxHeartbeats 1000000
theorem sortsN : SortsK Tryz.prog 82 3 :=
  SortsK.of Tryz.laysSort82 3 (fun w => Tryz.isAgg85 w) (fun w => Tryz.sizeOf85 w) (callable_of Tryz.func82 rfl rfl)
theorem WC_sort_nil {P : Program} {f : FuncId} {k : Nat} {u : V} {d : Option Nat} {st : St} {K : St → Prop} (hs : SortsK P f k) (hk : K (st.set d (.t (.tup [])))) : WC P f [.t .nil, u] d st K := by
  refine ⟨hs.callable, fun N w0 S0 E a vs h hvl hv hd => ?_⟩
  have hsz : vs.size = 2 := hvl
  have hv0 := (hv 0 vs[0] _ (by simp [hsz]) rfl).inv_t
  have hvs : vs = #[vs[0], vs[1]] := by
    apply Array.ext
    · simp [hsz]
    · intro i h1 h2
      match i, h1 with
      | 0, _ => rfl
      | 1, _ => rfl
      | i + 2, h1 => omega
  have hsl : vs[0] = .slice none 0 0 := by
    generalize vs[0] = v at hv0
    cases hv0; rfl
  have hcall := hs.none_ none 0 vs[1] E.w
  rw [← hsl, ← hvs] at hcall
  refine hcall.mono ?_
  rintro e' w' ⟨rfl, rfl⟩
  exact ⟨_, rfl, _, _, rfl, hk, set_put h hd (.t _ _ (.tup #[] [] rfl fun i x t hx => by simp at hx))⟩
def cfN : T → T → Int
  | .agg [.int _ a, .int _ b, .int _ c], .agg [.int _ a', .int _ b', .int _ c'] => cmpN (a, b, c) (a', b', c')
  | _, _ => 0
def unk : T → N3
  | .agg [.int _ a, .int _ b, .int _ c] => (a, b, c)
  | _ => (0, 0, 0)
theorem cmpN_irr (a : N3) : ¬ cmpN a a < 0 := by rw [cmpN_lt]; omega
theorem cmpN_tr {a b c : N3} (h : cmpN a b < 0) (k : cmpN b c < 0) : cmpN a c < 0 := by rw [cmpN_lt] at *; omega
theorem cmpN_ntr {a b c : N3} (h : ¬ cmpN a b < 0) (k : ¬ cmpN b c < 0) : ¬ cmpN a c < 0 := by rw [cmpN_lt] at *; omega
theorem cmpN_anti {a b : N3} (h : ¬ cmpN a b < 0) (k : ¬ cmpN b a < 0) : a = b := by
  obtain ⟨a1, a2, a3⟩ := a
  obtain ⟨b1, b2, b3⟩ := b
  rw [cmpN_lt] at *
  simp only at h k
  simp only [Prod.mk.injEq]
  omega
def srt (ks : List N3) : List N3 := ks.mergeSort fun a b => !decide (cmpN b a < 0)
theorem srt_perm (ks : List N3) : (srt ks).Perm ks := List.mergeSort_perm _ _
theorem srt_sorted (ks : List N3) : (srt ks).Pairwise fun a b => ¬ cmpN b a < 0 := by
  have := List.pairwise_mergeSort (le := fun a b : N3 => !decide (cmpN b a < 0)) (fun a b c h k => by
    simp only [Bool.not_eq_true', decide_eq_false_iff_not] at *
    exact cmpN_ntr k h) (fun a b => by
    simp only [Bool.or_eq_true, Bool.not_eq_true', decide_eq_false_iff_not]
    rw [cmpN_lt, cmpN_lt]; omega) ks
  exact this.imp (fun h => by simpa using h)
theorem srt_eq {ks zs : List N3} (hp : zs.Perm ks) (hs : zs.Pairwise fun a b => ¬ cmpN b a < 0) : zs = srt ks :=
  List.Perm.eq_of_pairwise (fun a b _ _ h k => cmpN_anti k h) hs (srt_sorted ks) (hp.trans (srt_perm ks).symm)
theorem permOf_zs {ks : List N3} {xs : List T} (h : permOf ks xs) : ∃ zs : List N3, zs.Perm ks ∧ xs = zs.map nk := by
  obtain ⟨js, hp, rfl⟩ := h
  refine ⟨js.map fun j => ks.getD j (0, 0, 0), ?_, by simp⟩
  have h1 : ((List.range ks.length).map fun j => ks.getD j (0, 0, 0)) = ks := by
    apply List.ext_getElem?
    intro i
    rw [List.getElem?_map]
    by_cases h : i < ks.length
    · simp [h]
    · simp [h]
  have := hp.map (fun j => ks.getD j (0, 0, 0))
  rwa [h1] at this
theorem perm_nk {zs : List N3} {ys : List T} (h : ys.Perm (zs.map nk)) : ∃ zs' : List N3, zs'.Perm zs ∧ ys = zs'.map nk := by
  refine ⟨ys.map unk, ?_, ?_⟩
  · have := h.map unk
    rw [List.map_map] at this
    rwa [show unk ∘ nk = id from rfl, List.map_id] at this
  · rw [List.map_map]
    have : ys.map (nk ∘ unk) = ys.map id := List.map_congr_left fun y hy => by
      obtain ⟨z, _, rfl⟩ := List.mem_map.1 (h.mem_iff.1 hy)
      rfl
    rw [this, List.map_id]
theorem chunk_nk : ∀ (zs : List N3) (n : Nat), zs.length = n → chunk 3 n ((zs.map nk).flatMap T.cells) = zs.map nk
  | [], 0, _ => rfl
  | z :: zs, n + 1, h => by
    show nk z :: chunk 3 n ((zs.map nk).flatMap T.cells) = _
    rw [chunk_nk zs n (by simpa using h)]
    rfl
  | z :: zs, 0, h => by simp at h
  | [], n + 1, h => by simp at h
theorem flat_nk : ∀ (zs : List N3), ((zs.map nk).flatMap T.cells).length = zs.length * 3
  | [] => rfl
  | z :: zs => by
    rw [List.map_cons, List.flatMap_cons, List.length_append, flat_nk zs, List.length_cons]
    show 3 + _ = _
    omega
theorem isnew_srt_nil {bx : Nat → Option BX} : IsNew bx (.t .nil) (.slice 3 ((srt []).map nk)) := by
  rw [show srt [] = [] by simp [srt]]
  exact .nil 3
theorem n_Sorted (ks : List N3) (vs : List T) (hvs : vs.length = ks.length) (hl : ks.length < 2 ^ 40) : NCalls Tryz.prog 41 [keysC ks vs, .clos 43 []] (.slice 3 ((srt ks).map nk)) := by
  refine ncalls_low (rs := [.tmp 4]) mixed Tryz.func41 l41 rfl rfl rfl (Nat.le_of_ble_eq_true rfl) ?_
  repeat' ((conv => whnf); first | refine WC_viewR (ts := [keysC ks vs]) rfl (f_Collect ks vs hvs hl) rfl (fun h0 => ?_) (fun xs hx hc => ?_) | fail)
  · obtain ⟨zs, hp, h0⟩ := permOf_zs h0
    have : zs = [] := by
      cases zs with
      | nil => rfl
      | cons z zs => cases h0
    subst this
    have : ks = [] := List.nil_perm.1 hp
    subst this
    repeat' ((conv => whnf); first | refine WC_sort_nil sortsN ?_ | fail)
    exact ⟨.t .nil, rfl, isnew_srt_nil⟩
  · obtain ⟨zs, hp, rfl⟩ := permOf_zs hx
    have hzl : zs.length < 2 ^ 40 := by rw [hp.length_eq]; exact hl
    have hch : chunk 3 (zs.map nk).length (((zs.map nk).flatMap T.cells).drop 0) = zs.map nk := chunk_nk zs _ (by simp)
    repeat' ((conv => whnf); first | (refine WC_sort (n := 7) (off := 0) (len := (zs.map nk).length) (k := 3) (m := (zs.map nk).length * 3) (ts := (zs.map nk).flatMap T.cells) sortsN rfl (by omega) (by decide) (by simp; omega) (.inl rfl) (callable_of Tryz.func43 rfl rfl) cfN ?_ ?_ ?_ ?_ (fun ys hy hps => ?_)) | fail)
    · rw [hch]
      intro x hx y hy
      obtain ⟨a, _, rfl⟩ := List.mem_map.1 hx
      obtain ⟨b, _, rfl⟩ := List.mem_map.1 hy
      exact t_compare a b
    · rw [hch]
      intro x hx
      obtain ⟨a, _, rfl⟩ := List.mem_map.1 hx
      exact cmpN_irr a
    · rw [hch]
      intro x hx y hy z hz
      obtain ⟨a, _, rfl⟩ := List.mem_map.1 hx
      obtain ⟨b, _, rfl⟩ := List.mem_map.1 hy
      obtain ⟨c, _, rfl⟩ := List.mem_map.1 hz
      exact cmpN_tr
    · rw [hch]
      intro x hx y hy z hz
      obtain ⟨a, _, rfl⟩ := List.mem_map.1 hx
      obtain ⟨b, _, rfl⟩ := List.mem_map.1 hy
      obtain ⟨c, _, rfl⟩ := List.mem_map.1 hz
      exact cmpN_ntr
    · rw [hch] at hy
      obtain ⟨us, hu, rfl⟩ := perm_nk hy
      have hus : us = srt ks := srt_eq (hu.trans hp) ((List.pairwise_map.1 hps).imp fun h => h)
      subst hus
      have hul : (srt ks).length = zs.length := hu.length_eq
      skip
      have hln : (zs.map nk).length = (srt ks).length := by rw [List.length_map]; exact hul.symm
      have hpu : putL ((zs.map nk).flatMap T.cells) 0 ((zs.map nk).length * 3) (((srt ks).map nk).flatMap T.cells) = ((srt ks).map nk).flatMap T.cells := putL_all (by rw [flat_nk, List.length_map])
      refine ⟨.view 7 0 (zs.map nk).length 3, rfl, .view 7 0 (zs.map nk).length 3 ((zs.map nk).length * 3) (putL ((zs.map nk).flatMap T.cells) 0 ((zs.map nk).length * 3) (((srt ks).map nk).flatMap T.cells)) _ [7] rfl ?_ ?_⟩
      · rw [hpu]
        intro t ht
        simp only [List.mem_flatMap, List.mem_map] at ht
        obtain ⟨x, ⟨z, _, rfl⟩, hx⟩ := ht
        simp only [T.cells, List.mem_cons, List.not_mem_nil, or_false] at hx
        rcases hx with rfl | rfl | rfl <;> rfl
      · show (cond (Nat.blt 0 3 && Nat.ble (0 + (zs.map nk).length * 3) ((zs.map nk).length * 3)) (some (T.slice 3 (chunk 3 (zs.map nk).length ((putL ((zs.map nk).flatMap T.cells) 0 ((zs.map nk).length * 3) (((srt ks).map nk).flatMap T.cells)).drop 0)), [7])) none) = _
        rw [hpu, Nat.zero_add, List.drop_zero, hln, chunk_nk _ _ rfl]
        have : Nat.ble ((srt ks).length * 3) ((srt ks).length * 3) = true := Nat.ble_eq_true_of_le (Nat.le_refl _)
        rw [this]
        rfl
end Go.RC
end
section
namespace Go.RC
open Go Go.DL Go.Proofs
set_option maxRecDepth 100000
set_option maxHeartbeats 1000000
def cmpL (c d : Int) (s t : List Int) : Int × Int := if c < d ∨ (c = d ∧ s ≠ t) then (0, 26) else (c - d, 0)
theorem t_Compare (x y : List Int) (hx : x.length = 8) (hy : y.length = 8) (hxi : ∀ a ∈ x, i64 a) (hyi : ∀ a ∈ y, i64 a) (hx0 : 0 ≤ x.getD 3 0) (hy0 : 0 ≤ y.getD 3 0) : DCalls Tryz.prog 29 [ln x, ln y] (verT (cmpL (x.getD 3 0) (y.getD 3 0) (x.drop 4) (y.drop 4))) := by
  obtain ⟨a, b, c, d, e, f, g, j, rfl⟩ := ex8 hx
  obtain ⟨a', b', c', d', e', f', g', j', rfl⟩ := ex8 hy
  have hd := hxi d (by simp)
  have hd' := hyi d' (by simp)
  have hx0 : 0 ≤ d := hx0
  have hy0 : 0 ≤ d' := hy0
  obtain ⟨q1, q2⟩ := hd
  obtain ⟨q3, q4⟩ := hd'
  have hw : IntKind.i64.wrap (d - d') = d - d' := wrap_id (by omega) (by omega)
  refine dcalls_low (rs := [.tmp 4, .tmp 5]) mixed Tryz.func29 l29 rfl rfl rfl (r := [I _, I _]) (Nat.le_of_ble_eq_true rfl) ?_
  show wpC _ _ _ (Post _ _ [I (cmpL d d' [e, f, g, j] [e', f', g', j']).1, I (cmpL d d' [e, f, g, j] [e', f', g', j']).2])
  unfold cmpL
  by_cases h1 : d < d'
  · rw [if_pos (.inl h1)]
    repeat' ((conv => whnf); first | exact trivial | (refine now_D1 (by rw [hw]; omega) ?_) | refine nT_ ?_ | refine rix ?_ | refine aS ?_ | fail)
  by_cases h2 : d = d'
  · by_cases h3 : [e, f, g, j] = [e', f', g', j']
    · rw [if_neg (fun h => h.elim h1 fun h => h.2 h3)]
      repeat' ((conv => whnf); first | exact trivial | (refine now_D0 (by rw [hw]; omega) ?_) | (refine now_E1 (by rw [hw]; omega) ?_) | refine nb_ (!true) (neI (a := [e, f, g, j]) (b := [e', f', g', j']) (decide_eq_true h3)) ?_ | refine nT_ ?_ | refine rix ?_ | (refine And.intro (by first | (exact ⟨fits4 (a := [e, f, g, j]) rfl, fits4 (a := [e', f', g', j']) rfl⟩; done) | fail) ?_) | refine aS ?_ | fail)
    · rw [if_pos (.inr ⟨h2, h3⟩)]
      repeat' ((conv => whnf); first | exact trivial | (refine now_D0 (by rw [hw]; omega) ?_) | (refine now_E1 (by rw [hw]; omega) ?_) | refine nb_ (!false) (neI (a := [e, f, g, j]) (b := [e', f', g', j']) (decide_eq_false h3)) ?_ | refine nT_ ?_ | refine rix ?_ | (refine And.intro (by first | (exact ⟨fits4 (a := [e, f, g, j]) rfl, fits4 (a := [e', f', g', j']) rfl⟩; done) | fail) ?_) | refine aS ?_ | fail)
  · rw [if_neg (fun h => h.elim h1 fun h => h2 h.1)]
    repeat' ((conv => whnf); first | exact trivial | (refine now_D0 (by rw [hw]; omega) ?_) | refine nT_ ?_ | refine rix ?_ | refine aS ?_ | fail)
def few (l : List Rc) (most : Int) : Bool := l.all (fun r => decide (r.ls.length ≤ 12)) && decide ((l.length : Int) ≤ most)
theorem t_Few (l : List Rc) (most : Int) (hl : l.length < 2 ^ 40) : DCalls Tryz.prog 17 [rcs l, I most] (.bool (few l most)) := by
  refine dcalls_low (rs := [.tmp 4]) mixed Tryz.func17 l17 rfl rfl rfl (r := [.bool _]) (Nat.le_of_ble_eq_true rfl) ?_
  skip
  refine wpC_loopE 0 (α := Nat) (β := Unit) (fun k => {sl := [(0, .t (rcs l)), (1, .t (I most)), (5, .t (I k))], bx := []})
    (fun k => k ≤ l.length ∧ (l.take k).all (fun r => decide (r.ls.length ≤ 12)) = true) (fun k => l.length - k) (fun _ => {sl := [(0, .t (rcs l)), (1, .t (I most))], bx := []}) (fun _ => l.all (fun r => decide (r.ls.length ≤ 12)) = true) 0 ⟨by omega, rfl⟩ ?_ ?_ ?_
  · repeat' (first | exact trivial | exact LeV.same _ | exact rfl | exact fun _ _ _ => trivial | refine And.intro ?_ ?_)
  · rintro k ⟨hk, ha⟩
    rcases Nat.lt_or_ge k l.length with h2 | h2
    · have hno := all_no (p := fun r : Rc => decide (r.ls.length ≤ 12)) (l := l) (i := k) h2
      have hye := all_take (p := fun r : Rc => decide (r.ls.length ≤ 12)) (l := l) (i := k) h2 ha
      have hxe : l[k]? = some l[k] := List.getElem?_eq_getElem h2
      generalize l[k] = r at hno hye hxe
      obtain ⟨n, i, ls, rp⟩ := r
      by_cases h3 : ls.length ≤ 12
      · repeat' ((conv => whnf); first | (refine now_D1 (by simp; omega) ?_) | (refine nv_ (rcT n i ls rp) (by first | (exact eltRc (r := ⟨n, i, ls, rp⟩) (by simp only [Int.toNat_natCast]; exact hxe); done) | fail) ?_) | (refine now_D0 (by simp; omega) ?_) | refine nT_ ?_ | (refine And.intro (by first | ((simp; omega); done) | fail) ?_) | refine aS ?_ | fail)
        exact ⟨k + 1, ⟨by omega, hye (by simpa using h3)⟩, by omega, by repeat' (first | exact trivial | exact LeV.same _ | exact rfl | exact fun _ _ _ => trivial | exact lI | refine And.intro ?_ ?_)⟩
      · have hf : false = few l most := by unfold few; rw [hno (by simpa using h3)]; rfl
        repeat' ((conv => whnf); first | exact trivial | (refine now_D1 (by simp; omega) ?_) | (refine nv_ (rcT n i ls rp) (by first | (exact eltRc (r := ⟨n, i, ls, rp⟩) (by simp only [Int.toNat_natCast]; exact hxe); done) | fail) ?_) | refine nT_ ?_ | refine rb0 ?_ | (refine And.intro (by first | ((simp; omega); done) | fail) ?_) | refine aS ?_ | fail)
    · have : k = l.length := by omega
      subst this
      rw [List.take_length] at ha
      repeat' ((conv => whnf); first | refine now_D0 (by simp) ?_ | refine aS ?_ | fail)
      exact ⟨(), ha, by repeat' (first | exact trivial | exact LeV.same _ | exact rfl | exact fun _ _ _ => trivial | refine And.intro ?_ ?_)⟩
  rintro - hr
  unfold few
  rw [hr]
  repeat' ((conv => whnf); first | refine nD_ (fun hq => ?_) (fun hq => ?_) | refine aS ?_ | fail)
  all_goals (refine rb ?_ trivial; simpa using hq)
def samL (r s : Rc) : Bool := sameB r.n r.i r.ls r.pv s.n s.i s.ls s.pv
def samA : List Rc → List Rc → Bool
  | [], [] => true
  | r :: a, s :: b => samL r s && samA a b
  | _, _ => false
theorem samL_iff {r s : Rc} : samL r s = true ↔ r = s := by
  obtain ⟨n, i, ls, pv⟩ := r
  obtain ⟨n', i', ls', pv'⟩ := s
  simp [samL, sameB, and_comm]
theorem samA_cons {r s : Rc} {a b : List Rc} : samA (r :: a) (s :: b) = (samL r s && samA a b) := rfl
theorem samA_iff : ∀ {a b : List Rc}, samA a b = true ↔ a = b
  | [], [] => by simp [samA]
  | [], _ :: _ => by simp [samA]
  | _ :: _, [] => by simp [samA]
  | r :: a, s :: b => by simp [samA, samL_iff, samA_iff]
theorem t_SameAll (a b : List Rc) (hl : a.length < 2 ^ 40) (ha : ∀ r ∈ a, r.ok) (hb : ∀ r ∈ b, r.ok) : DCalls Tryz.prog 16 [rcs a, rcs b] (.bool (samA a b)) := by
  refine dcalls_low (rs := [.tmp 4]) mixed Tryz.func16 l16 rfl rfl rfl (r := [.bool _]) (Nat.le_of_ble_eq_true rfl) ?_
  by_cases hll : a.length = b.length
  case neg =>
    have hf : false = samA a b := by
      cases h : samA a b with
      | false => rfl
      | true => exact absurd (congrArg List.length (samA_iff.1 h)) hll
    repeat' ((conv => whnf); first | exact trivial | (refine now_N1 (by simp; omega) ?_) | refine rb0 ?_ | refine aS ?_ | fail)
  repeat' ((conv => whnf); first | refine now_N0 (by simp [hll]) ?_ | refine aS ?_ | fail)
  refine wpC_loopE 0 (α := Nat) (β := Unit) (fun k => {sl := [(0, .t (rcs a)), (1, .t (rcs b)), (5, .t (I k))], bx := []})
    (fun k => k ≤ a.length ∧ samA (a.drop k) (b.drop k) = samA a b) (fun k => a.length - k) (fun _ => {sl := [], bx := []}) (fun _ => samA a b = true) 0 ⟨by omega, rfl⟩ ?_ ?_ ?_
  · repeat' (first | exact trivial | exact LeV.same _ | exact rfl | exact fun _ _ _ => trivial | refine And.intro ?_ ?_)
  · rintro k ⟨hk, ho⟩
    rcases Nat.lt_or_ge k a.length with h2 | h2
    · have h3 : k < b.length := by omega
      have ha1 := ha a[k] (List.getElem_mem h2)
      have hb1 := hb b[k] (List.getElem_mem h3)
      have hxa : a[k]? = some a[k] := List.getElem?_eq_getElem h2
      have hxb : b[k]? = some b[k] := List.getElem?_eq_getElem h3
      rw [List.drop_eq_getElem_cons h2, List.drop_eq_getElem_cons h3] at ho
      rw [samA_cons] at ho
      generalize a[k] = x at ha1 hxa ho
      generalize b[k] = y at hb1 hxb ho
      obtain ⟨n, i, ls, rp⟩ := x
      obtain ⟨n', i', ls', rp'⟩ := y
      have hlen : (rcC n i ls rp).length = 19 := rc_len ha1
      have hlen' : (rcC n' i' ls' rp').length = 19 := rc_len hb1
      have hS := t_refSame n i ls rp n' i' ls' rp' ha1.1.l8 hb1.1.l8 (by have := ha1.2; dsimp only at this; omega) ha1.1.hp hb1.1.hp
      have hf : sameB n i ls rp n' i' ls' rp' = samL ⟨n, i, ls, rp⟩ ⟨n', i', ls', rp'⟩ := rfl
      rw [hf] at hS
      cases hs : samL ⟨n, i, ls, rp⟩ ⟨n', i', ls', rp'⟩ with
      | true =>
        rw [hs] at hS ho
        repeat' ((conv => whnf); first | (refine now_D1 (by simp; omega) ?_) | (refine nv_ (rcT n i ls rp) (by first | (exact eltRc (r := ⟨n, i, ls, rp⟩) (by simp only [Int.toNat_natCast]; exact hxa); done) | fail) ?_) | (refine nv_ (rcT n' i' ls' rp') (by first | (exact eltRc (r := ⟨n', i', ls', rp'⟩) (by simp only [Int.toNat_natCast]; exact hxb); done) | fail) ?_) | refine k_call _ (hS) ?_ | refine nT_ ?_ | (refine And.intro (by first | ((simp; omega); done) | (exact hlen; done) | (exact hlen'; done) | fail) ?_) | refine aS ?_ | fail)
        rw [Bool.true_and] at ho
        exact ⟨k + 1, ⟨by omega, ho⟩, by omega, by repeat' (first | exact trivial | exact LeV.same _ | exact rfl | exact fun _ _ _ => trivial | exact lI | refine And.intro ?_ ?_)⟩
      | false =>
        rw [hs] at hS ho
        rw [Bool.false_and] at ho
        repeat' ((conv => whnf); first | exact trivial | (refine now_D1 (by simp; omega) ?_) | (refine nv_ (rcT n i ls rp) (by first | (exact eltRc (r := ⟨n, i, ls, rp⟩) (by simp only [Int.toNat_natCast]; exact hxa); done) | fail) ?_) | (refine nv_ (rcT n' i' ls' rp') (by first | (exact eltRc (r := ⟨n', i', ls', rp'⟩) (by simp only [Int.toNat_natCast]; exact hxb); done) | fail) ?_) | refine k_call _ (hS) ?_ | refine nT_ ?_ | refine rb0 ?_ | (refine And.intro (by first | ((simp; omega); done) | (exact hlen; done) | (exact hlen'; done) | fail) ?_) | refine aS ?_ | fail)
    · have : k = a.length := by omega
      subst this
      rw [List.drop_length, hll, List.drop_length] at ho
      repeat' ((conv => whnf); first | refine now_D0 (by simp) ?_ | refine aS ?_ | fail)
      exact ⟨(), ho.symm, by repeat' (first | exact trivial | exact rfl | exact fun _ _ _ => trivial | refine And.intro ?_ ?_)⟩
  rintro - hr
  repeat' ((conv => whnf); first | exact trivial | refine rb1 ?_ | fail)
end Go.RC
end
section
namespace Go.RC
open Go Go.DL Go.Proofs
set_option maxRecDepth 100000
noncomputable def c6 : DCode := (.seq (.region [oo 0 (.mov (.const (.bool false)))] []) (.seq (.region [oo 1 (.mov (Kc 4294967295))] []) (.seq (.seq (.region [mv 27 1,oo 28 (.build [(Zi 0), (Zi 0), (Zi 0), (Zi 0)] [(0, 1, (tm 27)), (1, 1, (Kc 0)), (2, 1, (Kc 0)), (3, 1, (Kc 5))]),oo 29 (.build [(Zi 0), (Zi 0), (Zi 0), (Zi 0)] [(0, 1, (Kc 1)), (1, 1, (Kc 2)), (2, 1, (Kc 0)), (3, 1, (Kc 5))]),oo 30 (.call 26 [(tm 28), (tm 29)]),oo 31 (.build [(Zi 0), (Zi 0), (Zi 0), (Zi 0)] [(0, 1, (Kc 0)), (1, 1, (Kc 2)), (2, 1, (Kc 0)), (3, 1, (Kc 10))]),oo 32 (.eqv true [.int .i64, .int .i64, .int .i64, .int .i64] (tm 30) (tm 31)),mv 33 32,oF 34 33 (.build [(Zi 0), (Zi 0), (Zi 0), (Zi 0)] []),oF 35 33 (.build [(Zi 0), (Zi 0), (Zi 0), (Zi 0)] [(0, 1, (Kc 1))]),oF 36 33 (.call 27 [(tm 34), (tm 35)]),mF 37 1 33,oF 38 33 (.build [(Zi 0), (Zi 0), (Zi 0), (Zi 0)] [(0, 1, (tm 37)), (1, 1, (Kc 0)), (2, 1, (Kc 0)), (3, 1, (Kc 0))]),oF 39 33 (.eqv true [.int .i64, .int .i64, .int .i64, .int .i64] (tm 36) (tm 38)),oo 40 (.pick (tm 33) (.const (.bool true)) (tm 39))] []) (.cond (tm 40) (.seq (.region [oo 0 (.mov (.const (.bool false)))] []) .ret) .skip)) (.seq (.region [oo 42 (.inl 7 [(Kc 3)]),mv 41 42,oo 43 (.ext (tm 41) 0),oo 44 (.ext (tm 41) 1),mv 2 43,mv 3 44] []) (.seq (.region [oo 46 (.inl 7 [(Kc 200)]),mv 45 46,oo 47 (.ext (tm 45) 0),oo 48 (.ext (tm 45) 1),mv 4 47,mv 5 48] []) (.seq (.seq (.region [mv 49 3,oo 50 (.bin .neq (tm 49) (Kc 0)),mv 51 50,mF 52 5 51,oF 53 51 (.bin .neq (tm 52) (Kc 1)),oo 54 (.pick (tm 51) (.const (.bool true)) (tm 53)),mv 55 54,mF 56 2 55,oF 57 55 (.isnil 0 false (tm 56)),oo 58 (.pick (tm 55) (.const (.bool true)) (tm 57))] []) (.cond (tm 58) (.seq (.region [oo 0 (.mov (.const (.bool false)))] []) .ret) .skip)) (.seq (.region [oo 59 (.build [(Zi 0), (Zi 0), (Zi 0), (Zi 0), (Zi 0), (Zi 0), (Zi 0), (Zi 0), (Zi 0), (Zi 0)] [(0, 1, (Kc 7)), (1, 1, (Kc 5))]),oo 60 (.build [(Zi 0), (Zi 0), (Zi 0), (Zi 0), (Zi 0), (Zi 0), (Zi 0), (Zi 0), (Zi 0), (Zi 0)] [(0, 1, (Kc 7)), (1, 1, (Kc 6))]),oo 6 (.alloc [(Zi 0), (Zi 0), (Zi 0), (Zi 0), (Zi 0), (Zi 0), (Zi 0), (Zi 0), (Zi 0), (Zi 0)]),oo 7 (.alloc [(Zi 0), (Zi 0), (Zi 0), (Zi 0), (Zi 0), (Zi 0), (Zi 0), (Zi 0), (Zi 0), (Zi 0)]),o0 (.store 10 (tm 6) (tm 59)),o0 (.store 10 (tm 7) (tm 60))] []) (.seq (.seq (.region [mv 61 2,oo 62 (.load 10 true (tm 6)),oo 63 (.mcall [1013, 1011] 9 [(tm 61), (Kc 2), (Kc 7), (Kc 1), (tm 62)]),mv 64 2,oo 65 (.load 10 true (tm 6)),oo 66 (.mcall [1013, 1011] 9 [(tm 64), (Kc 1), (Kc 2), (Kc 1), (tm 65)]),mv 67 2,oo 68 (.load 10 true (tm 7)),oo 69 (.mcall [1013, 1011] 9 [(tm 67), (Kc 2), (Kc 7), (Kc 1), (tm 68)]),oo 70 (.buildT 1 3 [(Zi 0)] [(0, (tm 63)), (1, (tm 66)), (2, (tm 69))]),oo 71 (.len (tm 70)),oo 72 (.mov (Kc 0))] [[], [], [], [], [2], [], [], [2, 5], [], [], [], []]) (.block 0 (.loop (.seq (.region [oo 73 (.bin .lss (tm 72) (tm 71))] []) (.seq (.cond (tm 73) .skip (.exit 0)) (.seq (.block 1 (.seq (.region [oo 74 (.idxL 1 (tm 70) (tm 72)),oo 75 (.load 1 false (tm 74)),mv 9 75] []) (.seq (.region [mv 76 9,oo 77 (.bin .neq (tm 76) (Kc 0))] []) (.cond (tm 77) (.seq (.region [oo 0 (.mov (.const (.bool false)))] []) .ret) .skip)))) (.region [oo 78 (.bin .add (tm 72) (Kc 1)),mv 72 78] []))))))) (.seq (.cut (.region [mv 80 2,oo 81 (.inl 10 [(tm 80)]),mv 79 81,oo 82 (.ext (tm 79) 0),oo 83 (.ext (tm 79) 1),oo 10 (.alloc [(Zi 0), (Zi 0), .nil, (Ui 0), (Ui 0), (Ui 0), (Ui 0), (Ui 0), (Ui 0), (Ui 0), (Ui 0), (Ui 0), (Ui 0), (Ui 0), (Ui 0), (Ui 0), (Ui 0), (Ui 0), (Ui 0)]),o0 (.store 19 (tm 10) (tm 82)),mv 11 83] [])) (.seq (.cut (.region [mv 85 2,oo 86 (.inl 10 [(tm 85)]),mv 84 86,oo 87 (.ext (tm 84) 0),oo 88 (.ext (tm 84) 1),oo 12 (.alloc [(Zi 0), (Zi 0), .nil, (Ui 0), (Ui 0), (Ui 0), (Ui 0), (Ui 0), (Ui 0), (Ui 0), (Ui 0), (Ui 0), (Ui 0), (Ui 0), (Ui 0), (Ui 0), (Ui 0), (Ui 0), (Ui 0)]),o0 (.store 19 (tm 12) (tm 87)),mv 13 88] [])) (.seq (.cut (.region [oo 90 (.load 19 true (tm 10)),oo 91 (.load 19 true (tm 12)),oo 92 (.buildS 41 19 2 [(Zi 0), (Zi 0), .nil, (Ui 0), (Ui 0), (Ui 0), (Ui 0), (Ui 0), (Ui 0), (Ui 0), (Ui 0), (Ui 0), (Ui 0), (Ui 0), (Ui 0), (Ui 0), (Ui 0), (Ui 0), (Ui 0)] [(0, (tm 90)), (1, (tm 91))]),oo 93 (.call 14 [(Kc 3), (tm 92)]),mv 89 93,oo 94 (.ext (tm 89) 0),oo 95 (.ext (tm 89) 1),mv 14 94,mv 15 95] [])) (.seq (.cut (.region [oo 97 (.load 19 true (tm 12)),oo 98 (.buildS 41 19 1 [(Zi 0), (Zi 0), .nil, (Ui 0), (Ui 0), (Ui 0), (Ui 0), (Ui 0), (Ui 0), (Ui 0), (Ui 0), (Ui 0), (Ui 0), (Ui 0), (Ui 0), (Ui 0), (Ui 0), (Ui 0), (Ui 0)] [(0, (tm 97))]),oo 99 (.call 14 [(Kc 3), (tm 98)]),mv 96 99,oo 100 (.ext (tm 96) 0),oo 101 (.ext (tm 96) 1),mv 16 100,mv 17 101] [])) (.seq (.cut (.region [oo 103 (.load 19 true (tm 10)),oo 104 (.call 28 [(tm 103), (Kc 2), (Kc 7), (Kc 1)]),mv 102 104,oo 105 (.ext (tm 102) 0),oo 106 (.ext (tm 102) 1),oo 18 (.alloc [(Zi 0), (Zi 0), (Zi 0), (Zi 0), (Zi 0), (Zi 0), (Zi 0), (Zi 0)]),o0 (.store 8 (tm 18) (tm 105)),mv 19 106] [])) (.seq (.region [oo 108 (.build [(Zi 0), (Zi 0), (Zi 0), (Zi 0), (Zi 0), (Zi 0), (Zi 0), (Zi 0)] [(3, 1, (Kc 5))]),oo 109 (.build [(Zi 0), (Zi 0), (Zi 0), (Zi 0), (Zi 0), (Zi 0), (Zi 0), (Zi 0)] [(3, 1, (Kc 3))]),oo 110 (.call 29 [(tm 108), (tm 109)]),mv 107 110,oo 111 (.ext (tm 107) 0),oo 112 (.ext (tm 107) 1),mv 20 111,mv 21 112] []) (.seq (.region [oo 114 (.build [(Zi 0), (Zi 0), (Zi 0), (Zi 0), (Zi 0), (Zi 0), (Zi 0), (Zi 0)] [(3, 1, (Kc 3))]),oo 115 (.build [(Zi 0), (Zi 0), (Zi 0), (Zi 0), (Zi 0), (Zi 0), (Zi 0), (Zi 0)] [(3, 1, (Kc 5))]),oo 116 (.call 29 [(tm 114), (tm 115)]),mv 113 116,oo 117 (.ext (tm 113) 0),oo 118 (.ext (tm 113) 1),mv 22 117,mv 23 118] []) (.seq (.cut (.region [oo 120 (.build [(Zi 0), (Zi 0), (Zi 0), (Zi 0)] [(0, 1, (Kc 1))]),oo 121 (.build [(Zi 0), (Zi 0), (Zi 0), (Zi 0), (Zi 0), (Zi 0), (Zi 0), (Zi 0)] [(3, 1, (Kc 5)), (4, 4, (tm 120))]),oo 122 (.build [(Zi 0), (Zi 0), (Zi 0), (Zi 0), (Zi 0), (Zi 0), (Zi 0), (Zi 0)] [(3, 1, (Kc 5))]),oo 123 (.call 29 [(tm 121), (tm 122)]),mv 119 123,oo 124 (.ext (tm 119) 0),oo 125 (.ext (tm 119) 1),mv 24 124,mv 25 125] [])) (.seq (.cut (.region [mv 126 11,oo 127 (.bin .eql (tm 126) (Kc 0)),mv 128 127,mT 129 13 128,oT 130 128 (.bin .eql (tm 129) (Kc 0)),oo 131 (.pick (tm 128) (tm 130) (.const (.bool false))),mv 132 131,oT 133 132 (.offA 2 (tm 10)),oT 134 132 (.load 1 false (tm 133)),oT 135 132 (.len (tm 134)),oT 136 132 (.bin .eql (tm 135) (Kc 2)),oo 137 (.pick (tm 132) (tm 136) (.const (.bool false))),mv 138 137,oT 139 138 (.offA 2 (tm 10)),oT 140 138 (.load 1 false (tm 139)),oT 141 138 (.idxL 8 (tm 140) (Kc 0)),oT 142 138 (.offA 0 (tm 141)),oT 143 138 (.load 1 false (tm 142)),oT 144 138 (.bin .eql (tm 143) (Kc 1)),oo 145 (.pick (tm 138) (tm 144) (.const (.bool false))),mv 146 145,oT 147 146 (.offA 2 (tm 10)),oT 148 146 (.load 1 false (tm 147)),oT 149 146 (.idxL 8 (tm 148) (Kc 0)),oT 150 146 (.offA 3 (tm 149)),oT 151 146 (.load 1 false (tm 150)),oT 152 146 (.bin .eql (tm 151) (Kc 1)),oo 153 (.pick (tm 146) (tm 152) (.const (.bool false))),mv 154 153,oT 155 154 (.offA 1 (tm 10)),oT 156 154 (.load 1 false (tm 155)),oT 157 154 (.bin .eql (tm 156) (Kc 0)),oo 158 (.pick (tm 154) (tm 157) (.const (.bool false))),mv 159 158,oT 160 159 (.offA 1 (tm 12)),oT 161 159 (.load 1 false (tm 160)),oT 162 159 (.bin .eql (tm 161) (Kc 1)),oo 163 (.pick (tm 159) (tm 162) (.const (.bool false))),mv 164 163,oT 165 164 (.offA 2 (tm 12)),oT 166 164 (.load 1 false (tm 165)),oT 167 164 (.len (tm 166)),oT 168 164 (.bin .eql (tm 167) (Kc 0)),oo 169 (.pick (tm 164) (tm 168) (.const (.bool false))),mv 170 169,oT 171 170 (.offA 3 (tm 12)),oT 172 170 (.load 16 true (tm 171)),oT 173 170 (.load 19 true (tm 10)),oT 174 170 (.call 30 [(tm 173)]),oT 175 170 (.eqv false [.int .u8, .int .u8, .int .u8, .int .u8, .int .u8, .int .u8, .int .u8, .int .u8, .int .u8, .int .u8, .int .u8, .int .u8, .int .u8, .int .u8, .int .u8, .int .u8] (tm 172) (tm 174)),oo 176 (.pick (tm 170) (tm 175) (.const (.bool false))),mv 177 176,oT 178 177 (.load 19 true (tm 10)),oT 179 177 (.call 13 [(tm 178)]),oT 180 177 (.bin .eql (tm 179) (Kc 0)),oo 181 (.pick (tm 177) (tm 180) (.const (.bool false))),mv 26 181] [])) (.seq (.region [mv 182 26,mv 183 182,mT 184 14 183,oT 185 183 (.bin .eql (tm 184) (Kc 2)),oo 186 (.pick (tm 183) (tm 185) (.const (.bool false))),mv 187 186,mT 188 15 187,oT 189 187 (.bin .eql (tm 188) (Kc 0)),oo 190 (.pick (tm 187) (tm 189) (.const (.bool false))),mv 191 190,mT 192 16 191,oT 193 191 (.bin .eql (tm 192) (Kc 0)),oo 194 (.pick (tm 191) (tm 193) (.const (.bool false))),mv 195 194,mT 196 17 195,oT 197 195 (.bin .eql (tm 196) (Kc 25)),oo 198 (.pick (tm 195) (tm 197) (.const (.bool false))),mv 199 198,mT 200 19 199,oo 201 (.pick (tm 199) (tm 200) (.const (.bool false))),mv 202 201,oT 203 202 (.offA 3 (tm 18)),oT 204 202 (.load 1 false (tm 203)),oT 205 202 (.bin .eql (tm 204) (Kc 2)),oo 206 (.pick (tm 202) (tm 205) (.const (.bool false))),mv 207 206,oT 208 207 (.offA 4 (tm 18)),oT 209 207 (.load 4 true (tm 208)),oT 210 207 (.load 10 true (tm 6)),oT 211 207 (.call 31 [(tm 210)]),oT 212 207 (.load 10 true (tm 7)),oT 213 207 (.call 31 [(tm 212)]),oT 214 207 (.call 26 [(tm 211), (tm 213)]),oT 215 207 (.eqv false [.int .i64, .int .i64, .int .i64, .int .i64] (tm 209) (tm 214)),oo 216 (.pick (tm 207) (tm 215) (.const (.bool false))),mv 217 216,mT 218 20 217,oT 219 217 (.bin .eql (tm 218) (Kc 2)),oo 220 (.pick (tm 217) (tm 219) (.const (.bool false))),mv 221 220,mT 222 21 221,oT 223 221 (.bin .eql (tm 222) (Kc 0)),oo 224 (.pick (tm 221) (tm 223) (.const (.bool false))),mv 225 224,mT 226 23 225,oT 227 225 (.bin .eql (tm 226) (Kc 26)),oo 228 (.pick (tm 225) (tm 227) (.const (.bool false))),mv 229 228,mT 230 25 229,oT 231 229 (.bin .eql (tm 230) (Kc 26)),oo 232 (.pick (tm 229) (tm 231) (.const (.bool false))),mv 0 232] []) .ret))))))))))))))))))
theorem l6 : (Tryz.f6.body.bind (lowC Tryz.prog 233 [7, 10, 6000015, 6000016, 6000017, 6000018, 6000019, 6000022, 6000023, 1000063001013, 1000063001011, 1000066001013, 1000066001011, 1000069001013, 1000069001011])) = some c6 := by kernel_rfl
end Go.RC
end
section
namespace Go.DL
open Go.RowKit
section
variable [Glb] {P : Program} {X : List FuncId} {N : Nat} {w0 : World} {S0 : Base} {a : Act} {E : Env} {st : St}
def resVP (sz : TypeId → Option (Nat × Bool)) (st : St) : List ResultVar → List V → Prop
  | [], [] => True
  | .tmp t :: rs, u :: us => st.sl t = u ∧ resVP sz st rs us
  | .cell c ty :: rs, .t x :: us => resP sz st [.cell c ty] [x] ∧ resVP sz st rs us
  | _, _ => False
theorem resVP_run (h : SR N w0 S0 E st a.tmps) : ∀ {rs : List ResultVar} {us : List V}, resVP (sizesOf P) st rs us → ∃ vs : List Value, (rs.mapM (readRes a.tmps)).run P E.w = .ok vs E.w ∧ vs.length = us.length ∧ ∀ (i : Nat) (v : Value) (u : V), vs[i]? = some v → us[i]? = some u → VR E v u
  | [], [], _ => ⟨[], by simp, rfl, fun i v x hv => by simp at hv⟩
  | .tmp t :: rs, u :: us, hr => by
    obtain ⟨hu, hr'⟩ := hr
    obtain ⟨vs, h1, h2, h3⟩ := resVP_run h hr'
    refine ⟨a.tmps.getD t undef :: vs, ?_, by simp [h2], fun i v y hv hy => ?_⟩
    · rw [List.mapM_cons, Sem.run_bind]
      have : (readRes a.tmps (.tmp t)).run P E.w = .ok (a.tmps.getD t undef) E.w := rfl
      rw [this]
      simp [h1]
    · cases i with
      | zero => simp only [List.getElem?_cons_zero, Option.some.injEq] at hv hy; subst hv; subst hy; rw [← hu]; exact h.sl t
      | succ i => simp at hv hy; exact h3 i v y hv hy
  | .cell c ty :: rs, .t x :: us, hr => by
    obtain ⟨⟨hp1, _⟩, hr'⟩ := hr
    obtain ⟨vs, h1, h2, h3⟩ := resVP_run h hr'
    have key : ∃ v, (readRes a.tmps (.cell c ty)).run P E.w = .ok v E.w ∧ Rep E.S E.w v x := by
      have hs := h.sl c
      split at hp1
      · rename_i b off n agg hb hz
        rw [hb] at hs
        obtain ⟨hv, hl⟩ := hs.inv_ptr
        unfold sizesOf at hz
        split at hz
        · rename_i d i hu hi
          simp only [cond_eq_ite] at hz
          split at hz
          · simp only [Option.some.injEq, Prod.mk.injEq] at hz
            obtain ⟨rfl, rfl⟩ := hz
            split at hp1
            · rename_i cs hcs
              obtain ⟨v, k1, k2⟩ := load_res h hu hi (off := off) hcs (x := x) hp1
              refine ⟨v, ?_, k2⟩
              show (asAddr (a.tmps.getD c undef) >>= fun d => loadVar ty d).run P E.w = _
              rw [hv]
              simp [asAddr, k1]
            · exact hp1.elim
          · cases hz
        · cases hz
      · exact hp1.elim
    obtain ⟨v0, k1, k2⟩ := key
    refine ⟨v0 :: vs, ?_, by simp [h2], fun i v y hv hy => ?_⟩
    · rw [List.mapM_cons, Sem.run_bind, k1]
      simp [h1]
    · cases i with
      | zero => simp only [List.getElem?_cons_zero, Option.some.injEq] at hv hy; subst hv; subst hy; exact .t _ _ k2
      | succ i => simp at hv hy; exact h3 i v y hv hy
theorem resultsVP_run (h : SR N w0 S0 E st a.tmps) {fn : Func} {us : List V} (hr : resVP (sizesOf P) st fn.results.toList us) : ∃ v, (results fn a.tmps).run P E.w = .ok v E.w ∧ VR E v (oneV us) := by
  obtain ⟨vs, h1, h2, h3⟩ := resVP_run (P := P) h hr
  have hr : (results fn a.tmps).run P E.w = .ok (if h : vs.toArray.size = 1 then vs.toArray[0] else .tuple vs.toArray) E.w := by
    have : results fn a.tmps = (do let vs ← fn.results.mapM (readRes a.tmps); pure (if h : vs.size = 1 then vs[0] else .tuple vs)) := rfl
    rw [this, Array.mapM_eq_mapM_toList]
    rw [Sem.run_bind]
    have h2 : (List.toArray <$> fn.results.toList.mapM (readRes a.tmps)).run P E.w = .ok vs.toArray E.w := by
      rw [map_eq_pure_bind, Sem.run_bind, h1]; rfl
    rw [h2]; rfl
  refine ⟨_, hr, ?_⟩
  match vs, us, h2, h3 with
  | [v], [x], _, h3 => exact h3 0 v x rfl rfl
  | [], [], _, h3 => exact .tup _ _ rfl fun i x t hx ht => by simp at ht
  | v :: u :: vs, x :: y :: xs, h2, h3 =>
    have hne : ¬ (v :: u :: vs).toArray.size = 1 := by simp
    rw [dif_neg hne]
    exact .tup _ _ (by simpa using h2) fun i z t hz ht => h3 i z t (by simpa using hz) ht
def PostVP (sz : TypeId → Option (Nat × Bool)) (rs : List ResultVar) (st : St) (d : Option Nat) (K : St → Prop) : DExit → St → Prop
  | .normal, st2 => ∃ us, resVP sz st2 rs us ∧ K ((st2.back st).set d (oneV us))
  | .ret, st2 => ∃ us, resVP sz st2 rs us ∧ K ((st2.back st).set d (oneV us))
  | .exit _, _ => False
theorem WC_inlP (hm : P.follows .mixedOrders = true) {f : FuncId} {fn : Func} {dc : DCode} {N' : Nat} {rs : List ResultVar} (hf : P.funcs[f]? = some fn) (hl : (fn.body.bind (lowC P N' X)) = some dc) (hN : fn.ntmps = N') (hn : (fn.name == "runtime.NumGoroutine") = false)
    (hr : fn.results.toList = rs) {us : List V} (off : Nat) (ha : us.length ≤ N') {d : Option Nat} {K : St → Prop} (hw : wpC P dc (st.enter us off) (PostVP (sizesOf P) rs st d K)) : WC P f us d st K := by
  cases hb : fn.body with
  | none => rw [hb] at hl; cases hl
  | some c =>
    rw [hb] at hl
    subst hN; subst hr
    refine ⟨callable_of hf (by rw [hb]; rfl) hn, fun N w0 S0 E a vs h hlen hv hd => calls_of_wp hf hb ?_⟩
    have hsr : SR fn.ntmps w0 { S0 with vals := pushB (fun m => a.getD m undef) S0.vals } E (st.enter us off) (vs ++ Array.replicate (fn.ntmps - vs.size) undef) := by
      refine ⟨by simp; omega, h.base, h.glob, fun m => ?_, fun k m => ?_, h.bx, h.live, h.inj, h.rows, h.rinj, h.lt, h.below, h.s0, h.s1, h.obj, ⟨S0.vals, h.cx⟩⟩
      · show VR _ _ (us[m]?.getD .top)
        cases ht : us[m]? with
        | none => exact .top _
        | some t =>
          have hlt : m < vs.size := by rw [hlen]; exact (List.getElem?_eq_some_iff.1 ht).1
          have hv := hv m vs[m] t (Array.getElem?_eq_getElem hlt) ht
          have : (vs ++ Array.replicate (fn.ntmps - vs.size) undef).getD m undef = vs[m] := by
            rw [Array.getD_eq_getD_getElem?, Array.getElem?_append_left hlt]
            simp [hlt]
          rw [this]
          exact hv
      · cases k with
        | zero => exact h.sl m
        | succ k => exact h.gh k m
    refine wp_mono (wpC_wp hm hl (a := { tmps := vs ++ Array.replicate (fn.ntmps - vs.size) undef, defers := [] }) hsr hw) ?_
    have fin : ∀ {a' : Act} {w' : World}, EndIs fn.ntmps w0 { S0 with vals := pushB (fun m => a.getD m undef) S0.vals } [] (fun st2 => ∃ us, resVP (sizesOf P) st2 fn.results.toList us ∧ K ((st2.back st).set d (oneV us))) a' w' → a'.defers = [] ∧ ∃ v, (results fn a'.tmps).run P w' = .ok v w' ∧
        ∃ v', Ending.returned v = .returned v' ∧ ∃ (E' : Env) (st' : St), E'.w = w' ∧ K st' ∧ SR N w0 S0 E' st' (putA a d v') := by
      rintro a' w' ⟨E', st2, rfl, hsr', hdf, us', hus, hk⟩
      obtain ⟨v, h1, h2⟩ := resultsVP_run (P := P) hsr' hus
      have hback : SR N w0 S0 E' (st2.back st) a := by
        refine ⟨h.size, hsr'.base, hsr'.glob, fun m => hsr'.gh 0 m, fun k m => hsr'.gh (k + 1) m, hsr'.bx, hsr'.live, hsr'.inj, hsr'.rows, hsr'.rinj, hsr'.lt, hsr'.below, hsr'.s0, hsr'.s1, hsr'.obj, h.cx⟩
      exact ⟨hdf, v, h1, v, rfl, E', _, rfl, hk, set_put hback hd h2⟩
    intro e a' w' hh
    cases e with
    | normal => exact fin hh
    | ret => exact fin hh
    | exit id =>
      obtain ⟨_, _, _, _, _, hk⟩ := hh
      exact hk.elim
    | goto l => exact hh.elim
    | panic ch => exact hh.elim
    | outgrown => exact hh.elim
end
end Go.DL
end
section
namespace Go.RC
open Go Go.DL Go.Proofs
set_option maxRecDepth 100000
set_option maxHeartbeats 2000000
abbrev Ent := N3 × Int × List Int
abbrev tly (c : Int) (s : List Int) : T := .agg (I c :: s.map I)
abbrev esM (es : List Ent) : List (T × T) := es.map fun e => (nk e.1, tly e.2.1 e.2.2)
def getM (k : N3) : List Ent → Option (Int × List Int)
  | [] => none
  | e :: es => if k = e.1 then some e.2 else getM k es
def putM (k : N3) (v : Int × List Int) : List Ent → List Ent
  | [] => [(k, v)]
  | e :: es => if k = e.1 then (k, v) :: es else e :: putM k v es
theorem getM_cons (k : N3) (e : Ent) (es : List Ent) : getM k (e :: es) = if k = e.1 then some e.2 else getM k es := rfl
theorem putM_cons (k : N3) (v : Int × List Int) (e : Ent) (es : List Ent) : putM k v (e :: es) = if k = e.1 then (k, v) :: es else e :: putM k v es := rfl
theorem eqL_nk (k k' : N3) : eqL (nk k).cells (nk k').cells = decide (k = k') := by
  obtain ⟨a, b, c⟩ := k
  obtain ⟨a', b', c'⟩ := k'
  show (a == a' && (b == b' && (c == c' && true))) = _
  by_cases h1 : a = a' <;> by_cases h2 : b = b' <;> by_cases h3 : c = c' <;> simp [h1, h2, h3]
theorem mfind_esM (k : N3) : ∀ es : List Ent, mfind (nk k).cells (esM es) = (getM k es).map fun v => tly v.1 v.2
  | [] => rfl
  | e :: es => by
    show cond (eqL (nk k).cells (nk e.1).cells) (some (tly e.2.1 e.2.2)) (mfind (nk k).cells (esM es)) = _
    rw [eqL_nk, mfind_esM k es, getM_cons]
    by_cases h : k = e.1
    · simp [h]
    · simp [h]
theorem mput_esM (k : N3) (v : Int × List Int) : ∀ es : List Ent, mput (nk k) (tly v.1 v.2) (esM es) = esM (putM k v es)
  | [] => rfl
  | e :: es => by
    show cond (eqL (nk k).cells (nk e.1).cells) ((nk k, tly v.1 v.2) :: esM es) ((nk e.1, tly e.2.1 e.2.2) :: mput (nk k) (tly v.1 v.2) (esM es)) = _
    rw [eqL_nk, mput_esM k v es, putM_cons]
    by_cases h : k = e.1
    · simp [h]
    · simp [h]
def noteM (k : N3) (h : List Int) (es : List Ent) : Int × List Ent :=
  if rightN k.1 k.2.1 k.2.2 && rightH h then match getM k es with
    | none => if es.length ≥ 1000 then (2, es) else (0, putM k (1, sAdd [0, 0, 0, 0] (ofH h)) es)
    | some v => if v.1 ≥ 1073741824 then (2, es) else (0, putM k (v.1 + 1, sAdd v.2 (ofH h)) es)
  else (1, es)
def okE (es : List Ent) : Prop := ∀ e ∈ es, isS e.2.2 ∧ 0 ≤ e.2.1 ∧ e.2.1 ≤ 1073741824
theorem getM_mem {k : N3} {v : Int × List Int} : ∀ {es : List Ent}, getM k es = some v → (k, v) ∈ es
  | [], h => by cases h
  | e :: es, h => by
    rw [getM_cons] at h
    split at h
    · rename_i hk
      cases h
      rw [hk]; simp
    · exact List.mem_cons_of_mem _ (getM_mem h)
abbrev lgC (a b : V) (rest : List V) : List V := a :: b :: .mp 1011 :: rest
theorem mc_Note (a b : V) (rest : List V) (es : List Ent) (he : okE es) (hel : es.length < 2 ^ 40) (s p f : Int) (h : List Int) (hl : h.length = 10) :
    MC Tryz.prog 9 [.ptr 1013 0, .t (I s), .t (I p), .t (I f), .t (hd h)] [(1013, .v (lgC a b rest)), (1011, .m true sh3 (esM es) none)] [5009, 5011, 5012] 1011 (.m true sh3 (esM (noteM (s, p, f) h es).2) none) (I (noteM (s, p, f) h es).1) := by
  refine MC_of mixed Tryz.func9 l9 rfl rfl (rs := [.tmp 10]) rfl 5000 (Nat.le_of_ble_eq_true rfl) (fun _ => trivial) (by decide) ?_
  intro st d hneed hfr
  obtain ⟨sl, bx, gh, o, cx⟩ := st
  have e1 : bx 1013 = some (.v (lgC a b rest)) := hneed (1013, _) (by simp)
  have e2 : bx 1011 = some (.m true sh3 (esM es) none) := hneed (1011, _) (by simp)
  have e3 : bx 5009 = none := hfr 5009 (by simp)
  have e4 : bx 5011 = none := hfr 5011 (by simp)
  have e5 : bx 5012 = none := hfr 5012 (by simp)
  clear hneed hfr
  obtain ⟨g, hg⟩ : ∃ g, bx = upd (upd (upd (upd (upd g 5009 none) 5011 none) 5012 none) 1013 (some (.v (lgC a b rest)))) 1011 (some (.m true sh3 (esM es) none)) :=
    ⟨bx, by rw [upd_same_id e3, upd_same_id e4, upd_same_id e5, upd_same_id e1, upd_same_id e2]⟩
  subst hg
  clear e1 e2 e3 e4 e5
  have hR := t_right s p f
  have hO := fun (hh : okH h) => t_OfH h hh
  have hC := t_ContainsFunc 40 _ h (by rw [hl]; decide) (fun x _ => t_wide x)
  have hci : (h.any fun x => decide (x < 0) || decide (x > 65535)) = !rightH h := by
    unfold rightH
    rw [List.not_all_eq_any_not]
    congr 1
    funext x
    by_cases h1 : x < 0 <;> by_cases h2 : x > 65535 <;> simp [h1, h2] <;> omega
  rw [hci] at hC
  rw [← chunk1 (f := I) h 10 hl] at hC
  unfold noteM
  cases h1 : rightN s p f with
  | false =>
    rw [h1] at hR
    repeat' ((conv => whnf); first | refine k_call _ (hR) ?_ | (refine And.intro (by first | (exact (List.length_map _).trans hl; done) | fail) ?_) | refine aS ?_ | fail)
    refine ⟨[.t (I 1)], rfl, ?_⟩
    cases d <;> refine ⟨rfl, rfl, rfl, rfl, rfl, fun n h1 h2 => ?_⟩
    all_goals
      simp only [List.mem_cons, List.not_mem_nil, or_false, not_or] at h2
      show upd (upd (upd _ 5009 _) 5011 _) 5011 _ n = _
      rw [upd_other _ _ _ _ h2.2.1, upd_other _ _ _ _ h2.2.1, upd_other _ _ _ _ h2.1]
      rfl
  | true =>
    rw [h1] at hR
    cases h2 : rightH h with
    | false =>
      rw [h2] at hC
      repeat' ((conv => whnf); first | refine k_call _ (hR) ?_ | refine k_call _ (hC) ?_ | (refine And.intro (by first | (exact (List.length_map _).trans hl; done) | fail) ?_) | refine aS ?_ | fail)
      refine ⟨[.t (I 1)], rfl, ?_⟩
      cases d <;> refine ⟨rfl, rfl, rfl, rfl, rfl, fun n h1 h2 => ?_⟩
      all_goals
        simp only [List.mem_cons, List.not_mem_nil, or_false, not_or] at h2
        show upd (upd (upd _ 5009 _) 5011 _) 5011 _ n = _
        rw [upd_other _ _ _ _ h2.2.1, upd_other _ _ _ _ h2.2.1, upd_other _ _ _ _ h2.1]
        rfl
    | true =>
      rw [h2] at hC
      have hok := (rightH_ok hl).1 h2
      have hOf := hO hok
      have hofS := ofH_isS h
      generalize ofH h = oh at hOf hofS
      have hkey : keyOk true sh3 (nk (s, p, f)) := ⟨rfl, rfl, rfl, rfl, trivial⟩
      have hmf := mfind_esM (s, p, f) es
      rw [if_pos (show (true && true) = true from rfl)]
      cases h3 : getM (s, p, f) es with
      | none =>
        rw [h3] at hmf
        have hz : isS [0, 0, 0, 0] := ⟨rfl, by simp [M32]⟩
        have hA := t_sAdd [0, 0, 0, 0] oh hz hofS
        have hpu := mput_esM (s, p, f) (1, sAdd [0, 0, 0, 0] oh) es
        have hAl := (isS_add hz hofS).1
        show wpC _ _ _ (PostV _ _ _ (Ended _ _ _ _ (.m true sh3 (esM (if es.length ≥ 1000 then ((2 : Int), es) else (0, putM (s, p, f) (1, sAdd [0, 0, 0, 0] oh) es)).2) none) (I (if es.length ≥ 1000 then ((2 : Int), es) else (0, putM (s, p, f) (1, sAdd [0, 0, 0, 0] oh) es)).1)))
        generalize sAdd [0, 0, 0, 0] oh = sa at *
        obtain ⟨a0, a1, a2, a3, rfl⟩ : ∃ a b c d, sa = [a, b, c, d] := by
          match sa, hAl with
          | [a, b, c, d], _ => exact ⟨a, b, c, d, rfl⟩
        by_cases h4 : es.length ≥ 1000
        · rw [if_pos h4]
          repeat' ((conv => whnf); first | refine k_call _ (hR) ?_ | refine k_call _ (hC) ?_ | (refine nv_ (.tup [.agg [I 0, I 0, I 0, I 0, I 0], .bool false]) (by show mres _ _ (mfind (nk (s, p, f)).cells (esM es)) = _; rw [hmf]; rfl) ?_) | (refine now_D1 (by simp; omega) ?_) | (refine And.intro (by first | (exact (List.length_map _).trans hl; done) | (exact hkey; done) | fail) ?_) | refine aS ?_ | fail)
          refine ⟨[.t (I 2)], rfl, ?_⟩
          cases d <;> refine ⟨rfl, rfl, rfl, rfl, rfl, fun n h1 h2 => ?_⟩
          all_goals
            simp only [List.mem_cons, List.not_mem_nil, or_false, not_or] at h2
            show upd (upd (upd (upd (upd _ 5009 _) 5011 _) 5011 _) 5012 _) 5012 _ n = _
            rw [upd_other _ _ _ _ h2.2.2, upd_other _ _ _ _ h2.2.2, upd_other _ _ _ _ h2.2.1, upd_other _ _ _ _ h2.2.1, upd_other _ _ _ _ h2.1]
            rfl
        · rw [if_neg h4]
          repeat' ((conv => whnf); first | refine k_call _ (hR) ?_ | refine k_call _ (hC) ?_ | (refine nv_ (.tup [.agg [I 0, I 0, I 0, I 0, I 0], .bool false]) (by show mres _ _ (mfind (nk (s, p, f)).cells (esM es)) = _; rw [hmf]; rfl) ?_) | (refine now_D0 (by simp; omega) ?_) | refine k_call _ (hOf) ?_ | refine k_call _ (hA) ?_ | refine nT_ ?_ | refine aD0 ?_ | (refine And.intro (by first | (exact (List.length_map _).trans hl; done) | (exact hkey; done) | fail) ?_) | refine aS ?_ | fail)
          refine ⟨[.t (I 0)], rfl, ?_⟩
          cases d <;> refine ⟨rfl, rfl, rfl, rfl, congrArg (fun es => some (BX.m true sh3 es none)) hpu, fun n h1 h2 => ?_⟩
          all_goals
            simp only [List.mem_cons, List.not_mem_nil, or_false, not_or] at h2
            show upd (upd (upd (upd (upd (upd _ 5009 _) 5011 _) 5011 _) 5012 _) 5012 _) 1011 _ n = _
            rw [upd_other _ _ _ _ h1, upd_other _ _ _ _ h2.2.2, upd_other _ _ _ _ h2.2.2, upd_other _ _ _ _ h2.2.1, upd_other _ _ _ _ h2.2.1, upd_other _ _ _ _ h2.1]
            rfl
      | some v =>
        obtain ⟨c, t⟩ := v
        rw [h3] at hmf
        obtain ⟨hts, hc0, hc1⟩ := he _ (getM_mem h3)
        dsimp only at hts hc0 hc1
        have hA := t_sAdd t oh hts hofS
        have hpu := mput_esM (s, p, f) (c + 1, sAdd t oh) es
        have hAl := (isS_add hts hofS).1
        show wpC _ _ _ (PostV _ _ _ (Ended _ _ _ _ (.m true sh3 (esM (if c ≥ 1073741824 then ((2 : Int), es) else (0, putM (s, p, f) (c + 1, sAdd t oh) es)).2) none) (I (if c ≥ 1073741824 then ((2 : Int), es) else (0, putM (s, p, f) (c + 1, sAdd t oh) es)).1)))
        generalize sAdd t oh = sa at *
        obtain ⟨a0, a1, a2, a3, rfl⟩ : ∃ a b c d, sa = [a, b, c, d] := by
          match sa, hAl with
          | [a, b, c, d], _ => exact ⟨a, b, c, d, rfl⟩
        obtain ⟨t0, t1, t2, t3, rfl⟩ : ∃ a b c d, t = [a, b, c, d] := by
          match t, hts.1 with
          | [a, b, c, d], _ => exact ⟨a, b, c, d, rfl⟩
        have hw : IntKind.i64.wrap (c + 1) = c + 1 := wrap_id (by omega) (by omega)
        by_cases h4 : c ≥ 1073741824
        · rw [if_pos h4]
          repeat' ((conv => whnf); first | refine k_call _ (hR) ?_ | refine k_call _ (hC) ?_ | (refine nv_ (.tup [tly c [t0, t1, t2, t3], .bool true]) (by show mres _ _ (mfind (nk (s, p, f)).cells (esM es)) = _; rw [hmf]; rfl) ?_) | refine nT_ ?_ | refine aD1 ?_ | (refine And.intro (by first | (exact (List.length_map _).trans hl; done) | (exact hkey; done) | fail) ?_) | refine aS ?_ | fail)
          refine ⟨[.t (I 2)], rfl, ?_⟩
          cases d <;> refine ⟨rfl, rfl, rfl, rfl, rfl, fun n h1 h2 => ?_⟩
          all_goals
            simp only [List.mem_cons, List.not_mem_nil, or_false, not_or] at h2
            show upd (upd (upd (upd (upd _ 5009 _) 5011 _) 5011 _) 5012 _) 5012 _ n = _
            rw [upd_other _ _ _ _ h2.2.2, upd_other _ _ _ _ h2.2.2, upd_other _ _ _ _ h2.2.1, upd_other _ _ _ _ h2.2.1, upd_other _ _ _ _ h2.1]
            rfl
        · rw [if_neg h4]
          repeat' ((conv => whnf); first | refine k_call _ (hR) ?_ | refine k_call _ (hC) ?_ | (refine nv_ (.tup [tly c [t0, t1, t2, t3], .bool true]) (by show mres _ _ (mfind (nk (s, p, f)).cells (esM es)) = _; rw [hmf]; rfl) ?_) | refine k_call _ (hOf) ?_ | refine k_call _ (hA) ?_ | refine nT_ ?_ | refine aD0 ?_ | (refine And.intro (by first | (exact (List.length_map _).trans hl; done) | (exact hkey; done) | fail) ?_) | refine aS ?_ | fail)
          refine ⟨[.t (I 0)], rfl, ?_⟩
          cases d <;> refine ⟨rfl, rfl, rfl, rfl, (congrArg (fun c => some (BX.m true sh3 (mput (nk (s, p, f)) (tly c [a0, a1, a2, a3]) (esM es)) none)) hw).trans (congrArg (fun es => some (BX.m true sh3 es none)) hpu), fun n h1 h2 => ?_⟩
          all_goals
            simp only [List.mem_cons, List.not_mem_nil, or_false, not_or] at h2
            show upd (upd (upd (upd (upd (upd _ 5009 _) 5011 _) 5011 _) 5012 _) 5012 _) 1011 _ n = _
            rw [upd_other _ _ _ _ h1, upd_other _ _ _ _ h2.2.2, upd_other _ _ _ _ h2.2.2, upd_other _ _ _ _ h2.2.1, upd_other _ _ _ _ h2.2.1, upd_other _ _ _ _ h2.1]
            rfl
end Go.RC
end
