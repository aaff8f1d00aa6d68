/- Joined by program: parts of a data level over the model, of the program's functions over it, and of the statement's proof. -/
import Derived.Test.YtnfonfjleonbdaaGe
import Derived.Test.YtnfonfjleonbdaaProg
import Derived.Test.YtnfonfjleonbdaaGc
import Derived.KernelRfl
set_option maxRecDepth 100000
set_option maxHeartbeats 8000000
section
namespace Go.ST
open Go Go.DL Go.MM Go.Proofs
open Go.TY hiding Fd
open Go.RC (vi vis vs gi gl qE i64 qI Y rp gT gsT sC sa rY rR sR qQ sJ tC)
theorem zq {b:List Int} (hb:qI b) (h:(gb b).2.2=0):0≤(gb b).2.1∧(gb b).2.1≤b.length:=by
 obtain ⟨g1,g2,g3,g4⟩:=sR hb (least:=1) (by decide)
 unfold gb at h ⊢
 by_cases c:(gl b 1).2.2≠0
 ·rw [if_pos c] at h;exact absurd h c
 ·rw [if_neg c]
  exact ⟨by dsimp only;omega,by dsimp only;omega⟩
theorem uI {b:List Int} (hb:qI b) (h:(qE b).2.2=0):1≤(qE b).2.1∧(qE b).2.1≤b.length:=by
 obtain ⟨h1,h2,h3⟩:=sJ hb h
 have hp:1≤(vis (qE b).1).length:=by
  unfold vis
  rw [List.length_append]
  have:=tC ((qE b).1.length:Int)
  omega
 have hl:=congrArg List.length h3
 rw [List.length_append] at hl
 omega
abbrev zO (x:List RE×Int):T:=.tup [if x.2≠0 then .nil else esT x.1,I x.2]
theorem ta (b:List Int) (u:Nat):((b.map Y).take ((((b.map Y).length:Nat):Int)).toNat).drop u=(b.drop u).map Y:=by
 rw [Int.toNat_natCast,List.take_length,List.map_drop]
theorem xq (b:List Int) (hb:qI b) (hl:b.length<2^40):DCalls Try.prog 11 [bT b] (zO (rW b)):=by
 have hG:=rY b hb (by omega)
 obtain ⟨⟨q0,q0'⟩,q1,q2,q3,q4,q5⟩:=rR hb
 have main: ∀(res:T) (er:Int),((rW b).2≠0→res= .nil∧er=(rW b).2)→((rW b).2=0→res=esT (rW b).1∧er=0)→DCalls Try.prog 11 [bT b] (.tup [res,I er]):=fun res er hE hO=>by
  refine pN (rs:=[.tmp 2,.tmp 3]) mixed Try.func11 Go.ST9.l11 rfl rfl rfl (r:=[res,I er]) (nlZ rfl) ?_
  unfold rW at hE hO
  generalize gi b=g at *
  obtain ⟨n,u,e⟩:=g
  dsimp only at q0 q0' q1 q2 q3 q4 q5 hE hO hG
  by_cases c0:e≠0
  ·rw [if_pos c0] at hE hO
   obtain ⟨rfl,rfl⟩:=hE c0
   repeat' ((conv=>whnf);first|exact trivial|refine qk _ (hG) ?_|refine ql c0 ?_|refine nT_ ?_|refine aE1 ?_|refine aE0 ?_|refine aN1 ?_|refine aN0 ?_|refine aD1 ?_|refine aD0 ?_|refine nE_ (fun hq=>?_) (fun hq=>?_)|refine nN_ (fun hq=>?_) (fun hq=>?_)|refine nD_ (fun hq=>?_) (fun hq=>?_)|refine rb1 ?_|refine rb0 ?_|refine rbx ?_|refine rix ?_|refine aS ?_|fail)
  rw [if_neg c0] at hE hO
  have e0:e=0:=by omega
  by_cases c1:n<0
  ·rw [if_pos c1] at hE hO
   obtain ⟨rfl,rfl⟩:=hE (by decide)
   repeat' ((conv=>whnf);first|exact trivial|refine qk _ (hG) ?_|refine pz e0 ?_|refine pt c1 ?_|refine nT_ ?_|refine aE1 ?_|refine aE0 ?_|refine aN1 ?_|refine aN0 ?_|refine aD1 ?_|refine aD0 ?_|refine nE_ (fun hq=>?_) (fun hq=>?_)|refine nN_ (fun hq=>?_) (fun hq=>?_)|refine nD_ (fun hq=>?_) (fun hq=>?_)|refine rb1 ?_|refine rb0 ?_|refine rbx ?_|refine rix ?_|refine aS ?_|fail)
  rw [if_neg c1] at hE hO
  obtain ⟨n,rfl⟩:=Int.eq_ofNat_of_zero_le (show 0≤n by omega)
  obtain ⟨u,rfl⟩:=Int.eq_ofNat_of_zero_le q1
  rw [Int.toNat_natCast,Int.toNat_natCast] at hE hO
  obtain ⟨D,hD⟩: ∃D,D=rD n (b.drop u) []:=⟨_,rfl⟩
  rw [← hD] at hE hO
  have hbd:0≤(u:Int)∧(u:Int)≤((b.map Y).length:Int)∧((b.map Y).length:Int)≤((b.map Y).length:Int):=by rw [List.length_map];omega
  have hsl:T.slice 1 (((b.map Y).take ((((b.map Y).length:Nat):Int)).toNat).drop ((u:Int)).toNat)=bT (b.drop u):=by
   rw [Int.toNat_natCast,ta]
  have hDe:D.2.2≠0→res= .nil∧er=D.2.2:=fun h=>by
   have:=hE (by rw [if_pos h];exact h)
   rw [if_pos h] at this
   exact this
  have hD6:D.2.2=0→D.2.1≠[]→res= .nil∧er=6:=fun h h2=>by
   have:=hE (by rw [if_neg (by simpa using h),if_pos h2];decide)
   rw [if_neg (by simpa using h),if_pos h2] at this
   exact this
  have hDo:D.2.2=0→D.2.1=[]→res=esT D.1∧er=0:=fun h h2=>by
   have:=hO (by rw [if_neg (by simpa using h),if_neg (by simpa using h2)])
   rw [if_neg (by simpa using h),if_neg (by simpa using h2)] at this
   exact this
  clear hE hO
  have hbl:(b.drop u).length≤b.length:=by rw [List.length_drop];omega
  repeat' ((conv=>whnf);first|exact trivial|refine qk _ (hG) ?_|refine pz e0 ?_|refine pq c1 ?_|(refine nv_ (bT (b.drop u)) (by first|exact hsl|fail) ?_)|refine nT_ ?_|refine aE1 ?_|refine aE0 ?_|refine aN1 ?_|refine aN0 ?_|refine aD1 ?_|refine aD0 ?_|refine nE_ (fun hq=>?_) (fun hq=>?_)|refine nN_ (fun hq=>?_) (fun hq=>?_)|refine nD_ (fun hq=>?_) (fun hq=>?_)|refine rb1 ?_|refine rb0 ?_|refine rbx ?_|refine rix ?_|(refine And.intro (by first|exact hbd|fail) ?_)|refine aS ?_|fail)
  refine pX 1 (α:=Nat×List Int×List RE) (β:=List Int×List RE) (fun p=>{sl:=[(0,.t (bT p.2.1)),(7,.own 83 39 4 (p.2.2.map qx)),(31,.t (I n)),(32,.t (I p.1))],bx:=[]})
   (fun p=>p.1≤n∧qI p.2.1∧p.2.2.length+p.2.1.length≤b.length∧rD (n - p.1) p.2.1 p.2.2=D) (fun p=>n - p.1)
   (fun p=>{sl:=[(0,.t (bT p.1)),(7,.own 83 39 4 (p.2.map qx))],bx:=[]}) (fun p=>D=(p.2,p.1,0)) (0,b.drop u,[]) ⟨Nat.zero_le _,qQ hb _,by simp,hD.symm⟩ ?_ ?_ ?_
  ·repeat' (first|exact trivial|exact LeV.same _|exact LeB.same _|exact rfl|exact fun _ _ _=>trivial|exact lI|exact LeV.nil _ _ _|exact lB|refine qq ?_|refine qo ?_|refine And.intro ?_ ?_)
  ·rintro ⟨i,r,acc⟩ ⟨hi,hr,hal,hdec⟩
   dsimp only at hi hr hal hdec
   rcases Nat.lt_or_ge i n with h|h
   ·have hlt:(i:Int)<(n:Int):=by omega
    have hnx:((i+1:Nat):Int)=IntKind.wrap .i64 ((i:Int)+1):=by rw [lS] <;> omega
    rw [show n - i=(n - (i+1))+1 by omega,rD] at hdec
    have hB:=vR r hr (by omega)
    have hbk:=@zq r hr
    unfold sZ at hdec
    generalize gb r=g1 at *
    obtain ⟨v,f,e1⟩:=g1
    dsimp only at hB hbk hdec
    clear hG hsl hbd
    repeat' ((conv=>whnf);first|exact trivial|refine pt hlt ?_|refine nT_ ?_|refine aE1 ?_|refine aE0 ?_|refine aN1 ?_|refine aN0 ?_|refine aD1 ?_|refine aD0 ?_|refine nE_ (fun hq=>?_) (fun hq=>?_)|refine nN_ (fun hq=>?_) (fun hq=>?_)|refine nD_ (fun hq=>?_) (fun hq=>?_)|refine rb1 ?_|refine rb0 ?_|refine rbx ?_|refine rix ?_|refine aS ?_|fail)
    refine qe (β:=Unit) (fun _=>{sl:=[(0,.t (bT r)),(7,.own 83 39 4 (acc.map qx)),(8,.t (.str v)),(9,.t (I f)),(10,.t (I e1)),(31,.t (I n)),(32,.t (I i))],bx:=[]}) (fun _=>True) ?_ ?_
    ·repeat' ((conv=>whnf);first|exact trivial|refine qk _ (hB) ?_|(exact ⟨(),trivial,by (repeat' (first|exact trivial|exact LeV.same _|exact LeB.same _|exact rfl|exact fun _ _ _=>trivial|exact lI|exact LeV.nil _ _ _|exact lB|refine qq ?_|refine qo ?_|refine And.intro ?_ ?_));done⟩)|refine nT_ ?_|refine aE1 ?_|refine aE0 ?_|refine aN1 ?_|refine aN0 ?_|refine aD1 ?_|refine aD0 ?_|refine nE_ (fun hq=>?_) (fun hq=>?_)|refine nN_ (fun hq=>?_) (fun hq=>?_)|refine nD_ (fun hq=>?_) (fun hq=>?_)|refine rb1 ?_|refine rb0 ?_|refine rbx ?_|refine rix ?_|refine aS ?_|fail)
    rintro _ _
    clear hB
    by_cases d1:e1≠0
    ·rw [if_pos d1,if_pos d1] at hdec
     obtain ⟨rfl,rfl⟩:=hDe (by rw [← hdec];exact d1)
     rw [← hdec]
     repeat' ((conv=>whnf);first|exact trivial|refine ql d1 ?_|refine nT_ ?_|refine aE1 ?_|refine aE0 ?_|refine aN1 ?_|refine aN0 ?_|refine aD1 ?_|refine aD0 ?_|refine nE_ (fun hq=>?_) (fun hq=>?_)|refine nN_ (fun hq=>?_) (fun hq=>?_)|refine nD_ (fun hq=>?_) (fun hq=>?_)|refine rb1 ?_|refine rb0 ?_|refine rbx ?_|refine rix ?_|refine aS ?_|fail)
    have d1':e1=0:=by omega
    obtain ⟨f1,f2⟩:=hbk d1'
    obtain ⟨f,rfl⟩:=Int.eq_ofNat_of_zero_le f1
    rw [if_neg d1,Int.toNat_natCast] at hdec
    have hI:=sa (r.drop f) (qQ hr _) (by rw [List.length_drop];omega)
    have hik:=@uI (r.drop f) (qQ hr _)
    have hb1:0≤(f:Int)∧(f:Int)≤((r.map Y).length:Int)∧((r.map Y).length:Int)≤((r.map Y).length:Int):=by rw [List.length_map];omega
    have hs1:T.slice 1 (((r.map Y).take ((((r.map Y).length:Nat):Int)).toNat).drop ((f:Int)).toNat)=bT (r.drop f):=by
     rw [Int.toNat_natCast,ta]
    generalize hg2:qE (r.drop f)=g2 at *
    obtain ⟨ks,s2,e2⟩:=g2
    dsimp only at hik hdec
    obtain ⟨kt,hkt⟩: ∃kt:T,(e2≠0→kt= .nil)∧(e2=0→kt= .slice 1 (ks.map I)):=⟨if e2≠0 then .nil else .slice 1 (ks.map I),fun h=>if_pos h,fun h=>if_neg (by simpa using h)⟩
    have hI:DCalls Try.prog 28 [bT (r.drop f)] (.tup [kt,I s2,I e2]):=by
     have e:gsT (ks,s2,e2)= .tup [kt,I s2,I e2]:=by
      show T.tup [if e2≠0 then .nil else _,_,_]=_
      by_cases d:e2=0
      ·rw [if_neg (by simpa using d),hkt.2 d]
      ·rw [if_pos d,hkt.1 d]
     rw [← e];exact hI
    repeat' ((conv=>whnf);first|exact trivial|refine pz d1' ?_|refine nT_ ?_|refine aE1 ?_|refine aE0 ?_|refine aN1 ?_|refine aN0 ?_|refine aD1 ?_|refine aD0 ?_|refine nE_ (fun hq=>?_) (fun hq=>?_)|refine nN_ (fun hq=>?_) (fun hq=>?_)|refine nD_ (fun hq=>?_) (fun hq=>?_)|refine rb1 ?_|refine rb0 ?_|refine rbx ?_|refine rix ?_|refine aS ?_|fail)
    refine qe (β:=Unit) (fun _=>{sl:=[(0,.t (bT r)),(7,.own 83 39 4 (acc.map qx)),(8,.t (.str v)),(9,.t (I f)),(10,.t (I e2)),(11,.t kt),(12,.t (I s2)),(31,.t (I n)),(32,.t (I i))],bx:=[]}) (fun _=>True) ?_ ?_
    ·repeat' ((conv=>whnf);first|exact trivial|(refine nv_ (bT (r.drop f)) (by first|exact hs1|fail) ?_)|refine qk _ (hI) ?_|(exact ⟨(),trivial,by (repeat' (first|exact trivial|exact LeV.same _|exact LeB.same _|exact rfl|exact fun _ _ _=>trivial|exact lI|exact LeV.nil _ _ _|exact lB|refine qq ?_|refine qo ?_|refine And.intro ?_ ?_));done⟩)|refine nT_ ?_|refine aE1 ?_|refine aE0 ?_|refine aN1 ?_|refine aN0 ?_|refine aD1 ?_|refine aD0 ?_|refine nE_ (fun hq=>?_) (fun hq=>?_)|refine nN_ (fun hq=>?_) (fun hq=>?_)|refine nD_ (fun hq=>?_) (fun hq=>?_)|refine rb1 ?_|refine rb0 ?_|refine rbx ?_|refine rix ?_|(refine And.intro (by first|exact hb1|fail) ?_)|refine aS ?_|fail)
    rintro _ _
    clear hI hs1 hb1
    by_cases d2:e2≠0
    ·rw [if_pos d2,if_pos d2] at hdec
     obtain ⟨rfl,rfl⟩:=hDe (by rw [← hdec];exact d2)
     rw [← hdec]
     repeat' ((conv=>whnf);first|exact trivial|refine ql d2 ?_|refine nT_ ?_|refine aE1 ?_|refine aE0 ?_|refine aN1 ?_|refine aN0 ?_|refine aD1 ?_|refine aD0 ?_|refine nE_ (fun hq=>?_) (fun hq=>?_)|refine nN_ (fun hq=>?_) (fun hq=>?_)|refine nD_ (fun hq=>?_) (fun hq=>?_)|refine rb1 ?_|refine rb0 ?_|refine rbx ?_|refine rix ?_|refine aS ?_|fail)
    have d2':e2=0:=by omega
    rw [hkt.2 d2']
    obtain ⟨k1,k2⟩:=hik d2'
    rw [List.length_drop] at k2
    obtain ⟨s2,rfl⟩:=Int.eq_ofNat_of_zero_le (show 0≤s2 by omega)
    rw [if_neg d2,Int.toNat_natCast] at hdec
    have hr3:qI ((r.drop f).drop s2):=qQ (qQ hr _) _
    have hI3:=sa ((r.drop f).drop s2) hr3 (by rw [List.length_drop,List.length_drop];omega)
    have hik3:=uI hr3
    rw [List.length_drop,List.length_drop] at hik3
    have hw2:IntKind.wrap .i64 ((f:Int)+(s2:Int))=((f+s2:Nat):Int):=by rw [lS (by omega) (by omega)];omega
    have hb2:0≤IntKind.wrap .i64 ((f:Int)+(s2:Int))∧IntKind.wrap .i64 ((f:Int)+(s2:Int))≤((r.map Y).length:Int)∧((r.map Y).length:Int)≤((r.map Y).length:Int):=by rw [hw2,List.length_map];omega
    have hs2:T.slice 1 (((r.map Y).take ((((r.map Y).length:Nat):Int)).toNat).drop (IntKind.wrap .i64 ((f:Int)+(s2:Int))).toNat)=bT ((r.drop f).drop s2):=by
     rw [hw2,Int.toNat_natCast (n:=f+s2),ta,List.drop_drop]
    generalize qE ((r.drop f).drop s2)=g3 at *
    obtain ⟨tw,s3,e3⟩:=g3
    dsimp only at hik3 hdec
    obtain ⟨k3t,hk3⟩: ∃kt:T,(e3≠0→kt= .nil)∧(e3=0→kt= .slice 1 (tw.map I)):=⟨if e3≠0 then .nil else .slice 1 (tw.map I),fun h=>if_pos h,fun h=>if_neg (by simpa using h)⟩
    have hI3:DCalls Try.prog 28 [bT ((r.drop f).drop s2)] (.tup [k3t,I s3,I e3]):=by
     have e:gsT (tw,s3,e3)= .tup [k3t,I s3,I e3]:=by
      show T.tup [if e3≠0 then .nil else _,_,_]=_
      by_cases d:e3=0
      ·rw [if_neg (by simpa using d),hk3.2 d]
      ·rw [if_pos d,hk3.1 d]
     rw [← e];exact hI3
    repeat' ((conv=>whnf);first|exact trivial|refine pz d2' ?_|refine nT_ ?_|refine aE1 ?_|refine aE0 ?_|refine aN1 ?_|refine aN0 ?_|refine aD1 ?_|refine aD0 ?_|refine nE_ (fun hq=>?_) (fun hq=>?_)|refine nN_ (fun hq=>?_) (fun hq=>?_)|refine nD_ (fun hq=>?_) (fun hq=>?_)|refine rb1 ?_|refine rb0 ?_|refine rbx ?_|refine rix ?_|refine aS ?_|fail)
    refine qe (β:=Unit) (fun _=>{sl:=[(0,.t (bT r)),(7,.own 83 39 4 (acc.map qx)),(8,.t (.str v)),(9,.t (I f)),(10,.t (I e3)),(11,.t (.slice 1 (ks.map I))),(12,.t (I s2)),(13,.t k3t),(14,.t (I s3)),(31,.t (I n)),(32,.t (I i))],bx:=[]}) (fun _=>True) ?_ ?_
    ·repeat' ((conv=>whnf);first|exact trivial|(refine nv_ (bT ((r.drop f).drop s2)) (by first|exact hs2|fail) ?_)|refine qk _ (hI3) ?_|(exact ⟨(),trivial,by (repeat' (first|exact trivial|exact LeV.same _|exact LeB.same _|exact rfl|exact fun _ _ _=>trivial|exact lI|exact LeV.nil _ _ _|exact lB|refine qq ?_|refine qo ?_|refine And.intro ?_ ?_));done⟩)|refine nT_ ?_|refine aE1 ?_|refine aE0 ?_|refine aN1 ?_|refine aN0 ?_|refine aD1 ?_|refine aD0 ?_|refine nE_ (fun hq=>?_) (fun hq=>?_)|refine nN_ (fun hq=>?_) (fun hq=>?_)|refine nD_ (fun hq=>?_) (fun hq=>?_)|refine rb1 ?_|refine rb0 ?_|refine rbx ?_|refine rix ?_|(refine And.intro (by first|exact hb2|fail) ?_)|refine aS ?_|fail)
    rintro _ _
    clear hI3 hs2 hb2
    by_cases d3:e3≠0
    ·rw [if_pos d3,if_pos d3] at hdec
     obtain ⟨rfl,rfl⟩:=hDe (by rw [← hdec];exact d3)
     rw [← hdec]
     repeat' ((conv=>whnf);first|exact trivial|refine ql d3 ?_|refine nT_ ?_|refine aE1 ?_|refine aE0 ?_|refine aN1 ?_|refine aN0 ?_|refine aD1 ?_|refine aD0 ?_|refine nE_ (fun hq=>?_) (fun hq=>?_)|refine nN_ (fun hq=>?_) (fun hq=>?_)|refine nD_ (fun hq=>?_) (fun hq=>?_)|refine rb1 ?_|refine rb0 ?_|refine rbx ?_|refine rix ?_|refine aS ?_|fail)
    have d3':e3=0:=by omega
    rw [hk3.2 d3']
    rw [if_neg d3] at hdec
    have hlw:((tw.map I).length:Int)=tw.length:=by rw [List.length_map]
    by_cases d4:tw.length≠2
    ·rw [if_pos d4,if_pos (by decide)] at hdec
     obtain ⟨rfl,rfl⟩:=hDe (by rw [← hdec];decide)
     rw [← hdec]
     have d4':((tw.map I).length:Int)≠2:=by omega
     repeat' ((conv=>whnf);first|exact trivial|refine pz d3' ?_|refine ql d4' ?_|refine nT_ ?_|refine aE1 ?_|refine aE0 ?_|refine aN1 ?_|refine aN0 ?_|refine aD1 ?_|refine aD0 ?_|refine nE_ (fun hq=>?_) (fun hq=>?_)|refine nN_ (fun hq=>?_) (fun hq=>?_)|refine nD_ (fun hq=>?_) (fun hq=>?_)|refine rb1 ?_|refine rb0 ?_|refine rbx ?_|refine rix ?_|refine aS ?_|fail)
    obtain ⟨k3,k4⟩:=hik3 d3'
    obtain ⟨s3,rfl⟩:=Int.eq_ofNat_of_zero_le (show 0≤s3 by omega)
    rw [if_neg d4,if_neg (by simp),Int.toNat_natCast] at hdec
    dsimp only at hdec
    obtain ⟨a,c,rfl⟩: ∃a c,tw=[a,c]:=by
     match tw,(show tw.length=2 by omega) with
     |[a,c],_=>exact ⟨a,c,rfl⟩
    have hw3:IntKind.wrap .i64 (IntKind.wrap .i64 ((f:Int)+(s2:Int))+(s3:Int))=((f+s2+s3:Nat):Int):=by rw [hw2,lS (by omega) (by omega)];omega
    have hb3:0≤IntKind.wrap .i64 (IntKind.wrap .i64 ((f:Int)+(s2:Int))+(s3:Int))∧IntKind.wrap .i64 (IntKind.wrap .i64 ((f:Int)+(s2:Int))+(s3:Int))≤((r.map Y).length:Int)∧((r.map Y).length:Int)≤((r.map Y).length:Int):=by rw [hw3,List.length_map];omega
    have hs3:T.slice 1 (((r.map Y).take ((((r.map Y).length:Nat):Int)).toNat).drop (IntKind.wrap .i64 (IntKind.wrap .i64 ((f:Int)+(s2:Int))+(s3:Int))).toNat)=bT (((r.drop f).drop s2).drop s3):=by
     rw [hw3,Int.toNat_natCast (n:=f+s2+s3),ta,List.drop_drop,List.drop_drop,Nat.add_assoc]
    have hr4:qI (((r.drop f).drop s2).drop s3):=qQ hr3 _
    have hal2:(acc++[(⟨v,ks,a,c⟩:RE)]).length+(((r.drop f).drop s2).drop s3).length≤b.length:=by
     rw [List.length_append,List.length_drop,List.length_drop,List.length_drop,List.length_cons,List.length_nil]
     omega
    have hrm:((acc.map qx).length+1) * 56≤140737488355328:=by rw [List.length_map];omega
    have hsn:(acc++[(⟨v,ks,a,c⟩:RE)]).map qx=acc.map qx++[qx ⟨v,ks,a,c⟩]:=by rw [List.map_append];rfl
    have hmu:n - (i+1)<n - i:=by omega
    have hdec2:rD (n - (i+1)) (((r.drop f).drop s2).drop s3) (acc++[(⟨v,ks,a,c⟩:RE)])=D:=hdec
    clear hdec hik hik3 hbk hlw hw2 hw3 hkt hk3
    repeat' ((conv=>whnf);first|exact trivial|refine pz d3' ?_|(refine nv_ (bT (((r.drop f).drop s2).drop s3)) (by first|exact hs3|fail) ?_)|(exact ⟨(i+1,((r.drop f).drop s2).drop s3,acc++[⟨v,ks,a,c⟩]),⟨h,hr4,hal2,hdec2⟩,hmu,by (repeat' (first|(exact leI hnx)|(exact qo hsn)|exact trivial|exact LeV.same _|exact LeB.same _|exact rfl|exact fun _ _ _=>trivial|exact lI|exact LeV.nil _ _ _|exact lB|refine qq ?_|refine qo ?_|refine And.intro ?_ ?_));done⟩)|refine nT_ ?_|refine aE1 ?_|refine aE0 ?_|refine aN1 ?_|refine aN0 ?_|refine aD1 ?_|refine aD0 ?_|refine nE_ (fun hq=>?_) (fun hq=>?_)|refine nN_ (fun hq=>?_) (fun hq=>?_)|refine nD_ (fun hq=>?_) (fun hq=>?_)|refine rb1 ?_|refine rb0 ?_|refine rbx ?_|refine rix ?_|(refine And.intro (by first|exact hb3|exact hrm|fail) ?_)|refine aS ?_|fail)
   ·have hlt: ¬(i:Int)<(n:Int):=by omega
    rw [show n - i=0 by omega] at hdec
    have hdec2:D=(acc,r,0):=hdec.symm
    repeat' ((conv=>whnf);first|exact trivial|refine pq hlt ?_|(exact ⟨(r,acc),hdec2,by (repeat' (first|exact trivial|exact LeV.same _|exact LeB.same _|exact rfl|exact fun _ _ _=>trivial|exact lI|exact LeV.nil _ _ _|exact lB|refine qq ?_|refine qo ?_|refine And.intro ?_ ?_));done⟩)|refine nT_ ?_|refine aE1 ?_|refine aE0 ?_|refine aN1 ?_|refine aN0 ?_|refine aD1 ?_|refine aD0 ?_|refine nE_ (fun hq=>?_) (fun hq=>?_)|refine nN_ (fun hq=>?_) (fun hq=>?_)|refine nD_ (fun hq=>?_) (fun hq=>?_)|refine rb1 ?_|refine rb0 ?_|refine rbx ?_|refine rix ?_|refine aS ?_|fail)
  ·rintro ⟨r,acc⟩ hDD
   dsimp only at hDD
   have hrl:((r.map Y).length:Int)=r.length:=by rw [List.length_map]
   by_cases c5:r=[]
   ·obtain ⟨rfl,rfl⟩:=hDo (by rw [hDD]) (by rw [hDD];exact c5)
    have c6: ¬((r.map Y).length:Int)>0:=by rw [c5];simp
    rw [hDD]
    repeat' ((conv=>whnf);first|exact trivial|refine pq c6 ?_|refine nT_ ?_|refine aE1 ?_|refine aE0 ?_|refine aN1 ?_|refine aN0 ?_|refine aD1 ?_|refine aD0 ?_|refine nE_ (fun hq=>?_) (fun hq=>?_)|refine nN_ (fun hq=>?_) (fun hq=>?_)|refine nD_ (fun hq=>?_) (fun hq=>?_)|refine rb1 ?_|refine rb0 ?_|refine rbx ?_|refine rix ?_|refine aS ?_|fail)
   ·obtain ⟨rfl,rfl⟩:=hD6 (by rw [hDD]) (by rw [hDD];exact c5)
    have c6:((r.map Y).length:Int)>0:=by
     have:=List.length_pos_iff.2 c5
     omega
    repeat' ((conv=>whnf);first|exact trivial|refine pt c6 ?_|refine nT_ ?_|refine aE1 ?_|refine aE0 ?_|refine aN1 ?_|refine aN0 ?_|refine aD1 ?_|refine aD0 ?_|refine nE_ (fun hq=>?_) (fun hq=>?_)|refine nN_ (fun hq=>?_) (fun hq=>?_)|refine nD_ (fun hq=>?_) (fun hq=>?_)|refine rb1 ?_|refine rb0 ?_|refine rbx ?_|refine rix ?_|refine aS ?_|fail)
 have h:=main (if (rW b).2≠0 then .nil else esT (rW b).1) (rW b).2 (fun h=>⟨if_pos h,rfl⟩) (fun h=>⟨if_neg (by simpa using h),h⟩)
 exact h
end Go.ST
end
section
namespace Go.ST8
open Go Go.DL Go.Proofs
noncomputable def c4:ba:=(.seq (.region [oo 0 (.mov kF)] []) (.seq (.region [oo 1 (.mov (.const .nil))] []) (.seq (.seq (.region [oo 2 (.mov (Kc 0))] []) (.block 0 (.loop (.seq (.seq (.region [mv 24 2,oo 25 (.bin .lss (tm 24) (Kc 10))] []) (.cond (tm 25) .skip (.exit 0))) (.seq (.block 1 (.region [mv 28 1,mv 29 2,oo 30 (.build [Z0,Z0,Z0] [(0,1,(Kc 5)),(1,1,(Kc 0)),(2,1,(tm 29))]),oo 31 (.buildF 3 1 [Z0,Z0,Z0] [(0,(tm 30))]),oo 32 (.append 41 42 3 24 (tm 28) (tm 31)),mv 1 32] [])) (.region [mv 26 2,oo 27 (.bin .add (tm 26) (Kc 1)),mv 2 27] [])))))) (.seq (.cut (.region [⟨some 34,.call 5 [(Kc 1),(.const (.str ⟨#[107,105,110,100]⟩)),(Kc 0),(Kc 0)],none,[]⟩,mv 35 1,⟨some 36,.call 8 [(tm 34),(.const .nil),(.const (.str ⟨#[107,105,110,100]⟩)),(tm 35)],none,[]⟩,mv 33 36,oo 37 (.ext (tm 33) 0),oo 38 (.ext (tm 33) 1),mv 3 37,mv 4 38] [])) (.seq (.cut (.region [mv 39 3,oo 40 (.call 9 [tm 39]),mv 41 40,mT 42 4 41,oT 43 41 (.len (tm 42)),oT 44 41 (.bin .eql (tm 43) (Kc 1)),oo 45 (.pick (tm 41) (tm 44) kF),mv 46 45,mT 47 4 46,oT 48 46 (.idxL 4 (tm 47) (Kc 0)),oT 49 46 (.offA 2 (tm 48)),oT 50 46 (.load 1 false (tm 49)),oT 51 46 (.bin .eql (tm 50) (Kc 10)),oo 52 (.pick (tm 46) (tm 51) kF),mv 5 52] [])) (.seq (.cut (.region [⟨some 54,.call 5 [(Kc 3),(.const S0),(Kc 3),(Kc 0)],none,[]⟩,oo 55 (.build [Z0,Z0,Z0] [(0,1,(Kc 7)),(1,1,(Kc 0)),(2,1,(Kc 10))]),oo 56 (.buildS 42 3 1 [Z0,Z0,Z0] [(0,(tm 55))]),⟨some 57,.call 8 [(tm 54),(.const .nil),(.const (.str ⟨#[115,114,99]⟩)),(tm 56)],none,[]⟩,mv 53 57,oo 58 (.ext (tm 53) 0),oo 59 (.ext (tm 53) 1),mv 6 58,mv 7 59] [])) (.seq (.cut (.region [⟨some 61,.call 5 [(Kc 2),(.const S0),(Kc 0),(Kc 0)],none,[]⟩,mv 62 7,oo 63 (.build [Z0,Z0,Z0] [(0,1,(Kc 7)),(1,1,(Kc 0)),(2,1,(Kc 10))]),oo 64 (.buildS 42 3 1 [Z0,Z0,Z0] [(0,(tm 63))]),⟨some 65,.call 8 [(tm 61),(tm 62),(.const (.str ⟨#[115,114,99]⟩)),(tm 64)],none,[]⟩,mv 60 65,oo 66 (.ext (tm 60) 0),oo 67 (.ext (tm 60) 1),mv 8 66,mv 9 67] [])) (.seq (.cut (.region [⟨some 69,.call 5 [(Kc 3),(.const S0),(Kc 3),(Kc 0)],none,[]⟩,mv 70 9,oo 71 (.build [Z0,Z0,Z0] [(0,1,(Kc 7)),(1,1,(Kc 0)),(2,1,(Kc 13))]),oo 72 (.build [Z0,Z0,Z0] [(0,1,(Kc 7)),(1,1,(Kc 0)),(2,1,(Kc 14))]),oo 73 (.buildS 42 3 2 [Z0,Z0,Z0] [(0,(tm 71)),(1,(tm 72))]),⟨some 74,.call 8 [(tm 69),(tm 70),(.const (.str ⟨#[115,114,99]⟩)),(tm 73)],none,[]⟩,mv 68 74,oo 75 (.ext (tm 68) 0),oo 76 (.ext (tm 68) 1),mv 10 75,mv 11 76] [])) (.seq (.cut (.region [mv 77 6,ln 78 77,oo 79 (.bin .eql (tm 78) (Kc 1)),mv 80 79,mT 81 6 80,oT 82 80 (.idxL 1 (tm 81) (Kc 0)),oT 83 80 (.load 1 false (tm 82)),oT 84 80 (.bin .eql (tm 83) (.const (.int .i64 (-1)))),oo 85 (.pick (tm 80) (tm 84) kF),mv 86 85,mT 87 9 86,oT 88 86 (.len (tm 87)),oT 89 86 (.bin .eql (tm 88) (Kc 1)),oo 90 (.pick (tm 86) (tm 89) kF),mv 91 90,mT 92 10 91,oT 93 91 (.buildS 3 1 2 [Z0] [(0,(Kc 7)),(1,(.const (.int .i64 (-1))))]),oT 94 91 (.call 10 [(tm 92),(tm 93)]),oT 95 91 (.bin .eql (tm 94) (Kc 0)),oo 96 (.pick (tm 91) (tm 95) kF),mv 12 96] [])) (.seq (.cut (.region [⟨some 98,.call 5 [(Kc 4),(.const (.str ⟨#[100,115,116]⟩)),(Kc 20),(Kc 21)],none,[]⟩,oo 99 (.build [Z0,Z0,Z0] [(0,1,(Kc 1)),(1,1,(Kc 0)),(2,1,(Kc 0))]),oo 100 (.build [Z0,Z0,Z0] [(0,1,(Kc 2)),(1,1,(Kc 0)),(2,1,(Kc 0))]),oo 101 (.build [Z0,Z0,Z0] [(0,1,(Kc 1)),(1,1,(Kc 0)),(2,1,(Kc 0))]),oo 102 (.build [Z0,Z0,Z0] [(0,1,(Kc 3)),(1,1,(Kc 0)),(2,1,(Kc 0))]),oo 103 (.buildS 42 3 4 [Z0,Z0,Z0] [(0,(tm 99)),(1,(tm 100)),(2,(tm 101)),(3,(tm 102))]),⟨some 104,.call 8 [(tm 98),(.const .nil),(.const (.str ⟨#[100,115,116]⟩)),(tm 103)],none,[]⟩,mv 97 104,oo 105 (.ext (tm 97) 0),oo 106 (.ext (tm 97) 1),mv 13 105,mv 14 106] [])) (.seq (.cut (.region [⟨some 108,.call 5 [(Kc 5),(.const (.str ⟨#[100,115,116]⟩)),(Kc 0),(Kc 0)],none,[]⟩,mv 109 14,oo 110 (.build [Z0,Z0,Z0] [(0,1,(Kc 9)),(1,1,(Kc 21)),(2,1,(Kc 0))]),oo 111 (.build [Z0,Z0,Z0] [(0,1,(Kc 9)),(1,1,(Kc 22)),(2,1,(Kc 0))]),oo 112 (.buildS 42 3 2 [Z0,Z0,Z0] [(0,(tm 110)),(1,(tm 111))]),⟨some 113,.call 8 [(tm 108),(tm 109),(.const (.str ⟨#[115,114,99]⟩)),(tm 112)],none,[]⟩,mv 107 113,oo 114 (.ext (tm 107) 0),oo 115 (.ext (tm 107) 1),mv 15 114,mv 16 115] [])) (.seq (.cut (.region [mv 116 13,oo 117 (.buildS 3 1 4 [Z0] [(0,(Kc 20)),(1,(Kc 21)),(2,(Kc 20)),(3,(.const (.int .i64 (-1))))]),oo 118 (.call 10 [(tm 116),(tm 117)]),oo 119 (.bin .eql (tm 118) (Kc 0)),mv 120 119,mT 121 14 120,oT 122 120 (.len (tm 121)),oT 123 120 (.bin .eql (tm 122) (Kc 2)),oo 124 (.pick (tm 120) (tm 123) kF),mv 125 124,mT 126 15 125,oT 127 125 (.buildS 3 1 2 [Z0] [(0,(Kc 2)),(1,(.const (.int .i64 (-1))))]),oT 128 125 (.call 10 [(tm 126),(tm 127)]),oT 129 125 (.bin .eql (tm 128) (Kc 0)),oo 130 (.pick (tm 125) (tm 129) kF),mv 17 130] [])) (.seq (.cut (.region [⟨some 132,.call 5 [(Kc 6),(.const S0),(Kc 2),(Kc 10)],none,[]⟩,oo 133 (.build [Z0,Z0,Z0] [(0,1,(Kc 4)),(1,1,(Kc 0)),(2,1,(Kc 0))]),oo 134 (.build [Z0,Z0,Z0] [(0,1,(Kc 4)),(1,1,(Kc 0)),(2,1,(Kc 0))]),oo 135 (.build [Z0,Z0,Z0] [(0,1,(Kc 4)),(1,1,(Kc 0)),(2,1,(Kc 0))]),oo 136 (.build [Z0,Z0,Z0] [(0,1,(Kc 4)),(1,1,(Kc 0)),(2,1,(Kc 9))]),oo 137 (.build [Z0,Z0,Z0] [(0,1,(Kc 4)),(1,1,(Kc 0)),(2,1,(Kc 10))]),oo 138 (.build [Z0,Z0,Z0] [(0,1,(Kc 4)),(1,1,(Kc 0)),(2,1,(Kc 11))]),oo 139 (.build [Z0,Z0,Z0] [(0,1,(Kc 4)),(1,1,(Kc 0)),(2,1,(Kc 40))]),oo 140 (.build [Z0,Z0,Z0] [(0,1,(Kc 4)),(1,1,(Kc 0)),(2,1,(Kc 40))]),oo 141 (.build [Z0,Z0,Z0] [(0,1,(Kc 4)),(1,1,(Kc 0)),(2,1,(Kc 40))]),oo 142 (.buildS 42 3 9 [Z0,Z0,Z0] [(0,(tm 133)),(1,(tm 134)),(2,(tm 135)),(3,(tm 136)),(4,(tm 137)),(5,(tm 138)),(6,(tm 139)),(7,(tm 140)),(8,(tm 141))]),⟨some 143,.call 8 [(tm 132),(.const .nil),(.const (.str ⟨#[115,114,99]⟩)),(tm 142)],none,[]⟩,mv 131 143,oo 144 (.ext (tm 131) 0),oo 145 (.ext (tm 131) 1),mv 18 144,mv 19 145] [])) (.seq (.cut (.region [mv 147 14,oo 148 (.call 12 [tm 147]),oo 149 (.call 11 [tm 148]),mv 146 149,oo 150 (.ext (tm 146) 0),oo 151 (.ext (tm 146) 1),mv 20 150,mv 21 151] [])) (.seq (.cut (.region [mv 153 4,oo 154 (.call 13 [(tm 153),(.const .nil)]),mv 152 154,oo 155 (.ext (tm 152) 0),oo 156 (.ext (tm 152) 1),mv 22 155,mv 23 156] [])) (.seq (.region [mv 157 5,mv 158 157,mT 159 12 158,oo 160 (.pick (tm 158) (tm 159) kF),mv 161 160,mT 162 17 161,oo 163 (.pick (tm 161) (tm 162) kF),mv 164 163,mT 165 18 164,oT 166 164 (.buildS 3 1 9 [Z0] [(0,(Kc 4)),(1,(Kc 4)),(2,(.const (.int .i64 (-1)))),(3,(.const (.int .i64 (-1)))),(4,(Kc 4)),(5,(.const (.int .i64 (-1)))),(6,(Kc 4)),(7,(Kc 4)),(8,(.const (.int .i64 (-1))))]),oT 167 164 (.call 10 [(tm 165),(tm 166)]),oT 168 164 (.bin .eql (tm 167) (Kc 0)),oo 169 (.pick (tm 164) (tm 168) kF),mv 170 169,mT 171 21 170,oT 172 170 (.bin .eql (tm 171) (Kc 0)),oo 173 (.pick (tm 170) (tm 172) kF),mv 174 173,mT 175 20 174,mT 176 14 174,oT 177 174 (.call 14 [(tm 175),(tm 176)]),oo 178 (.pick (tm 174) (tm 177) kF),mv 179 178,mT 180 14 179,mT 181 4 179,oT 182 179 (.call 14 [(tm 180),(tm 181)]),oT 183 179 (.not (tm 182)),oo 184 (.pick (tm 179) (tm 183) kF),mv 185 184,mT 186 23 185,oT 187 185 (.bin .eql (tm 186) (Kc 0)),oo 188 (.pick (tm 185) (tm 187) kF),mv 189 188,mT 190 22 189,oT 191 189 (.len (tm 190)),oT 192 189 (.bin .eql (tm 191) (Kc 1)),oo 193 (.pick (tm 189) (tm 192) kF),mv 194 193,mT 195 4 194,oT 196 194 (.call 15 [(.const .nil),(tm 195)]),oT 197 194 (.bin .eql (tm 196) (Kc 4)),oo 198 (.pick (tm 194) (tm 197) kF),mv 0 198] []) .ret))))))))))))))))
theorem l4:(Try.f4.body.bind (bo Try.prog 199 [6000006,6000007,6000008,6000009,6000010,6000011,6000012,6000013,6000014,6000015,6000016,6000017,8000031]))=some c4:=by kernel_rfl
end Go.ST8
end
section
namespace Go.ST
open Go Go.DL Go.MM Go.Proofs
open Go.TY hiding Fd
open Go.RC (vi vis vs qI rU vq)
abbrev EA:List RE:=[⟨vN,[5],10,9⟩]
abbrev EO:List RE:=[⟨vN,[7],0,10⟩]
abbrev EN:List RE:=[⟨vN,[1],20,0⟩,⟨vN,[2],21,0⟩]
abbrev E6:List RE:=[⟨vN,[4],0,40⟩]
abbrev sD:List (Int×Int×Int):=[(5,0,0),(5,0,1),(5,0,2),(5,0,3),(5,0,4),(5,0,5),(5,0,6),(5,0,7),(5,0,8),(5,0,9)]
abbrev Ao:List (Int×Int×Int):=[(4,0,0),(4,0,0),(4,0,0),(4,0,9),(4,0,10),(4,0,11),(4,0,40),(4,0,40),(4,0,40)]
theorem vP (k:Int) (f:ByteArray) (n m:Int) (st:List RE) (name:ByteArray) (ts:List (Int×Int×Int)) (out:List Int) (st':List RE) (hl:ts.length<2^20) (hb:tR L17 (stp k f n m) name ts st=true) (hf:qD L17 name=true) (h:qY L17 (stp k f n m) name ts ([],st)=(out,st')):
  DCalls Try.prog 8 [r6 (stp k f n m),esT st,.str name,s8 ts] (.tup [.slice 1 (out.map I),esT st']):=by
 have:=xA (stp k f n m) st name ts hl hb hf
 rwa [h] at this
theorem uw (k:Int) (f:ByteArray) (n m:Int) (name:ByteArray) (ts:List (Int×Int×Int)) (out:List Int) (st':List RE) (hl:ts.length<2^20) (hb:tR L17 (stp k f n m) name ts []=true) (hf:qD L17 name=true) (h:qY L17 (stp k f n m) name ts ([],[])=(out,st')):
  DCalls Try.prog 8 [r6 (stp k f n m),.nil,.str name,s8 ts] (.tup [.slice 1 (out.map I),esT st']):=
 (vP k f n m [] name ts out st' hl hb hf h).lesAll ⟨Les.refl _,Les.nil 4,Les.refl _,Les.refl _,trivial⟩
theorem uv (a:List Int) (h:a.length<2^60):DCalls Try.prog 10 [.slice 1 (a.map I),.slice 1 (a.map I)] (I 0):=by
 have:=za a a h h
 rwa [r5.2 rfl] at this
theorem yj (a:List Int) (h:a.length<2^40) (hc:si a=true):DCalls Try.prog 9 [.slice 1 (a.map I)] (.bool true):=by
 have:=uO a h
 rwa [hc] at this
theorem xF (l:List Int):qI (vis l):=fun b hb=>by
 unfold vis at hb
 rcases List.mem_append.1 hb with h|h
 ·exact rU _ b h
 ·obtain ⟨x,_,hx⟩:=List.mem_flatMap.1 h
  exact rU x b hx
theorem vY (st:List RE):qI (rE st):=fun b hb=>by
 unfold rE at hb
 rcases List.mem_append.1 hb with h|h
 ·exact rU _ b h
 ·obtain ⟨e,_,he⟩:=List.mem_flatMap.1 h
  unfold qV at he
  rcases List.mem_append.1 he with h|h
  ·exact vq _ b h
  ·rcases List.mem_append.1 h with h|h <;> exact xF _ b h
theorem szN: ∀e∈EN,SzE e:=fun e he=>by
 simp only [List.mem_cons,List.not_mem_nil,or_false] at he
 rcases he with rfl|rfl
 all_goals exact ⟨by decide,by decide,fun x hx=>by rw [List.mem_singleton.1 hx];unfold Go.RC.i64;decide,by unfold Go.RC.i64;decide,by unfold Go.RC.i64;decide⟩
theorem Ak (st:List RE) (hz: ∀e∈st,SzE e) (hl:st.length<2^20) (_:st≠[]) (hn:(rE st).length<2^28):DCalls Try.prog 11 [bT (rE st)] (.tup [esT st,I 0]):=by
 have:=xq (rE st) (vY st) (by omega)
 rw [wS hz (by omega)] at this
 exact this
theorem xK (a b:List RE) (x:Bool) (hla:a.length<2^40) (hlb:b.length<2^40) (hka: ∀x∈a,kOk x) (hkb: ∀x∈b,kOk x) (h:decide (a=b)=x):DCalls Try.prog 14 [esT a,esT b] (.bool x):=h▸zh a b hla hlb hka hkb
theorem zB (a:List RE) (hia:qH a) (ha:a.length<2^30) (hka: ∀x∈a,kOk x) (h:tj a []=some a):DCalls Try.prog 13 [esT a,.nil] (.tup [esT a,I 0]):=by
 have:=zg a [] hia List.Pairwise.nil ha (by decide) hka (fun x hx=>by cases hx)
 rw [h] at this
 exact this.lesAll ⟨Les.refl _,Les.nil 4,trivial⟩
theorem yi (st:List RE) (hl:st.length<2^60) (hk: ∀e∈st,kOk e) (x:Int) (h:wN [] st=x):DCalls Try.prog 15 [.nil,esT st] (I x):=
 (h▸yo [] (by decide) (fun v hv=>by cases hv) st hl hk:DCalls Try.prog 15 [vsT [],esT st] (I x)).lesAll ⟨Les.nil 5,Les.refl _,trivial⟩
theorem kEA: ∀e∈EA,kOk e:=by decide
theorem kEN: ∀e∈EN,kOk e:=by decide
theorem xz:DCalls Try.prog 4 [] (.bool true):=by
 refine pN (rs:=[.tmp 0]) mixed Try.func4 Go.ST8.l4 rfl rfl rfl (r:=[.bool true]) (nlZ rfl) ?_
 repeat' ((conv=>whnf);first|exact trivial|refine nT_ ?_|refine aE1 ?_|refine aE0 ?_|refine aN1 ?_|refine aN0 ?_|refine aD1 ?_|refine aD0 ?_|refine nE_ (fun hq=>?_) (fun hq=>?_)|refine nN_ (fun hq=>?_) (fun hq=>?_)|refine nD_ (fun hq=>?_) (fun hq=>?_)|refine rb1 ?_|refine rb0 ?_|refine rbx ?_|refine rix ?_|refine aS ?_|fail)
 refine pX 0 (α:=Nat) (β:=Unit) (fun i=>{sl:=[(1,.own 32 42 3 ((sD.take i).map tri)),(2,.t (I i))],bx:=[]}) (fun i=>i≤10) (fun i=>10 - i)
  (fun _=>{sl:=[(1,.t (s8 sD))],bx:=[]}) (fun _=>True) 0 (by decide) ?_ ?_ ?_
 ·repeat' (first|exact trivial|exact LeV.same _|exact LeB.same _|exact rfl|exact fun _ _ _=>trivial|exact lI|exact LeV.nil _ _ _|exact lB|refine qq ?_|refine qo ?_|refine And.intro ?_ ?_)
 ·rintro i hi
  rcases Nat.lt_or_ge i 10 with h|h
  ·have ht:(sD.take (i+1)).map tri=(sD.take i).map tri++[tri (5,0,i)]:=by
    have:i=0∨i=1∨i=2∨i=3∨i=4∨i=5∨i=6∨i=7∨i=8∨i=9:=by omega
    rcases this with rfl|rfl|rfl|rfl|rfl|rfl|rfl|rfl|rfl|rfl <;> rfl
   have hl:((sD.take i).map tri).length=i:=by rw [List.length_map,List.length_take];exact Nat.min_eq_left hi
   generalize (sD.take i).map tri=xs at *
   repeat' ((conv=>whnf);first|exact trivial|refine nT_ ?_|refine aE1 ?_|refine aE0 ?_|refine aN1 ?_|refine aN0 ?_|refine aD1 ?_|refine aD0 ?_|refine nE_ (fun hq=>?_) (fun hq=>?_)|refine nN_ (fun hq=>?_) (fun hq=>?_)|refine nD_ (fun hq=>?_) (fun hq=>?_)|refine rb1 ?_|refine rb0 ?_|refine rbx ?_|refine rix ?_|(refine And.intro (by first|((simp only [];omega);done)|fail) ?_)|refine aS ?_|fail)
   exact ⟨i+1,h,by omega,by repeat' (first|(exact qo ht)|exact trivial|exact LeV.same _|exact LeB.same _|exact rfl|exact fun _ _ _=>trivial|exact lI|exact LeV.nil _ _ _|exact lB|refine qq ?_|refine qo ?_|refine And.intro ?_ ?_)⟩
  ·obtain rfl:i=10:=by omega
   repeat' ((conv=>whnf);first|exact trivial|(exact ⟨(),trivial,by (repeat' (first|(exact wk rfl)|exact trivial|exact LeV.same _|exact LeB.same _|exact rfl|exact fun _ _ _=>trivial|exact lI|exact LeV.nil _ _ _|exact lB|refine qq ?_|refine qo ?_|refine And.intro ?_ ?_));done⟩)|refine nT_ ?_|refine aE1 ?_|refine aE0 ?_|refine aN1 ?_|refine aN0 ?_|refine aD1 ?_|refine aD0 ?_|refine nE_ (fun hq=>?_) (fun hq=>?_)|refine nN_ (fun hq=>?_) (fun hq=>?_)|refine nD_ (fun hq=>?_) (fun hq=>?_)|refine rb1 ?_|refine rb0 ?_|refine rbx ?_|refine rix ?_|refine aS ?_|fail)
 rintro _ _
 have k1:=rJ 1 ur 0 0
 have k2:=uw 1 ur 0 0 ur sD [1,2,3,4,5,6,7,7,7,7] EA (by decide) (by decide+kernel) (by decide+kernel) (by decide+kernel)
 repeat' ((conv=>whnf);first|exact trivial|refine qk _ (k1) ?_|refine qk _ (k2) ?_|refine nT_ ?_|refine aE1 ?_|refine aE0 ?_|refine aN1 ?_|refine aN0 ?_|refine aD1 ?_|refine aD0 ?_|refine nE_ (fun hq=>?_) (fun hq=>?_)|refine nN_ (fun hq=>?_) (fun hq=>?_)|refine nD_ (fun hq=>?_) (fun hq=>?_)|refine rb1 ?_|refine rb0 ?_|refine rbx ?_|refine rix ?_|refine aS ?_|fail)
 refine qe (β:=Unit) (fun _=>{sl:=[(3,.t (.slice 1 ([1,2,3,4,5,6,7,7,7,7].map I))),(4,.t (esT EA))],bx:=[]}) (fun _=>True) ?_ ?_
 ·repeat' ((conv=>whnf);first|exact trivial|refine qk _ (k1) ?_|refine qk _ (k2) ?_|(exact ⟨(),trivial,by (repeat' (first|exact trivial|exact LeV.same _|exact LeB.same _|exact rfl|exact fun _ _ _=>trivial|exact lI|exact LeV.nil _ _ _|exact lB|refine qq ?_|refine qo ?_|refine And.intro ?_ ?_));done⟩)|refine nT_ ?_|refine aE1 ?_|refine aE0 ?_|refine aN1 ?_|refine aN0 ?_|refine aD1 ?_|refine aD0 ?_|refine nE_ (fun hq=>?_) (fun hq=>?_)|refine nN_ (fun hq=>?_) (fun hq=>?_)|refine nD_ (fun hq=>?_) (fun hq=>?_)|refine rb1 ?_|refine rb0 ?_|refine rbx ?_|refine rix ?_|refine aS ?_|fail)
 rintro _ _
 clear k1 k2
 have k3:=yj [1,2,3,4,5,6,7,7,7,7] (by decide) (by decide+kernel)
 repeat' ((conv=>whnf);first|exact trivial|refine qk _ (k3) ?_|refine nT_ ?_|refine aE1 ?_|refine aE0 ?_|refine aN1 ?_|refine aN0 ?_|refine aD1 ?_|refine aD0 ?_|refine nE_ (fun hq=>?_) (fun hq=>?_)|refine nN_ (fun hq=>?_) (fun hq=>?_)|refine nD_ (fun hq=>?_) (fun hq=>?_)|refine rb1 ?_|refine rb0 ?_|refine rbx ?_|refine rix ?_|refine aS ?_|fail)
 refine qe (β:=Unit) (fun _=>{sl:=[(4,.t (esT EA)),(5,.t (.bool true))],bx:=[]}) (fun _=>True) ?_ ?_
 ·repeat' ((conv=>whnf);first|exact trivial|refine qk _ (k3) ?_|(exact ⟨(),trivial,by (repeat' (first|exact trivial|exact LeV.same _|exact LeB.same _|exact rfl|exact fun _ _ _=>trivial|exact lI|exact LeV.nil _ _ _|exact lB|refine qq ?_|refine qo ?_|refine And.intro ?_ ?_));done⟩)|refine nT_ ?_|refine aE1 ?_|refine aE0 ?_|refine aN1 ?_|refine aN0 ?_|refine aD1 ?_|refine aD0 ?_|refine nE_ (fun hq=>?_) (fun hq=>?_)|refine nN_ (fun hq=>?_) (fun hq=>?_)|refine nD_ (fun hq=>?_) (fun hq=>?_)|refine rb1 ?_|refine rb0 ?_|refine rbx ?_|refine rix ?_|refine aS ?_|fail)
 rintro _ _
 clear k3
 have k4:=rJ 3 e0 3 0
 have k5:=uw 3 e0 3 0 su [(7,0,10)] [-1] [] (by decide) (by decide+kernel) (by decide+kernel) (by decide+kernel)
 repeat' ((conv=>whnf);first|exact trivial|refine qk _ (k4) ?_|refine qk _ (k5) ?_|refine nT_ ?_|refine aE1 ?_|refine aE0 ?_|refine aN1 ?_|refine aN0 ?_|refine aD1 ?_|refine aD0 ?_|refine nE_ (fun hq=>?_) (fun hq=>?_)|refine nN_ (fun hq=>?_) (fun hq=>?_)|refine nD_ (fun hq=>?_) (fun hq=>?_)|refine rb1 ?_|refine rb0 ?_|refine rbx ?_|refine rix ?_|refine aS ?_|fail)
 refine qe (β:=Unit) (fun _=>{sl:=[(4,.t (esT EA)),(5,.t (.bool true)),(6,.t (.slice 1 ([-1].map I))),(7,.t (esT []))],bx:=[]}) (fun _=>True) ?_ ?_
 ·repeat' ((conv=>whnf);first|exact trivial|refine qk _ (k4) ?_|refine qk _ (k5) ?_|(exact ⟨(),trivial,by (repeat' (first|exact trivial|exact LeV.same _|exact LeB.same _|exact rfl|exact fun _ _ _=>trivial|exact lI|exact LeV.nil _ _ _|exact lB|refine qq ?_|refine qo ?_|refine And.intro ?_ ?_));done⟩)|refine nT_ ?_|refine aE1 ?_|refine aE0 ?_|refine aN1 ?_|refine aN0 ?_|refine aD1 ?_|refine aD0 ?_|refine nE_ (fun hq=>?_) (fun hq=>?_)|refine nN_ (fun hq=>?_) (fun hq=>?_)|refine nD_ (fun hq=>?_) (fun hq=>?_)|refine rb1 ?_|refine rb0 ?_|refine rbx ?_|refine rix ?_|refine aS ?_|fail)
 rintro _ _
 clear k4 k5
 have k6:=rJ 2 e0 0 0
 have k7:=vP 2 e0 0 0 [] su [(7,0,10)] [7] EO (by decide) (by decide+kernel) (by decide+kernel) (by decide+kernel)
 repeat' ((conv=>whnf);first|exact trivial|refine qk _ (k6) ?_|refine qk _ (k7) ?_|refine nT_ ?_|refine aE1 ?_|refine aE0 ?_|refine aN1 ?_|refine aN0 ?_|refine aD1 ?_|refine aD0 ?_|refine nE_ (fun hq=>?_) (fun hq=>?_)|refine nN_ (fun hq=>?_) (fun hq=>?_)|refine nD_ (fun hq=>?_) (fun hq=>?_)|refine rb1 ?_|refine rb0 ?_|refine rbx ?_|refine rix ?_|refine aS ?_|fail)
 refine qe (β:=Unit) (fun _=>{sl:=[(4,.t (esT EA)),(5,.t (.bool true)),(6,.t (.slice 1 ([-1].map I))),(9,.t (esT EO))],bx:=[]}) (fun _=>True) ?_ ?_
 ·repeat' ((conv=>whnf);first|exact trivial|refine qk _ (k6) ?_|refine qk _ (k7) ?_|(exact ⟨(),trivial,by (repeat' (first|exact trivial|exact LeV.same _|exact LeB.same _|exact rfl|exact fun _ _ _=>trivial|exact lI|exact LeV.nil _ _ _|exact lB|refine qq ?_|refine qo ?_|refine And.intro ?_ ?_));done⟩)|refine nT_ ?_|refine aE1 ?_|refine aE0 ?_|refine aN1 ?_|refine aN0 ?_|refine aD1 ?_|refine aD0 ?_|refine nE_ (fun hq=>?_) (fun hq=>?_)|refine nN_ (fun hq=>?_) (fun hq=>?_)|refine nD_ (fun hq=>?_) (fun hq=>?_)|refine rb1 ?_|refine rb0 ?_|refine rbx ?_|refine rix ?_|refine aS ?_|fail)
 rintro _ _
 clear k6 k7
 have k8:=rJ 3 e0 3 0
 have k9:=vP 3 e0 3 0 EO su [(7,0,13),(7,0,14)] [7, -1] EO (by decide) (by decide+kernel) (by decide+kernel) (by decide+kernel)
 repeat' ((conv=>whnf);first|exact trivial|refine qk _ (k8) ?_|refine qk _ (k9) ?_|refine nT_ ?_|refine aE1 ?_|refine aE0 ?_|refine aN1 ?_|refine aN0 ?_|refine aD1 ?_|refine aD0 ?_|refine nE_ (fun hq=>?_) (fun hq=>?_)|refine nN_ (fun hq=>?_) (fun hq=>?_)|refine nD_ (fun hq=>?_) (fun hq=>?_)|refine rb1 ?_|refine rb0 ?_|refine rbx ?_|refine rix ?_|refine aS ?_|fail)
 refine qe (β:=Unit) (fun _=>{sl:=[(4,.t (esT EA)),(5,.t (.bool true)),(6,.t (.slice 1 ([-1].map I))),(9,.t (esT EO)),(10,.t (.slice 1 ([7, -1].map I)))],bx:=[]}) (fun _=>True) ?_ ?_
 ·repeat' ((conv=>whnf);first|exact trivial|refine qk _ (k8) ?_|refine qk _ (k9) ?_|(exact ⟨(),trivial,by (repeat' (first|exact trivial|exact LeV.same _|exact LeB.same _|exact rfl|exact fun _ _ _=>trivial|exact lI|exact LeV.nil _ _ _|exact lB|refine qq ?_|refine qo ?_|refine And.intro ?_ ?_));done⟩)|refine nT_ ?_|refine aE1 ?_|refine aE0 ?_|refine aN1 ?_|refine aN0 ?_|refine aD1 ?_|refine aD0 ?_|refine nE_ (fun hq=>?_) (fun hq=>?_)|refine nN_ (fun hq=>?_) (fun hq=>?_)|refine nD_ (fun hq=>?_) (fun hq=>?_)|refine rb1 ?_|refine rb0 ?_|refine rbx ?_|refine rix ?_|refine aS ?_|fail)
 rintro _ _
 clear k8 k9
 have k10:=uv [7, -1] (by decide)
 repeat' ((conv=>whnf);first|exact trivial|refine qk _ (k10) ?_|refine nT_ ?_|refine aE1 ?_|refine aE0 ?_|refine aN1 ?_|refine aN0 ?_|refine aD1 ?_|refine aD0 ?_|refine nE_ (fun hq=>?_) (fun hq=>?_)|refine nN_ (fun hq=>?_) (fun hq=>?_)|refine nD_ (fun hq=>?_) (fun hq=>?_)|refine rb1 ?_|refine rb0 ?_|refine rbx ?_|refine rix ?_|refine aS ?_|fail)
 refine qe (β:=Unit) (fun _=>{sl:=[(4,.t (esT EA)),(5,.t (.bool true)),(12,.t (.bool true))],bx:=[]}) (fun _=>True) ?_ ?_
 ·repeat' ((conv=>whnf);first|exact trivial|refine qk _ (k10) ?_|(exact ⟨(),trivial,by (repeat' (first|exact trivial|exact LeV.same _|exact LeB.same _|exact rfl|exact fun _ _ _=>trivial|exact lI|exact LeV.nil _ _ _|exact lB|refine qq ?_|refine qo ?_|refine And.intro ?_ ?_));done⟩)|refine nT_ ?_|refine aE1 ?_|refine aE0 ?_|refine aN1 ?_|refine aN0 ?_|refine aD1 ?_|refine aD0 ?_|refine nE_ (fun hq=>?_) (fun hq=>?_)|refine nN_ (fun hq=>?_) (fun hq=>?_)|refine nD_ (fun hq=>?_) (fun hq=>?_)|refine rb1 ?_|refine rb0 ?_|refine rbx ?_|refine rix ?_|refine aS ?_|fail)
 rintro _ _
 clear k10
 have k11:=rJ 4 tE 20 21
 have k12:=uw 4 tE 20 21 tE [(1,0,0),(2,0,0),(1,0,0),(3,0,0)] [20,21,20, -1] EN (by decide) (by decide+kernel) (by decide+kernel) (by decide+kernel)
 repeat' ((conv=>whnf);first|exact trivial|refine qk _ (k11) ?_|refine qk _ (k12) ?_|refine nT_ ?_|refine aE1 ?_|refine aE0 ?_|refine aN1 ?_|refine aN0 ?_|refine aD1 ?_|refine aD0 ?_|refine nE_ (fun hq=>?_) (fun hq=>?_)|refine nN_ (fun hq=>?_) (fun hq=>?_)|refine nD_ (fun hq=>?_) (fun hq=>?_)|refine rb1 ?_|refine rb0 ?_|refine rbx ?_|refine rix ?_|refine aS ?_|fail)
 refine qe (β:=Unit) (fun _=>{sl:=[(4,.t (esT EA)),(5,.t (.bool true)),(12,.t (.bool true)),(13,.t (.slice 1 ([20,21,20, -1].map I))),(14,.t (esT EN))],bx:=[]}) (fun _=>True) ?_ ?_
 ·repeat' ((conv=>whnf);first|exact trivial|refine qk _ (k11) ?_|refine qk _ (k12) ?_|(exact ⟨(),trivial,by (repeat' (first|exact trivial|exact LeV.same _|exact LeB.same _|exact rfl|exact fun _ _ _=>trivial|exact lI|exact LeV.nil _ _ _|exact lB|refine qq ?_|refine qo ?_|refine And.intro ?_ ?_));done⟩)|refine nT_ ?_|refine aE1 ?_|refine aE0 ?_|refine aN1 ?_|refine aN0 ?_|refine aD1 ?_|refine aD0 ?_|refine nE_ (fun hq=>?_) (fun hq=>?_)|refine nN_ (fun hq=>?_) (fun hq=>?_)|refine nD_ (fun hq=>?_) (fun hq=>?_)|refine rb1 ?_|refine rb0 ?_|refine rbx ?_|refine rix ?_|refine aS ?_|fail)
 rintro _ _
 clear k11 k12
 have k13:=rJ 5 tE 0 0
 have k14:=vP 5 tE 0 0 EN su [(9,21,0),(9,22,0)] [2, -1] EN (by decide) (by decide+kernel) (by decide+kernel) (by decide+kernel)
 repeat' ((conv=>whnf);first|exact trivial|refine qk _ (k13) ?_|refine qk _ (k14) ?_|refine nT_ ?_|refine aE1 ?_|refine aE0 ?_|refine aN1 ?_|refine aN0 ?_|refine aD1 ?_|refine aD0 ?_|refine nE_ (fun hq=>?_) (fun hq=>?_)|refine nN_ (fun hq=>?_) (fun hq=>?_)|refine nD_ (fun hq=>?_) (fun hq=>?_)|refine rb1 ?_|refine rb0 ?_|refine rbx ?_|refine rix ?_|refine aS ?_|fail)
 refine qe (β:=Unit) (fun _=>{sl:=[(4,.t (esT EA)),(5,.t (.bool true)),(12,.t (.bool true)),(13,.t (.slice 1 ([20,21,20, -1].map I))),(14,.t (esT EN)),(15,.t (.slice 1 ([2, -1].map I)))],bx:=[]}) (fun _=>True) ?_ ?_
 ·repeat' ((conv=>whnf);first|exact trivial|refine qk _ (k13) ?_|refine qk _ (k14) ?_|(exact ⟨(),trivial,by (repeat' (first|exact trivial|exact LeV.same _|exact LeB.same _|exact rfl|exact fun _ _ _=>trivial|exact lI|exact LeV.nil _ _ _|exact lB|refine qq ?_|refine qo ?_|refine And.intro ?_ ?_));done⟩)|refine nT_ ?_|refine aE1 ?_|refine aE0 ?_|refine aN1 ?_|refine aN0 ?_|refine aD1 ?_|refine aD0 ?_|refine nE_ (fun hq=>?_) (fun hq=>?_)|refine nN_ (fun hq=>?_) (fun hq=>?_)|refine nD_ (fun hq=>?_) (fun hq=>?_)|refine rb1 ?_|refine rb0 ?_|refine rbx ?_|refine rix ?_|refine aS ?_|fail)
 rintro _ _
 clear k13 k14
 have k15:=uv [20,21,20, -1] (by decide)
 have k16:=uv [2, -1] (by decide)
 repeat' ((conv=>whnf);first|exact trivial|refine qk _ (k15) ?_|refine qk _ (k16) ?_|refine nT_ ?_|refine aE1 ?_|refine aE0 ?_|refine aN1 ?_|refine aN0 ?_|refine aD1 ?_|refine aD0 ?_|refine nE_ (fun hq=>?_) (fun hq=>?_)|refine nN_ (fun hq=>?_) (fun hq=>?_)|refine nD_ (fun hq=>?_) (fun hq=>?_)|refine rb1 ?_|refine rb0 ?_|refine rbx ?_|refine rix ?_|refine aS ?_|fail)
 refine qe (β:=Unit) (fun _=>{sl:=[(4,.t (esT EA)),(5,.t (.bool true)),(12,.t (.bool true)),(14,.t (esT EN)),(17,.t (.bool true))],bx:=[]}) (fun _=>True) ?_ ?_
 ·repeat' ((conv=>whnf);first|exact trivial|refine qk _ (k15) ?_|refine qk _ (k16) ?_|(exact ⟨(),trivial,by (repeat' (first|exact trivial|exact LeV.same _|exact LeB.same _|exact rfl|exact fun _ _ _=>trivial|exact lI|exact LeV.nil _ _ _|exact lB|refine qq ?_|refine qo ?_|refine And.intro ?_ ?_));done⟩)|refine nT_ ?_|refine aE1 ?_|refine aE0 ?_|refine aN1 ?_|refine aN0 ?_|refine aD1 ?_|refine aD0 ?_|refine nE_ (fun hq=>?_) (fun hq=>?_)|refine nN_ (fun hq=>?_) (fun hq=>?_)|refine nD_ (fun hq=>?_) (fun hq=>?_)|refine rb1 ?_|refine rb0 ?_|refine rbx ?_|refine rix ?_|refine aS ?_|fail)
 rintro _ _
 clear k15 k16
 have k17:=rJ 6 e0 2 10
 have k18:=uw 6 e0 2 10 su Ao [4,4, -1, -1,4, -1,4,4, -1] E6 (by decide) (by decide+kernel) (by decide+kernel) (by decide+kernel)
 repeat' ((conv=>whnf);first|exact trivial|refine qk _ (k17) ?_|refine qk _ (k18) ?_|refine nT_ ?_|refine aE1 ?_|refine aE0 ?_|refine aN1 ?_|refine aN0 ?_|refine aD1 ?_|refine aD0 ?_|refine nE_ (fun hq=>?_) (fun hq=>?_)|refine nN_ (fun hq=>?_) (fun hq=>?_)|refine nD_ (fun hq=>?_) (fun hq=>?_)|refine rb1 ?_|refine rb0 ?_|refine rbx ?_|refine rix ?_|refine aS ?_|fail)
 refine qe (β:=Unit) (fun _=>{sl:=[(4,.t (esT EA)),(5,.t (.bool true)),(12,.t (.bool true)),(14,.t (esT EN)),(17,.t (.bool true)),(18,.t (.slice 1 ([4,4, -1, -1,4, -1,4,4, -1].map I)))],bx:=[]}) (fun _=>True) ?_ ?_
 ·repeat' ((conv=>whnf);first|exact trivial|refine qk _ (k17) ?_|refine qk _ (k18) ?_|(exact ⟨(),trivial,by (repeat' (first|exact trivial|exact LeV.same _|exact LeB.same _|exact rfl|exact fun _ _ _=>trivial|exact lI|exact LeV.nil _ _ _|exact lB|refine qq ?_|refine qo ?_|refine And.intro ?_ ?_));done⟩)|refine nT_ ?_|refine aE1 ?_|refine aE0 ?_|refine aN1 ?_|refine aN0 ?_|refine aD1 ?_|refine aD0 ?_|refine nE_ (fun hq=>?_) (fun hq=>?_)|refine nN_ (fun hq=>?_) (fun hq=>?_)|refine nD_ (fun hq=>?_) (fun hq=>?_)|refine rb1 ?_|refine rb0 ?_|refine rbx ?_|refine rix ?_|refine aS ?_|fail)
 rintro _ _
 clear k17 k18
 have k19:=xr EN szN (by decide) (by decide+kernel)
 have k20:=Ak EN szN (by decide) (by simp) (by decide+kernel)
 repeat' ((conv=>whnf);first|exact trivial|refine qk _ (k19) ?_|refine qk _ (k20) ?_|refine nT_ ?_|refine aE1 ?_|refine aE0 ?_|refine aN1 ?_|refine aN0 ?_|refine aD1 ?_|refine aD0 ?_|refine nE_ (fun hq=>?_) (fun hq=>?_)|refine nN_ (fun hq=>?_) (fun hq=>?_)|refine nD_ (fun hq=>?_) (fun hq=>?_)|refine rb1 ?_|refine rb0 ?_|refine rbx ?_|refine rix ?_|refine aS ?_|fail)
 refine qe (β:=Unit) (fun _=>{sl:=[(4,.t (esT EA)),(5,.t (.bool true)),(12,.t (.bool true)),(14,.t (esT EN)),(17,.t (.bool true)),(18,.t (.slice 1 ([4,4, -1, -1,4, -1,4,4, -1].map I))),(20,.t (esT EN)),(21,.t (I 0))],bx:=[]}) (fun _=>True) ?_ ?_
 ·repeat' ((conv=>whnf);first|exact trivial|refine qk _ (k19) ?_|refine qk _ (k20) ?_|(exact ⟨(),trivial,by (repeat' (first|exact trivial|exact LeV.same _|exact LeB.same _|exact rfl|exact fun _ _ _=>trivial|exact lI|exact LeV.nil _ _ _|exact lB|refine qq ?_|refine qo ?_|refine And.intro ?_ ?_));done⟩)|refine nT_ ?_|refine aE1 ?_|refine aE0 ?_|refine aN1 ?_|refine aN0 ?_|refine aD1 ?_|refine aD0 ?_|refine nE_ (fun hq=>?_) (fun hq=>?_)|refine nN_ (fun hq=>?_) (fun hq=>?_)|refine nD_ (fun hq=>?_) (fun hq=>?_)|refine rb1 ?_|refine rb0 ?_|refine rbx ?_|refine rix ?_|refine aS ?_|fail)
 rintro _ _
 clear k19 k20
 have k21:=zB EA (rG.1 (by decide+kernel)) (by decide) kEA (by decide+kernel)
 repeat' ((conv=>whnf);first|exact trivial|refine qk _ (k21) ?_|refine nT_ ?_|refine aE1 ?_|refine aE0 ?_|refine aN1 ?_|refine aN0 ?_|refine aD1 ?_|refine aD0 ?_|refine nE_ (fun hq=>?_) (fun hq=>?_)|refine nN_ (fun hq=>?_) (fun hq=>?_)|refine nD_ (fun hq=>?_) (fun hq=>?_)|refine rb1 ?_|refine rb0 ?_|refine rbx ?_|refine rix ?_|refine aS ?_|fail)
 refine qe (β:=Unit) (fun _=>{sl:=[(4,.t (esT EA)),(5,.t (.bool true)),(12,.t (.bool true)),(14,.t (esT EN)),(17,.t (.bool true)),(18,.t (.slice 1 ([4,4, -1, -1,4, -1,4,4, -1].map I))),(20,.t (esT EN)),(21,.t (I 0)),(22,.t (esT EA)),(23,.t (I 0))],bx:=[]}) (fun _=>True) ?_ ?_
 ·repeat' ((conv=>whnf);first|exact trivial|refine qk _ (k21) ?_|(exact ⟨(),trivial,by (repeat' (first|exact trivial|exact LeV.same _|exact LeB.same _|exact rfl|exact fun _ _ _=>trivial|exact lI|exact LeV.nil _ _ _|exact lB|refine qq ?_|refine qo ?_|refine And.intro ?_ ?_));done⟩)|refine nT_ ?_|refine aE1 ?_|refine aE0 ?_|refine aN1 ?_|refine aN0 ?_|refine aD1 ?_|refine aD0 ?_|refine nE_ (fun hq=>?_) (fun hq=>?_)|refine nN_ (fun hq=>?_) (fun hq=>?_)|refine nD_ (fun hq=>?_) (fun hq=>?_)|refine rb1 ?_|refine rb0 ?_|refine rbx ?_|refine rix ?_|refine aS ?_|fail)
 rintro _ _
 clear k21
 have q1:=uv [4,4, -1, -1,4, -1,4,4, -1] (by decide)
 have q2:=xK EN EN true (by decide) (by decide) kEN kEN (by decide+kernel)
 have q3:=xK EN EA false (by decide) (by decide) kEN kEA (by decide+kernel)
 have q4:=yi EA (by decide) kEA 4 (by decide+kernel)
 repeat' ((conv=>whnf);first|exact trivial|refine qk _ (q1) ?_|refine qk _ (q2) ?_|refine qk _ (q3) ?_|refine qk _ (q4) ?_|refine nT_ ?_|refine aE1 ?_|refine aE0 ?_|refine aN1 ?_|refine aN0 ?_|refine aD1 ?_|refine aD0 ?_|refine nE_ (fun hq=>?_) (fun hq=>?_)|refine nN_ (fun hq=>?_) (fun hq=>?_)|refine nD_ (fun hq=>?_) (fun hq=>?_)|refine rb1 ?_|refine rb0 ?_|refine rbx ?_|refine rix ?_|refine aS ?_|fail)
end Go.ST
end
section
namespace Go.ST
open Go Go.DL Go.MM
open Go.TY hiding Fd
abbrev Z10:List Int:=[0,0,0,0,0,0,0,0,0,0]
theorem zR:keyOf L17 [su] Z10=[0]:=by decide+kernel
theorem zm (n m:Int) (e:RE) (t:Int):rH (stp 6 e0 n m) e t=⟨e.var,e.key,(qP n m e.n e.at_ t).1,(qP n m e.n e.at_ t).2⟩:=by
 unfold rH qP
 dsimp only
 by_cases c:e.n+(if t>e.at_ then (t - e.at_).tdiv m else 0)≥n
 ·rw [if_pos c,if_pos c]
 ·rw [if_neg c,if_neg c]
theorem yC (n m:Int) (st:List RE) (t:Int):doE L17 (stp 6 e0 n m) st Z10 t=
  ⟨(do6 (stp 6 e0 n m) (qK st vN [0]) (ofE st vN) Z10 t [0]).1,(do6 (stp 6 e0 n m) (qK st vN [0]) (ofE st vN) Z10 t [0]).2.1,ct (do6 (stp 6 e0 n m) (qK st vN [0]) (ofE st vN) Z10 t [0]).2.2 st⟩:=by
 unfold doE tP doR
 rw [show keyOf L17 (stp 6 e0 n m).key Z10=[0] from zR]
 rfl
theorem wI {n m t:Int} (hn:1≤n):doE L17 (stp 6 e0 n m) [] Z10 t=⟨Z10,true,[⟨vN,[0],n - 1,t⟩]⟩:=by
 rw [yC]
 have h1:rZ (stp 6 e0 n m) (qK [] vN [0]) [0] t=⟨vN,[0],n,t⟩:=by
  unfold rZ
  show rH (stp 6 e0 n m) ⟨vN,[0],n,t⟩ t=_
  unfold rH
  dsimp only
  rw [if_neg (show ¬t>t by omega),if_pos (by omega)]
 have h2:do6 (stp 6 e0 n m) (qK [] vN [0]) (ofE [] vN) Z10 t [0]=(Z10,true,some ⟨vN,[0],n - 1,t⟩):=by
  unfold do6
  rw [h1]
  rw [if_neg (show ¬q8 (qK [] vN [0]) (ofE [] vN)=true by decide+kernel),if_pos (show (⟨vN,[0],n,t⟩:RE).n>0 from by show n>0;omega)]
 rw [h2]
 rfl
theorem xD {n m t N A:Int}:doE L17 (stp 6 e0 n m) [⟨vN,[0],N,A⟩] Z10 t=
  if (qP n m N A t).1>0 then ⟨Z10,true,[⟨vN,[0],(qP n m N A t).1 - 1,(qP n m N A t).2⟩]⟩ else ⟨Z10,false,[⟨vN,[0],(qP n m N A t).1,(qP n m N A t).2⟩]⟩:=by
 rw [yC]
 have hf:qK [(⟨vN,[0],N,A⟩:RE)] vN [0]=some ⟨vN,[0],N,A⟩:=by unfold qK;simp
 have hp: ∀a b:Int,qL ⟨vN,[0],a,b⟩ [(⟨vN,[0],N,A⟩:RE)]=[⟨vN,[0],a,b⟩]:=fun a b=>by
  have:qB ⟨vN,[0],N,A⟩ ⟨vN,[0],a,b⟩=0:=rz.2 ⟨rfl,rfl⟩
  unfold qL
  rw [if_neg (by omega),if_pos this]
 have h1:rZ (stp 6 e0 n m) (some (⟨vN,[0],N,A⟩:RE)) [0] t=⟨vN,[0],(qP n m N A t).1,(qP n m N A t).2⟩:=by
  unfold rZ
  exact zm n m ⟨vN,[0],N,A⟩ t
 rw [hf]
 unfold do6
 rw [h1,if_neg (show ¬q8 (some (⟨vN,[0],N,A⟩:RE)) (ofE [⟨vN,[0],N,A⟩] vN)=true by unfold q8;simp)]
 dsimp only
 by_cases c:(qP n m N A t).1>0
 ·rw [if_pos c,if_pos c]
  show Dn.mk _ _ (qL _ _)=_
  rw [hp]
 ·rw [if_neg c,if_neg c]
  show Dn.mk _ _ (qL _ _)=_
  rw [hp]
structure sX (n m:Int) (i:Nat) (st:List RE) (ts:List Int) (ps:List Bool) (t:Int):Prop where
 tl:ts.length=i
 pl:ps.length=i
 t0:0≤t
 t1:t≤65535 * i
 le: ∀x∈ts,0≤x∧x≤t
 st:(i=0∧st=[])∨(1≤i∧ ∃N A,st=[⟨vN,[0],N,A⟩]∧rC n m ts ps N A t)
theorem sX.pre {n m:Int} {i:Nat} {st:List RE} {ts:List Int} {ps:List Bool} {t:Int} (h:sX n m i st ts ps t) (hn:1≤n∧n≤65535) (hm:1≤m∧m≤1073741824) (hi:i≤40) {w:Int} (hw:0≤w∧w≤65535):uo L17 (stp 6 e0 n m) st Z10 (t+w)∧ ∀x∈st,kOk x:=by
 have h0:=h.t0
 have h1:=h.t1
 have hlen:st.length≤1:=by
  rcases h.st with ⟨_,rfl⟩|⟨_,N,A,rfl,_⟩ <;> simp
 have hmem: ∀e∈st,0≤e.n∧e.n≤65535∧0≤e.at_∧e.at_≤1073741824∧kOk e:=fun e he=>by
  rcases h.st with ⟨_,rfl⟩|⟨_,N,A,rfl,hH⟩
  ·cases he
  ·rw [List.mem_singleton.1 he]
   have:=hH.n0;have:=hH.n1;have:=hH.a0;have:=hH.a1
   exact ⟨by dsimp only;omega,by dsimp only;omega,by dsimp only;omega,by dsimp only;omega,(by show ([0]:List Int).length<2^60;decide)⟩
 refine ⟨⟨vL,by decide+kernel,⟨rfl,by decide+kernel⟩,?_,by omega,fun e he=>⟨(hmem e he).1,(hmem e he).2.1,(hmem e he).2.2.1,(hmem e he).2.2.2.1⟩,by omega,by omega,(by show (0:Int)≤6;decide),(by show (6:Int)≤6;decide),fun k hk=>?_,(by show ([su]:List ByteArray).length≤1000;decide),(fun hc=>absurd (show (6:Int)=3 from hc) (by decide)),(fun hc=>absurd (show (6:Int)=4 from hc) (by decide)),(fun hc=>absurd (show (6:Int)=5 from hc) (by decide)),(fun _=>⟨hn.1,hn.2,hm.1,hm.2⟩)⟩,fun e he=>(hmem e he).2.2.2.2⟩
 ·rcases h.st with ⟨_,rfl⟩|⟨_,N,A,rfl,_⟩
  ·exact List.Pairwise.nil
  ·exact List.pairwise_singleton _ _
 ·rw [List.mem_singleton.1 hk];decide+kernel
theorem sX.step {n m:Int} {i:Nat} {st:List RE} {ts:List Int} {ps:List Bool} {t:Int} (h:sX n m i st ts ps t) (hn:1≤n) (hm:1≤m) {w:Int} (hw:0≤w∧w≤65535):
  ∃N A b,doE L17 (stp 6 e0 n m) st Z10 (t+w)=⟨Z10,b,[⟨vN,[0],N,A⟩]⟩∧rC n m (ts++[t+w]) (ps++[b]) N A (t+w)∧(b=false→ ¬m≤w∧i≠0)∧sX n m (i+1) [⟨vN,[0],N,A⟩] (ts++[t+w]) (ps++[b]) (t+w):=by
 have key: ∀N A b,rC n m (ts++[t+w]) (ps++[b]) N A (t+w)→sX n m (i+1) [⟨vN,[0],N,A⟩] (ts++[t+w]) (ps++[b]) (t+w):=fun N A b hH=>by
  have h0:=h.t0;have h1:=h.t1
  refine ⟨by simp [h.tl],by simp [h.pl],by omega,by omega,fun x hx=>?_,Or.inr ⟨by omega,N,A,rfl,hH⟩⟩
  rcases List.mem_append.1 hx with hx|hx
  ·have:=h.le x hx;omega
  ·rw [List.mem_singleton.1 hx];omega
 have h0:=h.t0
 rcases h.st with ⟨hi,rfl⟩|⟨hi,N,A,rfl,hH⟩
 ·have hts:ts=[]:=List.length_eq_zero_iff.1 (by rw [h.tl];exact hi)
  have hps:ps=[]:=List.length_eq_zero_iff.1 (by rw [h.pl];exact hi)
  have hH:rC n m (ts++[t+w]) (ps++[true]) (n - 1) (t+w) (t+w):=by rw [hts,hps];exact rC.nil hn (by omega)
  exact ⟨n - 1,t+w,true,wI hn,hH,(fun hc=>by cases hc),key _ _ _ hH⟩
 ·obtain ⟨s1,s2⟩:=hH.snoc hn hm (show t≤t+w by omega)
  rw [xD]
  by_cases c:(qP n m N A (t+w)).1>0
  ·rw [if_pos c]
   have:=s1 c
   exact ⟨_,_,true,rfl,this,(fun hc=>by cases hc),key _ _ _ this⟩
  ·rw [if_neg c]
   obtain ⟨q1,q2,q3⟩:=s2 c
   rw [q1]
   exact ⟨0,_,false,rfl,q3,fun _=>⟨fun hc=>q2 (by omega),by omega⟩,key _ _ _ q3⟩
end Go.ST
end
section
namespace Go.STE
open Go Go.DL Go.Proofs
noncomputable def c3:ba:=(.seq (.region [oo 6 (.mov kF)] []) (.seq (.seq (.region [mv 19 0,oo 20 (.bin .lss (tm 19) (Kc 1)),mv 21 20,mF 22 0 21,oF 23 21 (.bin .gtr (tm 22) (Kc 65535)),oo 24 (.pick (tm 21) kT (tm 23)),mv 25 24,mF 26 1 25,oF 27 25 (.bin .lss (tm 26) (Kc 1)),oo 28 (.pick (tm 25) kT (tm 27)),mv 29 28,mF 30 1 29,oF 31 29 (.bin .gtr (tm 30) (Kc 1073741824)),oo 32 (.pick (tm 29) kT (tm 31)),mv 33 32,mF 34 2 33,oF 35 33 (.len (tm 34)),oF 36 33 (.bin .gtr (tm 35) (Kc 40)),oo 37 (.pick (tm 33) kT (tm 36))] []) (.cond (tm 37) (.seq (.region [oo 38 (.call 4 []),mv 6 38] []) .ret) .skip)) (.seq (.region [mv 39 0,mv 40 1,⟨some 41,.call 5 [(Kc 6),(.const S0),(tm 39),(tm 40)],none,[]⟩,⟨some 7,.alloc [Z0,S0,.nil,S0,Z0,Z0],none,[]⟩,o0 (.store 6 (tm 7) (tm 41))] []) (.seq (.region [oo 8 (.mov (.const .nil))] []) (.seq (.region [oo 9 (.mov (.const .nil))] []) (.seq (.region [oo 10 (.mov (.const .nil))] []) (.seq (.region [oo 11 (.mov (Kc 0))] []) (.seq (.seq (.region [oo 12 (.mov (Kc 0))] []) (.block 0 (.loop (.seq (.seq (.region [mv 42 12,mv 43 2,ln 44 43,oo 45 (.bin .lss (tm 42) (tm 44))] []) (.cond (tm 45) .skip (.exit 0))) (.seq (.block 1 (.seq (.region [mv 48 2,mv 49 12,ix 50 1 48 49,ld 51 50,oo 52 (.conv .i64 (tm 51)),mv 53 1,oo 54 (.bin .geq (tm 52) (tm 53)),mv 13 54] []) (.seq (.region [mv 55 11,mv 56 2,mv 57 12,ix 58 1 56 57,ld 59 58,oo 60 (.conv .i64 (tm 59)),oo 61 (.bin .add (tm 55) (tm 60)),mv 11 61] []) (.seq (.cut (.region [oo 63 (.call 7 []),lA 64 6 7,mv 65 8,oo 66 (.build [Z0,Z0,Z0,Z0,Z0,Z0,Z0,Z0,Z0,Z0] []),mv 67 11,oo 68 (.call 6 [(tm 63),(tm 64),(tm 65),(tm 66),(tm 67)]),mv 62 68,oo 69 (.ext (tm 62) 0),oo 70 (.ext (tm 62) 1),oo 71 (.ext (tm 62) 2),oo 14 (.alloc [Z0,Z0,Z0,Z0,Z0,Z0,Z0,Z0,Z0,Z0]),o0 (.store 10 (tm 14) (tm 69)),mv 15 70,mv 16 71] [])) (.seq (.region [mv 72 16,mv 8 72] []) (.seq (.seq (.cut (.region [mv 73 8,ln 74 73,oo 75 (.bin .neq (tm 74) (Kc 1)),mv 76 75,mF 77 8 76,oF 78 76 (.idxL 4 (tm 77) (Kc 0)),oF 79 76 (.offA 2 (tm 78)),oF 80 76 (.load 1 false (tm 79)),oF 81 76 (.bin .lss (tm 80) (Kc 0)),oo 82 (.pick (tm 76) kT (tm 81)),mv 83 82,mF 84 8 83,oF 85 83 (.idxL 4 (tm 84) (Kc 0)),oF 86 83 (.offA 2 (tm 85)),oF 87 83 (.load 1 false (tm 86)),mF 88 0 83,oF 89 83 (.bin .gtr (tm 87) (tm 88)),oo 90 (.pick (tm 83) kT (tm 89)),mv 91 90,mF 92 8 91,oF 93 91 (.idxL 4 (tm 92) (Kc 0)),oF 94 91 (.offA 3 (tm 93)),oF 95 91 (.load 1 false (tm 94)),mF 96 11 91,oF 97 91 (.bin .gtr (tm 95) (tm 96)),oo 98 (.pick (tm 91) kT (tm 97)),mv 99 98,mF 100 15 99,oF 101 99 (.not (tm 100)),mF 102 101 99,mT 103 13 102,mT 104 103 102,mF 105 12 104,oF 106 104 (.bin .eql (tm 105) (Kc 0)),oT 107 102 (.pick (tm 104) kT (tm 106)),oF 108 99 (.pick (tm 102) (tm 107) kF),oo 109 (.pick (tm 99) kT (tm 108))] [])) (.cond (tm 109) (.seq (.region [oo 6 (.mov kF)] []) .ret) .skip)) (.seq (.region [mv 110 9,mv 111 11,oo 112 (.buildF 1 1 [Z0] [(0,(tm 111))]),oo 113 (.append 29 3 1 8 (tm 110) (tm 112)),mv 9 113] []) (.seq (.region [mv 114 10,mv 115 15,oo 116 (.buildF 1 1 [(.bool false)] [(0,(tm 115))]),oo 117 (.append 30 4 1 1 (tm 114) (tm 116)),mv 10 117] []) (.seq (.region [oo 17 (.mov (Kc 0))] []) (.seq (.region [mv 118 12,mv 18 118] []) (.block 2 (.loop (.seq (.seq (.region [mv 119 18,oo 120 (.bin .geq (tm 119) (Kc 0))] []) (.cond (tm 120) .skip (.exit 2))) (.seq (.block 3 (.seq (.seq (.region [mv 123 10,mv 124 18,ix 125 1 123 124,ld 126 125] []) (.cond (tm 126) (.region [mv 127 17,oo 128 (.bin .add (tm 127) (Kc 1)),mv 17 128] []) .skip)) (.seq (.region [mv 129 17,mv 130 0,mv 131 11,mv 132 9,mv 133 18,ix 134 1 132 133,ld 135 134,oo 136 (.bin .sub (tm 131) (tm 135)),mv 137 1,oo 138 (.bin .quo (tm 136) (tm 137)),oo 139 (.bin .add (tm 130) (tm 138)),oo 140 (.bin .gtr (tm 129) (tm 139))] []) (.cond (tm 140) (.seq (.region [oo 6 (.mov kF)] []) .ret) .skip)))) (.region [mv 121 18,oo 122 (.bin .sub (tm 121) (Kc 1)),mv 18 122] []))))))))))))))) (.region [mv 46 12,oo 47 (.bin .add (tm 46) (Kc 1)),mv 12 47] [])))))) (.seq (.region [oo 141 (.call 4 []),mv 6 141] []) .ret)))))))))
theorem l3:(Try.f3.body.bind (bo Try.prog 142 [6000013,6000015,8000112,8000116]))=some c3:=by kernel_rfl
end Go.STE
end
section
namespace Go.ST
open Go Go.DL Go.MM Go.Proofs
open Go.TY hiding Fd
abbrev U16 (n:Int):T:=.int .u16 n
theorem w7 {ps:List Bool} {k:Nat} (h:k<ps.length):qO ps k=qO ps (k+1)+if ps[k] then 1 else 0:=by
 unfold qO
 rw [List.drop_eq_getElem_cons h,List.count_cons]
 cases ps[k] <;> simp
theorem wy (ps:List Bool):qO ps ps.length=0:=by unfold qO;rw [List.drop_length];rfl
theorem vk (ps:List Bool) (k:Nat):0≤qO ps k∧qO ps k≤ps.length:=by
 unfold qO
 have:=List.count_le_length (a:=true) (l:=ps.drop k)
 rw [List.length_drop] at this
 omega
theorem law_Tokens (n m:Int) (ls:List Int) (hls: ∀x∈ls,0≤x∧x≤65535) (hll:ls.length<2^60):DCalls Try.prog 3 [I n,I m,.slice 1 (ls.map U16)] (.bool true):=by
 refine pN (rs:=[.tmp 6]) mixed Try.func3 Go.STE.l3 rfl rfl rfl (r:=[.bool true]) (nlZ rfl) ?_
 have h0:=xz
 have hn:((ls.map U16).length:Int)=ls.length:=by rw [List.length_map]
 by_cases a1:n<1
 ·repeat' ((conv=>whnf);first|exact trivial|refine qk _ (h0) ?_|refine pt a1 ?_|refine nT_ ?_|refine aE1 ?_|refine aE0 ?_|refine aN1 ?_|refine aN0 ?_|refine aD1 ?_|refine aD0 ?_|refine nE_ (fun hq=>?_) (fun hq=>?_)|refine nN_ (fun hq=>?_) (fun hq=>?_)|refine nD_ (fun hq=>?_) (fun hq=>?_)|refine rb1 ?_|refine rb0 ?_|refine rbx ?_|refine rix ?_|refine aS ?_|fail)
 by_cases a2:n>65535
 ·repeat' ((conv=>whnf);first|exact trivial|refine qk _ (h0) ?_|refine pq a1 ?_|refine pt a2 ?_|refine nT_ ?_|refine aE1 ?_|refine aE0 ?_|refine aN1 ?_|refine aN0 ?_|refine aD1 ?_|refine aD0 ?_|refine nE_ (fun hq=>?_) (fun hq=>?_)|refine nN_ (fun hq=>?_) (fun hq=>?_)|refine nD_ (fun hq=>?_) (fun hq=>?_)|refine rb1 ?_|refine rb0 ?_|refine rbx ?_|refine rix ?_|refine aS ?_|fail)
 by_cases a3:m<1
 ·repeat' ((conv=>whnf);first|exact trivial|refine qk _ (h0) ?_|refine pq a1 ?_|refine pq a2 ?_|refine pt a3 ?_|refine nT_ ?_|refine aE1 ?_|refine aE0 ?_|refine aN1 ?_|refine aN0 ?_|refine aD1 ?_|refine aD0 ?_|refine nE_ (fun hq=>?_) (fun hq=>?_)|refine nN_ (fun hq=>?_) (fun hq=>?_)|refine nD_ (fun hq=>?_) (fun hq=>?_)|refine rb1 ?_|refine rb0 ?_|refine rbx ?_|refine rix ?_|refine aS ?_|fail)
 by_cases a4:m>1073741824
 ·repeat' ((conv=>whnf);first|exact trivial|refine qk _ (h0) ?_|refine pq a1 ?_|refine pq a2 ?_|refine pq a3 ?_|refine pt a4 ?_|refine nT_ ?_|refine aE1 ?_|refine aE0 ?_|refine aN1 ?_|refine aN0 ?_|refine aD1 ?_|refine aD0 ?_|refine nE_ (fun hq=>?_) (fun hq=>?_)|refine nN_ (fun hq=>?_) (fun hq=>?_)|refine nD_ (fun hq=>?_) (fun hq=>?_)|refine rb1 ?_|refine rb0 ?_|refine rbx ?_|refine rix ?_|refine aS ?_|fail)
 by_cases a5:((ls.map U16).length:Int)>40
 ·repeat' ((conv=>whnf);first|exact trivial|refine qk _ (h0) ?_|refine pq a1 ?_|refine pq a2 ?_|refine pq a3 ?_|refine pq a4 ?_|refine pt a5 ?_|refine nT_ ?_|refine aE1 ?_|refine aE0 ?_|refine aN1 ?_|refine aN0 ?_|refine aD1 ?_|refine aD0 ?_|refine nE_ (fun hq=>?_) (fun hq=>?_)|refine nN_ (fun hq=>?_) (fun hq=>?_)|refine nD_ (fun hq=>?_) (fun hq=>?_)|refine rb1 ?_|refine rb0 ?_|refine rbx ?_|refine rix ?_|refine aS ?_|fail)
 have hst:=rJ 6 e0 n m
 have hEx:=ue
 repeat' ((conv=>whnf);first|exact trivial|refine pq a1 ?_|refine pq a2 ?_|refine pq a3 ?_|refine pq a4 ?_|refine pq a5 ?_|refine qk _ (hst) ?_|refine nT_ ?_|refine aE1 ?_|refine aE0 ?_|refine aN1 ?_|refine aN0 ?_|refine aD1 ?_|refine aD0 ?_|refine nE_ (fun hq=>?_) (fun hq=>?_)|refine nN_ (fun hq=>?_) (fun hq=>?_)|refine nD_ (fun hq=>?_) (fun hq=>?_)|refine rb1 ?_|refine rb0 ?_|refine rbx ?_|refine rix ?_|refine aS ?_|fail)
 refine pX 0 (α:=Nat×List RE×List Int×List Bool×Int) (β:=Unit) (fun p=>{sl:=[(0,.t (I n)),(1,.t (I m)),(2,.t (.slice 1 (ls.map U16))),(7,.ptr 7 0),(8,.t (esT p.2.1)),(9,.own 113 3 1 (p.2.2.1.map I)),(10,.own 117 4 1 (p.2.2.2.1.map T.bool)),(11,.t (I p.2.2.2.2)),(12,.t (I p.1))],bx:=[(7,.d 6 (rh (stp 6 e0 n m)))]})
  (fun p=>p.1≤ls.length∧sX n m p.1 p.2.1 p.2.2.1 p.2.2.2.1 p.2.2.2.2) (fun p=>ls.length - p.1) (fun _=>{sl:=[],bx:=[]}) (fun _=>True) (0,[],[],[],0) ⟨Nat.zero_le _,rfl,rfl,Int.le_refl 0,(by simp),(by simp),Or.inl ⟨rfl,rfl⟩⟩ ?_ ?_ ?_
 ·repeat' (first|(exact LeV.empty _)|exact trivial|exact LeV.same _|exact LeB.same _|exact rfl|exact fun _ _ _=>trivial|exact lI|exact LeV.nil _ _ _|exact lB|refine qq ?_|refine qo ?_|refine And.intro ?_ ?_)
 ·rintro ⟨i,st,ts,ps,t⟩ ⟨hi,hI⟩
  dsimp only at hi hI
  rcases Nat.lt_or_ge i ls.length with h|h
  ·have hlt:(i:Int)<((ls.map U16).length:Int):=by omega
   have hgw:(ls.map U16)[i]?.getD .nil=U16 ls[i]:=by simp [h]
   have hw:=hls ls[i] (List.getElem_mem h)
   obtain ⟨w,hww⟩: ∃w,ls[i]=w:=⟨_,rfl⟩
   rw [hww] at hgw hw
   have t0:=hI.t0
   have t1:=hI.t1
   obtain ⟨pr,pk⟩:=hI.pre (by omega) (by omega) (show i≤40 by omega) hw
   have hdo:=ze pr pk
   obtain ⟨N,A,b,hd1,hH,hbq,hI2⟩:=hI.step (by omega) (by omega) hw
   rw [hd1] at hdo
   have hcv:IntKind.wrap .i64 w=w:=by rw [lS] <;> omega
   have htk:IntKind.wrap .i64 (t+IntKind.wrap .i64 w)=t+w:=by rw [hcv,lS] <;> omega
   have hdo:DCalls Try.prog 6 [fds L17,.agg (rh (stp 6 e0 n m)),esT st,.agg [I 0,I 0,I 0,I 0,I 0,I 0,I 0,I 0,I 0,I 0],I (IntKind.wrap .i64 (t+IntKind.wrap .i64 w))] (.tup [.agg [I 0,I 0,I 0,I 0,I 0,I 0,I 0,I 0,I 0,I 0],.bool b,esT [⟨vN,[0],N,A⟩]]):=by rw [htk];exact hdo
   have hnx:((i+1:Nat):Int)=IntKind.wrap .i64 ((i:Int)+1):=by rw [lS] <;> omega
   have hmu:ls.length - (i+1)<ls.length - i:=by omega
   have n0:=hH.n0;have n1:=hH.n1;have A1:=hH.a1
   have htl:=hI.tl
   have hpl:=hI.pl
   have htsn:(ts++[t+w]).map I=ts.map I++[I (t+w)]:=by rw [List.map_append];rfl
   have hpsn:(ps++[b]).map T.bool=ps.map T.bool++[T.bool b]:=by rw [List.map_append];rfl
   have hr1:((ts.map I).length+1) * 8≤140737488355328:=by rw [List.length_map];omega
   have hr2:((ps.map T.bool).length+1) * 1≤140737488355328:=by rw [List.length_map];omega
   obtain ⟨qv,hq0⟩: ∃q,q=decide (IntKind.wrap .i64 w≥m):=⟨_,rfl⟩
   have hqw:qv=decide (w≥m):=by rw [hq0,hcv]
   have hq0:=hq0.symm
   clear hI pr pk hd1 h0 hst
   repeat' ((conv=>whnf);first|exact trivial|refine pt hlt ?_|(refine nv_ (U16 w) (by first|exact hgw|fail) ?_)|refine nb_ qv hq0 ?_|refine nT_ ?_|refine aE1 ?_|refine aE0 ?_|refine aN1 ?_|refine aN0 ?_|refine aD1 ?_|refine aD0 ?_|refine nE_ (fun hq=>?_) (fun hq=>?_)|refine nN_ (fun hq=>?_) (fun hq=>?_)|refine nD_ (fun hq=>?_) (fun hq=>?_)|refine rb1 ?_|refine rb0 ?_|refine rbx ?_|refine rix ?_|refine aS ?_|fail)
   refine qe (β:=Unit) (fun _=>{sl:=[(0,.t (I n)),(1,.t (I m)),(2,.t (.slice 1 (ls.map U16))),(7,.ptr 7 0),(9,.own 113 3 1 (ts.map I)),(10,.own 117 4 1 (ps.map T.bool)),(11,.t (I (t+w))),(12,.t (I i)),(13,.t (.bool qv)),(15,.t (.bool b)),(16,.t (esT [⟨vN,[0],N,A⟩]))],bx:=[(7,.d 6 (rh (stp 6 e0 n m)))]}) (fun _=>True) ?_ ?_
   ·repeat' ((conv=>whnf);first|exact trivial|refine qk _ (hEx) ?_|refine qk _ (hdo) ?_|(exact ⟨(),trivial,by (repeat' (first|(exact leI htk.symm)|exact trivial|exact LeV.same _|exact LeB.same _|exact rfl|exact fun _ _ _=>trivial|exact lI|exact LeV.nil _ _ _|exact lB|refine qq ?_|refine qo ?_|refine And.intro ?_ ?_));done⟩)|refine nT_ ?_|refine aE1 ?_|refine aE0 ?_|refine aN1 ?_|refine aN0 ?_|refine aD1 ?_|refine aD0 ?_|refine nE_ (fun hq=>?_) (fun hq=>?_)|refine nN_ (fun hq=>?_) (fun hq=>?_)|refine nD_ (fun hq=>?_) (fun hq=>?_)|refine rb1 ?_|refine rb0 ?_|refine rbx ?_|refine rix ?_|refine aS ?_|fail)
   rintro _ _
   clear hdo hEx
   obtain ⟨ts',hts'⟩: ∃x,x=ts++[t+w]:=⟨_,rfl⟩
   obtain ⟨ps',hps'⟩: ∃x,x=ps++[b]:=⟨_,rfl⟩
   rw [← hts'] at htsn hH hI2
   rw [← hps'] at hpsn hH hI2
   have hqv:b=false→qv=false∧ ¬(i:Int)=0:=fun hb=>by
    obtain ⟨z1,z2⟩:=hbq hb
    exact ⟨by rw [hqw];exact decide_eq_false (by omega),by omega⟩
   clear hbq hgw hcv htk hww hq0 hqw
   repeat' ((conv=>whnf);first|exact trivial|refine nT_ ?_|refine aE1 ?_|refine aE0 ?_|refine aN1 ?_|refine aN0 ?_|refine aD1 ?_|refine aD0 ?_|refine nE_ (fun hq=>?_) (fun hq=>?_)|refine nN_ (fun hq=>?_) (fun hq=>?_)|refine nD_ (fun hq=>?_) (fun hq=>?_)|refine rb1 ?_|refine rb0 ?_|refine rbx ?_|refine rix ?_|refine aS ?_|fail)
   refine qe (β:=Unit) (fun _=>{sl:=[(0,.t (I n)),(1,.t (I m)),(2,.t (.slice 1 (ls.map U16))),(7,.ptr 7 0),(8,.t (esT [⟨vN,[0],N,A⟩])),(9,.own 113 3 1 (ts.map I)),(10,.own 117 4 1 (ps.map T.bool)),(11,.t (I (t+w))),(12,.t (I i)),(15,.t (.bool b)),(109,.t (.bool false))],bx:=[(7,.d 6 (rh (stp 6 e0 n m)))]}) (fun _=>True) ?_ ?_
   ·cases b with
    |true=>repeat' ((conv=>whnf);first|exact trivial|(exact ⟨(),trivial,by (repeat' (first|exact trivial|exact LeV.same _|exact LeB.same _|exact rfl|exact fun _ _ _=>trivial|exact lI|exact LeV.nil _ _ _|exact lB|refine qq ?_|refine qo ?_|refine And.intro ?_ ?_));done⟩)|refine nT_ ?_|refine aE1 ?_|refine aE0 ?_|refine aN1 ?_|refine aN0 ?_|refine aD1 ?_|refine aD0 ?_|refine nE_ (fun hq=>?_) (fun hq=>?_)|refine nN_ (fun hq=>?_) (fun hq=>?_)|refine nD_ (fun hq=>?_) (fun hq=>?_)|refine rb1 ?_|refine rb0 ?_|refine rbx ?_|refine rix ?_|refine aS ?_|fail)
    |false=>
     obtain ⟨rfl,z2⟩:=hqv rfl
     repeat' ((conv=>whnf);first|exact trivial|refine px z2 ?_|(exact ⟨(),trivial,by (repeat' (first|exact trivial|exact LeV.same _|exact LeB.same _|exact rfl|exact fun _ _ _=>trivial|exact lI|exact LeV.nil _ _ _|exact lB|refine qq ?_|refine qo ?_|refine And.intro ?_ ?_));done⟩)|refine nT_ ?_|refine aE1 ?_|refine aE0 ?_|refine aN1 ?_|refine aN0 ?_|refine aD1 ?_|refine aD0 ?_|refine nE_ (fun hq=>?_) (fun hq=>?_)|refine nN_ (fun hq=>?_) (fun hq=>?_)|refine nD_ (fun hq=>?_) (fun hq=>?_)|refine rb1 ?_|refine rb0 ?_|refine rbx ?_|refine rix ?_|refine aS ?_|fail)
   rintro _ _
   have hpl':ps'.length=i+1:=hI2.pl
   have htl':ts'.length=i+1:=hI2.tl
   have hle':=hI2.le
   have hnd:((i:Int):Int)=(i:Int) - ((0:Nat):Int):=by omega
   have hz0:(0:Int)=qO ps' (i+1 - 0):=by rw [Nat.sub_zero, ←hpl',wy]
   repeat' ((conv=>whnf);first|exact trivial|refine nT_ ?_|refine aE1 ?_|refine aE0 ?_|refine aN1 ?_|refine aN0 ?_|refine aD1 ?_|refine aD0 ?_|refine nE_ (fun hq=>?_) (fun hq=>?_)|refine nN_ (fun hq=>?_) (fun hq=>?_)|refine nD_ (fun hq=>?_) (fun hq=>?_)|refine rb1 ?_|refine rb0 ?_|refine rbx ?_|refine rix ?_|(refine And.intro (by first|exact hr1|exact hr2|fail) ?_)|refine aS ?_|fail)
   refine pX 2 (α:=Nat) (β:=Unit) (fun j=>{sl:=[(0,.t (I n)),(1,.t (I m)),(2,.t (.slice 1 (ls.map U16))),(7,.ptr 7 0),(8,.t (esT [⟨vN,[0],N,A⟩])),(9,.own 113 3 1 (ts'.map I)),(10,.own 117 4 1 (ps'.map T.bool)),(11,.t (I (t+w))),(12,.t (I i)),(17,.t (I (qO ps' (i+1 - j)))),(18,.t (I ((i:Int) - (j:Int))))],bx:=[(7,.d 6 (rh (stp 6 e0 n m)))]})
    (fun j=>j≤i+1) (fun j=>i+1 - j) (fun _=>{sl:=[(0,.t (I n)),(1,.t (I m)),(2,.t (.slice 1 (ls.map U16))),(7,.ptr 7 0),(8,.t (esT [⟨vN,[0],N,A⟩])),(9,.own 113 3 1 (ts'.map I)),(10,.own 117 4 1 (ps'.map T.bool)),(11,.t (I (t+w))),(12,.t (I i))],bx:=[(7,.d 6 (rh (stp 6 e0 n m)))]}) (fun _=>True) 0 (Nat.zero_le _) ?_ ?_ ?_
   ·repeat' (first|(exact qo htsn)|(exact qo hpsn)|(exact leI hz0.symm)|(exact leI hnd.symm)|exact trivial|exact LeV.same _|exact LeB.same _|exact rfl|exact fun _ _ _=>trivial|exact lI|exact LeV.nil _ _ _|exact lB|refine qq ?_|refine qo ?_|refine And.intro ?_ ?_)
   ·rintro j hj
    rcases Nat.lt_or_ge j (i+1) with h2|h2
    ·have hge:(i:Int) - (j:Int)≥0:=by omega
     have hk1:i+1 - (j+1)<ps'.length:=by omega
     have hk2:i+1 - (j+1)<ts'.length:=by omega
     have hke:((i:Int) - (j:Int)).toNat=i+1 - (j+1):=by omega
     have hgp:(ps'.map T.bool)[((i:Int) - (j:Int)).toNat]?.getD .nil= .bool ps'[i+1 - (j+1)]:=by rw [hke,List.getElem?_map,ggZ hk1];rfl
     have hgt:(ts'.map I)[((i:Int) - (j:Int)).toNat]?.getD .nil=I ts'[i+1 - (j+1)]:=by rw [hke,List.getElem?_map,ggZ hk2];rfl
     have hb1:0≤(i:Int) - (j:Int)∧(i:Int) - (j:Int)<((ps'.map T.bool).length:Int):=by rw [List.length_map];omega
     have hb2:0≤(i:Int) - (j:Int)∧(i:Int) - (j:Int)<((ts'.map I).length:Int):=by rw [List.length_map];omega
     have hps:=w7 hk1
     rw [show i+1 - (j+1)+1=i+1 - j by omega] at hps
     have hx:=hle' ts'[i+1 - (j+1)] (List.getElem_mem hk2)
     have hfew:=hH.few (by omega) (ggZ hk2) (by omega)
     have hpb:=vk ps' (i+1 - (j+1))
     have hpb2:=vk ps' (i+1 - j)
     generalize ts'[i+1 - (j+1)]=x at *
     have hsub:IntKind.wrap .i64 (t+w - x)=t+w - x:=by rw [lS] <;> omega
     have hq0:0≤(t+w - x).tdiv m:=Int.tdiv_nonneg (by omega) (by omega)
     have hq1:(t+w - x).tdiv m≤t+w - x:=by
      rw [Int.tdiv_eq_ediv_of_nonneg (by omega)]
      exact Int.ediv_le_self m (by omega)
     have hquo:IntKind.wrap .i64 ((IntKind.wrap .i64 (t+w - x)).tdiv m)=(t+w - x).tdiv m:=by rw [hsub,lS] <;> omega
     have hsum:IntKind.wrap .i64 (n+IntKind.wrap .i64 ((IntKind.wrap .i64 (t+w - x)).tdiv m))=n+(t+w - x).tdiv m:=by rw [hquo,lS] <;> omega
     have hnd2:(i:Int) - ((j+1:Nat):Int)=IntKind.wrap .i64 ((i:Int) - (j:Int) - 1):=by rw [lS] <;> omega
     have hmu2:i+1 - (j+1)<i+1 - j:=by omega
     have hm0:m≠0:=by omega
     obtain ⟨c1,hc1⟩: ∃c,c=qO ps' (i+1 - (j+1)):=⟨_,rfl⟩
     obtain ⟨c0,hc0⟩: ∃c,c=qO ps' (i+1 - j):=⟨_,rfl⟩
     rw [← hc1, ←hc0] at hps
     rw [← hc1] at hfew hpb
     rw [← hc0] at hpb2 ⊢
     cases hbv:ps'[i+1 - (j+1)] with
     |true=>
      rw [hbv] at hgp hps
      have hc:c1=c0+1:=by simpa using hps
      have hcw:IntKind.wrap .i64 (c0+1)=c1:=by rw [lS] <;> omega
      have hno: ¬IntKind.wrap .i64 (c0+1)>IntKind.wrap .i64 (n+IntKind.wrap .i64 ((IntKind.wrap .i64 (t+w - x)).tdiv m)):=by rw [hcw,hsum];omega
      repeat' ((conv=>whnf);first|exact trivial|refine pt hge ?_|(refine nv_ (T.bool true) (by first|exact hgp|fail) ?_)|(refine nv_ (I x) (by first|exact hgt|fail) ?_)|refine pq hno ?_|(exact ⟨j+1,h2,hmu2,by (repeat' (first|(exact leI (hc1.symm.trans hcw.symm))|(exact leI hnd2)|exact trivial|exact LeV.same _|exact LeB.same _|exact rfl|exact fun _ _ _=>trivial|exact lI|exact LeV.nil _ _ _|exact lB|refine qq ?_|refine qo ?_|refine And.intro ?_ ?_));done⟩)|refine nT_ ?_|refine aE1 ?_|refine aE0 ?_|refine aN1 ?_|refine aN0 ?_|refine aD1 ?_|refine aD0 ?_|refine nE_ (fun hq=>?_) (fun hq=>?_)|refine nN_ (fun hq=>?_) (fun hq=>?_)|refine nD_ (fun hq=>?_) (fun hq=>?_)|refine rb1 ?_|refine rb0 ?_|refine rbx ?_|refine rix ?_|(refine And.intro (by first|exact hb1|exact hb2|exact hm0|fail) ?_)|refine aS ?_|fail)
     |false=>
      rw [hbv] at hgp hps
      have hc:c1=c0:=by simpa using hps
      have hno: ¬c0>IntKind.wrap .i64 (n+IntKind.wrap .i64 ((IntKind.wrap .i64 (t+w - x)).tdiv m)):=by rw [hsum];omega
      repeat' ((conv=>whnf);first|exact trivial|refine pt hge ?_|(refine nv_ (T.bool false) (by first|exact hgp|fail) ?_)|(refine nv_ (I x) (by first|exact hgt|fail) ?_)|refine pq hno ?_|(exact ⟨j+1,h2,hmu2,by (repeat' (first|(exact leI (hc1.symm.trans hc))|(exact leI hnd2)|exact trivial|exact LeV.same _|exact LeB.same _|exact rfl|exact fun _ _ _=>trivial|exact lI|exact LeV.nil _ _ _|exact lB|refine qq ?_|refine qo ?_|refine And.intro ?_ ?_));done⟩)|refine nT_ ?_|refine aE1 ?_|refine aE0 ?_|refine aN1 ?_|refine aN0 ?_|refine aD1 ?_|refine aD0 ?_|refine nE_ (fun hq=>?_) (fun hq=>?_)|refine nN_ (fun hq=>?_) (fun hq=>?_)|refine nD_ (fun hq=>?_) (fun hq=>?_)|refine rb1 ?_|refine rb0 ?_|refine rbx ?_|refine rix ?_|(refine And.intro (by first|exact hb1|exact hb2|exact hm0|fail) ?_)|refine aS ?_|fail)
    ·have hge: ¬(i:Int) - (j:Int)≥0:=by omega
     repeat' ((conv=>whnf);first|exact trivial|refine pq hge ?_|(exact ⟨(),trivial,by (repeat' (first|exact trivial|exact LeV.same _|exact LeB.same _|exact rfl|exact fun _ _ _=>trivial|exact lI|exact LeV.nil _ _ _|exact lB|refine qq ?_|refine qo ?_|refine And.intro ?_ ?_));done⟩)|refine nT_ ?_|refine aE1 ?_|refine aE0 ?_|refine aN1 ?_|refine aN0 ?_|refine aD1 ?_|refine aD0 ?_|refine nE_ (fun hq=>?_) (fun hq=>?_)|refine nN_ (fun hq=>?_) (fun hq=>?_)|refine nD_ (fun hq=>?_) (fun hq=>?_)|refine rb1 ?_|refine rb0 ?_|refine rbx ?_|refine rix ?_|refine aS ?_|fail)
   ·rintro _ _
    repeat' ((conv=>whnf);first|exact trivial|(exact ⟨(i+1,[⟨vN,[0],N,A⟩],ts',ps',t+w),⟨h,hI2⟩,hmu,by (repeat' (first|(exact leI hnx)|exact trivial|exact LeV.same _|exact LeB.same _|exact rfl|exact fun _ _ _=>trivial|exact lI|exact LeV.nil _ _ _|exact lB|refine qq ?_|refine qo ?_|refine And.intro ?_ ?_));done⟩)|refine nT_ ?_|refine aE1 ?_|refine aE0 ?_|refine aN1 ?_|refine aN0 ?_|refine aD1 ?_|refine aD0 ?_|refine nE_ (fun hq=>?_) (fun hq=>?_)|refine nN_ (fun hq=>?_) (fun hq=>?_)|refine nD_ (fun hq=>?_) (fun hq=>?_)|refine rb1 ?_|refine rb0 ?_|refine rbx ?_|refine rix ?_|refine aS ?_|fail)
  ·have hlt: ¬(i:Int)<((ls.map U16).length:Int):=by omega
   repeat' ((conv=>whnf);first|exact trivial|refine pq hlt ?_|(exact ⟨(),trivial,by (repeat' (first|exact trivial|exact LeV.same _|exact LeB.same _|exact rfl|exact fun _ _ _=>trivial|exact lI|exact LeV.nil _ _ _|exact lB|refine qq ?_|refine qo ?_|refine And.intro ?_ ?_));done⟩)|refine nT_ ?_|refine aE1 ?_|refine aE0 ?_|refine aN1 ?_|refine aN0 ?_|refine aD1 ?_|refine aD0 ?_|refine nE_ (fun hq=>?_) (fun hq=>?_)|refine nN_ (fun hq=>?_) (fun hq=>?_)|refine nD_ (fun hq=>?_) (fun hq=>?_)|refine rb1 ?_|refine rb0 ?_|refine rbx ?_|refine rix ?_|refine aS ?_|fail)
 ·rintro _ _
  repeat' ((conv=>whnf);first|exact trivial|refine qk _ (h0) ?_|refine nT_ ?_|refine aE1 ?_|refine aE0 ?_|refine aN1 ?_|refine aN0 ?_|refine aD1 ?_|refine aD0 ?_|refine nE_ (fun hq=>?_) (fun hq=>?_)|refine nN_ (fun hq=>?_) (fun hq=>?_)|refine nD_ (fun hq=>?_) (fun hq=>?_)|refine rb1 ?_|refine rb0 ?_|refine rbx ?_|refine rix ?_|refine aS ?_|fail)
end Go.ST
end
section
namespace Go.ST
open Go Go.DL Go.MM Go.Proofs
open Go.TY hiding Fd
def typesU:List TypeId:=[22,31,3]
theorem typesU_ok:ep Try.prog typesU=true:=by kernel_rfl
theorem xE:Try.prog.underlying 22=some (.slice 31):=by kernel_rfl
theorem yz:Try.prog.cellsOf 31=1:=by kernel_rfl
theorem aI {us:List T} (h:bZ Try.prog 3 us): ∃n,mkT Try.prog 3 us=I n:=by
 cases h with
 |int h n hw=>rw [Try.underlying3] at h;cases h;exact ⟨n,by unfold mkT;rw [Try.underlying3];rfl⟩
 |bool h|str h|nil h|slice h|struct h|array h=>rw [Try.underlying3] at h;cases h
theorem aU {us:List T} (h:bZ Try.prog 31 us): ∃n:Int,mkT Try.prog 31 us=U16 n∧us=[U16 n]∧0≤n∧n≤65535:=by
 cases h with
 |int h n hw=>
  rw [Try.underlying31] at h;cases h
  simp only [Lit.wf,Bool.and_eq_true,decide_eq_true_eq] at hw
  have e1:IntKind.u16.min=0:=by decide
  have e2:IntKind.u16.max=65535:=by decide
  rw [e1,e2] at hw
  exact ⟨n,by unfold mkT;rw [Try.underlying31];rfl,rfl,hw.1,hw.2⟩
 |bool h|str h|nil h|slice h|struct h|array h=>rw [Try.underlying31] at h;cases h
theorem aUs {us:List T} (h:bZ Try.prog 22 us) (hb:aN us≤1048576): ∃l:List Int,Les (mkT Try.prog 22 us) (.slice 1 (l.map U16))∧l.length<2^60∧ ∀x∈l,0≤x∧x≤65535:=by
 have e: ∀t,mkT Try.prog 22 [t]=t:=fun t=>by unfold mkT;rw [xE];rfl
 cases h with
 |nil h=>exact ⟨[],by rw [e];exact Les.nil 1,by simp,by simp⟩
 |slice h xs hx hl=>
  rw [xE] at h
  cases h
  rw [e,yz]
  have key: ∃l:List Int,xs.map (mkT Try.prog 31)=l.map U16∧l.length≤aN (xs.map (mkT Try.prog 31))∧ ∀x∈l,0≤x∧x≤65535:=by
   clear hl hb
   induction xs with
   |nil=>exact ⟨[],rfl,by simp,by simp⟩
   |cons x xs ih=>
    obtain ⟨s,hs,rfl,hb⟩:=aU (hx x (by simp))
    obtain ⟨l,k1,k2,k3⟩:=ih fun y hy=>hx y (by simp [hy])
    refine ⟨s::l,by simp only [List.map_cons,k1,hs],?_,fun z hz=>?_⟩
    ·simp only [List.map_cons,aN,hs,T.bulk,List.length_cons];omega
    ·rcases List.mem_cons.1 hz with rfl|hz
     ·exact hb
     ·exact k3 z hz
  obtain ⟨l,k1,k2,k3⟩:=key
  simp only [aN,T.bulk] at hb
  exact ⟨l,by rw [← k1];exact Les.refl _,by omega,k3⟩
 |int h|bool h|str h|array h|struct h=>rw [xE] at h;cases h
end Go.ST
end
