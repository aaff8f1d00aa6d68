/- Joined by program: parts of a data level over the model, of the program's functions over it, and of the statement's proof. -/
import Derived.Test.YtnfonfjleonbdaaGreatDoorGe
import Derived.Test.YtnfonfjleonbdaaGreatDoorProg
import Derived.Test.YtnfonfjleonbdaaGreatDoorGc
import Derived.KernelRfl
import Derived.Test.YtnfonfjleonbdaaGreatDoorGd
import Derived.Shelf.Sort.Plain
import Derived.Shelf.Slices.In.SortNone
set_option maxRecDepth 100000
set_option maxHeartbeats 8000000
section
namespace Go.ST
open Go Go.DL Go.MM Go.Proofs
open Go.TY hiding Fd
open Go.RC (vi vis vs gi gl tj i64 ti Y tG wX xr yP)
theorem wh(st:List RE)(i:Nat):((st.take i).flatMap tz).length<=(st.flatMap tz).length:=by
 conv=>rhs;rw [<- List.take_append_drop i st,List.flatMap_append,List.length_append]
 omega
theorem wS(st:List RE)(hz: ∀e∈st,SzE e)(hlen:st.length<2^28)(hl:(tD st).length<2^28):DCalls Tryz.prog 5 [esT st] (bT (tD st)):=by
 refine dl2 mixed [.tmp 2] [bT _] Tryz.func5 Go.ST6.l5 ?_;have hn:((st.map tc).length:Int)=st.length:=by rw [List.length_map]
 have hI:=(wX ((st.map tc).length:Int) (by rw [hn];exact tG (by omega))).sU;rw [hn] at hI;have hIx:I ((st.map tc).length:Int)=I (st.length:Int):=by rw [hn]
 rw [<- hn] at hI
 repeat' ((conv=>whnf);first|refine sV _ (hI) ?_)
 have e1:bT (vi ((st.map tc).length:Int))=bT (vi (st.length:Int)++(st.take 0).flatMap tz):=by rw [hn];simp
 refine sa 0 (α:=Nat) (β:=Unit) (fun i=>{sl:=[(3,.t (bT (vi (st.length:Int)++(st.take i).flatMap tz))),(9,.t (esT st)),(10,.t (I st.length)),(11,.t (I i))],bx:=[]})
  (fun i=>i<=st.length) (fun i=>st.length - i) (fun _=>{sl:=[(3,.t (bT (tD st)))],bx:=[]}) (fun _=>True) 0 (Nat.zero_le _) ?_ ?_ ?_
 ·repeat' (first|(exact leI hn.symm)|(exact leT e1.symm)|exact wJ|refine And.intro ?_ ?_)
 ·rintro i hi;rcases Nat.lt_or_ge i st.length with h|h
  ·have hlt:(i:Int)<(st.length:Int):=by omega
   have hnx:((i+1:Nat):Int)=IntKind.wrap .i64 ((i:Int)+1):=by rw [np] <;> omega
   have hg:(st.map tc)[((i:Int)).toNat]?.getD .nil= .agg (ta st[i]):=by rw [Int.toNat_natCast];exact tS h
   have hb0:0<=(i:Int)/\(i:Int)<((st.map tc).length:Int):=by omega
   have hsz:=hz _ (List.getElem_mem h);have hle:=wh st (i+1);have hfl:(st.take (i+1)).flatMap tz=(st.take i).flatMap tz++tz st[i]:=by rw [List.take_succ_eq_append_getElem h,List.flatMap_append];simp
   have yq:(tD st).length=(vi (st.length:Int)).length+(st.flatMap tz).length:=by unfold tD;rw [List.length_append]
   rw [hfl,List.length_append] at hle;generalize st[i]=x at *
   obtain ⟨xv,xk,xn,xa⟩:=x;have hS:=(xr xv hsz.var).sU;have hK:=(yP xk hsz.key hsz.keys).sU;have h2: ∀y∈[xn,xa],i64 y:=fun y hy=>by
    simp only [List.mem_cons,List.not_mem_nil,or_false] at hy;rcases hy with hy|hy
    ·rw [hy];exact hsz.n
    ·rw [hy];exact hsz.at_
   have hT:=(yP [xn,xa] (by simp) h2).sU;have hC:=Bs [vi (st.length:Int)++(st.take i).flatMap tz,vs xv,vis xk,vis [xn,xa]] (by simp) (by
    rw [show tz ⟨xv,xk,xn,xa⟩=vs xv++(vis xk++vis [xn,xa]) from rfl,List.length_append,List.length_append] at hle;simp only [ug,List.map_cons,List.map_nil,List.sum_cons,List.sum_nil,List.length_append]
    omega)
   have e2:bT (vi (st.length:Int)++(st.take (i+1)).flatMap tz)=bT [vi (st.length:Int)++(st.take i).flatMap tz,vs xv,vis xk,vis [xn,xa]].flatten:=by
    rw [hfl];unfold tz;simp [List.flatten_cons,List.append_assoc]
   have hmu:st.length - (i+1)<st.length - i:=by omega
   clear hfl yq hle
   repeat' ((conv=>whnf);first|refine ru hlt ?_|(refine nv_ (.agg (ta ⟨xv,xk,xn,xa⟩)) (by first|exact hg) ?_)|refine sV _ (hS) ?_|refine sV _ (hK) ?_|refine sV _ (hT) ?_|refine sV _ (hC) ?_|(exact ⟨i+1,h,hmu,by (repeat' (first|(exact leI hnx)|(exact leT e2)|exact wJ|refine And.intro ?_ ?_));done⟩)|(refine And.intro (by first|exact hb0|exact td _) ?_)|refine aS ?_|refine nT_ ?_)
  ·have hlt: ¬(i:Int)<(st.length:Int):=by omega
   have e2:bT (tD st)=bT (vi (st.length:Int)++(st.take i).flatMap tz):=by rw [List.take_of_length_le h];rfl
   repeat' ((conv=>whnf);first|refine rq hlt ?_|(exact ⟨(),trivial,by (repeat' (first|(exact leT e2)|exact wJ|refine And.intro ?_ ?_));done⟩)|refine aS ?_|fail)
 ·rintro - -
  repeat' ((conv=>whnf);first|refine aS ?_|exact trivial)
end Go.ST
end
section
namespace Go.ST
open Go Go.DL Go.MM Go.Proofs
open Go.TY hiding Fd
open Go.RC (vi vis vs gi gl tj i64 ti Y tG gT gsT vV vC vo uj u6 tk)
theorem tW: ∀l:List Int,jE (l.map Y)
 |[]=>trivial
 |_::l=>tW l
theorem Er(b:List Int)(u n:Nat):((b.map Y).take (u+n)).drop u=((b.drop u).take n).map Y:=by
 rw [<- List.map_take, <-List.map_drop,List.drop_take,show u+n - u=n by omega]
theorem AP(b:List Int)(hb:ti b)(hl:b.length<2^40):DCalls Tryz.prog 25 [bT b] (.tup [.str (gb b).1,I (gb b).2.1,I (gb b).2.2]):=by
 refine dl2 mixed [.tmp 2,.tmp 3,.tmp 4] [.str _,I _,I _] Tryz.func25 Go.ST6.l25 ?_;have hL:=vV b 1 hb (by omega) (by decide) (by decide);obtain ⟨g1,g2,g3,g4⟩:=u6 hb (least:=1) (by decide);unfold gb;generalize gl b 1=q at *
 obtain ⟨n,u,e⟩:=q;dsimp only at g1 g2 g3 g4 ⊢
 by_cases c:e≠0
 ·rw [if_pos c]
  repeat' ((conv=>whnf);first|refine sV _ (hL) ?_|refine sW c ?_|refine rix ?_|refine aS ?_|exact trivial)
 ·rw [if_neg c];have c0:e=0:=by omega
  subst c0;obtain ⟨n,rfl⟩:=Int.eq_ofNat_of_zero_le g1;obtain ⟨u,rfl⟩:=Int.eq_ofNat_of_zero_le g2;have hw:IntKind.wrap .i64 ((u:Int)+(n:Int))=((u+n:Nat):Int):=by rw [np (by omega) (by omega)];omega
  have hsl:T.slice 1 (((b.map Y).take (IntKind.wrap .i64 ((u:Int)+(n:Int))).toNat).drop ((u:Int)).toNat)=T.slice 1 (((b.drop u).take n).map Y):=by
   rw [hw,Int.toNat_natCast,Int.toNat_natCast,Er]
  have hbd:0<=(u:Int)/\(u:Int)<=IntKind.wrap .i64 ((u:Int)+(n:Int))/\IntKind.wrap .i64 ((u:Int)+(n:Int))<=((b.map Y).length:Int):=by rw [hw,List.length_map];omega
  have hu8:=tW ((b.drop u).take n);have hr:I ((u:Int)+(n:Int))=I (IntKind.wrap .i64 ((u:Int)+(n:Int))):=by rw [hw];congr 1
  rw [Int.toNat_natCast,Int.toNat_natCast,hr]
  repeat' ((conv=>whnf);first|exact trivial|refine sV _ (hL) ?_|(refine nv_ (.slice 1 (((b.drop u).take n).map Y)) (by first|exact hsl) ?_)|refine aN0 ?_|refine rix ?_|(refine And.intro (by first|exact hbd|exact hu8) ?_)|refine aS ?_|refine nT_ ?_)
end Go.ST
end
section
namespace Go.ST9
open Go Go.DL Go.Proofs
noncomputable def c6:aV:=(sr [oo 2 (.mov (.const .nil)),oo 3 (.mov (Kc 0))] (sr [mv 16 0,oo 17 (.call 24 [tm 16]),mv 15 17,oo 18 (.ext (tm 15) 0),oo 19 (.ext (tm 15) 1),oo 20 (.ext (tm 15) 2),mv 4 18,mv 5 19,mv 6 20] (.seq (.block 0 (sr [mv 22 6,oo 23 (.bin .neq (tm 22) (Kc 0)),mv 21 23] (.cond (tm 21) (sr [mv 24 6,oo 2 (.mov (.const .nil)),mv 3 24] .ret) (sr [mv 26 4,oo 27 (.bin .lss (tm 26) (Kc 0)),mv 25 27] (.cond (tm 25) (sr [oo 2 (.mov (.const .nil)),oo 3 (.mov (Kc 6))] .ret) .skip))))) (sr [mv 28 0,mv 29 5,oo 30 (.slice 1 (tm 28) (some (tm 29)) none),mv 0 30] (sr [oo 7 (.mov (.const .nil))] (.seq (sr [mv 31 4,oo 32 (.mov (Kc 0))] (.block 1 (.loop (sr [oo 33 (.bin .lss (tm 32) (tm 31))] (.seq (.cond (tm 33) .skip (.exit 1)) (.seq (.block 2 (.seq (.cut (rg [mv 35 0,oo 36 (.call 25 [tm 35]),mv 34 36,oo 37 (.ext (tm 34) 0),oo 38 (.ext (tm 34) 1),oo 39 (.ext (tm 34) 2),mv 8 37,mv 9 38,mv 10 39])) (.seq (sr [mv 40 10,oo 41 (.bin .neq (tm 40) (Kc 0))] (.cond (tm 41) (sr [mv 42 10,oo 2 (.mov (.const .nil)),mv 3 42] .ret) .skip)) (.seq (.cut (rg [mv 44 0,mv 45 9,oo 46 (.slice 1 (tm 44) (some (tm 45)) none),oo 47 (.call 26 [tm 46]),mv 43 47,oo 48 (.ext (tm 43) 0),oo 49 (.ext (tm 43) 1),oo 50 (.ext (tm 43) 2),mv 11 48,mv 12 49,mv 10 50])) (.seq (sr [mv 51 10,oo 52 (.bin .neq (tm 51) (Kc 0))] (.cond (tm 52) (sr [mv 53 10,oo 2 (.mov (.const .nil)),mv 3 53] .ret) .skip)) (.seq (.cut (rg [mv 55 0,mv 56 9,mv 57 12,oo 58 (.bin .add (tm 56) (tm 57)),oo 59 (.slice 1 (tm 55) (some (tm 58)) none),oo 60 (.call 26 [tm 59]),mv 54 60,oo 61 (.ext (tm 54) 0),oo 62 (.ext (tm 54) 1),oo 63 (.ext (tm 54) 2),mv 13 61,mv 14 62,mv 10 63])) (.seq (.block 3 (sr [mv 65 10,oo 66 (.bin .neq (tm 65) (Kc 0)),mv 64 66] (.cond (tm 64) (sr [mv 67 10,oo 2 (.mov (.const .nil)),mv 3 67] .ret) (sr [mv 69 13,ln 70 69,oo 71 (.bin .neq (tm 70) (Kc 2)),mv 68 71] (.cond (tm 68) (sr [oo 2 (.mov (.const .nil)),oo 3 (.mov (Kc 6))] .ret) .skip))))) (sr [mv 72 7,mv 73 8,mv 74 11,mv 75 13,oo 76 (.idxL 1 (tm 75) (Kc 0)),ld 77 76,mv 78 13,oo 79 (.idxL 1 (tm 78) (Kc 1)),ld 80 79,⟨some 81,.build [S0,.nil,Z0,Z0] [(0,1,(tm 73)),(1,1,(tm 74)),(2,1,(tm 77)),(3,1,(tm 80))],none,[]⟩,⟨some 82,.buildT 4 1 [S0,.nil,Z0,Z0] [(0,(tm 81))],none,[]⟩,oo 83 (.append 22 46 4 56 (tm 72) (tm 82)),mv 7 83] (rg [mv 84 0,mv 85 9,mv 86 12,oo 87 (.bin .add (tm 85) (tm 86)),mv 88 14,oo 89 (.bin .add (tm 87) (tm 88)),oo 90 (.slice 1 (tm 84) (some (tm 89)) none),mv 0 90]))))))))) (rg [oo 91 (.bin .add (tm 32) (Kc 1)),mv 32 91]))))))) (.seq (sr [mv 92 0,ln 93 92,oo 94 (.bin .gtr (tm 93) (Kc 0))] (.cond (tm 94) (sr [oo 2 (.mov (.const .nil)),oo 3 (.mov (Kc 6))] .ret) .skip)) (sr [mv 95 7,mv 2 95,oo 3 (.mov (Kc 0))] .ret))))))))
theorem l6:(Tryz.f6.body.bind (bp Tryz.prog 96 [6000010,6000013,6000016]))=some c6:=by kernel_rfl
end Go.ST9
end
section
namespace Go.ST
open Go Go.DL Go.MM Go.Proofs
open Go.TY hiding Fd
open Go.RC (vi vis vs gi gl tj i64 ti Y tG gT gsT vV vC vo uj u6 tk uT vJ)
theorem CJ{b:List Int}(hb:ti b)(h:(gb b).2.2=0):0<=(gb b).2.1/\(gb b).2.1<=b.length:=by
 obtain ⟨g1,g2,g3,g4⟩:=u6 hb (least:=1) (by decide);unfold gb at h ⊢
 by_cases c:(gl b 1).2.2≠0
 ·rw [if_pos c] at h;exact absurd h c
 ·rw [if_neg c];exact ⟨by dsimp only;omega,by dsimp only;omega⟩
theorem vj{b:List Int}(hb:ti b)(h:(tj b).2.2=0):1<=(tj b).2.1/\(tj b).2.1<=b.length:=by
 obtain ⟨h1,h2,h3⟩:=uT hb h;have hp:1<=(vis (tj b).1).length:=by
  unfold vis;rw [List.length_append]
  have:=vJ ((tj b).1.length:Int)
  omega
 have hl:=congrArg List.length h3;rw [List.length_append] at hl;omega
abbrev zU(x:List RE×Int):T:=.tup [if x.2≠0 then .nil else esT x.1,I x.2]
theorem vg(b:List Int)(u:Nat):((b.map Y).take ((((b.map Y).length:Nat):Int)).toNat).drop u=(b.drop u).map Y:=by
 rw [Int.toNat_natCast,List.take_length,List.map_drop]
theorem wQ(b:List Int)(hb:ti b)(hl:b.length<2^40):DCalls Tryz.prog 6 [bT b] (zU (tK b)):=by
 have hG:=vo b hb (by omega);obtain ⟨⟨q0,q0'⟩,q1,q2,q3,q4,q5⟩:=uj hb;have main: ∀(res:T) (er:Int),((tK b).2≠0->res= .nil/\er=(tK b).2)->((tK b).2=0->res=esT (tK b).1/\er=0)->DCalls Tryz.prog 6 [bT b] (.tup [res,I er]):=fun res er hE hO=>by
  refine dl2 mixed [.tmp 2,.tmp 3] [res,I er] Tryz.func6 Go.ST9.l6 ?_;unfold tK at hE hO;generalize gi b=g at *
  obtain ⟨n,u,e⟩:=g;dsimp only at q0 q0' q1 q2 q3 q4 q5 hE hO hG
  by_cases c0:e≠0
  ·rw [if_pos c0] at hE hO;obtain ⟨rfl,rfl⟩:=hE c0
   repeat' ((conv=>whnf);first|refine sV _ (hG) ?_|refine sW c0 ?_|refine rix ?_|refine aS ?_|exact trivial)
  rw [if_neg c0] at hE hO;have e0:e=0:=by omega
  by_cases c1:n<0
  ·rw [if_pos c1] at hE hO;obtain ⟨rfl,rfl⟩:=hE (by decide)
   repeat' ((conv=>whnf);first|refine sV _ (hG) ?_|refine rz e0 ?_|refine ru c1 ?_|refine rix ?_|refine aS ?_|exact trivial)
  rw [if_neg c1] at hE hO;obtain ⟨n,rfl⟩:=Int.eq_ofNat_of_zero_le (show 0<=n by omega);obtain ⟨u,rfl⟩:=Int.eq_ofNat_of_zero_le q1;rw [Int.toNat_natCast,Int.toNat_natCast] at hE hO;obtain ⟨D,hD⟩: ∃D,D=uf n (b.drop u) []:=⟨_,rfl⟩
  rw [<- hD] at hE hO;have hbd:0<=(u:Int)/\(u:Int)<=((b.map Y).length:Int)/\((b.map Y).length:Int)<=((b.map Y).length:Int):=by rw [List.length_map];omega
  have hsl:T.slice 1 (((b.map Y).take ((((b.map Y).length:Nat):Int)).toNat).drop ((u:Int)).toNat)=bT (b.drop u):=by
   rw [Int.toNat_natCast,vg]
  have hDe:D.2.2≠0->res= .nil/\er=D.2.2:=fun h=>by
   have:=hE (by rw [if_pos h];exact h)
   rw [if_pos h] at this;exact this
  have hD6:D.2.2=0->D.2.1≠[]->res= .nil/\er=6:=fun h h2=>by
   have:=hE (by rw [if_neg (by simpa using h),if_pos h2];decide)
   rw [if_neg (by simpa using h),if_pos h2] at this;exact this
  have hDo:D.2.2=0->D.2.1=[]->res=esT D.1/\er=0:=fun h h2=>by
   have:=hO (by rw [if_neg (by simpa using h),if_neg (by simpa using h2)])
   rw [if_neg (by simpa using h),if_neg (by simpa using h2)] at this;exact this
  clear hE hO;have hbl:(b.drop u).length<=b.length:=by rw [List.length_drop];omega
  repeat' ((conv=>whnf);first|refine sV _ (hG) ?_|refine rz e0 ?_|refine rq c1 ?_|(refine nv_ (bT (b.drop u)) (by first|exact hsl) ?_)|(refine And.intro (by first|exact hbd) ?_)|refine aS ?_|fail)
  refine sa 1 (α:=Nat×List Int×List RE) (β:=List Int×List RE) (fun p=>{sl:=[(0,.t (bT p.2.1)),(7,.own 83 46 4 (p.2.2.map tc)),(31,.t (I n)),(32,.t (I p.1))],bx:=[]})
   (fun p=>p.1<=n/\ti p.2.1/\p.2.2.length+p.2.1.length<=b.length/\uf (n - p.1) p.2.1 p.2.2=D) (fun p=>n - p.1)
   (fun p=>{sl:=[(0,.t (bT p.1)),(7,.own 83 46 4 (p.2.map tc))],bx:=[]}) (fun p=>D=(p.2,p.1,0)) (0,b.drop u,[]) ⟨Nat.zero_le _,tk hb _,by simp,hD.symm⟩ ?_ ?_ ?_
  ·repeat' (first|exact wJ|refine And.intro ?_ ?_)
  ·rintro ⟨i,r,acc⟩ ⟨hi,hr,hal,tl⟩;dsimp only at hi hr hal tl;rcases Nat.lt_or_ge i n with h|h
   ·have hlt:(i:Int)<(n:Int):=by omega
    have hnx:((i+1:Nat):Int)=IntKind.wrap .i64 ((i:Int)+1):=by rw [np] <;> omega
    rw [show n - i=(n - (i+1))+1 by omega,uf] at tl;have hB:=AP r hr (by omega);have hbk:=@CJ r hr;unfold uz at tl;generalize gb r=g1 at *
    obtain ⟨v,f,e1⟩:=g1;dsimp only at hB hbk tl;clear hG hsl hbd
    repeat' ((conv=>whnf);first|refine ru hlt ?_|refine aS ?_|fail)
    refine sO (β:=Unit) (fun _=>{sl:=[(0,.t (bT r)),(7,.own 83 46 4 (acc.map tc)),(8,.t (.str v)),(9,.t (I f)),(10,.t (I e1)),(31,.t (I n)),(32,.t (I i))],bx:=[]}) (fun _=>True) ?_ ?_
    ·repeat' ((conv=>whnf);first|refine sV _ (hB) ?_|(exact ⟨(),trivial,by (repeat' (first|exact wJ|refine And.intro ?_ ?_));done⟩)|fail)
    rintro _ _;clear hB
    by_cases d1:e1≠0
    ·rw [if_pos d1,if_pos d1] at tl;obtain ⟨rfl,rfl⟩:=hDe (by rw [<- tl];exact d1);rw [<- tl]
     repeat' ((conv=>whnf);first|refine sW d1 ?_|refine rix ?_|refine aS ?_|exact trivial)
    have d1':e1=0:=by omega
    obtain ⟨f1,f2⟩:=hbk d1';obtain ⟨f,rfl⟩:=Int.eq_ofNat_of_zero_le f1;rw [if_neg d1,Int.toNat_natCast] at tl;have hI:=vC (r.drop f) (tk hr _) (by rw [List.length_drop];omega);have hik:=@vj (r.drop f) (tk hr _);have hb1:0<=(f:Int)/\(f:Int)<=((r.map Y).length:Int)/\((r.map Y).length:Int)<=((r.map Y).length:Int):=by rw [List.length_map];omega
    have hs1:T.slice 1 (((r.map Y).take ((((r.map Y).length:Nat):Int)).toNat).drop ((f:Int)).toNat)=bT (r.drop f):=by
     rw [Int.toNat_natCast,vg]
    generalize hg2:tj (r.drop f)=g2 at *
    obtain ⟨ks,s2,e2⟩:=g2;dsimp only at hik tl;obtain ⟨kt,hkt⟩: ∃kt:T,(e2≠0->kt= .nil)/\(e2=0->kt= .slice 1 (ks.map I)):=⟨if e2≠0 then .nil else .slice 1 (ks.map I),fun h=>if_pos h,fun h=>if_neg (by simpa using h)⟩
    have hI:DCalls Tryz.prog 26 [bT (r.drop f)] (.tup [kt,I s2,I e2]):=by
     have e:gsT (ks,s2,e2)= .tup [kt,I s2,I e2]:=by
      show T.tup [if e2≠0 then .nil else _,_,_]=_
      by_cases d:e2=0
      ·rw [if_neg (by simpa using d),hkt.2 d]
      ·rw [if_pos d,hkt.1 d]
     rw [<- e];exact hI
    repeat' ((conv=>whnf);first|refine rz d1' ?_|refine aS ?_|fail)
    refine sO (β:=Unit) (fun _=>{sl:=[(0,.t (bT r)),(7,.own 83 46 4 (acc.map tc)),(8,.t (.str v)),(9,.t (I f)),(10,.t (I e2)),(11,.t kt),(12,.t (I s2)),(31,.t (I n)),(32,.t (I i))],bx:=[]}) (fun _=>True) ?_ ?_
    ·repeat' ((conv=>whnf);first|(refine nv_ (bT (r.drop f)) (by first|exact hs1) ?_)|refine sV _ (hI) ?_|(exact ⟨(),trivial,by (repeat' (first|exact wJ|refine And.intro ?_ ?_));done⟩)|(refine And.intro (by first|exact hb1) ?_)|fail)
    rintro _ _;clear hI hs1 hb1
    by_cases d2:e2≠0
    ·rw [if_pos d2,if_pos d2] at tl;obtain ⟨rfl,rfl⟩:=hDe (by rw [<- tl];exact d2);rw [<- tl]
     repeat' ((conv=>whnf);first|refine sW d2 ?_|refine rix ?_|refine aS ?_|exact trivial)
    have d2':e2=0:=by omega
    rw [hkt.2 d2'];obtain ⟨k1,k2⟩:=hik d2';rw [List.length_drop] at k2;obtain ⟨s2,rfl⟩:=Int.eq_ofNat_of_zero_le (show 0<=s2 by omega);rw [if_neg d2,Int.toNat_natCast] at tl;have hr3:ti ((r.drop f).drop s2):=tk (tk hr _) _;have hI3:=vC ((r.drop f).drop s2) hr3 (by rw [List.length_drop,List.length_drop];omega);have vQ:=vj hr3;rw [List.length_drop,List.length_drop] at vQ;have hw2:IntKind.wrap .i64 ((f:Int)+(s2:Int))=((f+s2:Nat):Int):=by rw [np (by omega) (by omega)];omega
    have hb2:0<=IntKind.wrap .i64 ((f:Int)+(s2:Int))/\IntKind.wrap .i64 ((f:Int)+(s2:Int))<=((r.map Y).length:Int)/\((r.map Y).length:Int)<=((r.map Y).length:Int):=by rw [hw2,List.length_map];omega
    have hs2:T.slice 1 (((r.map Y).take ((((r.map Y).length:Nat):Int)).toNat).drop (IntKind.wrap .i64 ((f:Int)+(s2:Int))).toNat)=bT ((r.drop f).drop s2):=by
     rw [hw2,Int.toNat_natCast (n:=f+s2),vg,List.drop_drop]
    generalize tj ((r.drop f).drop s2)=g3 at *
    obtain ⟨tw,s3,e3⟩:=g3;dsimp only at vQ tl;obtain ⟨k3t,hk3⟩: ∃kt:T,(e3≠0->kt= .nil)/\(e3=0->kt= .slice 1 (tw.map I)):=⟨if e3≠0 then .nil else .slice 1 (tw.map I),fun h=>if_pos h,fun h=>if_neg (by simpa using h)⟩
    have hI3:DCalls Tryz.prog 26 [bT ((r.drop f).drop s2)] (.tup [k3t,I s3,I e3]):=by
     have e:gsT (tw,s3,e3)= .tup [k3t,I s3,I e3]:=by
      show T.tup [if e3≠0 then .nil else _,_,_]=_
      by_cases d:e3=0
      ·rw [if_neg (by simpa using d),hk3.2 d]
      ·rw [if_pos d,hk3.1 d]
     rw [<- e];exact hI3
    repeat' ((conv=>whnf);first|refine rz d2' ?_|refine aS ?_|fail)
    refine sO (β:=Unit) (fun _=>{sl:=[(0,.t (bT r)),(7,.own 83 46 4 (acc.map tc)),(8,.t (.str v)),(9,.t (I f)),(10,.t (I e3)),(11,.t (.slice 1 (ks.map I))),(12,.t (I s2)),(13,.t k3t),(14,.t (I s3)),(31,.t (I n)),(32,.t (I i))],bx:=[]}) (fun _=>True) ?_ ?_
    ·repeat' ((conv=>whnf);first|(refine nv_ (bT ((r.drop f).drop s2)) (by first|exact hs2) ?_)|refine sV _ (hI3) ?_|(exact ⟨(),trivial,by (repeat' (first|exact wJ|refine And.intro ?_ ?_));done⟩)|(refine And.intro (by first|exact hb2) ?_)|fail)
    rintro _ _;clear hI3 hs2 hb2
    by_cases d3:e3≠0
    ·rw [if_pos d3,if_pos d3] at tl;obtain ⟨rfl,rfl⟩:=hDe (by rw [<- tl];exact d3);rw [<- tl]
     repeat' ((conv=>whnf);first|refine sW d3 ?_|refine rix ?_|refine aS ?_|exact trivial)
    have d3':e3=0:=by omega
    rw [hk3.2 d3'];rw [if_neg d3] at tl;have hlw:((tw.map I).length:Int)=tw.length:=by rw [List.length_map]
    by_cases d4:tw.length≠2
    ·rw [if_pos d4,if_pos (by decide)] at tl;obtain ⟨rfl,rfl⟩:=hDe (by rw [<- tl];decide);rw [<- tl];have d4':((tw.map I).length:Int)≠2:=by omega
     repeat' ((conv=>whnf);first|refine rz d3' ?_|refine sW d4' ?_|refine rix ?_|refine aS ?_|exact trivial)
    obtain ⟨k3,k4⟩:=vQ d3';obtain ⟨s3,rfl⟩:=Int.eq_ofNat_of_zero_le (show 0<=s3 by omega);rw [if_neg d4,if_neg (by simp),Int.toNat_natCast] at tl;dsimp only at tl;obtain ⟨a,c,rfl⟩: ∃a c,tw=[a,c]:=by
     match tw,(show tw.length=2 by omega) with
     |[a,c],_=>exact ⟨a,c,rfl⟩
    have hw3:IntKind.wrap .i64 (IntKind.wrap .i64 ((f:Int)+(s2:Int))+(s3:Int))=((f+s2+s3:Nat):Int):=by rw [hw2,np (by omega) (by omega)];omega
    have hb3:0<=IntKind.wrap .i64 (IntKind.wrap .i64 ((f:Int)+(s2:Int))+(s3:Int))/\IntKind.wrap .i64 (IntKind.wrap .i64 ((f:Int)+(s2:Int))+(s3:Int))<=((r.map Y).length:Int)/\((r.map Y).length:Int)<=((r.map Y).length:Int):=by rw [hw3,List.length_map];omega
    have hs3:T.slice 1 (((r.map Y).take ((((r.map Y).length:Nat):Int)).toNat).drop (IntKind.wrap .i64 (IntKind.wrap .i64 ((f:Int)+(s2:Int))+(s3:Int))).toNat)=bT (((r.drop f).drop s2).drop s3):=by
     rw [hw3,Int.toNat_natCast (n:=f+s2+s3),vg,List.drop_drop,List.drop_drop,Nat.add_assoc]
    have hr4:ti (((r.drop f).drop s2).drop s3):=tk hr3 _;have BS:(acc++[(⟨v,ks,a,c⟩:RE)]).length+(((r.drop f).drop s2).drop s3).length<=b.length:=by
     rw [List.length_append,List.length_drop,List.length_drop,List.length_drop,List.length_cons,List.length_nil];omega
    have hrm:((acc.map tc).length+1) * 56<=140737488355328:=by rw [List.length_map];omega
    have hsn:(acc++[(⟨v,ks,a,c⟩:RE)]).map tc=acc.map tc++[tc ⟨v,ks,a,c⟩]:=by rw [List.map_append];rfl
    have hmu:n - (i+1)<n - i:=by omega
    have vP:uf (n - (i+1)) (((r.drop f).drop s2).drop s3) (acc++[(⟨v,ks,a,c⟩:RE)])=D:=tl;clear tl hik vQ hbk hlw hw2 hw3 hkt hk3
    repeat' ((conv=>whnf);first|refine rz d3' ?_|(refine nv_ (bT (((r.drop f).drop s2).drop s3)) (by first|exact hs3) ?_)|(exact ⟨(i+1,((r.drop f).drop s2).drop s3,acc++[⟨v,ks,a,c⟩]),⟨h,hr4,BS,vP⟩,hmu,by (repeat' (first|(exact leI hnx)|(exact s6 hsn)|exact wJ|refine And.intro ?_ ?_));done⟩)|refine aN0 ?_|(refine And.intro (by first|exact hb3|exact hrm) ?_)|refine aS ?_|refine nT_ ?_)
   ·have hlt: ¬(i:Int)<(n:Int):=by omega
    rw [show n - i=0 by omega] at tl;have vP:D=(acc,r,0):=tl.symm
    repeat' ((conv=>whnf);first|refine rq hlt ?_|(exact ⟨(r,acc),vP,by (repeat' (first|exact wJ|refine And.intro ?_ ?_));done⟩)|refine aS ?_|fail)
  ·rintro ⟨r,acc⟩ hDD;dsimp only at hDD;have hrl:((r.map Y).length:Int)=r.length:=by rw [List.length_map]
   by_cases c5:r=[]
   ·obtain ⟨rfl,rfl⟩:=hDo (by rw [hDD]) (by rw [hDD];exact c5);have c6: ¬((r.map Y).length:Int)>0:=by rw [c5];simp
    rw [hDD]
    repeat' ((conv=>whnf);first|refine rq c6 ?_|refine rix ?_|refine aS ?_|exact trivial)
   ·obtain ⟨rfl,rfl⟩:=hD6 (by rw [hDD]) (by rw [hDD];exact c5);have c6:((r.map Y).length:Int)>0:=by
     have:=List.length_pos_iff.2 c5
     omega
    repeat' ((conv=>whnf);first|refine ru c6 ?_|refine rix ?_|refine aS ?_|exact trivial)
 have h:=main (if (tK b).2≠0 then .nil else esT (tK b).1) (tK b).2 (fun h=>⟨if_pos h,rfl⟩) (fun h=>⟨if_neg (by simpa using h),h⟩);exact h
end Go.ST
end
noncomputable section
namespace Go.STF
open Go Go.DL Go.Proofs
def c28:aV:=(sr [⟨some 2,.mov (.const S0),none,[]⟩,oo 3 (.mov (Kc 0)),oo 4 (.mov (Kc 0))] (sr [mv 9 0,oo 10 (.call 27 [tm 9]),mv 8 10,oo 11 (.ext (tm 8) 0),oo 12 (.ext (tm 8) 1),oo 13 (.ext (tm 8) 2),mv 5 11,mv 6 12,mv 7 13] (.seq (sr [mv 14 7,oo 15 (.bin .neq (tm 14) (Kc 0))] (.cond (tm 15) (sr [mv 16 7,⟨some 2,.mov (.const S0),none,[]⟩,oo 3 (.mov (Kc 0)),mv 4 16] .ret) .skip)) (.seq (sr [mv 17 5,oo 18 (.bin .lss (tm 17) (Kc 0))] (.cond (tm 18) (sr [⟨some 2,.mov (.const S0),none,[]⟩,oo 3 (.mov (Kc 0)),oo 4 (.mov (Kc 6))] .ret) .skip)) (.seq (sr [mv 19 5,mv 20 0,ln 21 20,mv 22 6,oo 23 (.bin .sub (tm 21) (tm 22)),oo 24 (.bin .gtr (tm 19) (tm 23))] (.cond (tm 24) (sr [⟨some 2,.mov (.const S0),none,[]⟩,oo 3 (.mov (Kc 0)),oo 4 (.mov (Kc 5))] .ret) .skip)) (sr [mv 25 0,mv 26 6,mv 27 6,mv 28 5,oo 29 (.bin .add (tm 27) (tm 28)),oo 30 (.slice 1 (tm 25) (some (tm 26)) (some (tm 29))),oo 31 (.prim .strB (tm 30)),mv 32 6,mv 33 5,oo 34 (.bin .add (tm 32) (tm 33)),mv 2 31,mv 3 34,oo 4 (.mov (Kc 0))] .ret))))))
theorem l28:(Tryz.f28.body.bind (bp Tryz.prog 35 []))=some c28:=by kernel_rfl
def c8:aV:=(sr [oo 2 (.mov (.const .nil))] (sr [mv 5 0,ln 6 5,oo 7 (.inl 30 [tm 6]),mv 3 7] (.seq (sr [oo 4 (.mov (Kc 0))] (.block 0 (.loop (.seq (sr [mv 8 4,mv 9 0,ln 10 9,oo 11 (.bin .lss (tm 8) (tm 10))] (.cond (tm 11) .skip (.exit 0))) (.seq (.block 1 (.seq (.cut (rg [mv 14 3,mv 15 0,mv 16 4,ix 17 4 15 16,fa 18 0 17,ld 19 18,oo 20 (.call 31 [tm 19]),oo 21 (.append 23 5 1 1 (tm 14) (tm 20)),mv 3 21])) (.seq (.cut (rg [mv 22 3,mv 23 0,mv 24 4,ix 25 4 23 24,fa 26 1 25,ld 27 26,oo 28 (.call 32 [tm 27]),oo 29 (.append 23 5 1 1 (tm 22) (tm 28)),mv 3 29])) (.cut (rg [mv 30 3,mv 31 0,mv 32 4,ix 33 4 31 32,fa 34 2 33,ld 35 34,mv 36 0,mv 37 4,ix 38 4 36 37,fa 39 3 38,ld 40 39,oo 41 (.buildT 1 2 [Z0] [(0,(tm 35)),(1,(tm 40))]),oo 42 (.call 32 [tm 41]),oo 43 (.append 23 5 1 1 (tm 30) (tm 42)),mv 3 43]))))) (rg [mv 12 4,oo 13 (.bin .add (tm 12) (Kc 1)),mv 4 13])))))) (sr [mv 44 3,mv 2 44] .ret))))
theorem l8:(Tryz.f8.body.bind (bp Tryz.prog 45 [30,6000005,6000006,6000007]))=some c8:=by kernel_rfl
def c7:aV:=(sr [oo 2 (.mov (.const .nil)),oo 3 (.mov (Kc 0))] (sr [mv 17 0,oo 18 (.call 27 [tm 17]),mv 16 18,oo 19 (.ext (tm 16) 0),oo 20 (.ext (tm 16) 1),oo 21 (.ext (tm 16) 2),mv 4 19,mv 5 20,mv 6 21] (.seq (sr [mv 22 6,oo 23 (.bin .neq (tm 22) (Kc 0))] (.cond (tm 23) (sr [mv 24 6,oo 2 (.mov (.const .nil)),mv 3 24] .ret) .skip)) (.seq (sr [mv 25 4,oo 26 (.bin .lss (tm 25) (Kc 0))] (.cond (tm 26) (sr [oo 2 (.mov (.const .nil)),oo 3 (.mov (Kc 6))] .ret) .skip)) (sr [oo 7 (.mov (.const .nil))] (.seq (sr [oo 8 (.mov (Kc 0))] (.block 0 (.loop (.seq (sr [mv 27 8,mv 28 4,oo 29 (.bin .lss (tm 27) (tm 28))] (.cond (tm 29) .skip (.exit 0))) (.seq (.block 1 (.seq (.cut (rg [mv 33 0,mv 34 5,oo 35 (.slice 1 (tm 33) (some (tm 34)) none),oo 36 (.call 28 [tm 35]),mv 32 36,oo 37 (.ext (tm 32) 0),oo 38 (.ext (tm 32) 1),oo 39 (.ext (tm 32) 2),mv 9 37,mv 10 38,mv 11 39])) (.seq (sr [mv 40 11,oo 41 (.bin .neq (tm 40) (Kc 0))] (.cond (tm 41) (sr [mv 42 11,oo 2 (.mov (.const .nil)),mv 3 42] .ret) .skip)) (sr [mv 43 5,mv 44 10,oo 45 (.bin .add (tm 43) (tm 44)),mv 5 45] (.seq (.cut (rg [mv 47 0,mv 48 5,oo 49 (.slice 1 (tm 47) (some (tm 48)) none),oo 50 (.call 29 [tm 49]),mv 46 50,oo 51 (.ext (tm 46) 0),oo 52 (.ext (tm 46) 1),oo 53 (.ext (tm 46) 2),mv 12 51,mv 10 52,mv 13 53])) (.seq (sr [mv 54 13,oo 55 (.bin .neq (tm 54) (Kc 0))] (.cond (tm 55) (sr [mv 56 13,oo 2 (.mov (.const .nil)),mv 3 56] .ret) .skip)) (sr [mv 57 5,mv 58 10,oo 59 (.bin .add (tm 57) (tm 58)),mv 5 59] (.seq (.cut (rg [mv 61 0,mv 62 5,oo 63 (.slice 1 (tm 61) (some (tm 62)) none),oo 64 (.call 29 [tm 63]),mv 60 64,oo 65 (.ext (tm 60) 0),oo 66 (.ext (tm 60) 1),oo 67 (.ext (tm 60) 2),mv 14 65,mv 10 66,mv 15 67])) (.seq (sr [mv 68 15,oo 69 (.bin .neq (tm 68) (Kc 0))] (.cond (tm 69) (sr [mv 70 15,oo 2 (.mov (.const .nil)),mv 3 70] .ret) .skip)) (.seq (sr [mv 71 14,ln 72 71,oo 73 (.bin .neq (tm 72) (Kc 2))] (.cond (tm 73) (sr [oo 2 (.mov (.const .nil)),oo 3 (.mov (Kc 6))] .ret) .skip)) (sr [mv 74 5,mv 75 10,oo 76 (.bin .add (tm 74) (tm 75)),mv 5 76] (rg [mv 77 7,mv 78 9,mv 79 12,mv 80 14,oo 81 (.idxL 1 (tm 80) (Kc 0)),ld 82 81,mv 83 14,oo 84 (.idxL 1 (tm 83) (Kc 1)),ld 85 84,⟨some 86,.build [S0,.nil,Z0,Z0] [(0,1,(tm 78)),(1,1,(tm 79)),(2,1,(tm 82)),(3,1,(tm 85))],none,[]⟩,⟨some 87,.buildT 4 1 [S0,.nil,Z0,Z0] [(0,(tm 86))],none,[]⟩,oo 88 (.append 22 46 4 56 (tm 77) (tm 87)),mv 7 88])))))))))))) (rg [mv 30 8,oo 31 (.bin .add (tm 30) (Kc 1)),mv 8 31])))))) (.seq (sr [mv 89 5,mv 90 0,ln 91 90,oo 92 (.bin .neq (tm 89) (tm 91))] (.cond (tm 92) (sr [oo 2 (.mov (.const .nil)),oo 3 (.mov (Kc 6))] .ret) .skip)) (sr [mv 93 7,mv 2 93,oo 3 (.mov (Kc 0))] .ret))))))))
theorem l7:(Tryz.f7.body.bind (bp Tryz.prog 94 [6000010,6000014,6000018]))=some c7:=by kernel_rfl
def c11:aV:=(sr [oo 2 (.alloc [(Ui 0),(Ui 0),(Ui 0),(Ui 0),(Ui 0),(Ui 0),(Ui 0),(Ui 0),(Ui 0),(Ui 0),(Ui 0),(Ui 0),(Ui 0),(Ui 0),(Ui 0),(Ui 0)])] (sr [mv 3 0,oo 4 (.call 5 [tm 3]),oo 5 (.prim .strB (tm 4)),⟨some 6,.buildS 9 1 1 [S0] [(0,(tm 5))],none,[]⟩,oo 7 (.call 36 [(Kc 8),(tm 6)]),o0 (.store 16 (tm 2) (tm 7))] .ret))
theorem l11:(Tryz.f11.body.bind (bp Tryz.prog 8 []))=some c11:=by kernel_rfl
def c12:aV:=(sr [oo 2 (.alloc [(Ui 0),(Ui 0),(Ui 0),(Ui 0),(Ui 0),(Ui 0),(Ui 0),(Ui 0),(Ui 0),(Ui 0),(Ui 0),(Ui 0),(Ui 0),(Ui 0),(Ui 0),(Ui 0)])] (sr [mv 3 0,oo 4 (.call 8 [tm 3]),oo 5 (.prim .strB (tm 4)),⟨some 6,.buildS 9 1 1 [S0] [(0,(tm 5))],none,[]⟩,oo 7 (.call 37 [(Kc 8),(tm 6)]),o0 (.store 16 (tm 2) (tm 7))] .ret))
theorem l12:(Tryz.f12.body.bind (bp Tryz.prog 8 []))=some c12:=by kernel_rfl
def c3:aV:=(sr [oo 6 (.mov kF)] (.seq (sr [mv 17 0,ln 18 17,oo 19 (.bin .gtr (tm 18) (Kc 100)),mv 20 19,mF 21 1 20,oF 22 20 (.len (tm 21)),oF 23 20 (.bin .gtr (tm 22) (Kc 100)),oo 24 (.pick (tm 20) kT (tm 23)),mv 25 24,mF 26 2 25,oF 27 25 (.len (tm 26)),oF 28 25 (.bin .gtr (tm 27) (Kc 3000)),oo 29 (.pick (tm 25) kT (tm 28))] (.cond (tm 29) (sr [oo 30 (.call 4 []),mv 6 30] .ret) .skip)) (.seq (.cut (rg [mv 31 0,oo 32 (.call 5 [tm 31]),mv 7 32])) (.seq (.cut (rg [mv 34 7,oo 35 (.call 6 [tm 34]),mv 33 35,oo 36 (.ext (tm 33) 0),oo 37 (.ext (tm 33) 1),mv 8 36,mv 9 37])) (.seq (.cut (rg [mv 39 2,oo 40 (.call 6 [tm 39]),mv 38 40,oo 41 (.ext (tm 38) 0),oo 42 (.ext (tm 38) 1),mv 10 41,mv 11 42])) (.seq (.cut (rg [mv 44 2,oo 45 (.call 7 [tm 44]),mv 43 45,oo 46 (.ext (tm 43) 0),oo 47 (.ext (tm 43) 1),mv 12 46,mv 13 47])) (.seq (.seq (.cut (rg [mv 48 7,oo 49 (.prim .strB (tm 48)),mv 50 0,oo 51 (.call 8 [tm 50]),oo 52 (.prim .strB (tm 51)),oo 53 (.bin .neq (tm 49) (tm 52)),mv 54 53,mF 55 9 54,oF 56 54 (.bin .neq (tm 55) (Kc 0)),oo 57 (.pick (tm 54) kT (tm 56)),mv 58 57,mF 59 8 58,mF 60 0 58,oF 61 58 (.call 9 [(tm 59),(tm 60)]),oF 62 58 (.not (tm 61)),oo 63 (.pick (tm 58) kT (tm 62)),mv 64 63,mF 65 10 64,mF 66 12 64,oF 67 64 (.call 9 [(tm 65),(tm 66)]),oF 68 64 (.not (tm 67)),oo 69 (.pick (tm 64) kT (tm 68)),mv 70 69,mF 71 11 70,mF 72 13 70,oF 73 70 (.bin .neq (tm 71) (tm 72)),oo 74 (.pick (tm 70) kT (tm 73)),mv 75 74,mF 76 0 75,mF 77 1 75,oF 78 75 (.call 10 [(tm 76),(tm 77)]),mF 79 0 75,mF 80 1 75,oF 81 75 (.call 9 [(tm 79),(tm 80)]),oF 82 75 (.eqB true (tm 78) (tm 81)),oo 83 (.pick (tm 75) kT (tm 82)),mv 84 83,mF 85 0 84,oF 86 84 (.call 11 [tm 85]),mF 87 0 84,oF 88 84 (.call 12 [tm 87]),oF 89 84 (.eqv true [.int .u8,.int .u8,.int .u8,.int .u8,.int .u8,.int .u8,.int .u8,.int .u8,.int .u8,.int .u8,.int .u8,.int .u8,.int .u8,.int .u8,.int .u8,.int .u8] (tm 86) (tm 88)),oo 90 (.pick (tm 84) kT (tm 89))])) (.cond (tm 90) (sr [oo 6 (.mov kF)] .ret) .skip)) (.seq (.cut (rg [mv 91 0,oo 92 (.call 8 [tm 91]),oo 93 (.prim .strB (tm 92)),⟨some 94,.buildS 9 1 1 [S0] [(0,(tm 93))],none,[]⟩,oo 95 (.call 13 [(Kc 8),(tm 94)]),mv 14 95])) (.seq (.cut (rg [mv 96 1,oo 97 (.call 8 [tm 96]),oo 98 (.prim .strB (tm 97)),⟨some 99,.buildS 9 1 1 [S0] [(0,(tm 98))],none,[]⟩,oo 100 (.call 13 [(Kc 8),(tm 99)]),mv 15 100])) (.seq (.cut (rg [mv 101 0,oo 102 (.call 11 [tm 101]),mv 103 1,oo 104 (.call 11 [tm 103]),oo 105 (.eqv false [.int .u8,.int .u8,.int .u8,.int .u8,.int .u8,.int .u8,.int .u8,.int .u8,.int .u8,.int .u8,.int .u8,.int .u8,.int .u8,.int .u8,.int .u8,.int .u8] (tm 102) (tm 104)),mv 16 105])) (sr [oo 106 (.call 4 []),mv 107 106,mT 108 16 107,oT 109 107 (.not (tm 108)),mT 110 109 107,mF 111 0 110,mF 112 1 110,oF 113 110 (.call 9 [(tm 111),(tm 112)]),oT 114 107 (.pick (tm 110) kT (tm 113)),mT 115 114 107,mF 116 14 115,oF 117 115 (.prim .strB (tm 116)),mF 118 15 115,oF 119 115 (.prim .strB (tm 118)),oF 120 115 (.bin .neq (tm 117) (tm 119)),oT 121 107 (.pick (tm 115) kT (tm 120)),oo 122 (.pick (tm 107) (tm 121) kF),mv 6 122] .ret)))))))))))
theorem l3:(Tryz.f3.body.bind (bp Tryz.prog 123 [6000003,6000004,6000005,6000006,6000007,6000009,6000010,6000011]))=some c3:=by kernel_rfl
end Go.STF
end
section
namespace Go.ST
open Go Go.DL Go.MM Go.Proofs
open Go.TY hiding Fd
open Go.RC (vi vis vs gi gl tj i64 ti Y tG gT gsT wH um uj u6 tk)
theorem BP(b:List Int):((gi b).2.2≠0->gb b=(⟨#[]⟩,0,(gi b).2.2))/\((gi b).2.2=0->(gi b).1<0->gb b=(⟨#[]⟩,0,6))/\
  ((gi b).2.2=0->0<=(gi b).1->(gi b).1>b.length - (gi b).2.1->gb b=(⟨#[]⟩,0,5))/\
  ((gi b).2.2=0->0<=(gi b).1->(gi b).1<=b.length - (gi b).2.1->gb b=(nQ (((b.drop (gi b).2.1.toNat).take (gi b).1.toNat).map Y),(gi b).2.1+(gi b).1,0)):=by
 have hl:gl b 1=if (gi b).2.2≠0 then (0,0,(gi b).2.2) else if (gi b).1<0 then (0,0,6) else if (gi b).1>b.length - (gi b).2.1 then (0,0,5) else ((gi b).1,(gi b).2.1,0):=by unfold gl;rw [Int.ediv_one]
 unfold gb;refine ⟨fun h=>?_,fun h h1=>?_,fun h h1 h2=>?_,fun h h1 h2=>?_⟩
 ·rw [if_pos h] at hl;rw [hl];exact if_pos h
 ·rw [if_neg (fun hn=>hn h),if_pos h1] at hl;rw [hl];exact if_pos (by decide)
 ·rw [if_neg (fun hn=>hn h),if_neg (by omega),if_pos h2] at hl;rw [hl];exact if_pos (by decide)
 ·rw [if_neg (fun hn=>hn h),if_neg (by omega),if_neg (by omega)] at hl;rw [hl];exact if_neg (by simp)
theorem Ay(b:List Int)(hb:ti b)(hl:b.length<2^40):DCalls Tryz.prog 28 [bT b] (.tup [.str (gb b).1,I (gb b).2.1,I (gb b).2.2]):=by
 refine dl2 mixed [.tmp 2,.tmp 3,.tmp 4] [.str _,I _,I _] Tryz.func28 Go.STF.l28 ?_;have hG:=um b hb (by omega);obtain ⟨q1,q2,q3,q4,q5,q6⟩:=uj hb;obtain ⟨h1,h2,h3,h4⟩:=BP b;generalize gb b=r at *
 generalize gi b=g at *
 obtain ⟨n,u,e⟩:=g;dsimp only at *
 by_cases e0:e=0
 case neg=>
  rw [h1 e0]
  repeat' ((conv=>whnf);first|refine sV _ (hG) ?_|refine sW e0 ?_|refine rix ?_|refine aS ?_|exact trivial)
 by_cases n0:n<0
 ·rw [h2 e0 n0]
  repeat' ((conv=>whnf);first|refine sV _ (hG) ?_|refine rz e0 ?_|refine ru n0 ?_|refine rix ?_|refine aS ?_|exact trivial)
 have hw:IntKind.wrap .i64 (((b.map Y).length:Int) - u)=b.length - u:=by rw [List.length_map,np (by omega) (by omega)]
 by_cases c:n>b.length - u
 ·rw [h3 e0 (by omega) c]
  repeat' ((conv=>whnf);first|refine sV _ (hG) ?_|refine rz e0 ?_|refine rq n0 ?_|(refine ru (by rw [hw];exact c) ?_)|refine rix ?_|refine aS ?_|exact trivial)
 rw [h4 e0 (by omega) (by omega)];clear h1 h2 h3 h4;obtain ⟨n,rfl⟩:=Int.eq_ofNat_of_zero_le (show 0<=n by omega);obtain ⟨u,rfl⟩:=Int.eq_ofNat_of_zero_le q2;have hw2:IntKind.wrap .i64 ((u:Int)+(n:Int))=((u+n:Nat):Int):=by rw [np (by omega) (by omega)];omega
 have hsl:T.slice 1 (((b.map Y).take (IntKind.wrap .i64 ((u:Int)+(n:Int))).toNat).drop ((u:Int)).toNat)=T.slice 1 (((b.drop u).take n).map Y):=by
  rw [hw2,Int.toNat_natCast,Int.toNat_natCast,Er]
 have hbd:0<=(u:Int)/\(u:Int)<=IntKind.wrap .i64 ((u:Int)+(n:Int))/\IntKind.wrap .i64 ((u:Int)+(n:Int))<=((b.map Y).length:Int):=by rw [hw2,List.length_map];omega
 have hu8:=tW ((b.drop u).take n);have hr:I ((u:Int)+(n:Int))=I (IntKind.wrap .i64 ((u:Int)+(n:Int))):=by rw [hw2];congr 1
 rw [Int.toNat_natCast,Int.toNat_natCast,hr]
 repeat' ((conv=>whnf);first|exact trivial|refine sV _ (hG) ?_|refine rz e0 ?_|refine rq n0 ?_|(refine rq (by rw [hw];exact c) ?_)|(refine nv_ (.slice 1 (((b.drop u).take n).map Y)) (by first|exact hsl) ?_)|refine rix ?_|(refine And.intro (by first|exact hbd|exact hu8) ?_)|refine aS ?_|refine nT_ ?_)
end Go.ST
end
section
namespace Go.ST
open Go Go.DL Go.MM Go.Proofs
open Go.TY hiding Fd
open Go.RC (vi vis vs gi gl tj i64 ti Y tG vh vL wk)
theorem wO(st:List RE)(hz: ∀e∈st,SzE e)(hlen:st.length<2^28)(hl:(tD st).length<2^28):DCalls Tryz.prog 8 [esT st] (bT (tD st)):=by
 refine dl2 mixed [.tmp 2] [bT _] Tryz.func8 Go.STF.l8 ?_;have hn:((st.map tc).length:Int)=st.length:=by rw [List.length_map]
 have hI:=vh (st.length:Int) (tG (by omega));rw [<- hn] at hI
 repeat' ((conv=>whnf);first|(refine sR (ts:=[I (st.map tc).length]) (rd:=[]) (by simp;rfl) hI ?_)|fail)
 refine sa 0 (α:=Nat×Nat) (β:=Nat) (fun q=>{sl:=[(0,.t (esT st)),(3,.own q.1 5 1 ((vi ((st.map tc).length:Int)++(st.take q.2).flatMap tz).map Y)),(4,.t (I q.2))],bx:=[]})
  (fun q=>q.2<=st.length) (fun q=>st.length - q.2) (fun q=>{sl:=[(3,.own q 5 1 ((tD st).map Y))],bx:=[]}) (fun _=>True) (7,0) (Nat.zero_le _) ?_ ?_ ?_
 ·repeat' (first|exact wJ|refine s6 ?_|refine And.intro ?_ ?_)
  simp
 ·rintro ⟨q,i⟩ hi;dsimp only at hi;rcases Nat.lt_or_ge i st.length with h|h
  ·have hlt:(i:Int)<((st.map tc).length:Int):=by omega
   have hnx:((i+1:Nat):Int)=IntKind.wrap .i64 ((i:Int)+1):=by rw [np] <;> omega
   have hg:(st.map tc)[((i:Int)).toNat]?.getD .nil= .agg (ta st[i]):=by rw [Int.toNat_natCast];exact tS h
   have hb0:0<=(i:Int)/\(i:Int)<((st.map tc).length:Int):=by omega
   have hsz:=hz _ (List.getElem_mem h);have hle:=wh st (i+1);have hfl:(st.take (i+1)).flatMap tz=(st.take i).flatMap tz++tz st[i]:=by rw [List.take_succ_eq_append_getElem h,List.flatMap_append];simp
   have yq:(tD st).length=(vi ((st.map tc).length:Int)).length+(st.flatMap tz).length:=by rw [hn];unfold tD;rw [List.length_append]
   rw [hfl,List.length_append] at hle;generalize st[i]=x at *
   obtain ⟨xv,xk,xn,xa⟩:=x;have h2: ∀y∈[xn,xa],i64 y:=fun y hy=>by
    simp only [List.mem_cons,List.not_mem_nil,or_false] at hy;rcases hy with hy|hy
    ·rw [hy];exact hsz.n
    ·rw [hy];exact hsz.at_
   have hvv:(vi ((st.map tc).length:Int)).length=(vi (st.length:Int)).length:=by rw [hn]
   rw [show tz ⟨xv,xk,xn,xa⟩=vs xv++(vis xk++vis [xn,xa]) from rfl,List.length_append,List.length_append] at hle;obtain ⟨A,hA⟩: ∃A,A=(vi ((st.map tc).length:Int)++(st.take i).flatMap tz).map Y:=⟨_,rfl⟩
   obtain ⟨B1,hB1⟩: ∃A,A=(vs xv).map Y:=⟨_,rfl⟩
   obtain ⟨B2,hB2⟩: ∃A,A=(vis xk).map Y:=⟨_,rfl⟩
   obtain ⟨B3,hB3⟩: ∃A,A=(vis [xn,xa]).map Y:=⟨_,rfl⟩
   have hAl:A.length=(vi (st.length:Int)).length+((st.take i).flatMap tz).length:=by rw [hA,List.length_map,List.length_append,hvv]
   have hl3:A.length+B1.length+B2.length+B3.length<2^30:=by
    rw [hAl,hB1,hB2,hB3];simp only [List.length_map];omega
   have e1:A++B1=(vi ((st.map tc).length:Int)++(st.take i).flatMap tz).map Y++B1:=by rw [hA]
   have e2:(vi ((st.map tc).length:Int)++(st.take (i+1)).flatMap tz).map Y=((A++B1)++B2)++B3:=by
    rw [hA,hB1,hB2,hB3,hfl,show tz ⟨xv,xk,xn,xa⟩=vs xv++(vis xk++vis [xn,xa]) from rfl];simp only [List.map_append,List.append_assoc]
   have hS:DCalls Tryz.prog 31 [.str xv] (.slice 1 B1):=by rw [hB1];exact (vL xv hsz.var).sU
   have hK:DCalls Tryz.prog 32 [.slice 1 (xk.map I)] (.slice 1 B2):=by rw [hB2];exact (wk xk hsz.key hsz.keys).sU
   have hT:DCalls Tryz.prog 32 [.slice 1 [I xn,I xa]] (.slice 1 B3):=by rw [hB3];exact (wk [xn,xa] (by simp) h2).sU
   have hmu:st.length - (i+1)<st.length - i:=by omega
   clear hfl hle yq hA hB1 hB2 hB3 hvv
   repeat' ((conv=>whnf);first|refine ru hlt ?_|refine aS ?_|fail)
   refine sO (β:=Unit) (fun _=>{sl:=[(0,.t (esT st)),(3,.own 21 5 1 (A++B1)),(4,.t (I i))],bx:=[]}) (fun _=>True) ?_ ?_
   ·repeat' ((conv=>whnf);first|(refine nv_ (.agg (ta ⟨xv,xk,xn,xa⟩)) (by first|exact hg) ?_)|refine sV _ (hS) ?_|(exact ⟨(),trivial,by (repeat' (first|(exact s6 e1)|exact wJ|refine And.intro ?_ ?_));done⟩)|(refine And.intro (by first|exact hb0|exact td _|((simp only [List.length_map,List.length_append];omega);done)|fail) ?_)|refine aS ?_|refine nT_ ?_)
   rintro _ _;clear e1 hS
   skip
   refine sO (β:=Unit) (fun _=>{sl:=[(0,.t (esT st)),(3,.own 29 5 1 ((A++B1)++B2)),(4,.t (I i))],bx:=[]}) (fun _=>True) ?_ ?_
   ·repeat' ((conv=>whnf);first|(refine nv_ (.agg (ta ⟨xv,xk,xn,xa⟩)) (by first|exact hg) ?_)|refine sV _ (hK) ?_|(exact ⟨(),trivial,by (repeat' (first|exact wJ|refine And.intro ?_ ?_));done⟩)|(refine And.intro (by first|exact hb0|exact td _|((simp only [List.length_append];omega);done)|fail) ?_)|refine aS ?_|refine nT_ ?_)
   rintro _ _;clear hK
   skip
   refine sO (β:=Unit) (fun _=>{sl:=[(0,.t (esT st)),(3,.own 43 5 1 (((A++B1)++B2)++B3)),(4,.t (I i))],bx:=[]}) (fun _=>True) ?_ ?_
   ·repeat' ((conv=>whnf);first|(refine nv_ (.agg (ta ⟨xv,xk,xn,xa⟩)) (by first|exact hg) ?_)|refine sV _ (hT) ?_|(exact ⟨(),trivial,by (repeat' (first|exact wJ|refine And.intro ?_ ?_));done⟩)|(refine And.intro (by first|exact hb0|exact td _|((simp only [List.length_append];omega);done)|fail) ?_)|refine aS ?_|refine nT_ ?_)
   rintro _ _;clear hT
   repeat' ((conv=>whnf);first|(exact ⟨(43,i+1),h,hmu,by (repeat' (first|(exact leI hnx)|(exact s6 e2)|exact wJ|refine And.intro ?_ ?_));done⟩)|fail)
  ·have hlt: ¬(i:Int)<((st.map tc).length:Int):=by omega
   have e2:(tD st).map Y=(vi ((st.map tc).length:Int)++(st.take i).flatMap tz).map Y:=by rw [hn,List.take_of_length_le h];rfl
   repeat' ((conv=>whnf);first|refine rq hlt ?_|refine aS ?_|fail)
   exact ⟨q,trivial,by repeat' (first|(exact s6 e2)|exact wJ|refine And.intro ?_ ?_)⟩
 ·rintro q -
  repeat' ((conv=>whnf);first|refine aS ?_|exact trivial)
end Go.ST
end
section
namespace Go.ST
open Go Go.DL Go.MM Go.Proofs
open Go.TY hiding Fd
open Go.RC (vi vis vs gi gl tj i64 ti Y tG gT gsT vp um uj u6 tk uT vJ)
theorem xW: ∀l:List Int,l.length<=(l.flatMap vi).length
 |[]=>by simp
 |x::l=>by
  rw [List.flatMap_cons,List.length_append,List.length_cons]
  have:=vJ x
  have:=xW l
  omega
theorem BR{b:List Int}(hb:ti b)(h:(tj b).2.2=0):(tj b).1.length<=b.length:=by
 obtain ⟨h1,h2,h3⟩:=uT hb h
 have:=congrArg List.length h3
 rw [List.length_append] at this;unfold vis at this;rw [List.length_append] at this
 have:=xW (tj b).1
 omega
theorem Db{b:List Int}(hb:ti b)(hl:b.length<2^40)(h:(uz b).2.2=0):kOk (uz b).1/\ti (uz b).2.1/\(uz b).2.1.length+1<=b.length:=by
 unfold uz at h ⊢
 by_cases c1:(gb b).2.2≠0
 ·rw [if_pos c1] at h;exact absurd h c1
 rw [if_neg c1] at h ⊢;have hb1:=tk hb (gb b).2.1.toNat;have hl1:(b.drop (gb b).2.1.toNat).length<=b.length:=by rw [List.length_drop];omega
 generalize b.drop (gb b).2.1.toNat=b1 at *
 have hx1:=@vj b1 hb1;have hx2:=@BR b1 hb1;generalize tj b1=g at *
 obtain ⟨ks,u,e⟩:=g;dsimp only at h hx1 hx2 ⊢
 by_cases c2:e≠0
 ·rw [if_pos c2] at h;exact absurd h c2
 rw [if_neg c2] at h ⊢;obtain ⟨u1,u2⟩:=hx1 (by simpa using c2);have hk:=hx2 (by simpa using c2);have hb2:=tk hb1 u.toNat;have hl2:(b1.drop u.toNat).length+1<=b1.length:=by rw [List.length_drop];omega
 generalize b1.drop u.toNat=b2 at *
 generalize tj b2=g at *
 obtain ⟨tw,w,f⟩:=g;dsimp only at h ⊢
 by_cases c3:f≠0
 ·rw [if_pos c3] at h;exact absurd h c3
 rw [if_neg c3] at h ⊢
 by_cases c4:tw.length≠2
 ·rw [if_pos c4] at h;exact absurd h (by decide)
 rw [if_neg c4];refine ⟨?_,tk hb2 _,?_⟩
 ·show ks.length<2^60
  omega
 ·dsimp only;rw [List.length_drop];omega
theorem zD: ∀{n:Nat} {b:List Int} {acc:List RE},ti b->b.length<2^40->(∀ e∈acc,kOk e)->(∀ e∈(uf n b acc).1,kOk e)/\(uf n b acc).1.length<=acc.length+b.length
 |0,b,acc,_,_,ha=>⟨ha,by show acc.length<=_;omega⟩
 |n+1,b,acc,hb,hl,ha=>by
  rw [uf]
  by_cases c:(uz b).2.2≠0
  ·rw [if_pos c];exact ⟨by simp,by simp⟩
  rw [if_neg c];obtain ⟨h1,h2,h3⟩:=Db hb hl (by simpa using c);obtain ⟨g1,g2⟩:=zD (n:=n) (b:=(uz b).2.1) (acc:=acc++[(uz b).1]) h2 (by omega) (fun e he=>by
   rcases List.mem_append.1 he with he|he
   ·exact ha e he
   ·rw [List.mem_singleton.1 he];exact h1)
  refine ⟨g1,?_⟩;rw [List.length_append,List.length_singleton] at g2;omega
theorem Dc{b:List Int}(hb:ti b)(hl:b.length<2^40):(∀ e∈(tK b).1,kOk e)/\(tK b).1.length<=b.length:=by
 unfold tK
 by_cases c:(gi b).2.2≠0
 ·rw [if_pos c];exact ⟨by simp,by simp⟩
 rw [if_neg c]
 by_cases c1:(gi b).1<0
 ·rw [if_pos c1];exact ⟨by simp,by simp⟩
 rw [if_neg c1];have hl1:(b.drop (gi b).2.1.toNat).length<=b.length:=by rw [List.length_drop];omega
 obtain ⟨g1,g2⟩:=zD (n:=(gi b).1.toNat) (b:=b.drop (gi b).2.1.toNat) (acc:=[]) (tk hb _) (by omega) (by simp);generalize uf (gi b).1.toNat (b.drop (gi b).2.1.toNat) []=g at *
 by_cases c2:g.2.2≠0
 ·rw [if_pos c2];exact ⟨by simp,by simp⟩
 rw [if_neg c2]
 by_cases c3:g.2.1≠[]
 ·rw [if_pos c3];exact ⟨by simp,by simp⟩
 rw [if_neg c3];refine ⟨g1,?_⟩;rw [List.length_nil] at g2;dsimp only;omega
theorem Cg(b:List Int)(hb:ti b)(hl:b.length<2^40):DCalls Tryz.prog 7 [bT b] (zU (tK b)):=by
 have hG:=um b hb (by omega);obtain ⟨⟨q0,q0'⟩,q1,q2,q3,q4,q5⟩:=uj hb;have main: ∀(res:T) (er:Int),((tK b).2≠0->res= .nil/\er=(tK b).2)->((tK b).2=0->res=esT (tK b).1/\er=0)->DCalls Tryz.prog 7 [bT b] (.tup [res,I er]):=fun res er hE hO=>by
  refine dl2 mixed [.tmp 2,.tmp 3] [res,I er] Tryz.func7 Go.STF.l7 ?_;unfold tK at hE hO;generalize gi b=g at *
  obtain ⟨n,u,e⟩:=g;dsimp only at q0 q0' q1 q2 q3 q4 q5 hE hO hG
  by_cases c0:e≠0
  ·rw [if_pos c0] at hE hO;obtain ⟨rfl,rfl⟩:=hE c0
   repeat' ((conv=>whnf);first|refine sV _ (hG) ?_|refine sW c0 ?_|refine rix ?_|refine aS ?_|exact trivial)
  rw [if_neg c0] at hE hO;have e0:e=0:=by omega
  by_cases c1:n<0
  ·rw [if_pos c1] at hE hO;obtain ⟨rfl,rfl⟩:=hE (by decide)
   repeat' ((conv=>whnf);first|refine sV _ (hG) ?_|refine rz e0 ?_|refine ru c1 ?_|refine rix ?_|refine aS ?_|exact trivial)
  rw [if_neg c1] at hE hO;obtain ⟨n,rfl⟩:=Int.eq_ofNat_of_zero_le (show 0<=n by omega);obtain ⟨u,rfl⟩:=Int.eq_ofNat_of_zero_le q1;rw [Int.toNat_natCast,Int.toNat_natCast] at hE hO;obtain ⟨D,hD⟩: ∃D,D=uf n (b.drop u) []:=⟨_,rfl⟩
  rw [<- hD] at hE hO;have hDe:D.2.2≠0->res= .nil/\er=D.2.2:=fun h=>by
   have:=hE (by rw [if_pos h];exact h)
   rw [if_pos h] at this;exact this
  have hD6:D.2.2=0->D.2.1≠[]->res= .nil/\er=6:=fun h h2=>by
   have:=hE (by rw [if_neg (by simpa using h),if_pos h2];decide)
   rw [if_neg (by simpa using h),if_pos h2] at this;exact this
  have hDo:D.2.2=0->D.2.1=[]->res=esT D.1/\er=0:=fun h h2=>by
   have:=hO (by rw [if_neg (by simpa using h),if_neg (by simpa using h2)])
   rw [if_neg (by simpa using h),if_neg (by simpa using h2)] at this;exact this
  clear hE hO
  repeat' ((conv=>whnf);first|refine sV _ (hG) ?_|refine rz e0 ?_|refine rq c1 ?_|refine aS ?_|fail)
  refine sa 0 (α:=Nat×Nat×List RE) (β:=Nat×List RE) (fun p=>{sl:=[(0,.t (bT b)),(4,.t (I n)),(5,.t (I p.2.1)),(7,.own 88 46 4 (p.2.2.map tc)),(8,.t (I p.1))],bx:=[]})
   (fun p=>p.1<=n/\p.2.1<=b.length/\p.2.2.length<=p.2.1/\uf (n - p.1) (b.drop p.2.1) p.2.2=D) (fun p=>n - p.1)
   (fun p=>{sl:=[(0,.t (bT b)),(5,.t (I p.1)),(7,.own 88 46 4 (p.2.map tc))],bx:=[]}) (fun p=>p.1<=b.length/\D=(p.2,b.drop p.1,0)) (0,u,[]) ⟨Nat.zero_le _,by dsimp only;omega,by simp,hD.symm⟩ ?_ ?_ ?_
  ·repeat' (first|exact wJ|refine And.intro ?_ ?_)
  ·rintro ⟨i,a,acc⟩ ⟨hi,hab,hal,tl⟩;dsimp only at hi hab hal tl;rcases Nat.lt_or_ge i n with h|h
   ·have hlt:(i:Int)<(n:Int):=by omega
    have hnx:((i+1:Nat):Int)=IntKind.wrap .i64 ((i:Int)+1):=by rw [np] <;> omega
    rw [show n - i=(n - (i+1))+1 by omega,uf] at tl;have hr:ti (b.drop a):=tk hb a;have hB:=Ay (b.drop a) hr (by rw [List.length_drop];omega);have hbk:=@CJ (b.drop a) hr;rw [List.length_drop] at hbk;have hb0:0<=(a:Int)/\(a:Int)<=((b.map Y).length:Int)/\((b.map Y).length:Int)<=((b.map Y).length:Int):=by rw [List.length_map];omega
    have hs0:T.slice 1 (((b.map Y).take ((((b.map Y).length:Nat):Int)).toNat).drop ((a:Int)).toNat)=bT (b.drop a):=by
     rw [Int.toNat_natCast,vg]
    unfold uz at tl;generalize gb (b.drop a)=g1 at *
    obtain ⟨v,f,e1⟩:=g1;dsimp only at hB hbk tl;clear hG
    repeat' ((conv=>whnf);first|refine ru hlt ?_|refine aS ?_|fail)
    refine sO (β:=Unit) (fun _=>{sl:=[(0,.t (bT b)),(4,.t (I n)),(5,.t (I a)),(7,.own 88 46 4 (acc.map tc)),(8,.t (I i)),(9,.t (.str v)),(10,.t (I f)),(11,.t (I e1))],bx:=[]}) (fun _=>True) ?_ ?_
    ·repeat' ((conv=>whnf);first|(refine nv_ (bT (b.drop a)) (by first|exact hs0) ?_)|refine sV _ (hB) ?_|(exact ⟨(),trivial,by (repeat' (first|exact wJ|refine And.intro ?_ ?_));done⟩)|(refine And.intro (by first|exact hb0) ?_)|fail)
    rintro _ _;clear hB hb0 hs0
    by_cases d1:e1≠0
    ·rw [if_pos d1,if_pos d1] at tl;obtain ⟨rfl,rfl⟩:=hDe (by rw [<- tl];exact d1);rw [<- tl]
     repeat' ((conv=>whnf);first|refine sW d1 ?_|refine rix ?_|refine aS ?_|exact trivial)
    have d1':e1=0:=by omega
    obtain ⟨f1,f2⟩:=hbk d1';obtain ⟨f,rfl⟩:=Int.eq_ofNat_of_zero_le f1;rw [if_neg d1,Int.toNat_natCast,List.drop_drop] at tl;have hw1:((a+f:Nat):Int)=IntKind.wrap .i64 ((a:Int)+(f:Int)):=by rw [np (by omega) (by omega)];omega
    have hI:=vp (b.drop (a+f)) (tk hb _) (by rw [List.length_drop];omega);have hik:=@vj (b.drop (a+f)) (tk hb _);rw [List.length_drop] at hik;have hb1:0<=IntKind.wrap .i64 ((a:Int)+(f:Int))/\IntKind.wrap .i64 ((a:Int)+(f:Int))<=((b.map Y).length:Int)/\((b.map Y).length:Int)<=((b.map Y).length:Int):=by rw [<- hw1,List.length_map];omega
    have hs1:T.slice 1 (((b.map Y).take ((((b.map Y).length:Nat):Int)).toNat).drop (IntKind.wrap .i64 ((a:Int)+(f:Int))).toNat)=bT (b.drop (a+f)):=by
     rw [<- hw1,Int.toNat_natCast (n:=a+f),vg]
    generalize tj (b.drop (a+f))=g2 at *
    obtain ⟨ks,s2,e2⟩:=g2;dsimp only at hik tl;obtain ⟨kt,hkt⟩: ∃kt:T,(e2≠0->kt= .nil)/\(e2=0->kt= .slice 1 (ks.map I)):=⟨if e2≠0 then .nil else .slice 1 (ks.map I),fun h=>if_pos h,fun h=>if_neg (by simpa using h)⟩
    have hI:DCalls Tryz.prog 29 [bT (b.drop (a+f))] (.tup [kt,I s2,I e2]):=by
     have e:gsT (ks,s2,e2)= .tup [kt,I s2,I e2]:=by
      show T.tup [if e2≠0 then .nil else _,_,_]=_
      by_cases d:e2=0
      ·rw [if_neg (by simpa using d),hkt.2 d]
      ·rw [if_pos d,hkt.1 d]
     rw [<- e];exact hI
    repeat' ((conv=>whnf);first|refine rz d1' ?_|refine aS ?_|fail)
    refine sO (β:=Unit) (fun _=>{sl:=[(0,.t (bT b)),(4,.t (I n)),(5,.t (I (a+f:Nat))),(7,.own 88 46 4 (acc.map tc)),(8,.t (I i)),(9,.t (.str v)),(10,.t (I s2)),(12,.t kt),(13,.t (I e2))],bx:=[]}) (fun _=>True) ?_ ?_
    ·repeat' ((conv=>whnf);first|(refine nv_ (bT (b.drop (a+f))) (by first|exact hs1) ?_)|refine sV _ (hI) ?_|(exact ⟨(),trivial,by (repeat' (first|(exact leI hw1)|exact wJ|refine And.intro ?_ ?_));done⟩)|(refine And.intro (by first|exact hb1) ?_)|fail)
    rintro _ _;clear hI hs1 hb1 hw1
    by_cases d2:e2≠0
    ·rw [if_pos d2,if_pos d2] at tl;obtain ⟨rfl,rfl⟩:=hDe (by rw [<- tl];exact d2);rw [<- tl]
     repeat' ((conv=>whnf);first|refine sW d2 ?_|refine rix ?_|refine aS ?_|exact trivial)
    have d2':e2=0:=by omega
    rw [hkt.2 d2'];obtain ⟨k1,k2⟩:=hik d2';obtain ⟨s2,rfl⟩:=Int.eq_ofNat_of_zero_le (show 0<=s2 by omega);rw [if_neg d2,Int.toNat_natCast,List.drop_drop] at tl;have hw2:((a+f+s2:Nat):Int)=IntKind.wrap .i64 (((a+f:Nat):Int)+(s2:Int)):=by rw [np (by omega) (by omega)];omega
    have hI3:=vp (b.drop (a+f+s2)) (tk hb _) (by rw [List.length_drop];omega);have vQ:=@vj (b.drop (a+f+s2)) (tk hb _);rw [List.length_drop] at vQ;have hb2:0<=IntKind.wrap .i64 (((a+f:Nat):Int)+(s2:Int))/\IntKind.wrap .i64 (((a+f:Nat):Int)+(s2:Int))<=((b.map Y).length:Int)/\((b.map Y).length:Int)<=((b.map Y).length:Int):=by rw [<- hw2,List.length_map];omega
    have hs2:T.slice 1 (((b.map Y).take ((((b.map Y).length:Nat):Int)).toNat).drop (IntKind.wrap .i64 (((a+f:Nat):Int)+(s2:Int))).toNat)=bT (b.drop (a+f+s2)):=by
     rw [<- hw2,Int.toNat_natCast (n:=a+f+s2),vg]
    generalize tj (b.drop (a+f+s2))=g3 at *
    obtain ⟨tw,s3,e3⟩:=g3;dsimp only at vQ tl;obtain ⟨k3t,hk3⟩: ∃kt:T,(e3≠0->kt= .nil)/\(e3=0->kt= .slice 1 (tw.map I)):=⟨if e3≠0 then .nil else .slice 1 (tw.map I),fun h=>if_pos h,fun h=>if_neg (by simpa using h)⟩
    have hI3:DCalls Tryz.prog 29 [bT (b.drop (a+f+s2))] (.tup [k3t,I s3,I e3]):=by
     have e:gsT (tw,s3,e3)= .tup [k3t,I s3,I e3]:=by
      show T.tup [if e3≠0 then .nil else _,_,_]=_
      by_cases d:e3=0
      ·rw [if_neg (by simpa using d),hk3.2 d]
      ·rw [if_pos d,hk3.1 d]
     rw [<- e];exact hI3
    repeat' ((conv=>whnf);first|refine rz d2' ?_|refine aS ?_|fail)
    refine sO (β:=Unit) (fun _=>{sl:=[(0,.t (bT b)),(4,.t (I n)),(5,.t (I (a+f+s2:Nat))),(7,.own 88 46 4 (acc.map tc)),(8,.t (I i)),(9,.t (.str v)),(10,.t (I s3)),(12,.t (.slice 1 (ks.map I))),(14,.t k3t),(15,.t (I e3))],bx:=[]}) (fun _=>True) ?_ ?_
    ·repeat' ((conv=>whnf);first|(refine nv_ (bT (b.drop (a+f+s2))) (by first|exact hs2) ?_)|refine sV _ (hI3) ?_|(exact ⟨(),trivial,by (repeat' (first|(exact leI hw2)|exact wJ|refine And.intro ?_ ?_));done⟩)|(refine And.intro (by first|exact hb2) ?_)|fail)
    rintro _ _;clear hI3 hs2 hb2 hw2
    by_cases d3:e3≠0
    ·rw [if_pos d3,if_pos d3] at tl;obtain ⟨rfl,rfl⟩:=hDe (by rw [<- tl];exact d3);rw [<- tl]
     repeat' ((conv=>whnf);first|refine sW d3 ?_|refine rix ?_|refine aS ?_|exact trivial)
    have d3':e3=0:=by omega
    rw [hk3.2 d3'];rw [if_neg d3] at tl;have hlw:((tw.map I).length:Int)=tw.length:=by rw [List.length_map]
    by_cases d4:tw.length≠2
    ·rw [if_pos d4,if_pos (by decide)] at tl;obtain ⟨rfl,rfl⟩:=hDe (by rw [<- tl];decide);rw [<- tl];have d4':((tw.map I).length:Int)≠2:=by omega
     repeat' ((conv=>whnf);first|refine rz d3' ?_|refine sW d4' ?_|refine rix ?_|refine aS ?_|exact trivial)
    obtain ⟨k3,k4⟩:=vQ d3';obtain ⟨s3,rfl⟩:=Int.eq_ofNat_of_zero_le (show 0<=s3 by omega);rw [if_neg d4,if_neg (by simp),Int.toNat_natCast] at tl;dsimp only at tl;rw [List.drop_drop] at tl;obtain ⟨x,c,rfl⟩: ∃x c,tw=[x,c]:=by
     match tw,(show tw.length=2 by omega) with
     |[x,c],_=>exact ⟨x,c,rfl⟩
    have hw3:((a+f+s2+s3:Nat):Int)=IntKind.wrap .i64 (((a+f+s2:Nat):Int)+(s3:Int)):=by rw [np (by omega) (by omega)];omega
    have hrm:((acc.map tc).length+1) * 56<=140737488355328:=by rw [List.length_map];omega
    have hsn:(acc++[(⟨v,ks,x,c⟩:RE)]).map tc=acc.map tc++[tc ⟨v,ks,x,c⟩]:=by rw [List.map_append];rfl
    have hmu:n - (i+1)<n - i:=by omega
    have vP:uf (n - (i+1)) (b.drop (a+f+s2+s3)) (acc++[(⟨v,ks,x,c⟩:RE)])=D:=tl;have F1:a+f+s2+s3<=b.length:=by omega
    have BS:(acc++[(⟨v,ks,x,c⟩:RE)]).length<=a+f+s2+s3:=by rw [List.length_append,List.length_singleton];omega
    clear tl hik vQ hbk hlw hkt hk3
    repeat' ((conv=>whnf);first|refine rz d3' ?_|(exact ⟨(i+1,a+f+s2+s3,acc++[⟨v,ks,x,c⟩]),⟨h,F1,BS,vP⟩,hmu,by (repeat' (first|(exact leI hnx)|(exact leI hw3)|(exact s6 hsn)|exact wJ|refine And.intro ?_ ?_));done⟩)|refine aN0 ?_|(refine And.intro (by first|exact hrm) ?_)|refine aS ?_|refine nT_ ?_)
   ·have hlt: ¬(i:Int)<(n:Int):=by omega
    rw [show n - i=0 by omega] at tl;have vP:D=(acc,b.drop a,0):=tl.symm
    repeat' ((conv=>whnf);first|refine rq hlt ?_|(exact ⟨(a,acc),⟨hab,vP⟩,by (repeat' (first|exact wJ|refine And.intro ?_ ?_));done⟩)|refine aS ?_|fail)
  ·rintro ⟨a,acc⟩ ⟨hab,hDD⟩;dsimp only at hab hDD;have hrl:((b.map Y).length:Int)=b.length:=by rw [List.length_map]
   by_cases c5:a=b.length
   ·obtain ⟨rfl,rfl⟩:=hDo (by rw [hDD]) (by rw [hDD,c5];exact List.drop_length);have c6:(a:Int)=((b.map Y).length:Int):=by omega
    rw [hDD]
    repeat' ((conv=>whnf);first|refine rz c6 ?_|refine rix ?_|refine aS ?_|exact trivial)
   ·have hne:b.drop a≠[]:=fun h=>by
     have:=congrArg List.length h
     rw [List.length_drop,List.length_nil] at this;omega
    obtain ⟨rfl,rfl⟩:=hD6 (by rw [hDD]) (by rw [hDD];exact hne);have c6:(a:Int)≠((b.map Y).length:Int):=by omega
    repeat' ((conv=>whnf);first|refine sW c6 ?_|refine rix ?_|refine aS ?_|exact trivial)
 have h:=main (if (tK b).2≠0 then .nil else esT (tK b).1) (tK b).2 (fun h=>⟨if_pos h,rfl⟩) (fun h=>⟨if_neg (by simpa using h),h⟩);exact h
end Go.ST
end
section
namespace Go.ST
open Go Go.DL Go.MM Go.Proofs
open Go.TY hiding Fd
open Go.RC (vi vis vs i64 ti Y tG zP tF vI H msg vS DR CC sB ui uy uo ve zW)
theorem yi(l:List Int):ti (vis l):=fun b hb=>by
 rcases List.mem_append.1 hb with h|h
 ·exact uo _ b h
 ·obtain ⟨x,_,hx⟩:=List.mem_flatMap.1 h;exact uo x b hx
theorem wW(st:List RE):ti (tD st):=fun b h=>by
 rcases List.mem_append.1 h with h|h
 ·exact uo _ b h
 ·obtain ⟨x,_,hx⟩:=List.mem_flatMap.1 h;rcases List.mem_append.1 hx with h|h
  ·exact ve _ b h
  rcases List.mem_append.1 h with h|h
  ·exact yi _ b h
  ·exact yi _ b h
def txE(st:List RE):ByteArray:=nQ ((tD st).map Y)
def dgE(st:List RE):List Int:=H (msg 8 [txE st])
theorem wA(st:List RE):(dgE st).length=16:=CC _
theorem zn(st:List RE):sB (txE st)=tD st:=uy _ (wW st)
theorem uN{st:List RE}(hl:(tD st).length<2^28):(txE st).size<2^33:=by
 rw [<- ui,zn];omega
theorem yg(st:List RE)(hz: ∀e∈st,SzE e)(hlen:st.length<2^28)(hl:(tD st).length<2^28):DCalls Tryz.prog 11 [esT st] (zW (dgE st)):=by
 have hE:=wS st hz hlen hl;have hsz:=uN hl;have hO:=Go.RC.Cm 8 [txE st] (fun s hs=>by rw [List.mem_singleton.1 hs];omega) (nlZ rfl);have hdl:=wA st;refine dl2 mixed [.cell 2 31] [.agg _] Tryz.func11 Go.STF.l11 ?_;unfold dgE at *
 generalize H (msg 8 [txE st])=ds at hO hdl;unfold txE at hO;generalize tD st=code at *
 repeat' ((conv=>whnf);first|refine sV _ (hE) ?_|refine sV _ (hO) ?_|refine nT_ ?_|(refine And.intro (by first|exact tW _|(exact ⟨(List.length_map _).trans hdl,by decide⟩;done)|fail) ?_)|refine aS ?_|refine rt ?_ trivial)
 exact congrArg T.agg (tF rfl)
theorem Bo(st:List RE)(hz: ∀e∈st,SzE e)(hlen:st.length<2^28)(hl:(tD st).length<2^28):DCalls Tryz.prog 12 [esT st] (zW (dgE st)):=by
 have hE:=wO st hz hlen hl;have hsz:=uN hl;have hO:=zP 8 [txE st] (fun s hs=>by rw [List.mem_singleton.1 hs];omega) (nlZ rfl);rw [<- DR _ (vS _ _)] at hO;have hdl:=wA st;refine dl2 mixed [.cell 2 31] [.agg _] Tryz.func12 Go.STF.l12 ?_;unfold dgE at *
 generalize H (msg 8 [txE st])=ds at hO hdl;unfold txE at hO;generalize tD st=code at *
 repeat' ((conv=>whnf);first|refine sV _ (hE) ?_|refine sV _ (hO) ?_|refine nT_ ?_|(refine And.intro (by first|exact tW _|(exact ⟨(List.length_map _).trans hdl,by decide⟩;done)|fail) ?_)|refine aS ?_|refine rt ?_ trivial)
 exact congrArg T.agg (tF rfl)
def inE(st:List RE):List Int:=msg 8 [txE st]
theorem ED{a b:ByteArray}(ha:a.size<2^40)(hb:b.size<2^40)(h:vs a=vs b):a=b:=by
 have h1:=Ab ha [];have h2:=Ab hb [];rw [h,h2] at h1;exact (congrArg Prod.fst h1).symm
theorem Dg{a b:List RE}(ha: ∀e∈a,SzE e)(hb: ∀e∈b,SzE e)(la:a.length<2^28)(lb:b.length<2^28)(ea:(tD a).length<2^28)(eb:(tD b).length<2^28)
  (h:nQ ((inE a).map Y)=nQ ((inE b).map Y)):a=b:=by
 have h1:=congrArg sB h;unfold inE at h1;rw [uy _ (vS _ _),uy _ (vS _ _)] at h1;have h2:vs (txE a)++[]=vs (txE b)++[]:=by
  have:=List.tail_eq_of_cons_eq h1
  simpa using this
 rw [List.append_nil,List.append_nil] at h2;have h3:=congrArg sB (ED (by have:=uN ea;omega) (by have:=uN eb;omega) h2);rw [zn,zn] at h3;have d1:=vK ha (by omega);have d2:=vK hb (by omega);rw [h3,d2] at d1;exact (congrArg Prod.fst d1).symm
end Go.ST
end
section
end
section
end
section
end
section
end
section
end
section
end
section
namespace Go.MM
open Go Go.DL Go.Proofs
def xq:ByteArray:=⟨#[100,115,116]⟩
def wP:ByteArray:=⟨#[115,114,99]⟩
def yu:ByteArray:=⟨#[107,105,110,100]⟩
end Go.MM
end
section
end
section
end
section
end
section
end
section
end
section
end
section
end
section
end
section
end
section
end
section
end
section
end
section
end
section
end
section
end
section
end
section
end
section
end
section
end
section
end
section
end
section
end
section
end
section
end
section
end
section
end
section
end
section
end
section
namespace Go.TY
open Go Go.DL Go.MM Go.Proofs
theorem Be{ks:List Nat}{bx:Nat->Option BX}{n e w:Nat}{us xs:List T}(h:us=xs):LeV ks bx (.t (.slice w us)) (.own n e w xs):=by rw [h];exact LeV.data _ _ _ _
end Go.TY
end
section
end
section
end
section
end
section
end
section
end
section
end
section
end
section
end
section
end
section
end
section
end
section
end
section
end
section
end
section
end
section
end
section
end
section
end
section
end
section
end
section
end
section
end
section
end
section
end
section
end
section
end
section
end
section
end
section
end
section
namespace Go.ST
open Go Go.DL Go.MM
open Go.TY hiding Fd
def preB(l:List Fd)(s:RS)(st:List RE)(h:List Int)(tick:Int):Bool:=
 !tx l ⟨#[]⟩&&(h.length==10)&&vm h&&uv st&&decide (st.length<=1000000)&&st.all xE&&decide (0<=tick)&&decide (tick<=1073741824)&&decide (0<=s.kind)&&decide (s.kind<=6)
  &&s.key.all (tx l)&&decide (s.key.length<=1000)&&(!decide (s.kind=3)||(decide (0<=s.n)&&decide (s.n<=1073741824)))
  &&(!decide (s.kind=4)||(decide (0<=s.n)&&decide (s.n<=65535)&&decide (s.n<=s.m)&&decide (s.m<=65535)))
  &&(!decide (s.kind=5)||(tx l s.field&&st.all fun e=> !decide (e.var=s.var)||(decide (e.key.length=s.key.length)&&e.key.all fun x=>decide (0<=x))))
  &&(!decide (s.kind=6)||(decide (1<=s.n)&&decide (s.n<=65535)&&decide (1<=s.m)&&decide (s.m<=1073741824)))
  &&st.all fun e=>decide (e.key.length<2^60)
theorem Du{l:List Fd}(hl:LOk l){s:RS}{st:List RE}{h:List Int}{tick:Int}(hp:preB l s st h tick=true):zQ l s st h tick/\ ∀e∈st,e.key.length<2^60:=by
 unfold preB at hp;simp only [Bool.and_eq_true,decide_eq_true_eq,List.all_eq_true,Bool.not_eq_true',beq_iff_eq,Bool.or_eq_true,decide_eq_false_iff_not] at hp;obtain ⟨⟨⟨⟨⟨⟨⟨⟨⟨⟨⟨⟨⟨⟨⟨⟨a1,a2⟩,a3⟩,a4⟩,a5⟩,a6⟩,a7⟩,a8⟩,a9⟩,b1⟩,b2⟩,b3⟩,b4⟩,b5⟩,b6⟩,b7⟩,b8⟩:=hp;refine ⟨⟨hl,a1,⟨a2,a3⟩,uM.1 a4,a5,fun e he=>?_,a7,a8,a9,b1,b2,b3,fun h3=>?_,fun h4=>?_,fun h5=>?_,fun h6=>?_⟩,b8⟩
 ·have:=a6 e he
  unfold xE at this;simp only [Bool.and_eq_true,decide_eq_true_eq] at this;omega
 ·rcases b4 with h|h
  ·exact absurd h3 h
  ·exact h
 ·rcases b5 with h|h
  ·exact absurd h4 h
  ·omega
 ·rcases b6 with h|h
  ·exact absurd h5 h
  ·refine ⟨h.1,fun e he hv=>?_⟩;rcases h.2 e he with h'|h'
   ·exact absurd hv h'
   ·exact h'
 ·rcases b7 with h|h
  ·exact absurd h6 h
  ·omega
abbrev uC(t:Int×Int×Int):List Int:=[0,t.2.1 * 256+t.1,0,0,0,0,0,0,0,0]
def AK(l:List Fd)(s:RS)(name:ByteArray)(t:Int×Int×Int)(st:List RE):Int:=if (doE l s st (uC t) t.2.2).pass then (uh (fld l name) (doE l s st (uC t) t.2.2).h:Int) else -1
def tV(l:List Fd)(s:RS)(name:ByteArray):List (Int×Int×Int)->List Int×List RE->List Int×List RE
 |[],r=>r
 |t::ts,r=>tV l s name ts (r.1++[AK l s name t r.2],(doE l s r.2 (uC t) t.2.2).st)
def xJ(l:List Fd)(s:RS)(name:ByteArray):List (Int×Int×Int)->List RE->Bool
 |[],_=>true
 |t::ts,st=>decide (0<=t.1)&&decide (t.1<256)&&decide (0<=t.2.1)&&decide (t.2.1<256)&&preB l s st (uC t) t.2.2&&vm (doE l s st (uC t) t.2.2).h&&((doE l s st (uC t) t.2.2).h.length==10)&&xJ l s name ts (doE l s st (uC t) t.2.2).st
end Go.ST
end
noncomputable section
namespace Go.ST7
open Go Go.DL Go.Proofs
def c15:aV:=(sr [⟨some 8,.alloc [Z0,S0,.nil,S0,Z0,Z0],none,[]⟩] (sr [mv 9 0,⟨some 10,.buildS 9 1 1 [S0] [(0,(.const (.str ⟨#[115,114,99]⟩)))],none,[]⟩,mv 11 1,mv 12 2,mv 13 3,⟨some 14,.build [Z0,S0,.nil,S0,Z0,Z0] [(0,1,(tm 9)),(1,1,(.const (.str ⟨#[118]⟩))),(2,1,(tm 10)),(3,1,(tm 11)),(4,1,(tm 12)),(5,1,(tm 13))],none,[]⟩,o0 (.store 6 (tm 8) (tm 14))] .ret))
theorem l15:(Tryz.f15.body.bind (bp Tryz.prog 15 []))=some c15:=by kernel_rfl
def c39:aV:=(sr [oo 0 (.mov (.const .nil))] (sr [⟨some 1,.build [S0,Z0,Z0] [(0,1,(.const (.str ⟨#[100,115,116]⟩))),(1,1,(Kc 16)),(2,1,(Kc 8))],none,[]⟩,⟨some 2,.build [S0,Z0,Z0] [(0,1,(.const (.str ⟨#[115,114,99]⟩))),(1,1,(Kc 24)),(2,1,(Kc 8))],none,[]⟩,⟨some 3,.build [S0,Z0,Z0] [(0,1,(.const (.str ⟨#[107,105,110,100]⟩))),(1,1,(Kc 33)),(2,1,(Kc 3))],none,[]⟩,⟨some 4,.buildS 72 3 3 [S0,Z0,Z0] [(0,(tm 1)),(1,(tm 2)),(2,(tm 3))],none,[]⟩,mv 0 4] .ret))
theorem l39:(Tryz.f39.body.bind (bp Tryz.prog 5 []))=some c39:=by kernel_rfl
end Go.ST7
end
section
namespace Go.STA
open Go Go.DL Go.Proofs
noncomputable def c14:aV:=(sr [oo 4 (.box 6 (tm 0)),oo 8 (.mov (.const .nil)),oo 9 (.mov (.const .nil))] (sr [oo 10 (.mov (.const .nil))] (.seq (sr [oo 11 (.mov (Kc 0))] (.block 0 (.loop (.seq (sr [mv 18 11,mv 19 3,ln 20 19,oo 21 (.bin .lss (tm 18) (tm 20))] (.cond (tm 21) .skip (.exit 0))) (.seq (.block 1 (sr [mv 24 3,mv 25 11,ix 26 3 24 25,oo 27 (.idxA 3 1 (tm 26) (Kc 1)),ld 28 27,oo 29 (.bin .mul (tm 28) (Kc 256)),mv 30 3,mv 31 11,ix 32 3 30 31,oo 33 (.idxA 3 1 (tm 32) (Kc 0)),ld 34 33,oo 35 (.bin .add (tm 29) (tm 34)),oo 36 (.build [Z0,Z0,Z0,Z0,Z0,Z0,Z0,Z0,Z0,Z0] [(0,1,(Kc 0)),(1,1,(tm 35))]),oo 12 (.alloc [Z0,Z0,Z0,Z0,Z0,Z0,Z0,Z0,Z0,Z0]),o0 (.store 10 (tm 12) (tm 36))] (.seq (.cut (rg [oo 38 (.call 39 []),lA 39 6 4,mv 40 1,lA 41 10 12,mv 42 3,mv 43 11,ix 44 3 42 43,oo 45 (.idxA 3 1 (tm 44) (Kc 2)),ld 46 45,oo 47 (.call 38 [(tm 38),(tm 39),(tm 40),(tm 41),(tm 46)]),mv 37 47,oo 48 (.ext (tm 37) 0),oo 49 (.ext (tm 37) 1),oo 50 (.ext (tm 37) 2),oo 13 (.alloc [Z0,Z0,Z0,Z0,Z0,Z0,Z0,Z0,Z0,Z0]),o0 (.store 10 (tm 13) (tm 48)),mv 14 49,mv 15 50])) (sr [mv 51 15,mv 1 51] (.seq (.cut (rg [oo 53 (.call 39 []),mv 54 2,oo 55 (.call 40 [(tm 53),(tm 54)]),mv 52 55,oo 56 (.ext (tm 52) 0),oo 57 (.ext (tm 52) 1),⟨some 16,.alloc [S0,Z0,Z0],none,[]⟩,o0 (.store 3 (tm 16) (tm 56)),mv 17 57])) (sr [mv 58 14] (.cond (tm 58) (rg [mv 59 10,lA 60 3 16,lA 61 10 13,oo 62 (.call 41 [(tm 60),(tm 61)]),oo 63 (.buildF 1 1 [Z0] [(0,(tm 62))]),oo 64 (.append 38 3 1 8 (tm 59) (tm 63)),mv 10 64]) (rg [mv 65 10,oo 66 (.buildF 1 1 [Z0] [(0,(.const (.int .i64 (-1))))]),oo 67 (.append 38 3 1 8 (tm 65) (tm 66)),mv 10 67])))))))) (rg [mv 22 11,oo 23 (.bin .add (tm 22) (Kc 1)),mv 11 23])))))) (sr [mv 68 10,mv 69 1,mv 8 68,mv 9 69] .ret))))
theorem l14:(Tryz.f14.body.bind (bp Tryz.prog 70 [6000006,6000008,8000063,8000066]))=some c14:=by kernel_rfl
end Go.STA
end
section
namespace Go.ST
open Go Go.DL Go.MM Go.Proofs
open Go.TY hiding Fd
def vN:ByteArray:=⟨#[118]⟩
abbrev stp(k:Int)(f:ByteArray)(n m:Int):RS:=⟨k,vN,[wP],f,n,m⟩
theorem vk(k:Int)(f:ByteArray)(n m:Int):DCalls Tryz.prog 15 [I k,.str f,I n,I m] (vr (stp k f n m)):=by
 refine dl2 mixed [.cell 8 42] [.agg (vF (stp k f n m))] Tryz.func15 Go.ST7.l15 ?_
 repeat' ((conv=>whnf);first|refine aS ?_|exact trivial)
def L17:List Fd:=[⟨xq,16,8⟩,⟨wP,24,8⟩,⟨yu,33,3⟩]
theorem Ca:LOk L17:=⟨by decide,fun f hf=>by
 simp only [L17,List.mem_cons,List.not_mem_nil,or_false] at hf;rcases hf with rfl|rfl|rfl <;> exact ⟨by decide,by decide,by decide⟩⟩
theorem Bd:DCalls Tryz.prog 39 [] (fds L17):=by
 refine dl2 mixed [.tmp 0] [fds L17] Tryz.func39 Go.ST7.l39 ?_
 repeat' ((conv=>whnf);first|refine aS ?_|exact trivial)
abbrev tri(t:Int×Int×Int):T:=.agg [I t.1,I t.2.1,I t.2.2]
abbrev wV(ts:List (Int×Int×Int)):T:=.slice 3 (ts.map tri)
theorem zi(l:List Fd)(s:RS)(name:ByteArray): ∀(a b:List (Int×Int×Int)) (r:List Int×List RE),tV l s name (a++b) r=tV l s name b (tV l s name a r)
 |[],_,_=>rfl
 |_::a,b,_=>zi l s name a b _
theorem yf(l:List Fd)(s:RS)(name:ByteArray){ts:List (Int×Int×Int)}{i:Nat}(h:i<ts.length)(r:List Int×List RE):
  tV l s name (ts.take (i+1)) r=((tV l s name (ts.take i) r).1++[AK l s name ts[i] (tV l s name (ts.take i) r).2],(doE l s (tV l s name (ts.take i) r).2 (uC ts[i]) ts[i].2.2).st):=by
 rw [List.take_succ_eq_append_getElem h,zi];rfl
structure FF (l:List Fd) (s:RS) (t:Int×Int×Int) (st:List RE):Prop where
 a0:0<=t.1
 a1:t.1<256
 b0:0<=t.2.1
 b1:t.2.1<256
 pre:zQ l s st (uC t) t.2.2
 k: ∀e∈st,kOk e
 ok:HOk (doE l s st (uC t) t.2.2).h
theorem zN{l:List Fd}(hl:LOk l){s:RS}{name:ByteArray}: ∀{ts:List (Int×Int×Int)} {r:List Int×List RE},xJ l s name ts r.2=true-> ∀i (h:i<ts.length),FF l s ts[i] (tV l s name (ts.take i) r).2
 |[],_,_,i,h=>by simp at h
 |t::ts,r,hb,i,h=>by
  unfold xJ at hb;simp only [Bool.and_eq_true,decide_eq_true_eq,beq_iff_eq] at hb;obtain ⟨⟨⟨⟨⟨⟨⟨h1,h2⟩,h3⟩,h4⟩,h5⟩,h6⟩,h7⟩,h8⟩:=hb;cases i with
  |zero=>
   obtain ⟨p,q⟩:=Du hl h5;exact ⟨h1,h2,h3,h4,p,q,⟨h7,h6⟩⟩
  |succ i=>exact zN hl (ts:=ts) (r:=(r.1++[AK l s name t r.2],(doE l s r.2 (uC t) t.2.2).st)) h8 i (by simpa using h)
theorem GG{ts:List (Int×Int×Int)}{i:Nat}(h:i<ts.length):(ts.map tri)[i]?.getD .nil=tri ts[i]:=by simp [h]
theorem Ct(s:RS)(st:List RE)(name:ByteArray)(ts:List (Int×Int×Int))(hl:ts.length<2^20)(hb:xJ L17 s name ts st=true)(hf:tx L17 name=true):
  DCalls Tryz.prog 14 [vr s,esT st,.str name,wV ts] (.tup [.slice 1 ((tV L17 s name ts ([],st)).1.map I),esT (tV L17 s name ts ([],st)).2]):=by
 refine dl2 mixed [.tmp 8,.tmp 9] [.slice 1 _,esT _] Tryz.func14 Go.STA.l14 ?_;have hn:((ts.map tri).length:Int)=ts.length:=by rw [List.length_map]
 have hA:=zN (name:=name) (r:=([],st)) Ca hb;have hEx:=Bd;have hlen: ∀i,i<=ts.length->(tV L17 s name (ts.take i) ([],st)).1.length=i:=by
  intro i
  induction i with
  |zero=>intro _;simp [tV]
  |succ i ih=>intro h;rw [yf L17 s name h,List.length_append,ih (by omega)];rfl
 have hFd:=Dz L17 Ca name;rw [hf] at hFd;have hFo:FOk (MM.fld L17 name):=Ek Ca hf
 repeat' ((conv=>whnf);first|refine aS ?_|fail)
 refine sa 0 (α:=Nat×Nat) (β:=Unit) (fun p=>{sl:=[(1,.t (esT (tV L17 s name (ts.take p.1) ([],st)).2)),(2,.t (.str name)),(3,.t (wV ts)),(4,.ptr 4 0),(10,.own p.2 3 1 ((tV L17 s name (ts.take p.1) ([],st)).1.map I)),(11,.t (I p.1))],bx:=[(4,.d 6 (vF s))]})
  (fun p=>p.1<=ts.length/\(p.2=64\/p.2=67)) (fun p=>ts.length - p.1)
  (fun _=>{sl:=[(1,.t (esT (tV L17 s name ts ([],st)).2)),(10,.t (.slice 1 ((tV L17 s name ts ([],st)).1.map I)))],bx:=[]}) (fun _=>True) (0,64) ⟨by simp,Or.inl rfl⟩ ?_ ?_ ?_
 ·repeat' (first|exact wJ|refine And.intro ?_ ?_)
 ·rintro ⟨i,r⟩ ⟨hi,hr⟩;dsimp only at hi hr;rcases Nat.lt_or_ge i ts.length with h|h
  ·have hlt:(i:Int)<((ts.map tri).length:Int):=by omega
   have hg:=GG h;have a:=hA i h;have e1:=yf L17 s name h ([],st);have hol:=hlen i (by omega);have hdo:=GF a.pre a.k;have gD:=t57 (MM.fld L17 name) hFo _ a.ok;obtain ⟨t,ht⟩: ∃t,ts[i]=t:=⟨_,rfl⟩
   rw [ht] at hg e1 hdo gD;have b0:=ht▸a.a0;have b1:=ht▸a.a1;have b2:=ht▸a.b0;have b3:=ht▸a.b1;have hx:=ten (ht▸a.ok);generalize tV L17 s name (ts.take i) ([],st)=q at *
   have e2:AK L17 s name t q.2=if (doE L17 s q.2 (uC t) t.2.2).pass then (uh (fld L17 name) (doE L17 s q.2 (uC t) t.2.2).h:Int) else -1:=rfl
   rw [e2] at e1;obtain ⟨t0,t1,t2⟩:=t;dsimp only at *
   have hmul:IntKind.wrap .i64 (IntKind.wrap .i64 (t1 * 256)+t0)=t1 * 256+t0:=by rw [np (n:=t1 * 256) (by omega) (by omega),np (by omega) (by omega)]
   have hnx:((i+1:Nat):Int)=IntKind.wrap .i64 ((i:Int)+1):=by rw [np] <;> omega
   have hH:hd (uC (t0,t1,t2))= .agg [I 0,I (t1 * 256+t0),I 0,I 0,I 0,I 0,I 0,I 0,I 0,I 0]:=rfl;rw [hH] at hdo;generalize doE L17 s q.2 (uC (t0,t1,t2)) t2=d at *
   obtain ⟨dh,dp,ds⟩:=d;dsimp only at *
   obtain ⟨y0,y1,y2,y3,y4,y5,y6,y7,y8,y9,rfl⟩:=hx;have hdo:DCalls Tryz.prog 38 [fds L17,vr s,esT q.2,.agg [I 0,I (t1 * 256+t0),I 0,I 0,I 0,I 0,I 0,I 0,I 0,I 0],I t2] (.tup [hd [y0,y1,y2,y3,y4,y5,y6,y7,y8,y9],.bool dp,esT ds]):=hdo;rw [<- hmul] at hdo;have hmu:ts.length - (i+1)<ts.length - i:=by omega
   have ha:=a;clear hb hA hlen a
   repeat' ((conv=>whnf);first|refine ru hlt ?_|(refine nv_ (.agg [I t0,I t1,I t2]) (by first|exact hg) ?_)|refine aS ?_|refine nT_ ?_)
   refine sO (β:=Unit) (fun _=>{sl:=[(2,.t (.str name)),(3,.t (wV ts)),(4,.ptr 4 0),(10,.own r 3 1 (q.1.map I)),(11,.t (I i)),(13,.ptr 13 0),(14,.t (.bool dp)),(15,.t (esT ds))],bx:=[(4,.d 6 (vF s)),(13,.d 10 [I y0,I y1,I y2,I y3,I y4,I y5,I y6,I y7,I y8,I y9])]}) (fun _=>True) ?_ ?_
   ·repeat' ((conv=>whnf);first|(refine nv_ (.agg [I t0,I t1,I t2]) (by first|exact hg) ?_)|refine sV _ (hEx) ?_|refine sV _ (hdo) ?_|(exact ⟨(),trivial,by (repeat' (first|exact wJ|refine And.intro ?_ ?_));done⟩)|refine aS ?_|refine nT_ ?_)
   rintro _ _;clear hdo
   skip
   refine sO (β:=Unit) (fun _=>{sl:=[(1,.t (esT ds)),(2,.t (.str name)),(3,.t (wV ts)),(4,.ptr 4 0),(10,.own r 3 1 (q.1.map I)),(11,.t (I i)),(13,.ptr 13 0),(14,.t (.bool dp)),(16,.ptr 16 0)],bx:=[(4,.d 6 (vF s)),(13,.d 10 [I y0,I y1,I y2,I y3,I y4,I y5,I y6,I y7,I y8,I y9]),(16,.d 3 [.str (MM.fld L17 name).name,I (MM.fld L17 name).a,I (MM.fld L17 name).w])]}) (fun _=>True) ?_ ?_
   ·repeat' ((conv=>whnf);first|refine sV _ (hEx) ?_|refine sV _ (hFd) ?_|(exact ⟨(),trivial,by (repeat' (first|exact wJ|refine And.intro ?_ ?_));done⟩)|refine aS ?_|fail)
   rintro _ _;have hsn: ∀z:Int,(q.1++[z]).map I=q.1.map I++[I z]:=fun z=>by rw [List.map_append];rfl
   have hrm:((q.1.map I).length+1) * 8<=140737488355328:=by rw [List.length_map];omega
   clear hEx hFd;cases dp with
   |true=>
    rw [if_pos rfl] at e1;generalize (uh (MM.fld L17 name) [y0,y1,y2,y3,y4,y5,y6,y7,y8,y9]:Int)=z at *
    have hw1:(tV L17 s name (ts.take (i+1)) ([],st)).1.map I=q.1.map I++[I z]:=by rw [e1];exact hsn z
    have hw2:(tV L17 s name (ts.take (i+1)) ([],st)).2=ds:=by rw [e1]
    rcases hr with rfl|rfl
    all_goals
     repeat' ((conv=>whnf);first|refine sV _ (gD) ?_|(exact ⟨(i+1,64),⟨h,Or.inl rfl⟩,hmu,by (repeat' (first|(exact leI hnx)|(exact s6 hw1)|((refine leT ?_;rw [hw2]))|exact wJ|refine And.intro ?_ ?_));done⟩)|(refine And.intro (by first|exact hrm) ?_)|refine aS ?_|fail)
   |false=>
    rw [if_neg (by simp)] at e1;have hw1:(tV L17 s name (ts.take (i+1)) ([],st)).1.map I=q.1.map I++[I (-1)]:=by rw [e1];exact hsn _
    have hw2:(tV L17 s name (ts.take (i+1)) ([],st)).2=ds:=by rw [e1]
    rcases hr with rfl|rfl
    all_goals
     repeat' ((conv=>whnf);first|(exact ⟨(i+1,67),⟨h,Or.inr rfl⟩,hmu,by (repeat' (first|(exact leI hnx)|(exact s6 hw1)|((refine leT ?_;rw [hw2]))|exact wJ|refine And.intro ?_ ?_));done⟩)|(refine And.intro (by first|exact hrm) ?_)|refine aS ?_|fail)
  ·have hlt: ¬(i:Int)<((ts.map tri).length:Int):=by omega
   obtain rfl:i=ts.length:=by omega
   rw [List.take_length];rcases hr with rfl|rfl <;> repeat' ((conv=>whnf);first|refine rq hlt ?_|(exact ⟨(),trivial,by (repeat' (first|(exact Be rfl)|exact wJ|refine And.intro ?_ ?_));done⟩)|refine aS ?_|fail)
 ·rintro _ _
  repeat' ((conv=>whnf);first|refine aS ?_|exact trivial)
end Go.ST
end
section
namespace Go.ST8
open Go Go.DL Go.Proofs
noncomputable def c4:aV:=(sr [oo 0 (.mov kF)] (sr [oo 1 (.mov (.const .nil))] (.seq (sr [oo 2 (.mov (Kc 0))] (.block 0 (.loop (.seq (sr [mv 24 2,oo 25 (.bin .lss (tm 24) (Kc 10))] (.cond (tm 25) .skip (.exit 0))) (.seq (.block 1 (rg [mv 28 1,mv 29 2,oo 30 (.build [Z0,Z0,Z0] [(0,1,(Kc 5)),(1,1,(Kc 0)),(2,1,(tm 29))]),oo 31 (.buildF 3 1 [Z0,Z0,Z0] [(0,(tm 30))]),oo 32 (.append 36 37 3 24 (tm 28) (tm 31)),mv 1 32])) (rg [mv 26 2,oo 27 (.bin .add (tm 26) (Kc 1)),mv 2 27])))))) (.seq (.cut (rg [⟨some 34,.call 15 [(Kc 1),(.const (.str ⟨#[107,105,110,100]⟩)),(Kc 0),(Kc 0)],none,[]⟩,mv 35 1,⟨some 36,.call 14 [(tm 34),(.const .nil),(.const (.str ⟨#[107,105,110,100]⟩)),(tm 35)],none,[]⟩,mv 33 36,oo 37 (.ext (tm 33) 0),oo 38 (.ext (tm 33) 1),mv 3 37,mv 4 38])) (.seq (.cut (rg [mv 39 3,oo 40 (.call 16 [tm 39]),mv 41 40,mT 42 4 41,oT 43 41 (.len (tm 42)),oT 44 41 (.bin .eql (tm 43) (Kc 1)),oo 45 (.pick (tm 41) (tm 44) kF),mv 46 45,mT 47 4 46,oT 48 46 (.idxL 4 (tm 47) (Kc 0)),oT 49 46 (.offA 2 (tm 48)),oT 50 46 (.load 1 false (tm 49)),oT 51 46 (.bin .eql (tm 50) (Kc 10)),oo 52 (.pick (tm 46) (tm 51) kF),mv 5 52])) (.seq (.cut (rg [⟨some 54,.call 15 [(Kc 3),(.const S0),(Kc 3),(Kc 0)],none,[]⟩,oo 55 (.build [Z0,Z0,Z0] [(0,1,(Kc 7)),(1,1,(Kc 0)),(2,1,(Kc 10))]),oo 56 (.buildS 37 3 1 [Z0,Z0,Z0] [(0,(tm 55))]),⟨some 57,.call 14 [(tm 54),(.const .nil),(.const (.str ⟨#[115,114,99]⟩)),(tm 56)],none,[]⟩,mv 53 57,oo 58 (.ext (tm 53) 0),oo 59 (.ext (tm 53) 1),mv 6 58,mv 7 59])) (.seq (.cut (rg [⟨some 61,.call 15 [(Kc 2),(.const S0),(Kc 0),(Kc 0)],none,[]⟩,mv 62 7,oo 63 (.build [Z0,Z0,Z0] [(0,1,(Kc 7)),(1,1,(Kc 0)),(2,1,(Kc 10))]),oo 64 (.buildS 37 3 1 [Z0,Z0,Z0] [(0,(tm 63))]),⟨some 65,.call 14 [(tm 61),(tm 62),(.const (.str ⟨#[115,114,99]⟩)),(tm 64)],none,[]⟩,mv 60 65,oo 66 (.ext (tm 60) 0),oo 67 (.ext (tm 60) 1),mv 8 66,mv 9 67])) (.seq (.cut (rg [⟨some 69,.call 15 [(Kc 3),(.const S0),(Kc 3),(Kc 0)],none,[]⟩,mv 70 9,oo 71 (.build [Z0,Z0,Z0] [(0,1,(Kc 7)),(1,1,(Kc 0)),(2,1,(Kc 13))]),oo 72 (.build [Z0,Z0,Z0] [(0,1,(Kc 7)),(1,1,(Kc 0)),(2,1,(Kc 14))]),oo 73 (.buildS 37 3 2 [Z0,Z0,Z0] [(0,(tm 71)),(1,(tm 72))]),⟨some 74,.call 14 [(tm 69),(tm 70),(.const (.str ⟨#[115,114,99]⟩)),(tm 73)],none,[]⟩,mv 68 74,oo 75 (.ext (tm 68) 0),oo 76 (.ext (tm 68) 1),mv 10 75,mv 11 76])) (.seq (.cut (rg [mv 77 6,ln 78 77,oo 79 (.bin .eql (tm 78) (Kc 1)),mv 80 79,mT 81 6 80,oT 82 80 (.idxL 1 (tm 81) (Kc 0)),oT 83 80 (.load 1 false (tm 82)),oT 84 80 (.bin .eql (tm 83) (.const (.int .i64 (-1)))),oo 85 (.pick (tm 80) (tm 84) kF),mv 86 85,mT 87 9 86,oT 88 86 (.len (tm 87)),oT 89 86 (.bin .eql (tm 88) (Kc 1)),oo 90 (.pick (tm 86) (tm 89) kF),mv 91 90,mT 92 10 91,oT 93 91 (.buildS 3 1 2 [Z0] [(0,(Kc 7)),(1,(.const (.int .i64 (-1))))]),oT 94 91 (.call 17 [(tm 92),(tm 93)]),oT 95 91 (.bin .eql (tm 94) (Kc 0)),oo 96 (.pick (tm 91) (tm 95) kF),mv 12 96])) (.seq (.cut (rg [⟨some 98,.call 15 [(Kc 4),(.const (.str ⟨#[100,115,116]⟩)),(Kc 20),(Kc 21)],none,[]⟩,oo 99 (.build [Z0,Z0,Z0] [(0,1,(Kc 1)),(1,1,(Kc 0)),(2,1,(Kc 0))]),oo 100 (.build [Z0,Z0,Z0] [(0,1,(Kc 2)),(1,1,(Kc 0)),(2,1,(Kc 0))]),oo 101 (.build [Z0,Z0,Z0] [(0,1,(Kc 1)),(1,1,(Kc 0)),(2,1,(Kc 0))]),oo 102 (.build [Z0,Z0,Z0] [(0,1,(Kc 3)),(1,1,(Kc 0)),(2,1,(Kc 0))]),oo 103 (.buildS 37 3 4 [Z0,Z0,Z0] [(0,(tm 99)),(1,(tm 100)),(2,(tm 101)),(3,(tm 102))]),⟨some 104,.call 14 [(tm 98),(.const .nil),(.const (.str ⟨#[100,115,116]⟩)),(tm 103)],none,[]⟩,mv 97 104,oo 105 (.ext (tm 97) 0),oo 106 (.ext (tm 97) 1),mv 13 105,mv 14 106])) (.seq (.cut (rg [⟨some 108,.call 15 [(Kc 5),(.const (.str ⟨#[100,115,116]⟩)),(Kc 0),(Kc 0)],none,[]⟩,mv 109 14,oo 110 (.build [Z0,Z0,Z0] [(0,1,(Kc 9)),(1,1,(Kc 21)),(2,1,(Kc 0))]),oo 111 (.build [Z0,Z0,Z0] [(0,1,(Kc 9)),(1,1,(Kc 22)),(2,1,(Kc 0))]),oo 112 (.buildS 37 3 2 [Z0,Z0,Z0] [(0,(tm 110)),(1,(tm 111))]),⟨some 113,.call 14 [(tm 108),(tm 109),(.const (.str ⟨#[115,114,99]⟩)),(tm 112)],none,[]⟩,mv 107 113,oo 114 (.ext (tm 107) 0),oo 115 (.ext (tm 107) 1),mv 15 114,mv 16 115])) (.seq (.cut (rg [mv 116 13,oo 117 (.buildS 3 1 4 [Z0] [(0,(Kc 20)),(1,(Kc 21)),(2,(Kc 20)),(3,(.const (.int .i64 (-1))))]),oo 118 (.call 17 [(tm 116),(tm 117)]),oo 119 (.bin .eql (tm 118) (Kc 0)),mv 120 119,mT 121 14 120,oT 122 120 (.len (tm 121)),oT 123 120 (.bin .eql (tm 122) (Kc 2)),oo 124 (.pick (tm 120) (tm 123) kF),mv 125 124,mT 126 15 125,oT 127 125 (.buildS 3 1 2 [Z0] [(0,(Kc 2)),(1,(.const (.int .i64 (-1))))]),oT 128 125 (.call 17 [(tm 126),(tm 127)]),oT 129 125 (.bin .eql (tm 128) (Kc 0)),oo 130 (.pick (tm 125) (tm 129) kF),mv 17 130])) (.seq (.cut (rg [⟨some 132,.call 15 [(Kc 6),(.const S0),(Kc 2),(Kc 10)],none,[]⟩,oo 133 (.build [Z0,Z0,Z0] [(0,1,(Kc 4)),(1,1,(Kc 0)),(2,1,(Kc 0))]),oo 134 (.build [Z0,Z0,Z0] [(0,1,(Kc 4)),(1,1,(Kc 0)),(2,1,(Kc 0))]),oo 135 (.build [Z0,Z0,Z0] [(0,1,(Kc 4)),(1,1,(Kc 0)),(2,1,(Kc 0))]),oo 136 (.build [Z0,Z0,Z0] [(0,1,(Kc 4)),(1,1,(Kc 0)),(2,1,(Kc 9))]),oo 137 (.build [Z0,Z0,Z0] [(0,1,(Kc 4)),(1,1,(Kc 0)),(2,1,(Kc 10))]),oo 138 (.build [Z0,Z0,Z0] [(0,1,(Kc 4)),(1,1,(Kc 0)),(2,1,(Kc 11))]),oo 139 (.build [Z0,Z0,Z0] [(0,1,(Kc 4)),(1,1,(Kc 0)),(2,1,(Kc 40))]),oo 140 (.build [Z0,Z0,Z0] [(0,1,(Kc 4)),(1,1,(Kc 0)),(2,1,(Kc 40))]),oo 141 (.build [Z0,Z0,Z0] [(0,1,(Kc 4)),(1,1,(Kc 0)),(2,1,(Kc 40))]),oo 142 (.buildS 37 3 9 [Z0,Z0,Z0] [(0,(tm 133)),(1,(tm 134)),(2,(tm 135)),(3,(tm 136)),(4,(tm 137)),(5,(tm 138)),(6,(tm 139)),(7,(tm 140)),(8,(tm 141))]),⟨some 143,.call 14 [(tm 132),(.const .nil),(.const (.str ⟨#[115,114,99]⟩)),(tm 142)],none,[]⟩,mv 131 143,oo 144 (.ext (tm 131) 0),oo 145 (.ext (tm 131) 1),mv 18 144,mv 19 145])) (.seq (.cut (rg [mv 147 14,oo 148 (.call 5 [tm 147]),oo 149 (.call 6 [tm 148]),mv 146 149,oo 150 (.ext (tm 146) 0),oo 151 (.ext (tm 146) 1),mv 20 150,mv 21 151])) (.seq (.cut (rg [mv 153 4,oo 154 (.call 18 [(tm 153),(.const .nil)]),mv 152 154,oo 155 (.ext (tm 152) 0),oo 156 (.ext (tm 152) 1),mv 22 155,mv 23 156])) (sr [mv 157 5,mv 158 157,mT 159 12 158,oo 160 (.pick (tm 158) (tm 159) kF),mv 161 160,mT 162 17 161,oo 163 (.pick (tm 161) (tm 162) kF),mv 164 163,mT 165 18 164,oT 166 164 (.buildS 3 1 9 [Z0] [(0,(Kc 4)),(1,(Kc 4)),(2,(.const (.int .i64 (-1)))),(3,(.const (.int .i64 (-1)))),(4,(Kc 4)),(5,(.const (.int .i64 (-1)))),(6,(Kc 4)),(7,(Kc 4)),(8,(.const (.int .i64 (-1))))]),oT 167 164 (.call 17 [(tm 165),(tm 166)]),oT 168 164 (.bin .eql (tm 167) (Kc 0)),oo 169 (.pick (tm 164) (tm 168) kF),mv 170 169,mT 171 21 170,oT 172 170 (.bin .eql (tm 171) (Kc 0)),oo 173 (.pick (tm 170) (tm 172) kF),mv 174 173,mT 175 20 174,mT 176 14 174,oT 177 174 (.call 10 [(tm 175),(tm 176)]),oo 178 (.pick (tm 174) (tm 177) kF),mv 179 178,mT 180 14 179,mT 181 4 179,oT 182 179 (.call 10 [(tm 180),(tm 181)]),oT 183 179 (.not (tm 182)),oo 184 (.pick (tm 179) (tm 183) kF),mv 185 184,mT 186 23 185,oT 187 185 (.bin .eql (tm 186) (Kc 0)),oo 188 (.pick (tm 185) (tm 187) kF),mv 189 188,mT 190 22 189,oT 191 189 (.len (tm 190)),oT 192 189 (.bin .eql (tm 191) (Kc 1)),oo 193 (.pick (tm 189) (tm 192) kF),mv 194 193,mT 195 4 194,oT 196 194 (.call 19 [(.const .nil),(tm 195)]),oT 197 194 (.bin .eql (tm 196) (Kc 4)),oo 198 (.pick (tm 194) (tm 197) kF),mv 0 198] .ret))))))))))))))))
theorem l4:(Tryz.f4.body.bind (bp Tryz.prog 199 [6000006,6000007,6000008,6000009,6000010,6000011,6000012,6000013,6000014,6000015,6000016,6000017,8000031]))=some c4:=by kernel_rfl
end Go.ST8
end
section
namespace Go.ST
open Go Go.DL Go.MM Go.Proofs
open Go.TY hiding Fd
open Go.RC (vi vis vs ti uo ve)
abbrev EA:List RE:=[⟨vN,[5],10,9⟩]
abbrev EO:List RE:=[⟨vN,[7],0,10⟩]
abbrev EN:List RE:=[⟨vN,[1],20,0⟩,⟨vN,[2],21,0⟩]
abbrev E6:List RE:=[⟨vN,[4],0,40⟩]
abbrev vW:List (Int×Int×Int):=[(5,0,0),(5,0,1),(5,0,2),(5,0,3),(5,0,4),(5,0,5),(5,0,6),(5,0,7),(5,0,8),(5,0,9)]
abbrev GD:List (Int×Int×Int):=[(4,0,0),(4,0,0),(4,0,0),(4,0,9),(4,0,10),(4,0,11),(4,0,40),(4,0,40),(4,0,40)]
theorem AJ(k:Int)(f:ByteArray)(n m:Int)(st:List RE)(name:ByteArray)(ts:List (Int×Int×Int))(out:List Int)(st':List RE)(hl:ts.length<2^20)(hb:xJ L17 (stp k f n m) name ts st=true)(hf:tx L17 name=true)(h:tV L17 (stp k f n m) name ts ([],st)=(out,st')):
  DCalls Tryz.prog 14 [vr (stp k f n m),esT st,.str name,wV ts] (.tup [.slice 1 (out.map I),esT st']):=by
 have:=Ct (stp k f n m) st name ts hl hb hf
 rwa [h] at this
theorem yz(k:Int)(f:ByteArray)(n m:Int)(name:ByteArray)(ts:List (Int×Int×Int))(out:List Int)(st':List RE)(hl:ts.length<2^20)(hb:xJ L17 (stp k f n m) name ts []=true)(hf:tx L17 name=true)(h:tV L17 (stp k f n m) name ts ([],[])=(out,st')):
  DCalls Tryz.prog 14 [vr (stp k f n m),.nil,.str name,wV ts] (.tup [.slice 1 (out.map I),esT st']):=
 (AJ k f n m [] name ts out st' hl hb hf h).lesAll ⟨Les.refl _,Les.nil 4,Les.refl _,Les.refl _,trivial⟩
theorem yx(a:List Int)(h:a.length<2^60):DCalls Tryz.prog 17 [.slice 1 (a.map I),.slice 1 (a.map I)] (I 0):=by
 have:=Bp a a h h
 rwa [uS.2 rfl] at this
theorem DB(a:List Int)(h:a.length<2^40)(hc:vG a=true):DCalls Tryz.prog 16 [.slice 1 (a.map I)] (.bool true):=by
 have:=zf a h
 rwa [hc] at this
theorem Cw(l:List Int):ti (vis l):=fun b hb=>by
 unfold vis at hb;rcases List.mem_append.1 hb with h|h
 ·exact uo _ b h
 ·obtain ⟨x,_,hx⟩:=List.mem_flatMap.1 h;exact uo x b hx
theorem A3(st:List RE):ti (tD st):=fun b hb=>by
 unfold tD at hb;rcases List.mem_append.1 hb with h|h
 ·exact uo _ b h
 ·obtain ⟨e,_,he⟩:=List.mem_flatMap.1 h;unfold tz at he;rcases List.mem_append.1 he with h|h
  ·exact ve _ b h
  ·rcases List.mem_append.1 h with h|h <;> exact Cw _ b h
theorem szN: ∀e∈EN,SzE e:=fun e he=>by
 simp only [List.mem_cons,List.not_mem_nil,or_false] at he;rcases he with rfl|rfl
 all_goals exact ⟨by decide,by decide,fun x hx=>by rw [List.mem_singleton.1 hx];unfold Go.RC.i64;decide,by unfold Go.RC.i64;decide,by unfold Go.RC.i64;decide⟩
theorem GB(st:List RE)(hz: ∀e∈st,SzE e)(hl:st.length<2^20)(_:st≠[])(hn:(tD st).length<2^28):DCalls Tryz.prog 6 [bT (tD st)] (.tup [esT st,I 0]):=by
 have:=wQ (tD st) (A3 st) (by omega)
 rw [vK hz (by omega)] at this;exact this
theorem C0(a b:List RE)(x:Bool)(hla:a.length<2^40)(hlb:b.length<2^40)(hka: ∀x∈a,kOk x)(hkb: ∀x∈b,kOk x)(h:decide (a=b)=x):DCalls Tryz.prog 10 [esT a,esT b] (.bool x):=h▸Bt a b hla hlb hka hkb
theorem Fo(a:List RE)(hia:tI a)(ha:a.length<2^30)(hka: ∀x∈a,kOk x)(h:w9 a []=some a):DCalls Tryz.prog 18 [esT a,.nil] (.tup [esT a,I 0]):=by
 have:=Eu a [] hia List.Pairwise.nil ha (by decide) hka (fun x hx=>by cases hx)
 rw [h] at this;exact this.lesAll ⟨Les.refl _,Les.nil 4,trivial⟩
theorem DA(st:List RE)(hl:st.length<2^60)(hk: ∀e∈st,kOk e)(x:Int)(h:BG [] st=x):DCalls Tryz.prog 19 [.nil,esT st] (I x):=
 (h▸DG [] (by decide) (fun v hv=>by cases hv) st hl hk:DCalls Tryz.prog 19 [vsT [],esT st] (I x)).lesAll ⟨Les.nil 5,Les.refl _,trivial⟩
theorem kEA: ∀e∈EA,kOk e:=by decide
theorem kEN: ∀e∈EN,kOk e:=by decide
theorem Cs:DCalls Tryz.prog 4 [] (.bool true):=by
 refine dl2 mixed [.tmp 0] [.bool true] Tryz.func4 Go.ST8.l4 ?_
 skip
 refine sa 0 (α:=Nat) (β:=Unit) (fun i=>{sl:=[(1,.own 32 37 3 ((vW.take i).map tri)),(2,.t (I i))],bx:=[]}) (fun i=>i<=10) (fun i=>10 - i)
  (fun _=>{sl:=[(1,.t (wV vW))],bx:=[]}) (fun _=>True) 0 (by decide) ?_ ?_ ?_
 ·repeat' (first|exact wJ|refine And.intro ?_ ?_)
 ·rintro i hi;rcases Nat.lt_or_ge i 10 with h|h
  ·have ht:(vW.take (i+1)).map tri=(vW.take i).map tri++[tri (5,0,i)]:=by
    have:i=0\/i=1\/i=2\/i=3\/i=4\/i=5\/i=6\/i=7\/i=8\/i=9:=by omega
    rcases this with rfl|rfl|rfl|rfl|rfl|rfl|rfl|rfl|rfl|rfl <;> rfl
   have hl:((vW.take i).map tri).length=i:=by rw [List.length_map,List.length_take];exact Nat.min_eq_left hi
   generalize (vW.take i).map tri=xs at *
   repeat' ((conv=>whnf);first|refine aD1 ?_|refine aS ?_|fail)
   exact ⟨i+1,h,by omega,by repeat' (first|(exact s6 ht)|exact wJ|refine And.intro ?_ ?_)⟩
  ·obtain rfl:i=10:=by omega
   repeat' ((conv=>whnf);first|(exact ⟨(),trivial,by (repeat' (first|(exact Be rfl)|exact wJ|refine And.intro ?_ ?_));done⟩)|refine aD0 ?_|refine aS ?_|fail)
 rintro _ _;have k1:=vk 1 yu 0 0;have k2:=yz 1 yu 0 0 yu vW [1,2,3,4,5,6,7,7,7,7] EA (by decide) (by decide+kernel) (by decide+kernel) (by decide+kernel)
 skip
 refine sO (β:=Unit) (fun _=>{sl:=[(3,.t (.slice 1 ([1,2,3,4,5,6,7,7,7,7].map I))),(4,.t (esT EA))],bx:=[]}) (fun _=>True) ?_ ?_
 ·repeat' ((conv=>whnf);first|refine sV _ (k1) ?_|refine sV _ (k2) ?_|(exact ⟨(),trivial,by (repeat' (first|exact wJ|refine And.intro ?_ ?_));done⟩)|fail)
 rintro _ _;clear k1 k2;have k3:=DB [1,2,3,4,5,6,7,7,7,7] (by decide) (by decide+kernel)
 skip
 refine sO (β:=Unit) (fun _=>{sl:=[(4,.t (esT EA)),(5,.t (.bool true))],bx:=[]}) (fun _=>True) ?_ ?_
 ·repeat' ((conv=>whnf);first|refine sV _ (k3) ?_|(exact ⟨(),trivial,by (repeat' (first|exact wJ|refine And.intro ?_ ?_));done⟩)|refine aE1 ?_|refine aS ?_|refine nT_ ?_)
 rintro _ _;clear k3;have k4:=vk 3 e0 3 0;have k5:=yz 3 e0 3 0 wP [(7,0,10)] [-1] [] (by decide) (by decide+kernel) (by decide+kernel) (by decide+kernel)
 skip
 refine sO (β:=Unit) (fun _=>{sl:=[(4,.t (esT EA)),(5,.t (.bool true)),(6,.t (.slice 1 ([-1].map I))),(7,.t (esT []))],bx:=[]}) (fun _=>True) ?_ ?_
 ·repeat' ((conv=>whnf);first|refine sV _ (k4) ?_|refine sV _ (k5) ?_|(exact ⟨(),trivial,by (repeat' (first|exact wJ|refine And.intro ?_ ?_));done⟩)|refine aS ?_|fail)
 rintro _ _;clear k4 k5;have k6:=vk 2 e0 0 0;have k7:=AJ 2 e0 0 0 [] wP [(7,0,10)] [7] EO (by decide) (by decide+kernel) (by decide+kernel) (by decide+kernel)
 skip
 refine sO (β:=Unit) (fun _=>{sl:=[(4,.t (esT EA)),(5,.t (.bool true)),(6,.t (.slice 1 ([-1].map I))),(9,.t (esT EO))],bx:=[]}) (fun _=>True) ?_ ?_
 ·repeat' ((conv=>whnf);first|refine sV _ (k6) ?_|refine sV _ (k7) ?_|(exact ⟨(),trivial,by (repeat' (first|exact wJ|refine And.intro ?_ ?_));done⟩)|refine aS ?_|fail)
 rintro _ _;clear k6 k7;have k8:=vk 3 e0 3 0;have k9:=AJ 3 e0 3 0 EO wP [(7,0,13),(7,0,14)] [7, -1] EO (by decide) (by decide+kernel) (by decide+kernel) (by decide+kernel)
 skip
 refine sO (β:=Unit) (fun _=>{sl:=[(4,.t (esT EA)),(5,.t (.bool true)),(6,.t (.slice 1 ([-1].map I))),(9,.t (esT EO)),(10,.t (.slice 1 ([7, -1].map I)))],bx:=[]}) (fun _=>True) ?_ ?_
 ·repeat' ((conv=>whnf);first|refine sV _ (k8) ?_|refine sV _ (k9) ?_|(exact ⟨(),trivial,by (repeat' (first|exact wJ|refine And.intro ?_ ?_));done⟩)|refine aS ?_|fail)
 rintro _ _;clear k8 k9;have k10:=yx [7, -1] (by decide)
 skip
 refine sO (β:=Unit) (fun _=>{sl:=[(4,.t (esT EA)),(5,.t (.bool true)),(12,.t (.bool true))],bx:=[]}) (fun _=>True) ?_ ?_
 ·repeat' ((conv=>whnf);first|refine sV _ (k10) ?_|(exact ⟨(),trivial,by (repeat' (first|exact wJ|refine And.intro ?_ ?_));done⟩)|refine aE1 ?_|refine aS ?_|refine nT_ ?_)
 rintro _ _;clear k10;have k11:=vk 4 xq 20 21;have k12:=yz 4 xq 20 21 xq [(1,0,0),(2,0,0),(1,0,0),(3,0,0)] [20,21,20, -1] EN (by decide) (by decide+kernel) (by decide+kernel) (by decide+kernel)
 skip
 refine sO (β:=Unit) (fun _=>{sl:=[(4,.t (esT EA)),(5,.t (.bool true)),(12,.t (.bool true)),(13,.t (.slice 1 ([20,21,20, -1].map I))),(14,.t (esT EN))],bx:=[]}) (fun _=>True) ?_ ?_
 ·repeat' ((conv=>whnf);first|refine sV _ (k11) ?_|refine sV _ (k12) ?_|(exact ⟨(),trivial,by (repeat' (first|exact wJ|refine And.intro ?_ ?_));done⟩)|refine aS ?_|fail)
 rintro _ _;clear k11 k12;have k13:=vk 5 xq 0 0;have k14:=AJ 5 xq 0 0 EN wP [(9,21,0),(9,22,0)] [2, -1] EN (by decide) (by decide+kernel) (by decide+kernel) (by decide+kernel)
 skip
 refine sO (β:=Unit) (fun _=>{sl:=[(4,.t (esT EA)),(5,.t (.bool true)),(12,.t (.bool true)),(13,.t (.slice 1 ([20,21,20, -1].map I))),(14,.t (esT EN)),(15,.t (.slice 1 ([2, -1].map I)))],bx:=[]}) (fun _=>True) ?_ ?_
 ·repeat' ((conv=>whnf);first|refine sV _ (k13) ?_|refine sV _ (k14) ?_|(exact ⟨(),trivial,by (repeat' (first|exact wJ|refine And.intro ?_ ?_));done⟩)|refine aS ?_|fail)
 rintro _ _;clear k13 k14;have k15:=yx [20,21,20, -1] (by decide);have k16:=yx [2, -1] (by decide)
 skip
 refine sO (β:=Unit) (fun _=>{sl:=[(4,.t (esT EA)),(5,.t (.bool true)),(12,.t (.bool true)),(14,.t (esT EN)),(17,.t (.bool true))],bx:=[]}) (fun _=>True) ?_ ?_
 ·repeat' ((conv=>whnf);first|refine sV _ (k15) ?_|refine sV _ (k16) ?_|(exact ⟨(),trivial,by (repeat' (first|exact wJ|refine And.intro ?_ ?_));done⟩)|refine aE1 ?_|refine aS ?_|fail)
 rintro _ _;clear k15 k16;have k17:=vk 6 e0 2 10;have k18:=yz 6 e0 2 10 wP GD [4,4, -1, -1,4, -1,4,4, -1] E6 (by decide) (by decide+kernel) (by decide+kernel) (by decide+kernel)
 skip
 refine sO (β:=Unit) (fun _=>{sl:=[(4,.t (esT EA)),(5,.t (.bool true)),(12,.t (.bool true)),(14,.t (esT EN)),(17,.t (.bool true)),(18,.t (.slice 1 ([4,4, -1, -1,4, -1,4,4, -1].map I)))],bx:=[]}) (fun _=>True) ?_ ?_
 ·repeat' ((conv=>whnf);first|refine sV _ (k17) ?_|refine sV _ (k18) ?_|(exact ⟨(),trivial,by (repeat' (first|exact wJ|refine And.intro ?_ ?_));done⟩)|refine aS ?_|fail)
 rintro _ _;clear k17 k18;have k19:=wS EN szN (by decide) (by decide+kernel);have k20:=GB EN szN (by decide) (by simp) (by decide+kernel)
 skip
 refine sO (β:=Unit) (fun _=>{sl:=[(4,.t (esT EA)),(5,.t (.bool true)),(12,.t (.bool true)),(14,.t (esT EN)),(17,.t (.bool true)),(18,.t (.slice 1 ([4,4, -1, -1,4, -1,4,4, -1].map I))),(20,.t (esT EN)),(21,.t (I 0))],bx:=[]}) (fun _=>True) ?_ ?_
 ·repeat' ((conv=>whnf);first|refine sV _ (k19) ?_|refine sV _ (k20) ?_|(exact ⟨(),trivial,by (repeat' (first|exact wJ|refine And.intro ?_ ?_));done⟩)|fail)
 rintro _ _;clear k19 k20;have k21:=Fo EA (uM.1 (by decide+kernel)) (by decide) kEA (by decide+kernel)
 skip
 refine sO (β:=Unit) (fun _=>{sl:=[(4,.t (esT EA)),(5,.t (.bool true)),(12,.t (.bool true)),(14,.t (esT EN)),(17,.t (.bool true)),(18,.t (.slice 1 ([4,4, -1, -1,4, -1,4,4, -1].map I))),(20,.t (esT EN)),(21,.t (I 0)),(22,.t (esT EA)),(23,.t (I 0))],bx:=[]}) (fun _=>True) ?_ ?_
 ·repeat' ((conv=>whnf);first|refine sV _ (k21) ?_|(exact ⟨(),trivial,by (repeat' (first|exact wJ|refine And.intro ?_ ?_));done⟩)|fail)
 rintro _ _;clear k21;have q1:=yx [4,4, -1, -1,4, -1,4,4, -1] (by decide);have q2:=C0 EN EN true (by decide) (by decide) kEN kEN (by decide+kernel);have q3:=C0 EN EA false (by decide) (by decide) kEN kEA (by decide+kernel);have q4:=DA EA (by decide) kEA 4 (by decide+kernel)
 repeat' ((conv=>whnf);first|refine sV _ (q1) ?_|refine sV _ (q2) ?_|refine sV _ (q3) ?_|refine sV _ (q4) ?_|refine aE1 ?_|refine rb1 ?_|refine aS ?_|exact trivial)
end Go.ST
end
section
namespace Go.ST
open Go Go.DL Go.MM Go.Proofs
open Go.TY hiding Fd
open Go.RC (vi vis vs i64 ti Y vI msg zW eqY wm)
theorem law_Encodes(st mo:List RE)(b:List Int)(hz: ∀e∈st,SzE e)(hm: ∀e∈mo,SzE e)(ls:st.length<2^28)(lm:mo.length<2^28)(es:(tD st).length<2^28)(em:(tD mo).length<2^28)(hb:ti b)(hl:b.length<2^40):
  DCalls Tryz.prog 3 [esT st,esT mo,bT b] (.bool true):=by
 refine dl2 mixed [.tmp 6] [.bool true] Tryz.func3 Go.STF.l3 ?_;have h0:=Cs
 by_cases a1:((st.map tc).length:Int)>100
 ·repeat' ((conv=>whnf);first|refine sV _ (h0) ?_|refine ru a1 ?_|refine rb1 ?_|refine aS ?_|exact trivial)
 by_cases a2:((mo.map tc).length:Int)>100
 ·repeat' ((conv=>whnf);first|refine sV _ (h0) ?_|refine rq a1 ?_|refine ru a2 ?_|refine rb1 ?_|refine aS ?_|exact trivial)
 by_cases a3:((b.map Y).length:Int)>3000
 ·repeat' ((conv=>whnf);first|refine sV _ (h0) ?_|refine rq a1 ?_|refine rq a2 ?_|refine ru a3 ?_|refine rb1 ?_|refine aS ?_|exact trivial)
 have k1: ∀e∈st,kOk e:=fun e he=>by have:=(hz e he).key;show e.key.length<2^60;omega
 have k2: ∀e∈mo,kOk e:=fun e he=>by have:=(hm e he).key;show e.key.length<2^60;omega
 have hE:=wS st hz ls es;have hE2:=wO st hz ls es;have hE3:=wO mo hm lm em;have hD:DCalls Tryz.prog 6 [bT (tD st)] (.tup [esT st,I 0]):=by
  have:=wQ (tD st) (wW st) (by omega)
  rw [vK hz (by omega)] at this;exact this
 obtain ⟨res,er,hX,hY,hS3⟩: ∃res er,DCalls Tryz.prog 6 [bT b] (.tup [res,I er])/\DCalls Tryz.prog 7 [bT b] (.tup [res,I er])/\DCalls Tryz.prog 9 [res,res] (.bool true):=by
  obtain ⟨g1,g2⟩:=Dc hb hl;have t1:=wQ b hb hl;have t2:=Cg b hb hl
  by_cases c:(tK b).2≠0
  ·have e:zU (tK b)= .tup [.nil,I (tK b).2]:=by show T.tup [if _ then _ else _,_]=_;rw [if_pos c]
   rw [e] at t1 t2;exact ⟨_,_,t1,t2,(xh [] [] (by simp) (by simp) (by simp) (by simp)).lesAll ⟨Les.nil 4,Les.nil 4,trivial⟩⟩
  ·have e:zU (tK b)= .tup [esT (tK b).1,I (tK b).2]:=by show T.tup [if _ then _ else _,_]=_;rw [if_neg c]
   rw [e] at t1 t2;have hs:=xh (tK b).1 (tK b).1 (by omega) (by omega) g1 g1;rw [decide_eq_true rfl] at hs;exact ⟨_,_,t1,t2,hs⟩
 have hS1:=xh st st (by omega) (by omega) k1 k1;rw [decide_eq_true rfl] at hS1;have hS4:=Bt st mo (by omega) (by omega) k1 k2;have hS5:=xh st mo (by omega) (by omega) k1 k2;have hI1:=vI 8 [txE st] (fun s hs=>by rw [List.mem_singleton.1 hs];have:=uN es;omega) (nlZ rfl);have hI2:=vI 8 [txE mo] (fun s hs=>by rw [List.mem_singleton.1 hs];have:=uN em;omega) (nlZ rfl);have hG1:=yg st hz ls es;have hG2:=Bo st hz ls es;have hG3:=yg mo hm lm em;have gl1:=wA st;have gl2:=wA mo;obtain ⟨B,hB,Ga⟩: ∃B:Bool,B=decide (st=mo)/\(B=false->((nQ ((inE st).map Y)).toList==(nQ ((inE mo).map Y)).toList)=false):=⟨_,rfl,fun h=>by
  rw [eqS];exact decide_eq_false fun e=>of_decide_eq_false h (Dg hz hm ls lm es em e)⟩
 rw [<- hB] at hS4 hS5;change DCalls _ _ _ (bT (inE st)) at hI1;change DCalls _ _ _ (bT (inE mo)) at hI2;simp only [List.map_cons,List.map_nil] at hI1 hI2;unfold txE at hI1 hI2;clear hB hz hm es em hb k1 k2;generalize dgE st=dg at *
 generalize dgE mo=dm at *
 generalize inE st=i1 at *
 generalize inE mo=i2 at *
 generalize tD st=c1 at *
 generalize tD mo=c2 at *
 obtain ⟨sm,hsm⟩: ∃sm,eqL (dg.map Y) (dm.map Y)=sm:=⟨_,rfl⟩
 have ey:eqL (dg.map Y) (dg.map Y)=true:=eqY (by simp);have u1:=tW c1;have u2:=tW c2;have u3:=tW i1;have u4:=tW i2
 repeat' ((conv=>whnf);first|refine rq a1 ?_|refine rq a2 ?_|refine rq a3 ?_|refine aS ?_|fail)
 refine sO (β:=Unit) (fun _=>{sl:=[(0,.t (esT st)),(1,.t (esT mo)),(2,.t (bT b)),(7,.t (bT c1))],bx:=[]}) (fun _=>True) ?_ ?_
 ·repeat' ((conv=>whnf);first|refine sV _ (hE) ?_|(exact ⟨(),trivial,by (repeat' (first|exact wJ|refine And.intro ?_ ?_));done⟩)|fail)
 rintro _ _
 skip
 refine sO (β:=Unit) (fun _=>{sl:=[(0,.t (esT st)),(1,.t (esT mo)),(2,.t (bT b)),(7,.t (bT c1)),(8,.t (esT st)),(9,.t (I 0))],bx:=[]}) (fun _=>True) ?_ ?_
 ·repeat' ((conv=>whnf);first|refine sV _ (hD) ?_|(exact ⟨(),trivial,by (repeat' (first|exact wJ|refine And.intro ?_ ?_));done⟩)|fail)
 rintro _ _
 skip
 refine sO (β:=Unit) (fun _=>{sl:=[(0,.t (esT st)),(1,.t (esT mo)),(2,.t (bT b)),(7,.t (bT c1)),(8,.t (esT st)),(9,.t (I 0)),(10,.t res),(11,.t (I er))],bx:=[]}) (fun _=>True) ?_ ?_
 ·repeat' ((conv=>whnf);first|refine sV _ (hX) ?_|(exact ⟨(),trivial,by (repeat' (first|exact wJ|refine And.intro ?_ ?_));done⟩)|fail)
 rintro _ _
 skip
 refine sO (β:=Unit) (fun _=>{sl:=[(0,.t (esT st)),(1,.t (esT mo)),(7,.t (bT c1)),(8,.t (esT st)),(9,.t (I 0)),(10,.t res),(11,.t (I er)),(12,.t res),(13,.t (I er))],bx:=[]}) (fun _=>True) ?_ ?_
 ·repeat' ((conv=>whnf);first|refine sV _ (hY) ?_|(exact ⟨(),trivial,by (repeat' (first|exact wJ|refine And.intro ?_ ?_));done⟩)|fail)
 rintro _ _
 skip
 refine sO (β:=Unit) (fun _=>{sl:=[(0,.t (esT st)),(1,.t (esT mo)),(90,.t (.bool false))],bx:=[]}) (fun _=>True) ?_ ?_
 ·repeat' ((conv=>whnf);first|refine sV _ (hE2) ?_|refine rz rfl ?_|refine sV _ (hS1) ?_|refine sV _ (hS3) ?_|refine sV _ (hS4) ?_|refine sV _ (hS5) ?_|refine sV _ (hG1) ?_|refine sV _ (hG2) ?_|refine nb_ false (congrArg (!·) ey) ?_|(refine nb_ false (by first|(simp;done)|fail) ?_)|(exact ⟨(),trivial,by (repeat' (first|exact wJ|refine And.intro ?_ ?_));done⟩)|(refine And.intro (by first|exact u1|exact ⟨wm gl1,wm gl1⟩) ?_)|refine aS ?_|refine nT_ ?_)
 rintro _ _
 skip
 refine sO (β:=Unit) (fun _=>{sl:=[(0,.t (esT st)),(1,.t (esT mo)),(14,.t (bT i1))],bx:=[]}) (fun _=>True) ?_ ?_
 ·repeat' ((conv=>whnf);first|refine sV _ (hE2) ?_|refine sV _ (hI1) ?_|(exact ⟨(),trivial,by (repeat' (first|exact wJ|refine And.intro ?_ ?_));done⟩)|(refine And.intro (by first|exact u1) ?_)|refine aS ?_|refine nT_ ?_)
 rintro _ _
 skip
 refine sO (β:=Unit) (fun _=>{sl:=[(0,.t (esT st)),(1,.t (esT mo)),(14,.t (bT i1)),(15,.t (bT i2))],bx:=[]}) (fun _=>True) ?_ ?_
 ·repeat' ((conv=>whnf);first|refine sV _ (hE3) ?_|refine sV _ (hI2) ?_|(exact ⟨(),trivial,by (repeat' (first|exact wJ|refine And.intro ?_ ?_));done⟩)|(refine And.intro (by first|exact u2) ?_)|refine aS ?_|refine nT_ ?_)
 rintro _ _
 skip
 refine sO (β:=Unit) (fun _=>{sl:=[(0,.t (esT st)),(1,.t (esT mo)),(14,.t (bT i1)),(15,.t (bT i2)),(16,.t (.bool sm))],bx:=[]}) (fun _=>True) ?_ ?_
 ·repeat' ((conv=>whnf);first|refine sV _ (hG1) ?_|refine sV _ (hG3) ?_|refine nb_ sm hsm ?_|(exact ⟨(),trivial,by (repeat' (first|exact wJ|refine And.intro ?_ ?_));done⟩)|(refine And.intro (by first|exact ⟨wm gl1,wm gl2⟩) ?_)|fail)
 rintro _ _;cases B with
 |true=>cases sm <;> repeat' ((conv=>whnf);first|refine sV _ (h0) ?_|refine sV _ (hS5) ?_|refine rb1 ?_|exact trivial)
 |false=>
  have hf:=Ga rfl;have hf2:(!((nQ (i1.map Y)).toList==(nQ (i2.map Y)).toList))=true:=by rw [hf];rfl
  cases sm <;> repeat' ((conv=>whnf);first|exact trivial|refine sV _ (h0) ?_|refine sV _ (hS5) ?_|refine nb_ true hf2 ?_|refine rb1 ?_|(refine And.intro (by first|exact u3|exact u4) ?_)|refine aS ?_|refine nT_ ?_)
end Go.ST
end
section
namespace Go.RC
open Go Go.DL Go.Proofs Go.RowKit
theorem EE{n:Int}(h:(Lit.int .i64 n).wf=true):i64 n:=by
 simp only [Lit.wf,Bool.and_eq_true,decide_eq_true_eq] at h;obtain ⟨h1,h2⟩:=h;have e1:IntKind.i64.min= -9223372036854775808:=by decide
 have e2:IntKind.i64.max=9223372036854775807:=by decide
 rw [e1] at h1;rw [e2] at h2;unfold i64;omega
theorem wf8{n:Int}(h:(Lit.int .u8 n).wf=true):0<=n/\n<256:=by
 simp only [Lit.wf,Bool.and_eq_true,decide_eq_true_eq] at h;obtain ⟨h1,h2⟩:=h;have e1:IntKind.u8.min=0:=by decide
 have e2:IntKind.u8.max=255:=by decide
 rw [e1] at h1;rw [e2] at h2;omega
end Go.RC
end
section
namespace Go.ST
open Go Go.DL Go.Proofs
open Go.RC (ti Y i64 EE wf8 vs vis vi tY xL vq tG)
def typesZ:List TypeId:=[22,46,38,3,9,4,23,5]
theorem typesZ_ok:eS Tryz.prog typesZ=true:=by kernel_rfl
theorem zc3:Tryz.prog.cellsOf 3=1:=by kernel_rfl
theorem zc9:Tryz.prog.cellsOf 9=1:=by kernel_rfl
theorem zc5:Tryz.prog.cellsOf 5=1:=by kernel_rfl
theorem C2:Tryz.prog.cellsOf 46=4:=by kernel_rfl
theorem EH:Tryz.prog.cellsOf 38=1:=by kernel_rfl
theorem BC:Tryz.prog.underlying 38=some (.slice 3):=by kernel_rfl
theorem CA:Tryz.prog.underlying 22=some (.slice 46):=by kernel_rfl
theorem Cz:Tryz.prog.underlying 23=some (.slice 5):=by kernel_rfl
theorem Cy{us:List T}(h:cr Tryz.prog 3 us): ∃n,us=[Go.MM.I n]/\i64 n:=by
 cases h with
 |int h n hw=>rw [Tryz.underlying3] at h;cases h;exact ⟨n,rfl,EE hw⟩
 |bool h|str h|nil h|slice h|struct h|array h=>rw [Tryz.underlying3] at h;cases h
theorem zU8{us:List T}(h:cr Tryz.prog 5 us): ∃n,us=[Y n]/\0<=n/\n<256:=by
 cases h with
 |int h n hw=>rw [Tryz.underlying5] at h;cases h;exact ⟨n,rfl,(wf8 hw).1,(wf8 hw).2⟩
 |bool h|str h|nil h|slice h|struct h|array h=>rw [Tryz.underlying5] at h;cases h
theorem GH{us:List T}(h:cr Tryz.prog 9 us): ∃s,us=[.str s]:=by
 cases h with
 |str h s hs=>exact ⟨s,rfl⟩
 |bool h|int h|nil h|slice h|struct h|array h=>rw [Tryz.underlying9] at h;cases h
theorem C3(t:T):mkT Tryz.prog 3 [t]=t:=by unfold mkT;rw [Tryz.underlying3];rfl
theorem EI(t:T):mkT Tryz.prog 5 [t]=t:=by unfold mkT;rw [Tryz.underlying5];rfl
theorem FB(us:List T):mkT Tryz.prog 46 us= .agg us:=by unfold mkT;rw [Tryz.underlying46]
theorem FA{us:List T}(h:cr Tryz.prog 38 us): ∃l:List Int,dq us [.slice 1 (l.map Go.MM.I)]/\l.length+1<=aQ us/\ ∀x∈l,i64 x:=by
 cases h with
 |nil h=>exact ⟨[],.cons (Les.nil 1) rfl .nil,by simp [aQ,T.bulk],by simp⟩
 |slice h xs hx hl=>
  rw [BC] at h;cases h;rw [zc3];have key: ∃l:List Int,xs.map (mkT Tryz.prog 3)=l.map Go.MM.I/\l.length<=aQ (xs.map (mkT Tryz.prog 3))/\ ∀x∈l,i64 x:=by
   clear hl
   induction xs with
   |nil=>exact ⟨[],rfl,by simp,by simp⟩
   |cons x xs ih=>
    obtain ⟨s,rfl,hs⟩:=Cy (hx x (by simp));obtain ⟨l,k1,k2,k3⟩:=ih fun y hy=>hx y (by simp [hy])
    refine ⟨s::l,by simp only [List.map_cons,k1,C3],?_,fun y hy=>?_⟩
    ·simp only [List.map_cons,aQ,C3,T.bulk,List.length_cons];omega
    ·rcases List.mem_cons.1 hy with rfl|hy
     ·exact hs
     ·exact k3 y hy
  obtain ⟨l,k1,k2,k3⟩:=key;refine ⟨l,by rw [<- k1];exact .cons (Les.refl _) rfl .nil,by simp only [aQ,T.bulk];omega,k3⟩
 |int h|bool h|str h|array h|struct h=>rw [BC] at h;cases h
theorem EG{us:List T}(h:us.length=4): ∃a b c d,us=[a,b,c,d]:=by
 match us,h with
 |[a,b,c,d],_=>exact ⟨a,b,c,d,rfl⟩
def wgt(e:RE):Nat:=e.var.size+e.key.length+1
theorem EF{us:List T}(h:cr Tryz.prog 46 us): ∃e:RE,dq us (ta e)/\wgt e<=aQ us/\(∀ x∈e.key,i64 x)/\i64 e.n/\i64 e.at_:=by
 cases h with
 |struct h us hl hf=>
  rw [Tryz.underlying46] at h;cases h;rw [C2] at hl;obtain ⟨a,b,c,d,rfl⟩:=EG hl;have f0:=hf ⟨ "Var",9,0,false, "", "",0⟩ (by simp);have f1:=hf ⟨ "Key",38,1,false, "", "",16⟩ (by simp);have f2:=hf ⟨ "N",3,2,false, "", "",40⟩ (by simp);have f3:=hf ⟨ "At",3,3,false, "", "",48⟩ (by simp);simp only [zc3,zc9,EH,List.drop,List.take] at f0 f1 f2 f3;obtain ⟨v,e0⟩:=GH f0;obtain ⟨l,g1,g2,g3⟩:=FA f1;obtain ⟨n,e2,i2⟩:=Cy f2;obtain ⟨m,e3,i3⟩:=Cy f3;simp only [List.cons.injEq,and_true] at e0 e2 e3;subst e0;subst e2;subst e3;refine ⟨⟨v,l,n,m⟩,.cons (Les.refl _) rfl (dq.append (us:=[T.slice 1 (l.map Go.MM.I)]) g1 (.cons (Les.refl _) rfl (.cons (Les.refl _) rfl .nil))),?_,g3,i2,i3⟩;simp only [aQ,T.bulk] at g2 ⊢;show v.size+l.length+1<=_
  omega
 |int h|bool h|str h|nil h|slice h|array h=>rw [Tryz.underlying46] at h;cases h
theorem BK{e:RE}(h:SzE e):(tz e).length<=10 * wgt e+50:=by
 have h1:=vq h.var;have h2:=xL h.keys h.key;have h3:=xL (l:=[e.n,e.at_]) (fun x hx=>by
  simp only [List.mem_cons,List.not_mem_nil,or_false] at hx;rcases hx with rfl|rfl
  ·exact h.n
  ·exact h.at_) (by simp)
 unfold tz wgt;rw [List.length_append,List.length_append];simp only [List.length_cons,List.length_nil] at h3;omega
theorem zF: ∀{st:List RE},(∀ e∈st,SzE e)->(st.flatMap tz).length<=10 * (st.map wgt).sum+50 * st.length
 |[],_=>by simp
 |e::st,h=>by
  have h1:=BK (h e (by simp));have h2:=zF (st:=st) fun x hx=>h x (by simp [hx])
  simp only [List.flatMap_cons,List.length_append,List.map_cons,List.sum_cons,List.length_cons];omega
theorem zG{st:List RE}(h: ∀e∈st,SzE e)(hw:(st.map wgt).sum<=1048576)(hl:st.length<=1048576):(tD st).length<2^28:=by
 have h1:=zF h;have h2:=tY (tG (n:=st.length) (by omega));unfold tD;rw [List.length_append];omega
theorem zEnts{us:List T}(h:cr Tryz.prog 22 us)(hb:aQ us<=1048576): ∃st:List RE,Les (mkT Tryz.prog 22 us) (esT st)/\st.length<=1048576/\(∀ e∈st,SzE e)/\(tD st).length<2^28:=by
 have e: ∀t,mkT Tryz.prog 22 [t]=t:=fun t=>by unfold mkT;rw [CA];rfl
 cases h with
 |nil h=>exact ⟨[],by rw [e];exact Les.nil 4,by simp,by simp,zG (by simp) (by simp) (by simp)⟩
 |slice h xs hx hl=>
  rw [CA] at h;cases h;rw [e,C2];have em:xs.map (mkT Tryz.prog 46)=xs.map .agg:=List.map_congr_left fun x _=>FB x
  rw [em] at hb ⊢;simp only [aQ,T.bulk] at hb;have key: ∃l:List RE,l.length=xs.length/\l.length<=aQ (xs.map .agg)/\(∀ r∈l,SzE r)/\(l.map wgt).sum<=aQ (xs.map .agg)/\ ∀(i:Nat) x (r:RE),xs[i]? =some x->l[i]? =some r->dq x (ta r):=by
   clear hl em
   induction xs with
   |nil=>exact ⟨[],rfl,by simp,by simp,by simp,by simp⟩
   |cons x xs ih=>
    simp only [List.map_cons,aQ,T.bulk] at hb;obtain ⟨r,h1,h2,h3,h4,h5⟩:=EF (hx x (by simp));obtain ⟨l,k1,k2,k3,kw,k4⟩:=ih (fun y hy=>hx y (by simp [hy])) (by omega);have h2':=h2;unfold wgt at h2';refine ⟨r::l,by simp [k1],by simp only [List.map_cons,aQ,T.bulk,List.length_cons];omega,fun s hs=>?_,by simp only [List.map_cons,List.sum_cons,aQ,T.bulk];omega,fun i y s hy hs=>?_⟩
    ·rcases List.mem_cons.1 hs with rfl|hs
     ·exact ⟨by omega,by omega,h3,h4,h5⟩
     ·exact k3 s hs
    ·cases i with
     |zero=>simp at hy hs;subst hy;subst hs;exact h1
     |succ i=>exact k4 i y s (by simpa using hy) (by simpa using hs)
  obtain ⟨l,k1,k2,k3,kw,k4⟩:=key;refine ⟨l,Les.slice (by simp [k1]) fun i x y hx hy=>?_,by omega,k3,zG k3 (by omega) (by omega)⟩;rw [List.getElem?_map] at hx hy;obtain ⟨x',hx',rfl⟩:=Option.map_eq_some_iff.1 hx;obtain ⟨r',hr',rfl⟩:=Option.map_eq_some_iff.1 hy;exact ⟨k4 i x' r' hx' hr',td r'⟩
 |int h|bool h|str h|array h|struct h=>rw [CA] at h;cases h
theorem zBytes{us:List T}(h:cr Tryz.prog 23 us): ∃b:List Int,Les (mkT Tryz.prog 23 us) (bT b)/\ti b/\b.length<=aQ us:=by
 have e: ∀t,mkT Tryz.prog 23 [t]=t:=fun t=>by unfold mkT;rw [Cz];rfl
 cases h with
 |nil h=>exact ⟨[],by rw [e];exact Les.nil 1,by simp [ti],by simp⟩
 |slice h xs hx hl=>
  rw [Cz] at h;cases h;rw [e,zc5];have key: ∃b:List Int,xs.map (mkT Tryz.prog 5)=b.map Y/\b.length<=aQ (xs.map (mkT Tryz.prog 5))/\ti b:=by
   clear hl
   induction xs with
   |nil=>exact ⟨[],rfl,by simp,by simp [ti]⟩
   |cons x xs ih=>
    obtain ⟨n,rfl,w1,w2⟩:=zU8 (hx x (by simp));obtain ⟨b,k2,k3,k4⟩:=ih fun y hy=>hx y (by simp [hy])
    refine ⟨n::b,by simp only [List.map_cons,k2,EI],?_,fun z hz=>?_⟩
    ·simp only [List.map_cons,aQ,List.length_cons,EI,T.bulk];omega
    ·rcases List.mem_cons.1 hz with rfl|hz
     ·exact ⟨w1,w2⟩
     ·exact k4 z hz
  obtain ⟨b,k1,k2,k3⟩:=key;refine ⟨b,by rw [k1];exact Les.refl _,k3,by simp only [aQ,T.bulk];omega⟩
 |int h|bool h|str h|array h|struct h=>rw [Cz] at h;cases h
end Go.ST
end
