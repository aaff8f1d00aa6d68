/- Joined by program: parts of a data level over the model, of the program's functions over it, and of the statement's proof. -/
import Derived.Test.YtnfonfjleonbdaaGreatGc
import Derived.Test.YtnfonfjleonbdaaGreatGf
import Derived.Test.YtnfonfjleonbdaaGreatProg
import Derived.KernelRfl
import Derived.Test.YtnfonfjleonbdaaGreatGe
import Derived.Test.YtnfonfjleonbdaaGreatGd
set_option maxRecDepth 100000
set_option maxHeartbeats 8000000
section
namespace Go.ST
open Go Go.DL Go.MM Go.Proofs
open Go.TY hiding Fd
open Go.RC (vi vis vs gi gl vU i64 wv Y yD gT gsT Cd A8 AU Ah CS wT Ct Em)
theorem Nn{b:List Int}(a:wv b)(h:(gb b).2.2=0):0<=(gb b).2.1/\(gb b).2.1<=b.length:=by
 obtain ⟨d,e,f,g⟩:=CS a (least:=1) (by decide);unfold gb at h ⊢
 by_cases c:(gl b 1).2.2≠0
 ·rw [if_pos c] at h;exact absurd h c
 ·rw [if_neg c];exact ⟨by dsimp only;omega,by dsimp only;omega⟩
theorem F7{b:List Int}(c:wv b)(h:(vU b).2.2=0):1<=(vU b).2.1/\(vU b).2.1<=b.length:=by
 obtain ⟨e,f,a⟩:=Ct c h;have g:1<=(vis (vU b).1).length:=by
  unfold vis;rw [List.length_append]
  have:=Em ((vU b).1.length:Int)
  omega
 have d:=congrArg List.length a;rw [List.length_append] at d;omega
abbrev Oh(x:List RE×Int):T:=.tup [if x.2≠0 then .nil else esT x.1,I x.2]
theorem DU(b:List Int)(u:Nat):((b.map Y).take ((((b.map Y).length:Nat):Int)).toNat).drop u=(b.drop u).map Y:=by
 rw [Int.toNat_natCast,List.take_length,List.map_drop]
theorem Kd(b:List Int)(hb:wv b)(hl:b.length<2^40):DCalls Tryz.prog 45 [bT b] (Oh (AH b)):=by
 have hG:=AU b hb (by omega);obtain ⟨⟨q0,q0'⟩,q1,q2,q3,q4,q5⟩:=Ah hb;have S: ∀(res:T) (C:Int),((AH b).2≠0->res= .nil/\C=(AH b).2)->((AH b).2=0->res=esT (AH b).1/\C=0)->DCalls Tryz.prog 45 [bT b] (.tup [res,I C]):=fun res C m s=>by
  refine dl2 mixed [.tmp 2,.tmp 3] [res,I C] Tryz.func45 Go.ST9.l45.2 ?_;unfold AH at m s;generalize gi b=g at *
  obtain ⟨n,u,e⟩:=g;dsimp only at q0 q0' q1 q2 q3 q4 q5 m s hG
  by_cases c0:e≠0
  ·rw [if_pos c0] at m s;obtain ⟨rfl,rfl⟩:=m c0;exact rcZ
  rw [if_neg c0] at m s;have e0:e=0:=by omega
  by_cases c1:n<0
  ·rw [if_pos c1] at m s;obtain ⟨rfl,rfl⟩:=m (by decide);exact rcZ
  rw [if_neg c1] at m s;obtain ⟨n,rfl⟩:=Int.eq_ofNat_of_zero_le (show 0<=n by omega);obtain ⟨u,rfl⟩:=Int.eq_ofNat_of_zero_le q1;rw [Int.toNat_natCast,Int.toNat_natCast] at m s;obtain ⟨D,hD⟩: ∃D,D=zx n (b.drop u) []:=⟨_,rfl⟩
  rw [<- hD] at m s;have P:0<=(u:Int)/\(u:Int)<=((b.map Y).length:Int)/\((b.map Y).length:Int)<=((b.map Y).length:Int):=by rw [List.length_map];omega
  have R:T.slice 1 (((b.map Y).take ((((b.map Y).length:Nat):Int)).toNat).drop ((u:Int)).toNat)=bT (b.drop u):=by
   rw [Int.toNat_natCast,DU]
  have x:D.2.2≠0->res= .nil/\C=D.2.2:=fun h=>by
   have:=m (by rw [if_pos h];exact h)
   rw [if_pos h] at this;exact this
  have hD6:D.2.2=0->D.2.1≠[]->res= .nil/\C=6:=fun h O=>by
   have:=m (by rw [if_neg (by simpa using h),if_pos O];decide)
   rw [if_neg (by simpa using h),if_pos O] at this;exact this
  have hDo:D.2.2=0->D.2.1=[]->res=esT D.1/\C=0:=fun h O=>by
   have:=s (by rw [if_neg (by simpa using h),if_neg (by simpa using O)])
   rw [if_neg (by simpa using h),if_neg (by simpa using O)] at this;exact this
  clear m s;have hbl:(b.drop u).length<=b.length:=by rw [List.length_drop];omega
  repeat' ((conv=>whnf);first|refine pC _ (hG) ?_|refine nw e0 ?_|refine nq c1 ?_|(refine nv_ (bT (b.drop u)) (by first|exact R) ?_)|(refine And.intro (by first|exact P) ?_)|refine aS ?_|fail)
  refine tT 1 (α:=Nat×List Int×List RE) (β:=List Int×List RE) (fun p=>{sl:=[(0,.t (bT p.2.1)),(7,.own 83 64 4 (p.2.2.map uS)),(31,.t (I n)),(32,.t (I p.1))],bx:=[]})
   (fun p=>p.1<=n/\wv p.2.1/\p.2.2.length+p.2.1.length<=b.length/\zx (n - p.1) p.2.1 p.2.2=D) (fun p=>n - p.1)
   (fun p=>{sl:=[(0,.t (bT p.1)),(7,.own 83 64 4 (p.2.map uS))],bx:=[]}) (fun p=>D=(p.2,p.1,0)) (0,b.drop u,[]) ⟨Nat.zero_le _,wT hb _,by simp,hD.symm⟩ ?_ ?_ ?_
  ·exact wkZ
  ·rintro ⟨i,r,acc⟩ ⟨hi,L,hal,j⟩;dsimp only at hi L hal j;rcases Nat.lt_or_ge i n with h|h
   ·have Q:(i:Int)<(n:Int):=by omega
    have hnx:((i+1:Nat):Int)=IntKind.wrap .i64 ((i:Int)+1):=by rw [oA] <;> omega
    rw [show n - i=(n - (i+1))+1 by omega,zx] at j;have hB:=Ik r L (by omega);have F:=@Nn r L;unfold Du at j;generalize gb r=g1 at *
    obtain ⟨v,f,e1⟩:=g1;dsimp only at hB F j;clear hG R P;refine rnZ ?_;refine uE (β:=Unit) (fun _=>{sl:=[(0,.t (bT r)),(7,.own 83 64 4 (acc.map uS)),(8,.t (.str v)),(9,.t (I f)),(10,.t (I e1)),(31,.t (I n)),(32,.t (I i))],bx:=[]}) (fun _=>True) ?_ ?_
    ·refine rnZ ?_;(exact ⟨(),trivial,wkZ⟩)
    rintro _ _;clear hB
    by_cases W:e1≠0
    ·rw [if_pos W,if_pos W] at j;obtain ⟨rfl,rfl⟩:=x (by rw [<- j];exact W);rw [<- j];exact rcZ
    have d1':e1=0:=by omega
    obtain ⟨f1,f2⟩:=F d1';obtain ⟨f,rfl⟩:=Int.eq_ofNat_of_zero_le f1;rw [if_neg W,Int.toNat_natCast] at j;have hI:=A8 (r.drop f) (wT L _) (by rw [List.length_drop];omega);have G:=@F7 (r.drop f) (wT L _);have hb1:0<=(f:Int)/\(f:Int)<=((r.map Y).length:Int)/\((r.map Y).length:Int)<=((r.map Y).length:Int):=by rw [List.length_map];omega
    have hs1:T.slice 1 (((r.map Y).take ((((r.map Y).length:Nat):Int)).toNat).drop ((f:Int)).toNat)=bT (r.drop f):=by
     rw [Int.toNat_natCast,DU]
    generalize hg2:vU (r.drop f)=g2 at *
    obtain ⟨ks,s2,o⟩:=g2;dsimp only at G j;obtain ⟨B,z⟩: ∃B:T,(o≠0->B= .nil)/\(o=0->B= .slice 1 (ks.map I)):=⟨if o≠0 then .nil else .slice 1 (ks.map I),fun h=>if_pos h,fun h=>if_neg (by simpa using h)⟩
    have hI:DCalls Tryz.prog 98 [bT (r.drop f)] (.tup [B,I s2,I o]):=by
     have e:gsT (ks,s2,o)= .tup [B,I s2,I o]:=by
      show T.tup [if o≠0 then .nil else _,_,_]=_
      by_cases d:o=0
      ·rw [if_neg (by simpa using d),z.2 d]
      ·rw [if_pos d,z.1 d]
     rw [<- e];exact hI
    refine rnZ ?_;refine uE (β:=Unit) (fun _=>{sl:=[(0,.t (bT r)),(7,.own 83 64 4 (acc.map uS)),(8,.t (.str v)),(9,.t (I f)),(10,.t (I o)),(11,.t B),(12,.t (I s2)),(31,.t (I n)),(32,.t (I i))],bx:=[]}) (fun _=>True) ?_ ?_
    ·refine rnZ ?_;(exact ⟨(),trivial,wkZ⟩)
    rintro _ _;clear hI hs1 hb1
    by_cases X:o≠0
    ·rw [if_pos X,if_pos X] at j;obtain ⟨rfl,rfl⟩:=x (by rw [<- j];exact X);rw [<- j];exact rcZ
    have M:o=0:=by omega
    rw [z.2 M];obtain ⟨k1,k2⟩:=G M;rw [List.length_drop] at k2;obtain ⟨s2,rfl⟩:=Int.eq_ofNat_of_zero_le (show 0<=s2 by omega);rw [if_neg X,Int.toNat_natCast] at j;have H:wv ((r.drop f).drop s2):=wT (wT L _) _;have E:=A8 ((r.drop f).drop s2) H (by rw [List.length_drop,List.length_drop];omega);have U:=F7 H;rw [List.length_drop,List.length_drop] at U;have A:IntKind.wrap .i64 ((f:Int)+(s2:Int))=((f+s2:Nat):Int):=by rw [oA (by omega) (by omega)];omega
    have hb2:0<=IntKind.wrap .i64 ((f:Int)+(s2:Int))/\IntKind.wrap .i64 ((f:Int)+(s2:Int))<=((r.map Y).length:Int)/\((r.map Y).length:Int)<=((r.map Y).length:Int):=by rw [A,List.length_map];omega
    have hs2:T.slice 1 (((r.map Y).take ((((r.map Y).length:Nat):Int)).toNat).drop (IntKind.wrap .i64 ((f:Int)+(s2:Int))).toNat)=bT ((r.drop f).drop s2):=by
     rw [A,Int.toNat_natCast (n:=f+s2),DU,List.drop_drop]
    generalize vU ((r.drop f).drop s2)=g3 at *
    obtain ⟨w,k,q⟩:=g3;dsimp only at U j;obtain ⟨K,y⟩: ∃B:T,(q≠0->B= .nil)/\(q=0->B= .slice 1 (w.map I)):=⟨if q≠0 then .nil else .slice 1 (w.map I),fun h=>if_pos h,fun h=>if_neg (by simpa using h)⟩
    have E:DCalls Tryz.prog 98 [bT ((r.drop f).drop s2)] (.tup [K,I k,I q]):=by
     have e:gsT (w,k,q)= .tup [K,I k,I q]:=by
      show T.tup [if q≠0 then .nil else _,_,_]=_
      by_cases d:q=0
      ·rw [if_neg (by simpa using d),y.2 d]
      ·rw [if_pos d,y.1 d]
     rw [<- e];exact E
    refine rnZ ?_;refine uE (β:=Unit) (fun _=>{sl:=[(0,.t (bT r)),(7,.own 83 64 4 (acc.map uS)),(8,.t (.str v)),(9,.t (I f)),(10,.t (I q)),(11,.t (.slice 1 (ks.map I))),(12,.t (I s2)),(13,.t K),(14,.t (I k)),(31,.t (I n)),(32,.t (I i))],bx:=[]}) (fun _=>True) ?_ ?_
    ·refine rnZ ?_;(exact ⟨(),trivial,wkZ⟩)
    rintro _ _;clear E hs2 hb2
    by_cases Z:q≠0
    ·rw [if_pos Z,if_pos Z] at j;obtain ⟨rfl,rfl⟩:=x (by rw [<- j];exact Z);rw [<- j];exact rcZ
    have N:q=0:=by omega
    rw [y.2 N];rw [if_neg Z] at j;have hlw:((w.map I).length:Int)=w.length:=by rw [List.length_map]
    by_cases d4:w.length≠2
    ·rw [if_pos d4,if_pos (by decide)] at j;obtain ⟨rfl,rfl⟩:=x (by rw [<- j];decide);rw [<- j];have d4':((w.map I).length:Int)≠2:=by omega
     exact rcZ
    obtain ⟨k3,k4⟩:=U N;obtain ⟨k,rfl⟩:=Int.eq_ofNat_of_zero_le (show 0<=k by omega);rw [if_neg d4,if_neg (by simp),Int.toNat_natCast] at j;dsimp only at j;obtain ⟨a,c,rfl⟩: ∃a c,w=[a,c]:=by
     match w,(show w.length=2 by omega) with
     |[a,c],_=>exact ⟨a,c,rfl⟩
    have J:IntKind.wrap .i64 (IntKind.wrap .i64 ((f:Int)+(s2:Int))+(k:Int))=((f+s2+k:Nat):Int):=by rw [A,oA (by omega) (by omega)];omega
    have hb3:0<=IntKind.wrap .i64 (IntKind.wrap .i64 ((f:Int)+(s2:Int))+(k:Int))/\IntKind.wrap .i64 (IntKind.wrap .i64 ((f:Int)+(s2:Int))+(k:Int))<=((r.map Y).length:Int)/\((r.map Y).length:Int)<=((r.map Y).length:Int):=by rw [J,List.length_map];omega
    have hs3:T.slice 1 (((r.map Y).take ((((r.map Y).length:Nat):Int)).toNat).drop (IntKind.wrap .i64 (IntKind.wrap .i64 ((f:Int)+(s2:Int))+(k:Int))).toNat)=bT (((r.drop f).drop s2).drop k):=by
     rw [J,Int.toNat_natCast (n:=f+s2+k),DU,List.drop_drop,List.drop_drop,Nat.add_assoc]
    have hr4:wv (((r.drop f).drop s2).drop k):=wT H _;have Ol:(acc++[(⟨v,ks,a,c⟩:RE)]).length+(((r.drop f).drop s2).drop k).length<=b.length:=by
     rw [List.length_append,List.length_drop,List.length_drop,List.length_drop,List.length_cons,List.length_nil];omega
    have hrm:((acc.map uS).length+1) * 56<=140737488355328:=by rw [List.length_map];omega
    have hsn:(acc++[(⟨v,ks,a,c⟩:RE)]).map uS=acc.map uS++[uS ⟨v,ks,a,c⟩]:=by rw [List.map_append];rfl
    have hmu:n - (i+1)<n - i:=by omega
    have HL:zx (n - (i+1)) (((r.drop f).drop s2).drop k) (acc++[(⟨v,ks,a,c⟩:RE)])=D:=j;clear j G U F hlw A J z y;refine rnZ ?_;(exact ⟨(i+1,((r.drop f).drop s2).drop k,acc++[⟨v,ks,a,c⟩]),⟨h,hr4,Ol,HL⟩,hmu,by (repeat' (first|(exact leI hnx)|(exact rM hsn)|exact wJ|refine And.intro ?_ ?_));done⟩)
   ·have Q: ¬(i:Int)<(n:Int):=by omega
    rw [show n - i=0 by omega] at j;have HL:D=(acc,r,0):=j.symm
    repeat' ((conv=>whnf);first|refine nq Q ?_|(exact ⟨(r,acc),HL,wkZ⟩)|refine aS ?_|fail)
  ·rintro ⟨r,acc⟩ l;dsimp only at l;have hrl:((r.map Y).length:Int)=r.length:=by rw [List.length_map]
   by_cases V:r=[]
   ·obtain ⟨rfl,rfl⟩:=hDo (by rw [l]) (by rw [l];exact V);have c6: ¬((r.map Y).length:Int)>0:=by rw [V];simp
    rw [l]
    repeat' ((conv=>whnf);first|refine nq c6 ?_|refine rix ?_|refine aS ?_|exact trivial)
   ·obtain ⟨rfl,rfl⟩:=hD6 (by rw [l]) (by rw [l];exact V);have c6:((r.map Y).length:Int)>0:=by
     have:=List.length_pos_iff.2 V
     omega
    exact rcZ
 have h:=S (if (AH b).2≠0 then .nil else esT (AH b).1) (AH b).2 (fun h=>⟨if_pos h,rfl⟩) (fun h=>⟨if_neg (by simpa using h),h⟩);exact h
end Go.ST
end
section
namespace Go.ST8
open Go Go.DL Go.Proofs
def l9:LWZ Tryz.prog Tryz.f9 199 [6000006,6000007,6000008,6000009,6000010,6000011,6000012,6000013,6000014,6000015,6000016,6000017,8000031]:=⟨_,lrZ⟩
end Go.ST8
end
section
namespace Go.ST
open Go Go.DL Go.MM Go.Proofs
open Go.TY hiding Fd
open Go.RC (vi vis vs wv Au Hs)
abbrev EA:List RE:=[⟨vN,[5],10,9⟩]
abbrev EO:List RE:=[⟨vN,[7],0,10⟩]
abbrev EN:List RE:=[⟨vN,[1],20,0⟩,⟨vN,[2],21,0⟩]
abbrev E6:List RE:=[⟨vN,[4],0,40⟩]
abbrev Ce:List (Int×Int×Int):=[(5,0,0),(5,0,1),(5,0,2),(5,0,3),(5,0,4),(5,0,5),(5,0,6),(5,0,7),(5,0,8),(5,0,9)]
abbrev Qh:List (Int×Int×Int):=[(4,0,0),(4,0,0),(4,0,0),(4,0,9),(4,0,10),(4,0,11),(4,0,40),(4,0,40),(4,0,40)]
theorem Ig(k:Int)(f:ByteArray)(n m:Int)(st:List RE)(name:ByteArray)(ts:List (Int×Int×Int))(a:List Int)(b:List RE)(e:ts.length<2^20)(c:EP L17 (stp k f n m) name ts st=true)(d:vf L17 name=true)(h:xh L17 (stp k f n m) name ts ([],st)=(a,b)):
  DCalls Tryz.prog 42 [xK (stp k f n m),esT st,.str name,DM ts] (.tup [.slice 1 (a.map I),esT b]):=by
 have:=Kj (stp k f n m) st name ts e c d
 rwa [h] at this
theorem FD(k:Int)(f:ByteArray)(n m:Int)(name:ByteArray)(ts:List (Int×Int×Int))(a:List Int)(b:List RE)(e:ts.length<2^20)(c:EP L17 (stp k f n m) name ts []=true)(d:vf L17 name=true)(h:xh L17 (stp k f n m) name ts ([],[])=(a,b)):
  DCalls Tryz.prog 42 [xK (stp k f n m),.nil,.str name,DM ts] (.tup [.slice 1 (a.map I),esT b]):=
 (Ig k f n m [] name ts a b e c d h).lesAll ⟨Les.refl _,Les.nil 4,Les.refl _,Les.refl _,trivial⟩
theorem FC(a:List Int)(h:a.length<2^60):DCalls Tryz.prog 21 [.slice 1 (a.map I),.slice 1 (a.map I)] (I 0):=by
 have:=Ef a a h h
 rwa [za.2 rfl] at this
theorem LD(a:List Int)(h:a.length<2^40)(b:Bo a=true):DCalls Tryz.prog 44 [.slice 1 (a.map I)] (.bool true):=by
 have:=Gt a h
 rwa [b] at this
theorem Kn(l:List Int):wv (vis l):=fun b a=>by
 unfold vis at a;rcases List.mem_append.1 a with h|h
 ·exact Au _ b h
 ·obtain ⟨x,_,c⟩:=List.mem_flatMap.1 h;exact Au x b c
theorem Iz(st:List RE):wv (zB st):=fun b a=>by
 unfold zB at a;rcases List.mem_append.1 a with h|h
 ·exact Au _ b h
 ·obtain ⟨e,_,c⟩:=List.mem_flatMap.1 h;unfold xf at c;rcases List.mem_append.1 c with h|h
  ·exact Hs _ b h
  ·rcases List.mem_append.1 h with h|h <;> exact Kn _ b h
theorem szN: ∀e∈EN,SzE e:=fun e a=>by
 simp only [List.mem_cons,List.not_mem_nil,or_false] at a;rcases a with rfl|rfl
 all_goals exact ⟨by decide,by decide,fun x b=>by rw [List.mem_singleton.1 b];unfold Go.RC.i64;decide,by unfold Go.RC.i64;decide,by unfold Go.RC.i64;decide⟩
theorem Qe(st:List RE)(a: ∀e∈st,SzE e)(b:st.length<2^20)(d:st≠[])(c:(zB st).length<2^28):DCalls Tryz.prog 45 [bT (zB st)] (.tup [esT st,I 0]):=by
 have:=Kd (zB st) (Iz st) (by omega)
 rw [Js a (by omega)] at this;exact this
theorem KM(a b:List RE)(x:Bool)(e:a.length<2^40)(f:b.length<2^40)(c: ∀x∈a,kOk x)(d: ∀x∈b,kOk x)(h:decide (a=b)=x):DCalls Tryz.prog 47 [esT a,esT b] (.bool x):=h▸MV a b e f c d
theorem NZ(a:List RE)(b:vK a)(d:a.length<2^30)(c: ∀x∈a,kOk x)(h:D3 a []=some a):DCalls Tryz.prog 27 [esT a,.nil] (.tup [esT a,I 0]):=by
 have:=MU a [] b List.Pairwise.nil d (by decide) c (fun x e=>by cases e)
 rw [h] at this;exact this.lesAll ⟨Les.refl _,Les.nil 4,trivial⟩
theorem LC(st:List RE)(b:st.length<2^60)(a: ∀e∈st,kOk e)(x:Int)(h:Bc [] st=x):DCalls Tryz.prog 23 [.nil,esT st] (I x):=
 (h▸LK [] (by decide) (fun v c=>by cases c) st b a:DCalls Tryz.prog 23 [vsT [],esT st] (I x)).lesAll ⟨Les.nil 5,Les.refl _,trivial⟩
theorem kEA: ∀e∈EA,kOk e:=by decide
theorem kEN: ∀e∈EN,kOk e:=by decide
theorem Ki:DCalls Tryz.prog 9 [] (.bool true):=by
 refine dl2 mixed [.tmp 0] [.bool true] Tryz.func9 Go.ST8.l9.2 ?_
 skip
 refine tT 0 (α:=Nat) (β:=Unit) (fun i=>{sl:=[(1,.own 32 92 3 ((Ce.take i).map tri)),(2,.t (I i))],bx:=[]}) (fun i=>i<=10) (fun i=>10 - i)
  (fun _=>{sl:=[(1,.t (DM Ce))],bx:=[]}) (fun _=>True) 0 (by decide) ?_ ?_ ?_
 ·exact wkZ
 ·rintro i hi;rcases Nat.lt_or_ge i 10 with h|h
  ·have w:(Ce.take (i+1)).map tri=(Ce.take i).map tri++[tri (5,0,i)]:=by
    have:i=0\/i=1\/i=2\/i=3\/i=4\/i=5\/i=6\/i=7\/i=8\/i=9:=by omega
    rcases this with rfl|rfl|rfl|rfl|rfl|rfl|rfl|rfl|rfl|rfl <;> rfl
   have v:((Ce.take i).map tri).length=i:=by rw [List.length_map,List.length_take];exact Nat.min_eq_left hi
   generalize (Ce.take i).map tri=xs at *
   refine rnZ ?_;exact ⟨i+1,h,by omega,by exact wkZ⟩
  ·obtain rfl:i=10:=by omega
   refine rnZ ?_;(exact ⟨(),trivial,by (repeat' (first|(exact yq rfl)|exact wJ|refine And.intro ?_ ?_));done⟩)
 rintro _ _;have k1:=AO 1 FB 0 0;have k2:=FD 1 FB 0 0 FB Ce [1,2,3,4,5,6,7,7,7,7] EA (by decide) (by decide+kernel) (by decide+kernel) (by decide+kernel)
 skip
 refine uE (β:=Unit) (fun _=>{sl:=[(3,.t (.slice 1 ([1,2,3,4,5,6,7,7,7,7].map I))),(4,.t (esT EA))],bx:=[]}) (fun _=>True) ?_ ?_
 ·refine rnZ ?_;(exact ⟨(),trivial,wkZ⟩)
 rintro _ _;clear k1 k2;have n:=LD [1,2,3,4,5,6,7,7,7,7] (by decide) (by decide+kernel)
 skip
 refine uE (β:=Unit) (fun _=>{sl:=[(4,.t (esT EA)),(5,.t (.bool true))],bx:=[]}) (fun _=>True) ?_ ?_
 ·refine rnZ ?_;(exact ⟨(),trivial,wkZ⟩)
 rintro _ _;clear n;have o:=AO 3 e0 3 0;have p:=FD 3 e0 3 0 DG [(7,0,10)] [-1] [] (by decide) (by decide+kernel) (by decide+kernel) (by decide+kernel)
 skip
 refine uE (β:=Unit) (fun _=>{sl:=[(4,.t (esT EA)),(5,.t (.bool true)),(6,.t (.slice 1 ([-1].map I))),(7,.t (esT []))],bx:=[]}) (fun _=>True) ?_ ?_
 ·refine rnZ ?_;(exact ⟨(),trivial,wkZ⟩)
 rintro _ _;clear o p;have q:=AO 2 e0 0 0;have r:=Ig 2 e0 0 0 [] DG [(7,0,10)] [7] EO (by decide) (by decide+kernel) (by decide+kernel) (by decide+kernel)
 skip
 refine uE (β:=Unit) (fun _=>{sl:=[(4,.t (esT EA)),(5,.t (.bool true)),(6,.t (.slice 1 ([-1].map I))),(9,.t (esT EO))],bx:=[]}) (fun _=>True) ?_ ?_
 ·refine rnZ ?_;(exact ⟨(),trivial,wkZ⟩)
 rintro _ _;clear q r;have s:=AO 3 e0 3 0;have u:=Ig 3 e0 3 0 EO DG [(7,0,13),(7,0,14)] [7, -1] EO (by decide) (by decide+kernel) (by decide+kernel) (by decide+kernel)
 skip
 refine uE (β:=Unit) (fun _=>{sl:=[(4,.t (esT EA)),(5,.t (.bool true)),(6,.t (.slice 1 ([-1].map I))),(9,.t (esT EO)),(10,.t (.slice 1 ([7, -1].map I)))],bx:=[]}) (fun _=>True) ?_ ?_
 ·refine rnZ ?_;(exact ⟨(),trivial,wkZ⟩)
 rintro _ _;clear s u;have a:=FC [7, -1] (by decide)
 skip
 refine uE (β:=Unit) (fun _=>{sl:=[(4,.t (esT EA)),(5,.t (.bool true)),(12,.t (.bool true))],bx:=[]}) (fun _=>True) ?_ ?_
 ·refine rnZ ?_;(exact ⟨(),trivial,wkZ⟩)
 rintro _ _;clear a;have k11:=AO 4 Ew 20 21;have b:=FD 4 Ew 20 21 Ew [(1,0,0),(2,0,0),(1,0,0),(3,0,0)] [20,21,20, -1] EN (by decide) (by decide+kernel) (by decide+kernel) (by decide+kernel)
 skip
 refine uE (β:=Unit) (fun _=>{sl:=[(4,.t (esT EA)),(5,.t (.bool true)),(12,.t (.bool true)),(13,.t (.slice 1 ([20,21,20, -1].map I))),(14,.t (esT EN))],bx:=[]}) (fun _=>True) ?_ ?_
 ·refine rnZ ?_;(exact ⟨(),trivial,wkZ⟩)
 rintro _ _;clear k11 b;have c:=AO 5 Ew 0 0;have d:=Ig 5 Ew 0 0 EN DG [(9,21,0),(9,22,0)] [2, -1] EN (by decide) (by decide+kernel) (by decide+kernel) (by decide+kernel)
 skip
 refine uE (β:=Unit) (fun _=>{sl:=[(4,.t (esT EA)),(5,.t (.bool true)),(12,.t (.bool true)),(13,.t (.slice 1 ([20,21,20, -1].map I))),(14,.t (esT EN)),(15,.t (.slice 1 ([2, -1].map I)))],bx:=[]}) (fun _=>True) ?_ ?_
 ·refine rnZ ?_;(exact ⟨(),trivial,wkZ⟩)
 rintro _ _;clear c d;have e:=FC [20,21,20, -1] (by decide);have f:=FC [2, -1] (by decide)
 skip
 refine uE (β:=Unit) (fun _=>{sl:=[(4,.t (esT EA)),(5,.t (.bool true)),(12,.t (.bool true)),(14,.t (esT EN)),(17,.t (.bool true))],bx:=[]}) (fun _=>True) ?_ ?_
 ·refine rnZ ?_;(exact ⟨(),trivial,wkZ⟩)
 rintro _ _;clear e f;have g:=AO 6 e0 2 10;have j:=FD 6 e0 2 10 DG Qh [4,4, -1, -1,4, -1,4,4, -1] E6 (by decide) (by decide+kernel) (by decide+kernel) (by decide+kernel)
 skip
 refine uE (β:=Unit) (fun _=>{sl:=[(4,.t (esT EA)),(5,.t (.bool true)),(12,.t (.bool true)),(14,.t (esT EN)),(17,.t (.bool true)),(18,.t (.slice 1 ([4,4, -1, -1,4, -1,4,4, -1].map I)))],bx:=[]}) (fun _=>True) ?_ ?_
 ·refine rnZ ?_;(exact ⟨(),trivial,wkZ⟩)
 rintro _ _;clear g j;have k:=Ke EN szN (by decide) (by decide+kernel);have l:=Qe EN szN (by decide) (by simp) (by decide+kernel)
 skip
 refine uE (β:=Unit) (fun _=>{sl:=[(4,.t (esT EA)),(5,.t (.bool true)),(12,.t (.bool true)),(14,.t (esT EN)),(17,.t (.bool true)),(18,.t (.slice 1 ([4,4, -1, -1,4, -1,4,4, -1].map I))),(20,.t (esT EN)),(21,.t (I 0))],bx:=[]}) (fun _=>True) ?_ ?_
 ·refine rnZ ?_;(exact ⟨(),trivial,wkZ⟩)
 rintro _ _;clear k l;have m:=NZ EA (zC.1 (by decide+kernel)) (by decide) kEA (by decide+kernel)
 skip
 refine uE (β:=Unit) (fun _=>{sl:=[(4,.t (esT EA)),(5,.t (.bool true)),(12,.t (.bool true)),(14,.t (esT EN)),(17,.t (.bool true)),(18,.t (.slice 1 ([4,4, -1, -1,4, -1,4,4, -1].map I))),(20,.t (esT EN)),(21,.t (I 0)),(22,.t (esT EA)),(23,.t (I 0))],bx:=[]}) (fun _=>True) ?_ ?_
 ·refine rnZ ?_;(exact ⟨(),trivial,wkZ⟩)
 rintro _ _;clear m;have x:=FC [4,4, -1, -1,4, -1,4,4, -1] (by decide);have y:=KM EN EN true (by decide) (by decide) kEN kEN (by decide+kernel);have z:=KM EN EA false (by decide) (by decide) kEN kEA (by decide+kernel);have A:=LC EA (by decide) kEA 4 (by decide+kernel);exact rcZ
end Go.ST
end
section
end
section
namespace Go.ST
open Go Go.DL Go.MM
open Go.TY hiding Fd
def vW(ev:List Int->Option (List (List Int))):List (List Int)->List (List Int)->Option (List (List Int))
 |[],acc=>some acc
 |g::gs,acc=>match ev g with
  |none=>none
  |some xs=>if (acc++xs).length>256 then none else vW ev gs (acc++xs)
def vO(l:List Fd)(s:RS)(tick:Int):List (List Int)->List (List Int)×List RE->List (List Int)×List RE
 |[],r=>r
 |g::gs,r=>vO l s tick gs (if (doE l s r.2 g tick).pass then r.1++[(doE l s r.2 g tick).h] else r.1,(doE l s r.2 g tick).st)
def yX(l:List Fd)(tick:Int):List (Po×RS)->List (List Int)×List RE->Option (List (List Int)×List RE)
 |[],r=>some r
 |p::ps,r=>match vW (gives l tick p.1) r.1 [] with
  |none=>none
  |some a=>yX l tick ps (vO l p.2 tick a ([],r.2))
theorem Ej{l:List Fd}{vars:List RV}{s:RS}{tick:Int}(f:LOk l)(d:0<=tick)(e:tick<=1073741824)(i:s.kind=0\/CM l vars s): ∀{gs:List (List Int)} {r:List (List Int)×List RE},(∀ g∈gs,HOk g)->(∀ g∈r.1,HOk g)->OkS vars r.2->
  OkS vars (vO l s tick gs r).2/\ ∀g∈(vO l s tick gs r).1,HOk g
 |[],r,_,hr,ho=>⟨ho,hr⟩
 |g::gs,r,hg,hr,ho=>by
  have key:OkS vars (doE l s r.2 g tick).st/\HOk (doE l s r.2 g tick).h:=by
   rcases i with h|h
   ·unfold doE xO doR;rw [if_pos h];exact ⟨ho,hg g (by simp)⟩
   ·obtain ⟨a,b, -⟩:=Iy (st:=r.2) f (hg g (by simp)) ho d e h;exact ⟨a,b⟩
  unfold vO;refine Ej f d e i (fun x c=>hg x (by simp [c])) (fun x c=>?_) key.1;split at c
  ·rcases List.mem_append.1 c with c|c
   ·exact hr x c
   ·rw [List.mem_singleton.1 c];exact key.2
  ·exact hr x c
end Go.ST
end
section
namespace Go.MM
open Go Go.DL Go.Proofs
theorem vr{a b:ByteArray}:uU a b=true↔a=b:=by
 unfold uU;rw [beq_iff_eq];constructor
 ·intro h;cases a;cases b
  congr 1
  exact Array.toList_inj.1 h
 ·rintro rfl;rfl
def wS:Pr->RP
 |.tt=>.mk 1 e0 0 0 []
 |.ff=>.mk 2 e0 0 0 []
 |.eq f n=>.mk 3 f n 0 []
 |.pre f n m=>.mk 4 f n m []
 |.rng f n m=>.mk 5 f n m []
 |.not p=>.mk 6 e0 0 0 [wS p]
 |.and p q=>.mk 7 e0 0 0 [wS p,wS q]
 |.or p q=>.mk 8 e0 0 0 [wS p,wS q]
 |.time n m=>.mk 9 e0 n m []
theorem zy: ∀p:Pr,zh (wS p)=vm p
 |.tt|.ff|.eq _ _|.pre _ _ _|.rng _ _ _|.time _ _=>rfl
 |.not p=>by simp only [wS,zh,CQ,zy p];rfl
 |.and p q=>by simp only [wS,zh,CQ,zy p,zy q];rfl
 |.or p q=>by simp only [wS,zh,CQ,zy p,zy q];rfl
def zP:RP:=.mk 0 e0 0 0 []
def wb:Po->RO
 |.filter p=>.mk 1 (wS p) e0 0 []
 |.set f n=>.mk 2 zP f n []
 |.union a b=>.mk 3 zP e0 0 [wb a,wb b]
 |.seq a b=>.mk 4 zP e0 0 [wb a,wb b]
 |.star a=>.mk 5 zP e0 0 [wb a]
theorem Iw(p:Pr):vR (wS p)=(vm p).cells:=by
 have:=congrArg T.cells (zy p)
 rw [xg] at this;exact this
theorem zA: ∀p:Po,yH (wb p)=ve p
 |.filter p=>by simp only [wb,yH,BK,Iw];rfl
 |.set f n=>rfl
 |.union a b=>by simp only [wb,yH,BK,zA a,zA b];rfl
 |.seq a b=>by simp only [wb,yH,BK,zA a,zA b];rfl
 |.star a=>by simp only [wb,yH,BK,zA a];rfl
theorem DR(p:Po):.agg (uV (wb p))=ve p:=by rw [<- wP,zA]
theorem MB{α:Type}{l:List α}(h:l.length=1): ∃x,l=[x]:=List.length_eq_one_iff.1 h
theorem HV{α:Type}{l:List α}(h:l.length=2): ∃x y,l=[x,y]:=by
 match l,h with
 |[x,y],_=>exact ⟨x,y,rfl⟩
theorem Gj{f:ByteArray}{n m:Int}(h:Ak f n m=true):f=e0/\n=0/\m=0:=by
 simp only [Ak,Bool.and_eq_true,beq_iff_eq,vr] at h;exact ⟨h.1.1,h.1.2,h.2⟩
theorem IE(N:Nat): ∀r:RP,r.nodes<=N->wm r=true-> ∃p,r=wS p:=by
 induction N with
 |zero=>intro r h;have:=r.xR;omega
 |succ N e=>
  rintro ⟨k,f,n,m,l⟩ g i;simp only [RP.nodes] at g;simp only [wm,Bool.and_eq_true,beq_iff_eq] at i;obtain ⟨⟨a,c⟩,d⟩:=i;unfold okP at a;split at a
  ·rename_i b;obtain ⟨rfl,rfl,rfl⟩:=Gj a;rcases b with rfl|rfl
   ·have:l=[]:=List.length_eq_zero_iff.1 c
    subst this;exact ⟨.tt,rfl⟩
   ·have:l=[]:=List.length_eq_zero_iff.1 c
    subst this;exact ⟨.ff,rfl⟩
  split at a
  ·rename_i b;subst b;simp [yW] at a
   have:l=[]:=List.length_eq_zero_iff.1 c
   subst this;refine ⟨.eq f n.toNat,?_⟩;simp only [wS];rw [Int.toNat_of_nonneg (by omega),a.2]
  split at a
  ·rename_i b;subst b;simp [yW] at a
   have:l=[]:=List.length_eq_zero_iff.1 c
   subst this;refine ⟨.pre f n.toNat m.toNat,?_⟩;simp only [wS];rw [Int.toNat_of_nonneg (by omega),Int.toNat_of_nonneg (by omega)]
  split at a
  ·rename_i b;subst b;simp at a
   have:l=[]:=List.length_eq_zero_iff.1 c
   subst this;refine ⟨.rng f n.toNat m.toNat,?_⟩;simp only [wS];rw [Int.toNat_of_nonneg (by omega),Int.toNat_of_nonneg (by omega)]
  split at a
  ·rename_i b;obtain ⟨rfl,rfl,rfl⟩:=Gj a;rcases b with rfl|rfl|rfl
   ·obtain ⟨x,rfl⟩:=MB c;simp only [vZ,Bool.and_true] at d;simp only [vM] at g;obtain ⟨p,rfl⟩:=e x (by omega) d;exact ⟨.not p,rfl⟩
   ·obtain ⟨x,y,rfl⟩:=HV c;simp only [vZ,Bool.and_true,Bool.and_eq_true] at d;simp only [vM] at g;obtain ⟨p,rfl⟩:=e x (by omega) d.1;obtain ⟨q,rfl⟩:=e y (by omega) d.2;exact ⟨.and p q,rfl⟩
   ·obtain ⟨x,y,rfl⟩:=HV c;simp only [vZ,Bool.and_true,Bool.and_eq_true] at d;simp only [vM] at g;obtain ⟨p,rfl⟩:=e x (by omega) d.1;obtain ⟨q,rfl⟩:=e y (by omega) d.2;exact ⟨.or p q,rfl⟩
  split at a
  ·rename_i b;subst b;simp only [Bool.and_eq_true,vr] at a;obtain ⟨⟨⟨rfl,_⟩,_⟩,_⟩:=a
   have:l=[]:=List.length_eq_zero_iff.1 c
   subst this;exact ⟨.time n m,rfl⟩
  ·cases a
theorem Fc{p:RP}(h:zR p=true):p=zP:=by
 obtain ⟨k,f,n,m,a⟩:=p;simp only [zR,Bool.and_eq_true,beq_iff_eq,vr,List.length_eq_zero_iff] at h;obtain ⟨⟨⟨⟨rfl,rfl⟩,rfl⟩,rfl⟩,rfl⟩:=h;rfl
theorem Gk{f:ByteArray}{n:Int}(h:B3 f n=true):f=e0/\n=0:=by
 simpa only [B3,Bool.and_eq_true,beq_iff_eq,vr] using h
theorem ID(N:Nat): ∀r:RO,r.wt<=N->vV r=true-> ∃p,r=wb p:=by
 induction N with
 |zero=>intro r h;have:=r.zr;omega
 |succ N e=>
  rintro ⟨k,p,f,n,l⟩ g m;simp only [RO.wt] at g;simp only [vV,Bool.and_eq_true,beq_iff_eq] at m;obtain ⟨⟨a,c⟩,b⟩:=m;unfold okO at a;split at a
  ·rename_i d;subst d;rw [Bool.and_eq_true] at a;obtain ⟨s,j⟩:=a;obtain ⟨rfl,rfl⟩:=Gk j;obtain ⟨q,rfl⟩:=IE _ p (Nat.le_refl _) s
   have:l=[]:=List.length_eq_zero_iff.1 c
   subst this;exact ⟨.filter q,rfl⟩
  split at a
  ·rename_i d;subst d;simp only [Bool.and_eq_true,decide_eq_true_eq] at a;obtain ⟨⟨⟨_,i⟩,o⟩,_⟩:=a;obtain rfl:=Fc i
   have:l=[]:=List.length_eq_zero_iff.1 c
   subst this;refine ⟨.set f n.toNat,?_⟩;simp only [wb];rw [Int.toNat_of_nonneg o]
  split at a
  ·rename_i d;rw [Bool.and_eq_true] at a;obtain ⟨i,j⟩:=a;obtain rfl:=Fc i;obtain ⟨rfl,rfl⟩:=Gk j;rcases d with rfl|rfl|rfl
   ·obtain ⟨x,y,rfl⟩:=HV c;simp only [vY,Bool.and_true,Bool.and_eq_true] at b;simp only [wE] at g;obtain ⟨p,rfl⟩:=e x (by omega) b.1;obtain ⟨q,rfl⟩:=e y (by omega) b.2;exact ⟨.union p q,rfl⟩
   ·obtain ⟨x,y,rfl⟩:=HV c;simp only [vY,Bool.and_true,Bool.and_eq_true] at b;simp only [wE] at g;obtain ⟨p,rfl⟩:=e x (by omega) b.1;obtain ⟨q,rfl⟩:=e y (by omega) b.2;exact ⟨.seq p q,rfl⟩
   ·obtain ⟨x,rfl⟩:=MB c;simp only [vY,Bool.and_true] at b;simp only [wE] at g;obtain ⟨p,rfl⟩:=e x (by omega) b;exact ⟨.star p,rfl⟩
  ·cases a
theorem JK{c:Prop}[Decidable c](h:(if c then (1:Int) else 0)=0): ¬c:=fun a=>by rw [if_pos a] at h;cases h
theorem Bq{l:List Fd}: ∀p:Pr,wm (wS p)=true->(∀ x∈wK (wS p),yR l x=0)->POk l p
 |.tt,_,_=>trivial
 |.ff,_,_=>trivial
 |.time _ _,_,_=>trivial
 |.eq f n,_,h=>by
  have:=h _ (by simp only [wS,wK];exact List.mem_cons_self)
  simp only [yR] at this;rw [if_pos (.inl trivial)] at this;cases a:findF l f with
  |none=>rw [a] at this;cases this
  |some F=>
   rw [a] at this;simp only at this;have c:=JK this
   have:=Nat.two_pow_pos F.w
   refine ⟨F,a,?_⟩;simp at c;omega
 |.pre f n m,_,h=>by
  have:=h _ (by simp only [wS,wK];exact List.mem_cons_self)
  simp only [yR] at this;rw [if_pos (.inr (.inl trivial))] at this;cases a:findF l f with
  |none=>rw [a] at this;cases this
  |some F=>
   rw [a] at this;simp only at this;have c:=JK this
   have:=Nat.two_pow_pos F.w
   refine ⟨F,a,?_⟩;simp at c;omega
 |.rng f n m,hf,h=>by
  have:=h _ (by simp only [wS,wK];exact List.mem_cons_self)
  simp only [yR] at this;rw [if_pos (.inr (.inr trivial))] at this;have d:n<=m:=by
   simp [wS,wm,okP] at hf;omega
  cases a:findF l f with
  |none=>rw [a] at this;cases this
  |some F=>
   rw [a] at this;simp only at this;have c:=JK this
   have:=Nat.two_pow_pos F.w
   refine ⟨F,a,d,?_⟩;simp at c;omega
 |.not p,hf,h=>by
  simp only [wS,wm,vZ,Bool.and_eq_true] at hf;refine Bq p hf.2.1 fun x b=>h x ?_
  simp only [wS,wK,wB,List.append_nil,List.mem_cons];exact .inr b
 |.and p q,hf,h=>by
  simp only [wS,wm,vZ,Bool.and_eq_true] at hf;refine ⟨Bq p hf.2.1 fun x b=>h x ?_,Bq q hf.2.2.1 fun x b=>h x ?_⟩
  ·simp only [wS,wK,wB,List.append_nil,List.mem_cons,List.mem_append];exact .inr (.inl b)
  ·simp only [wS,wK,wB,List.append_nil,List.mem_cons,List.mem_append];exact .inr (.inr b)
 |.or p q,hf,h=>by
  simp only [wS,wm,vZ,Bool.and_eq_true] at hf;refine ⟨Bq p hf.2.1 fun x b=>h x ?_,Bq q hf.2.2.1 fun x b=>h x ?_⟩
  ·simp only [wS,wK,wB,List.append_nil,List.mem_cons,List.mem_append];exact .inr (.inl b)
  ·simp only [wS,wK,wB,List.append_nil,List.mem_cons,List.mem_append];exact .inr (.inr b)
theorem Bp{l:List Fd}: ∀p:Po,vV (wb p)=true->(∀ x∈wA (wb p),xV l x=0)->OOk l p
 |.filter p,hf,h=>by
  have:=h _ (by simp only [wb,wA];exact List.mem_cons_self)
  simp only [xV,if_true,fitAll] at this;simp [wb,vV,okO] at hf;exact Bq p hf.1.1.1 fun x c=>zJ this _ (List.mem_map.2 ⟨x,c,rfl⟩)
 |.set f n,_,h=>by
  have:=h _ (by simp only [wb,wA];exact List.mem_cons_self)
  simp only [xV] at this;rw [if_neg (by decide),if_pos trivial] at this;cases d:findF l f with
  |none=>rw [d] at this;cases this
  |some F=>
   rw [d] at this;simp only at this;split at this
   ·cases this
   ·rename_i e
    have:=Nat.two_pow_pos F.w
    exact ⟨F,d,by omega⟩
 |.union a b,hf,h=>by
  simp only [wb,vV,vY,Bool.and_eq_true] at hf;refine ⟨Bp a hf.2.1 fun x c=>h x ?_,Bp b hf.2.2.1 fun x c=>h x ?_⟩
  ·simp only [wb,wA,wo,List.append_nil,List.mem_cons,List.mem_append];exact .inr (.inl c)
  ·simp only [wb,wA,wo,List.append_nil,List.mem_cons,List.mem_append];exact .inr (.inr c)
 |.seq a b,hf,h=>by
  simp only [wb,vV,vY,Bool.and_eq_true] at hf;refine ⟨Bp a hf.2.1 fun x c=>h x ?_,Bp b hf.2.2.1 fun x c=>h x ?_⟩
  ·simp only [wb,wA,wo,List.append_nil,List.mem_cons,List.mem_append];exact .inr (.inl c)
  ·simp only [wb,wA,wo,List.append_nil,List.mem_cons,List.mem_append];exact .inr (.inr c)
 |.star a,hf,h=>by
  simp only [wb,vV,vY,Bool.and_eq_true] at hf;refine Bp a hf.2.1 fun x c=>h x ?_
  simp only [wb,wA,wo,List.append_nil,List.mem_cons];exact .inr c
theorem LX{r:RO}(h:wH r=0):r.size<=200/\r.deep<=20/\vV r=true:=by
 unfold wH CR EE at h
 by_cases a:r.size<=200/\r.deep<=20
 ·rw [if_pos a,if_pos rfl] at h;cases b:vV r with
  |true=>exact ⟨a.1,a.2,rfl⟩
  |false=>rw [b] at h;cases h
 ·rw [if_neg a] at h;cases h
theorem P7{l:List Fd}{r:RO}(h:DD l r=0):wH r=0/\ ∀x∈wA r,xV l x=0:=by
 unfold DD at h;split at h
 ·rename_i a;exact absurd h a
 ·rename_i a;exact ⟨Decidable.not_not.1 a,fun x b=>zJ h _ (List.mem_map.2 ⟨x,b,rfl⟩)⟩
theorem Km{l:List Fd}{r:RO}(h:DD l r=0): ∃p,r=wb p/\OOk l p:=by
 obtain ⟨b,c⟩:=P7 h;obtain ⟨_,_,a⟩:=LX b;obtain ⟨p,rfl⟩:=ID _ r (Nat.le_refl _) a;exact ⟨p,rfl,Bp p a c⟩
end Go.MM
end
section
namespace Go.ST
open Go Go.DL Go.MM Go.Proofs
open Go.TY hiding Fd
theorem Da(p:RE->Bool): ∀st:List RE,st.length=(st.filter p).length+(st.filter fun x=> !p x).length
 |[]=>rfl
 |x::xs=>by
  have a:=Da p xs;rw [List.filter_cons,List.filter_cons];cases p x
  ·simp;omega
  ·simp;omega
theorem Fg: ∀(ns:List ByteArray) (st:List RE),(∀ e∈st,e.var∈ns)->(∀ v,vo st v<=100)->st.length<=100 * ns.length
 |[],st,h,_=>by
  cases st with
  |nil=>simp
  |cons a r=>exact absurd (h a (by simp)) (by simp)
 |n::ns,st,h,hc=>by
  have g:=Da (fun e=>decide (e.var=n)) st;have i:(st.filter fun e=>decide (e.var=n)).length<=100:=hc n;have j:=Fg ns (st.filter fun e=> !decide (e.var=n)) (fun e f=>by
   obtain ⟨c,d⟩:=List.mem_filter.1 f;rcases List.mem_cons.1 (h e c) with b|b
   ·simp [b] at d
   ·exact b) (fun v=>Nat.le_trans (List.Sublist.length_le (List.Sublist.filter _ (List.filter_sublist))) (hc v))
  rw [List.length_cons];omega
theorem OkS.len{vars:List RV}{st:List RE}(h:OkS vars st):st.length<=100 * vars.length:=by
 have:=Fg (vars.map (·.name)) st (fun e d=>by
  obtain ⟨v,a, -⟩:=(h.fit e d).ex;unfold varOf at a;have b:=List.mem_of_find?_eq_some a;have c:=List.find?_some a;exact List.mem_map.2 ⟨v,b,by simpa using c⟩) h.few
 rwa [List.length_map] at this
theorem OkS.kok{vars:List RV}(d: ∀v∈vars,VOk v){st:List RE}(h:OkS vars st): ∀e∈st,kOk e:=fun e c=>by
 obtain ⟨v,a,b, -⟩:=(h.fit e c).ex;unfold varOf at a
 have:=(d v (List.mem_of_find?_eq_some a)).len
 have:=BM b
 show e.key.length<2^60
 omega
abbrev gOf(p:Po×RS):RG:=⟨wb p.1,p.2⟩
abbrev psT(a:List (Po×RS)):T:=.slice 15 ((a.map gOf).map vk)
structure Eo (l:List Fd) (vars:List RV) (ps:List (Po×RS)) (tick:Int):Prop where
 lok:LOk l
 no:vf l ⟨#[]⟩=false
 t0:0<=tick
 t1:tick<=1073741824
 vs: ∀v∈vars,VOk v
 vl:vars.length<=1000
 pol: ∀p∈ps,OOk l p.1
 st: ∀p∈ps,p.2.kind=0\/CM l vars p.2
theorem Eo.pre{l:List Fd}{vars:List RV}{g:List (Po×RS)}{tick:Int}(p:Eo l vars g tick){x:Po×RS}(i:x∈g){st:List RE}(e:OkS vars st){h:List Int}(d:HOk h):
  DCalls Tryz.prog 11 [fds l,xK x.2,esT st,hd h,I tick] (dnT (doE l x.2 st h tick))/\DCalls Tryz.prog 12 [fds l,xK x.2,esT st,hd h,I tick] (wF (doE l x.2 st h tick))/\OkS vars (doE l x.2 st h tick).st/\HOk (doE l x.2 st h tick).h:=by
 rcases p.st x i with c|c
 ·refine ⟨KN d c,KL d c,?_,?_⟩
  ·unfold doE xO doR;rw [if_pos c];exact e
  ·unfold doE xO doR;rw [if_pos c];exact d
 ·have hd:=Kp p.lok p.no d e (by have:=e.len;have:=p.vl;omega) p.t0 p.t1 c;have f:=e.kok p.vs;obtain ⟨a,b, -⟩:=Iy (st:=st) p.lok d e p.t0 p.t1 c;exact ⟨MS hd f,P9 hd f,a,b⟩
theorem Db{ev:List Int->Option (List (List Int))}: ∀{gs acc r:List (List Int)},acc.length<=256->vW ev gs acc=some r->r.length<=256
 |[],acc,r,h,e=>by cases e;exact h
 |g::gs,acc,r,h,e=>by
  unfold vW at e;cases b:ev g with
  |none=>rw [b] at e;cases e
  |some xs=>
   rw [b] at e;dsimp only at e
   by_cases a:(acc++xs).length>256
   ·rw [if_pos a] at e;cases e
   ·rw [if_neg a] at e;exact Db (by omega) e
theorem DW{l:List Fd}(d:LOk l){tick:Int}{p:Po}(f:OOk l p): ∀{gs acc r:List (List Int)},(∀ g∈gs,HOk g)->(∀ g∈acc,HOk g)->vW (gives l tick p) gs acc=some r-> ∀g∈r,HOk g
 |[],acc,r,_,h,e=>by cases e;exact h
 |g::gs,acc,r,hg,h,e=>by
  unfold vW at e;cases b:gives l tick p g with
  |none=>rw [b] at e;cases e
  |some xs=>
   rw [b] at e;dsimp only at e
   by_cases c:(acc++xs).length>256
   ·rw [if_pos c] at e;cases e
   ·rw [if_neg c] at e;have i:=wq d f (hg g (by simp)) b;refine DW d f (fun x a=>hg x (by simp [a])) (fun x a=>?_) e;rcases List.mem_append.1 a with a|a
    ·exact h x a
    ·exact i.ok x a
theorem Fp{l:List Fd}{tick:Int}{b:List (Po×RS)}{i:Nat}(h:i<b.length)(r:List (List Int)×List RE):
  yX l tick (b.drop i) r=match vW (gives l tick b[i].1) r.1 [] with
   |none=>none
   |some a=>yX l tick (b.drop (i+1)) (vO l b[i].2 tick a ([],r.2)):=by
 rw [List.drop_eq_getElem_cons h];rfl
theorem Cq{ev:List Int->Option (List (List Int))}{a:List (List Int)}{k:Nat}(h:k<a.length)(acc:List (List Int)):
  vW ev (a.drop k) acc=match ev a[k] with
   |none=>none
   |some xs=>if (acc++xs).length>256 then none else vW ev (a.drop (k+1)) (acc++xs):=by
 rw [List.drop_eq_getElem_cons h];rfl
theorem CH{l:List Fd}{s:RS}{tick:Int}{gs:List (List Int)}{k:Nat}(h:k<gs.length)(r:List (List Int)×List RE):
  vO l s tick (gs.drop k) r=vO l s tick (gs.drop (k+1)) (if (doE l s r.2 gs[k] tick).pass then r.1++[(doE l s r.2 gs[k] tick).h] else r.1,(doE l s r.2 gs[k] tick).st):=by
 rw [List.drop_eq_getElem_cons h];rfl
theorem Dm{l:List Fd}{s:RS}{tick:Int}: ∀{gs:List (List Int)} {r:List (List Int)×List RE},(vO l s tick gs r).1.length<=r.1.length+gs.length
 |[],r=>by simp [vO]
 |g::gs,r=>by
  unfold vO;refine Nat.le_trans Dm ?_;dsimp only;split <;> simp <;> omega
abbrev gsT(gs:List RG):T:=.slice 15 (gs.map vk)
def Ac(g:RG):Bool:=decide (g.pol.size<=20)&&decide (g.pol.xt<=2)&&Bu g.pol.xt g.pol.Ad
def CD(L:List Fd)(gs:List RG)(st:List RE):Bool:=decide (A4 L gs=0)&&decide (st.length<=250)&&decide (Bc (xX L gs) st=0)
theorem Ls(L:List Fd)(a:LOk L)(gs:List RG)(k:gs.length<2^30)(h: ∀g∈gs,SmG (2^39) g)(st:List RE)(n:st.length<2^60)(m: ∀e∈st,kOk e):
  DCalls Tryz.prog 41 [fds L,gsT gs,esT st] (.bool (CD L gs st)):=by
 refine dl2 mixed [.tmp 6] [.bool _] Tryz.func41 Go.ST7.l41.2 ?_;have i:=I3 L a gs (by omega) h;have r:((st.map uS).length:Int)=st.length:=by rw [List.length_map]
 unfold CD
 by_cases c:A4 L gs=0
 case neg=>
  rw [decide_eq_false c];generalize A4 L gs=x at *
  exact rcZ
 rw [decide_eq_true c];have f:=G5 c;have q:=Dj L a gs (by omega) (fun g o=>by have:=(h g o).st.len;omega) f.pw;have b:=GI a f;have p:=Fw (l:=L) (gs:=gs);rw [c] at i;have j:=Hh (xX L gs) (by omega) b st n m;generalize xX L gs=vars at *
 by_cases d:st.length<=250
 ·rw [decide_eq_true d]
  by_cases e:Bc vars st=0
  ·rw [decide_eq_true e];rw [e] at j;exact rcZ
  ·rw [decide_eq_false e];generalize Bc vars st=x at *
   exact rcZ
 ·rw [decide_eq_false d];exact rcZ
def CC(l:List RF)(gs:List RG)(st:List RE)(h:List Int)(tick:Int):Bool:=
 decide (AA l=0)&&Cs gs&&xq h&&decide (0<=tick)&&decide (tick<=1073741824)&&gs.all Ac&&CD (l.map RF.fd) gs st
theorem Li(l:List RF)(R:l.length<2^60)(U: ∀f∈l,f.name.size<2^62)(gs:List RG)(y:gs.length<2^30)(w: ∀g∈gs,SmG (2^39) g)(st:List RE)(B:st.length<2^60)(Q: ∀e∈st,kOk e)(h:List Int)(K:h.length=10)(tick:Int):
  DCalls Tryz.prog 8 [zH l,gsT gs,esT st,hd h,I tick] (.bool (CC l gs st h tick)):=by
 refine dl2 mixed [.tmp 10] [.bool _] Tryz.func8 Go.ST7.l8.2 ?_;have J:=t47 l R U;have V:=Gr gs (by omega) fun g S=>by have:=(w g S).wt;omega
 have W:=t11 h K;have M:((gs.map vk).length:Int)=(gs.length:Int):=by rw [List.length_map]
 have P:(h.map I).length=10:=by rw [List.length_map];exact K
 unfold CC
 by_cases p:AA l=0
 case neg=>
  rw [decide_eq_false p];generalize AA l=c at *
  exact rcZ
 have H:=DT p;have A:=H.ok;have v:=H.fds;rw [p] at J;rw [decide_eq_true p,Bool.true_and];have s:=Ls (l.map RF.fd) A gs y w st B Q;generalize CD (l.map RF.fd) gs st=b4 at *
 generalize l.map RF.fd=L at *
 rw [v] at J ⊢;generalize Cs gs=b2 at *
 generalize xq h=b3 at *
 cases b2
 ·exact rcZ
 cases b3
 ·exact rcZ
 by_cases D:0<=tick
 case neg=>rw [decide_eq_false D];exact rcZ
 by_cases O:tick<=1073741824
 case neg=>rw [decide_eq_true D,decide_eq_false O];exact rcZ
 rw [decide_eq_true D,decide_eq_true O];refine rnZ ?_;refine tT 0 (α:=Nat) (β:=Unit) (fun i=>{sl:=[(0,.t (fds L)),(1,.t (gsT gs)),(2,.t (esT st)),(14,.t (I i))],bx:=[]})
  (fun i=>i<=gs.length/\ ∀j (h:j<gs.length),j<i->Ac gs[j]=true) (fun i=>gs.length - i)
  (fun _=>{sl:=[(0,.t (fds L)),(1,.t (gsT gs)),(2,.t (esT st))],bx:=[]}) (fun _=>gs.all Ac=true) 0 (by simp) ?_ ?_ ?_
 ·exact wkZ
 ·rintro i ⟨hi,N⟩;rcases Nat.lt_or_ge i gs.length with h|h
  ·have b:(i:Int)<((gs.map vk).length:Int):=by omega
   have m:(gs.map vk)[i]?.getD .nil= .agg (uY gs[i]):=by simp [h];rfl
   have k:=Aq gs[i];have X:=(w gs[i] (List.getElem_mem h)).wt;have o:=t89 _ gs[i].pol (Nat.le_refl _) (by omega);have q:=t59 _ gs[i].pol (Nat.le_refl _) (by omega);have E:=t38 gs[i].pol (by omega);have d:Ac gs[i]=false->gs.all Ac=false:=fun u=>List.all_eq_false.2 ⟨gs[i],List.getElem_mem h,by rw [u];simp⟩
   have step:Ac gs[i]=true-> ∀j (n:j<gs.length),j<i+1->Ac gs[j]=true:=fun u j n b=>by
    rcases Nat.lt_or_ge j i with s|s
    ·exact N j n s
    ·obtain rfl:j=i:=by omega
     exact u
   have a:Ac gs[i]=(decide (gs[i].pol.size<=20)&&decide (gs[i].pol.xt<=2)&&Bu gs[i].pol.xt gs[i].pol.Ad):=rfl;generalize Ac gs[i]=pb at *
   generalize gs[i].pol.size=z at *
   generalize gs[i].pol.deep=dp at *
   generalize Bu gs[i].pol.xt gs[i].pol.Ad=lb at *
   generalize gs[i].pol.xt=sr at *
   by_cases F:z<=20
   case neg=>
    rw [d (by rw [a,decide_eq_false F];rfl)]
    repeat' ((conv=>whnf);first|exact trivial|refine nr b ?_|(refine nv_ (.agg (uY gs[i])) (by first|exact m) ?_)|(refine nv_ (.agg (uV gs[i].pol)) (by first|exact congrArg T.agg k) ?_)|refine pC _ (o) ?_|refine aD1 ?_|refine rb0 ?_|(refine And.intro (by first|exact yj _|exact zm _|exact xr _) ?_)|refine aS ?_|refine nT_ ?_)
   by_cases G:sr<=2
   case neg=>
    rw [d (by rw [a,decide_eq_false G,Bool.and_false];rfl)]
    repeat' ((conv=>whnf);first|exact trivial|refine nr b ?_|(refine nv_ (.agg (uY gs[i])) (by first|exact m) ?_)|(refine nv_ (.agg (uV gs[i].pol)) (by first|exact congrArg T.agg k) ?_)|refine pC _ (o) ?_|refine pC _ (q) ?_|refine aD1 ?_|refine aD0 ?_|refine rb0 ?_|(refine And.intro (by first|exact yj _|exact zm _|exact xr _) ?_)|refine aS ?_|refine nT_ ?_)
   cases lb with
   |false=>
    rw [d (by rw [a,Bool.and_false])]
    repeat' ((conv=>whnf);first|exact trivial|refine nr b ?_|(refine nv_ (.agg (uY gs[i])) (by first|exact m) ?_)|(refine nv_ (.agg (uV gs[i].pol)) (by first|exact congrArg T.agg k) ?_)|refine pC _ (o) ?_|refine pC _ (q) ?_|refine pC _ (E) ?_|refine aD0 ?_|refine rb0 ?_|(refine And.intro (by first|exact yj _|exact zm _|exact xr _) ?_)|refine aS ?_|refine nT_ ?_)
   |true=>
    have C:i+1<=gs.length/\ ∀j (n:j<gs.length),j<i+1->Ac gs[j]=true:=⟨h,step (by rw [a,decide_eq_true F,decide_eq_true G];rfl)⟩
    clear d step
    repeat' ((conv=>whnf);first|refine nr b ?_|(refine nv_ (.agg (uY gs[i])) (by first|exact m) ?_)|(refine nv_ (.agg (uV gs[i].pol)) (by first|exact congrArg T.agg k) ?_)|refine pC _ (o) ?_|refine pC _ (q) ?_|refine pC _ (E) ?_|refine aD0 ?_|(refine And.intro (by first|exact yj _|exact zm _|exact xr _) ?_)|refine aS ?_|refine nT_ ?_)
    exact ⟨i+1,C,by omega,by exact wkZ⟩
  ·have b: ¬(i:Int)<((gs.map vk).length:Int):=by omega
   have r:gs.all Ac=true:=List.all_eq_true.2 fun x m=>by
    obtain ⟨j,n,rfl⟩:=List.getElem_of_mem m;exact N j n (by omega)
   refine rnZ ?_;(exact ⟨(),r,wkZ⟩)
 ·rintro _ r;rw [r];exact rcZ
structure LS (l:List RF) (gs:List RG) (st:List RE) (h:List Int) (tick:Int):Prop where
 ck:MM.Checked l
 few:Cs gs=true
 hh:HOk h
 t0:0<=tick
 t1:tick<=1073741824
 pol: ∀g∈gs,g.pol.size<=20/\g.pol.xt<=2/\Bu g.pol.xt g.pol.Ad=true
 fits:Fits (l.map RF.fd) gs
 prog:A4 (l.map RF.fd) gs=0
 len:st.length<=250
 st:OkS (xX (l.map RF.fd) gs) st
theorem I9{l:List RF}{gs:List RG}{st:List RE}{h:List Int}{tick:Int}(o:h.length=10)(a:CC l gs st h tick=true):LS l gs st h tick:=by
 unfold CC CD at a;simp only [Bool.and_eq_true,decide_eq_true_eq,List.all_eq_true] at a;obtain ⟨⟨⟨⟨⟨⟨c,d⟩,e⟩,f⟩,i⟩,j⟩,⟨b,k⟩,m⟩:=a;refine ⟨DT c,d,⟨o,e⟩,f,i,fun g n=>?_,G5 b,b,k,G0.1 m⟩
 have:=j g n
 unfold Ac at this;simp only [Bool.and_eq_true,decide_eq_true_eq] at this;exact ⟨this.1.1,this.1.2,this.2⟩
end Go.ST
end
section
namespace Go.STC
open Go Go.DL Go.Proofs
def l7:LWZ Tryz.prog Tryz.f7 86 [6000004,6000005]:=⟨_,lrZ⟩
end Go.STC
end
section
namespace Go.ST
open Go Go.DL Go.MM Go.Proofs
open Go.TY hiding Fd
theorem Kq: ∀a b:List Int,a.length=b.length->eqL (a.map I) (b.map I)=decide (a=b)
 |[],[],_=>rfl
 |[],_::_,h=>by simp at h
 |_::_,[],h=>by simp at h
 |x::a,y::b,h=>by
  have f:=Kq a b (by simpa using h);show (x==y&&eqL (a.map I) (b.map I))=_
  rw [f]
  by_cases c:x=y
  ·subst c;by_cases d:a=b <;> simp [d]
  ·have:(x==y)=false:=by simpa using c
   rw [this,decide_eq_false (fun e=>c (List.cons.inj e).1)];rfl
structure Ob (l:List RF) (gs:List RG) (st:List RE) (h:List Int):Prop where
 ll:l.length<2^60
 ln: ∀f∈l,f.name.size<2^62
 gl:gs.length<2^30
 gg: ∀g∈gs,SmG (2^39) g
 sl:st.length<2^28
 sk: ∀e∈st,kOk e
 hl:h.length=10
abbrev Qf:List Sh:=[.int .i64,.int .i64,.int .i64,.int .i64,.int .i64,.int .i64,.int .i64,.int .i64,.int .i64,.int .i64]
theorem IA(a b c d e f g h i j:Int):fits Qf [I a,I b,I c,I d,I e,I f,I g,I h,I i,I j]:=⟨rfl,rfl,rfl,rfl,rfl,rfl,rfl,rfl,rfl,rfl,trivial⟩
theorem L6{a b:List Int}(h:a=b):(!eqL (a.map I) (b.map I))=false:=by rw [Kq a b (by rw [h]),decide_eq_true h];rfl
def runT(st:List RE):Option (List (List Int)×List RE)->List T
 |none=>[.nil,esT st,I 2]
 |some r=>[uT r.1,esT r.2,I 0]
theorem G8(a:List (List Int))(h:List Int):(a++[h]).map hd=a.map hd++[hd h]:=by rw [List.map_append];rfl
theorem II(a b:List (List Int)):(a++b).map hd=a.map hd++b.map hd:=List.map_append
theorem F4{a:List (List Int)}{k:Nat}(h:k<a.length):(a.map hd)[k]?.getD .nil= .agg (a[k].map I):=by simp [h,hd]
theorem N4{l:List Fd}{vars:List RV}{o:List (Po×RS)}{tick:Int}(P:Eo l vars o tick)(hpl:o.length<=1000){st:List RE}(ho:OkS vars st){h:List Int}(hh:HOk h):
  DCalls Tryz.prog 34 [fds l,psT o,esT st,hd h,I tick] (.tup (runT st (yX l tick o ([h],st)))):=by
 have main: ∀R,yX l tick o ([h],st)=R->DCalls Tryz.prog 34 [fds l,psT o,esT st,hd h,I tick] (.tup (runT st R)):=fun R hR=>by
  have e: ∃q1 q2 q3,runT st R=[q1,q2,q3]:=by cases R <;> exact ⟨_,_,_,rfl⟩
  obtain ⟨q1,q2,q3,hq⟩:=e;rw [hq];refine dl2 mixed [.tmp 10,.tmp 11,.tmp 12] [q1,q2,q3] Tryz.func34 Go.ST7.l34.2 ?_;have hn:(((o.map gOf).map vk).length:Int)=o.length:=by rw [List.length_map,List.length_map]
  have bad:R=none->q1= .nil/\q2=esT st/\q3=I 2:=fun h=>by subst h;injection hq with a b;injection b with b c;injection c with c;exact ⟨a.symm,b.symm,c.symm⟩
  have Z: ∀r,R=some r->q1=uT r.1/\q2=esT r.2/\q3=I 0:=fun r h=>by subst h;injection hq with a b;injection b with b c;injection c with c;exact ⟨a.symm,b.symm,c.symm⟩
  clear hq;obtain ⟨x0,x1,x2,x3,x4,x5,x6,x7,x8,x9,rfl⟩:=ten hh;refine rnZ ?_;refine tT 0 (α:=Nat×List (List Int)×List RE) (β:=List (List Int)×List RE) (fun p=>{sl:=[(0,.t (fds l)),(2,.t (esT st)),(4,.t (I tick)),(13,.t (uT p.2.1)),(14,.t (esT p.2.2)),(28,.t (psT o)),(29,.t (I o.length)),(30,.t (I p.1))],bx:=[]})
   (fun p=>p.1<=o.length/\vP p.2.1/\p.2.1.length<=256/\OkS vars p.2.2/\yX l tick (o.drop p.1) p.2=R) (fun p=>o.length - p.1)
   (fun p=>{sl:=[(13,.t (uT p.1)),(14,.t (esT p.2))],bx:=[]}) (fun p=>R=some p) (0,[[x0,x1,x2,x3,x4,x5,x6,x7,x8,x9]],st) ⟨Nat.zero_le _,fun g hg=>by rw [List.mem_singleton.1 hg];exact hh,by simp,ho,hR⟩ ?_ ?_ ?_
  ·repeat' (first|(exact yq rfl)|exact wJ|refine And.intro ?_ ?_)
  ·rintro ⟨i,q,v⟩ ⟨hi,hpk,JF,Gc,D⟩;dsimp only at hi hpk JF Gc D;rcases Nat.lt_or_ge i o.length with h|h
   ·have hlt:(i:Int)<(o.length:Int):=by omega
    rw [Fp h] at D;have hx:((o.map gOf).map vk)[i]?.getD .nil= .agg (uY (gOf o[i])):=by simp [h];rfl
    have hP:=P.pol o[i] (List.getElem_mem h);have hD:=fun {s:List RE} (ho:OkS vars s) {g:List Int} (hg:HOk g)=>P.pre (List.getElem_mem h) ho hg
    obtain ⟨x,hxx⟩: ∃x,o[i]=x:=⟨_,rfl⟩
    rw [hxx] at hx hP hD D;have hcl:=xT (gOf x);have Y:=EV (gOf x);have hc2:=yQ (gOf x);have hcp:uV (gOf x).pol=uV (wb x.1):=rfl;have hcs:uX (gOf x).st=uX x.2:=rfl;rw [hcp] at Y;rw [hcs] at hc2;generalize uY (gOf x)=cg at *
    have hmu:o.length - (i+1)<o.length - i:=by omega
    have hnx:((i+1:Nat):Int)=IntKind.wrap .i64 ((i:Int)+1):=by rw [oA] <;> omega
    have hpn:((q.map hd).length:Int)=q.length:=by rw [List.length_map]
    clear hR Z
    repeat' ((conv=>whnf);first|refine nr hlt ?_|(refine nv_ (.agg cg) (by first|exact hx) ?_)|(refine And.intro (by first|exact ⟨hcl,nlZ rfl⟩) ?_)|refine aS ?_|refine nT_ ?_)
    refine tT 2 (α:=Nat×List (List Int)) (β:=List (List Int)) (fun p=>{sl:=[(0,.t (fds l)),(2,.t (esT st)),(4,.t (I tick)),(14,.t (esT v)),(16,.ptr 16 0),(17,.own 51 27 10 (p.2.map hd)),(28,.t (psT o)),(29,.t (I o.length)),(30,.t (I i)),(34,.t (uT q)),(35,.t (I q.length)),(36,.t (I p.1))],bx:=[(16,.d 15 cg)]})
     (fun p=>p.1<=q.length/\p.2.length<=256/\vP p.2/\vW (gives l tick x.1) (q.drop p.1) p.2=vW (gives l tick x.1) q []) (fun p=>q.length - p.1)
     (fun g=>{sl:=[(0,.t (fds l)),(2,.t (esT st)),(4,.t (I tick)),(14,.t (esT v)),(16,.ptr 16 0),(17,.own 51 27 10 (g.map hd)),(28,.t (psT o)),(29,.t (I o.length)),(30,.t (I i))],bx:=[(16,.d 15 cg)]}) (fun g=>g.length<=256/\vP g/\vW (gives l tick x.1) q []=some g) (0,[]) ⟨Nat.zero_le _,by simp,fun g hg=>by simp at hg,rfl⟩ ?_ ?_ ?_
    ·repeat' (first|(refine My rfl ?_)|(exact (yw rfl).symm)|exact wJ|refine And.intro ?_ ?_)
    ·rintro ⟨k,j⟩ ⟨hk,hgl,K,n⟩;dsimp only at hk hgl K n;rcases Nat.lt_or_ge k q.length with C|C
     ·have wx:(k:Int)<(q.length:Int):=by omega
      rw [Cq C] at n;have F:=F4 C;have H:=hpk q[k] (List.getElem_mem C);have J:=t28 l P.lok tick x.1 hP q[k] H;have Ez:=fun xs (e:gives l tick x.1 q[k]=some xs)=>wq P.lok hP H e
      rw [<- DR] at J;have J:DCalls Tryz.prog 85 [fds l,.agg (uV (wb x.1)),.agg (q[k].map I),I tick] (MM.xO (gives l tick x.1 q[k])):=J;have w:(q[k].map I).length=10:=by rw [List.length_map];exact H.len
      have HP:0+9<=cg.length:=by omega
      generalize q[k].map I=hc at *
      have AM:((k+1:Nat):Int)=IntKind.wrap .i64 ((k:Int)+1):=by rw [oA] <;> omega
      have BT:q.length - (k+1)<q.length - k:=by omega
      cases hgv:gives l tick x.1 q[k] with
      |none=>
       rw [hgv] at J n;have J:DCalls Tryz.prog 85 [fds l,.agg (uV (wb x.1)),.agg (aP z10 0 10 hc),I tick] (.tup [uT [],I 2]):=by rw [show aP z10 0 10 hc=hc from yw rfl];exact J
       dsimp only at n;rw [<- n] at D;obtain ⟨rfl,rfl,rfl⟩:=bad D.symm
       repeat' ((conv=>whnf);first|exact trivial|refine nr wx ?_|(refine nv_ (.agg hc) (by first|exact F) ?_)|(refine nv_ (.agg (uV (wb x.1))) (by first|exact congrArg T.agg Y) ?_)|refine pC _ (J) ?_|refine aN1 ?_|refine rix ?_|(refine And.intro (by first|exact ⟨w,nlZ rfl⟩|exact HP|((simp only [List.length_map,List.length_cons,List.length_nil];omega);done)|fail) ?_)|refine aS ?_|refine nT_ ?_)
      |some xs=>
       rw [hgv] at J n;have hxs:=Ez xs hgv;have J:DCalls Tryz.prog 85 [fds l,.agg (uV (wb x.1)),.agg (aP z10 0 10 hc),I tick] (.tup [uT xs,I 0]):=by rw [show aP z10 0 10 hc=hc from yw rfl];exact J
       dsimp only at n;have hxl:=hxs.len;have hap:=II j xs;have hgn:((j.map hd++xs.map hd).length:Int)=(j++xs).length:=by rw [List.length_append,List.length_append,List.length_map,List.length_map]
       by_cases hb:(j++xs).length>256
       ·rw [if_pos hb] at n;rw [<- n] at D;obtain ⟨rfl,rfl,rfl⟩:=bad D.symm;have hb':((j.map hd++xs.map hd).length:Int)>256:=by omega
        repeat' ((conv=>whnf);first|exact trivial|refine nr wx ?_|(refine nv_ (.agg hc) (by first|exact F) ?_)|(refine nv_ (.agg (uV (wb x.1))) (by first|exact congrArg T.agg Y) ?_)|refine pC _ (J) ?_|refine nr hb' ?_|refine aN0 ?_|refine rix ?_|(refine And.intro (by first|exact ⟨w,nlZ rfl⟩|exact HP|((simp only [List.length_map,List.length_cons,List.length_nil];omega);done)|fail) ?_)|refine aS ?_|refine nT_ ?_)
       ·rw [if_neg hb] at n;have hb': ¬((j.map hd++xs.map hd).length:Int)>256:=by omega
        have B:k+1<=q.length/\(j++xs).length<=256/\vP (j++xs)/\vW (gives l tick x.1) (q.drop (k+1)) (j++xs)=vW (gives l tick x.1) q []:=⟨C,by omega,fun y hy=>(List.mem_append.1 hy).elim (K y) (hxs.ok y),n⟩
        repeat' ((conv=>whnf);first|refine nr wx ?_|(refine nv_ (.agg hc) (by first|exact F) ?_)|(refine nv_ (.agg (uV (wb x.1))) (by first|exact congrArg T.agg Y) ?_)|refine pC _ (J) ?_|refine nq hb' ?_|(exact ⟨(k+1,j++xs),B,BT,by (repeat' (first|(exact leI AM)|(exact rM hap)|exact wJ|refine And.intro ?_ ?_));done⟩)|refine aN0 ?_|(refine And.intro (by first|exact ⟨w,nlZ rfl⟩|exact HP|((simp only [List.length_map,List.length_cons,List.length_nil];omega);done)|fail) ?_)|refine aS ?_|refine nT_ ?_)
     ·have wx: ¬(k:Int)<(q.length:Int):=by omega
      rw [List.drop_eq_nil_of_le C] at n;have jV:j.length<=256/\vP j/\vW (gives l tick x.1) q []=some j:=⟨hgl,K,n.symm⟩
      refine rnZ ?_;(exact ⟨j,jV,wkZ⟩)
    ·rintro j ⟨hgl,K,n⟩;rw [n] at D;dsimp only at D;clear bad hx n;have hgn:((j.map hd).length:Int)=j.length:=by rw [List.length_map]
     skip
     refine tT 4 (α:=Nat×List (List Int)×List RE) (β:=List (List Int)×List RE) (fun p=>{sl:=[(0,.t (fds l)),(2,.t (esT st)),(4,.t (I tick)),(13,.own 82 27 10 (p.2.1.map hd)),(14,.t (esT p.2.2)),(16,.ptr 16 0),(28,.t (psT o)),(29,.t (I o.length)),(30,.t (I i)),(61,.t (uT j)),(62,.t (I j.length)),(63,.t (I p.1))],bx:=[(16,.d 15 cg)]})
      (fun p=>p.1<=j.length/\p.2.1.length<=p.1/\vP p.2.1/\OkS vars p.2.2/\vO l x.2 tick (j.drop p.1) p.2=vO l x.2 tick j ([],v)) (fun p=>j.length - p.1)
      (fun p=>{sl:=[(0,.t (fds l)),(2,.t (esT st)),(4,.t (I tick)),(13,.t (uT p.1)),(14,.t (esT p.2)),(28,.t (psT o)),(29,.t (I o.length)),(30,.t (I i))],bx:=[]}) (fun p=>p.1.length<=256/\vP p.1/\OkS vars p.2/\p=vO l x.2 tick j ([],v)) (0,[],v) ⟨Nat.zero_le _,by simp,fun g hg=>by simp at hg,Gc,rfl⟩ ?_ ?_ ?_
     ·repeat' (first|(exact yq rfl)|exact wJ|refine And.intro ?_ ?_)
     ·rintro ⟨k,f,m⟩ ⟨hk,BU,A,G,u⟩;dsimp only at hk BU A G u;rcases Nat.lt_or_ge k j.length with C|C
      ·have wx:(k:Int)<(j.length:Int):=by omega
       rw [CH C] at u;have F:=F4 C;have H:=K j[k] (List.getElem_mem C);obtain ⟨E, -,Dy,Dz⟩:=hD G H;have w:(j[k].map I).length=10:=by rw [List.length_map];exact H.len
       have E:DCalls Tryz.prog 11 [fds l,.agg (uX x.2),esT m,.agg (j[k].map I),I tick] (dnT (doE l x.2 m j[k] tick)):=E;obtain ⟨L,M,N,O,Q,S,U,V,W,X,hy⟩:=ten Dz;generalize doE l x.2 m j[k] tick=d at *
       obtain ⟨dh,dp,ds⟩:=d;dsimp only at Dy Dz hy u;subst hy;generalize j[k].map I=hc at *
       have E:DCalls Tryz.prog 11 [fds l,.agg (uX x.2),esT m,.agg (aP z10 0 10 hc),I tick] (.tup [hd [L,M,N,O,Q,S,U,V,W,X],.bool dp,esT ds]):=by rw [show aP z10 0 10 hc=hc from yw rfl];exact E
       have AM:((k+1:Nat):Int)=IntKind.wrap .i64 ((k:Int)+1):=by rw [oA] <;> omega
       have BT:j.length - (k+1)<j.length - k:=by omega
       have hrm:((f.map hd).length+1) * 80<=140737488355328:=by rw [List.length_map];omega
       have Mh:9+6<=cg.length:=by omega
       have hpp:aP (aP z10 0 10 hc) 0 10 ([L,M,N,O,Q,S,U,V,W,X].map I)=[L,M,N,O,Q,S,U,V,W,X].map I:=by rw [show aP z10 0 10 hc=hc from yw rfl,yw w]
       have hll:True/\(aP (aP z10 0 10 hc) 0 10 ([L,M,N,O,Q,S,U,V,W,X].map I)).length=10:=by rw [hpp];exact ⟨trivial,rfl⟩
       have hap:(f++[[L,M,N,O,Q,S,U,V,W,X]]).map hd=f.map hd++[.agg (aP (aP z10 0 10 hc) 0 10 ([L,M,N,O,Q,S,U,V,W,X].map I))]:=by rw [hpp];exact G8 f [L,M,N,O,Q,S,U,V,W,X]
       cases dp with
       |true=>
        rw [if_pos rfl] at u;have B:k+1<=j.length/\(f++[[L,M,N,O,Q,S,U,V,W,X]]).length<=k+1/\vP (f++[[L,M,N,O,Q,S,U,V,W,X]])/\OkS vars ds/\vO l x.2 tick (j.drop (k+1)) (f++[[L,M,N,O,Q,S,U,V,W,X]],ds)=vO l x.2 tick j ([],v):=
         ⟨C,by rw [List.length_append];simp;omega,fun z hz=>(List.mem_append.1 hz).elim (A z) (fun hz=>by rw [List.mem_singleton.1 hz];exact Dz),Dy,u⟩
        repeat' ((conv=>whnf);first|refine nr wx ?_|(refine nv_ (.agg hc) (by first|exact F) ?_)|(refine nv_ (.agg (uX x.2)) (by first|exact congrArg T.agg hc2) ?_)|refine pC _ (E) ?_|(exact ⟨(k+1,f++[[L,M,N,O,Q,S,U,V,W,X]],ds),B,BT,by (repeat' (first|(exact leI AM)|(exact rM hap)|exact wJ|refine And.intro ?_ ?_));done⟩)|(refine And.intro (by first|exact ⟨w,nlZ rfl⟩|exact Mh|exact hll|exact hrm) ?_)|refine aS ?_|refine nT_ ?_)
       |false=>
        rw [if_neg (by simp)] at u;have B:k+1<=j.length/\f.length<=k+1/\vP f/\OkS vars ds/\vO l x.2 tick (j.drop (k+1)) (f,ds)=vO l x.2 tick j ([],v):=⟨C,by omega,A,Dy,u⟩
        repeat' ((conv=>whnf);first|refine nr wx ?_|(refine nv_ (.agg hc) (by first|exact F) ?_)|(refine nv_ (.agg (uX x.2)) (by first|exact congrArg T.agg hc2) ?_)|refine pC _ (E) ?_|(exact ⟨(k+1,f,ds),B,BT,by (repeat' (first|(exact leI AM)|exact wJ|refine And.intro ?_ ?_));done⟩)|(refine And.intro (by first|exact ⟨w,nlZ rfl⟩|exact Mh) ?_)|refine aS ?_|refine nT_ ?_)
      ·have wx: ¬(k:Int)<(j.length:Int):=by omega
       rw [List.drop_eq_nil_of_le C] at u;have jV:f.length<=256/\vP f/\OkS vars m/\(f,m)=vO l x.2 tick j ([],v):=⟨by omega,A,G,u⟩
       refine rnZ ?_;(exact ⟨(f,m),jV,by (repeat' (first|(exact yq rfl)|exact wJ|refine And.intro ?_ ?_));done⟩)
     ·rintro ⟨f,m⟩ ⟨BU,A,G,u⟩;dsimp only at BU A G u;rw [<- u] at D;have B:i+1<=o.length/\vP f/\f.length<=256/\OkS vars m/\yX l tick (o.drop (i+1)) (f,m)=R:=⟨h,A,BU,G,D⟩
      refine rnZ ?_;(exact ⟨(i+1,f,m),B,hmu,by (repeat' (first|(exact leI hnx)|exact wJ|refine And.intro ?_ ?_));done⟩)
   ·have hlt: ¬(i:Int)<(o.length:Int):=by omega
    rw [List.drop_eq_nil_of_le h] at D;have jV:R=some (q,v):=D.symm;refine rnZ ?_;(exact ⟨(q,v),jV,wkZ⟩)
  ·rintro ⟨q,v⟩ jV;obtain ⟨rfl,rfl,rfl⟩:=Z _ jV;exact rcZ
 exact main _ rfl
end Go.ST
end
section
namespace Go.STB
open Go Go.DL Go.Proofs
def l35:LWZ Tryz.prog Tryz.f35 93 [6000010,6000018,8000088,2000040000009]:=⟨_,lrZ⟩
end Go.STB
end
section
namespace Go.ST
open Go Go.DL Go.MM Go.Proofs
open Go.TY hiding Fd
theorem NX{l:List Fd}{vars:List RV}{q:List (Po×RS)}{tick:Int}(P:Eo l vars q tick)(hpl:q.length<=1000){st:List RE}(ho:OkS vars st){h:List Int}(hh:HOk h):
  DCalls Tryz.prog 35 [fds l,psT q,esT st,hd h,I tick] (.agg (runT st (yX l tick q ([h],st)))):=by
 have main: ∀R,yX l tick q ([h],st)=R->DCalls Tryz.prog 35 [fds l,psT q,esT st,hd h,I tick] (.agg (runT st R)):=fun R hR=>by
  have e: ∃q1 q2 q3,runT st R=[q1,q2,q3]:=by cases R <;> exact ⟨_,_,_,rfl⟩
  obtain ⟨q1,q2,q3,hq⟩:=e;rw [hq];refine dl2 mixed [.cell 10 81] [.agg [q1,q2,q3]] Tryz.func35 Go.STB.l35.2 ?_;have hn:(((q.map gOf).map vk).length:Int)=q.length:=by rw [List.length_map,List.length_map]
  have O:R=none->q1= .nil/\q2=esT st/\q3=I 2:=fun h=>by subst h;injection hq with a b;injection b with b c;injection c with c;exact ⟨a.symm,b.symm,c.symm⟩
  have M: ∀r,R=some r->q1=uT r.1/\q2=esT r.2/\q3=I 0:=fun r h=>by subst h;injection hq with a b;injection b with b c;injection c with c;exact ⟨a.symm,b.symm,c.symm⟩
  clear hq;obtain ⟨x0,x1,x2,x3,x4,x5,x6,x7,x8,x9,rfl⟩:=ten hh;refine rnZ ?_;refine tT 0 (α:=Nat×List (List Int)×List RE) (β:=List (List Int)×List RE) (fun p=>{sl:=[(0,.t (fds l)),(1,.t (psT q)),(2,.t (esT st)),(4,.t (I tick)),(10,.ptr 10 0),(11,.t (uT p.2.1)),(12,.t (esT p.2.2)),(13,.t (I p.1))],bx:=[(10,.d 3 [.nil,.nil,I 0])]})
   (fun p=>p.1<=q.length/\vP p.2.1/\p.2.1.length<=256/\OkS vars p.2.2/\yX l tick (q.drop p.1) p.2=R) (fun p=>q.length - p.1)
   (fun p=>{sl:=[(10,.ptr 10 0),(11,.t (uT p.1)),(12,.t (esT p.2))],bx:=[(10,.d 3 [.nil,.nil,I 0])]}) (fun p=>R=some p) (0,[[x0,x1,x2,x3,x4,x5,x6,x7,x8,x9]],st) ⟨Nat.zero_le _,fun g S=>by rw [List.mem_singleton.1 S];exact hh,by simp,ho,hR⟩ ?_ ?_ ?_
  ·repeat' (first|(exact yq rfl)|exact wJ|refine And.intro ?_ ?_)
  ·rintro ⟨i,o,v⟩ ⟨hi,hpk,JF,Gc,D⟩;dsimp only at hi hpk JF Gc D;rcases Nat.lt_or_ge i q.length with h|h
   ·have hlt:(i:Int)<(((q.map gOf).map vk).length:Int):=by omega
    rw [Fp h] at D;have hx:((q.map gOf).map vk)[i]?.getD .nil= .agg (uY (gOf q[i])):=by simp [h];rfl
    have hP:=P.pol q[i] (List.getElem_mem h);have hD:=fun {s:List RE} (ho:OkS vars s) {g:List Int} (S:HOk g)=>P.pre (List.getElem_mem h) ho S
    obtain ⟨x,hxx⟩: ∃x,q[i]=x:=⟨_,rfl⟩
    rw [hxx] at hx hP hD D;have L:=Aq (gOf x);have hc2:=yQ (gOf x);have hcp:uV (gOf x).pol=uV (wb x.1):=rfl;have hcs:uX (gOf x).st=uX x.2:=rfl;rw [hcp] at L;rw [hcs] at hc2;have hmu:q.length - (i+1)<q.length - i:=by omega
    have hnx:((i+1:Nat):Int)=IntKind.wrap .i64 ((i:Int)+1):=by rw [oA] <;> omega
    have hpn:((o.map hd).length:Int)=o.length:=by rw [List.length_map]
    clear hR M;refine rnZ ?_;refine tT 2 (α:=Nat×List (List Int)) (β:=List (List Int)) (fun p=>{sl:=[(0,.t (fds l)),(1,.t (psT q)),(2,.t (esT st)),(4,.t (I tick)),(10,.ptr 10 0),(11,.t (uT o)),(12,.t (esT v)),(13,.t (I i)),(14,.own 52 27 10 (p.2.map hd)),(15,.t (I p.1))],bx:=[(10,.d 3 [.nil,.nil,I 0])]})
     (fun p=>p.1<=o.length/\p.2.length<=256/\vP p.2/\vW (gives l tick x.1) (o.drop p.1) p.2=vW (gives l tick x.1) o []) (fun p=>o.length - p.1)
     (fun g=>{sl:=[(0,.t (fds l)),(1,.t (psT q)),(2,.t (esT st)),(4,.t (I tick)),(10,.ptr 10 0),(12,.t (esT v)),(13,.t (I i)),(14,.own 52 27 10 (g.map hd))],bx:=[(10,.d 3 [.nil,.nil,I 0])]}) (fun g=>g.length<=256/\vP g/\vW (gives l tick x.1) o []=some g) (0,[]) ⟨Nat.zero_le _,by simp,fun g S=>by simp at S,rfl⟩ ?_ ?_ ?_
    ·exact wkZ
    ·rintro ⟨k,f⟩ ⟨hk,U,K,n⟩;dsimp only at hk U K n;rcases Nat.lt_or_ge k o.length with C|C
     ·have wx:(k:Int)<((o.map hd).length:Int):=by omega
      rw [Cq C] at n;have J:=F4 C;have G:=hpk o[k] (List.getElem_mem C);have N:=t31 l P.lok tick x.1 hP o[k] G;have Ez:=fun xs (e:gives l tick x.1 o[k]=some xs)=>wq P.lok hP G e
      rw [<- DR] at N;have N:DCalls Tryz.prog 86 [fds l,.agg (uV (wb x.1)),.agg (o[k].map I),I tick] (MM.xO (gives l tick x.1 o[k])):=N;have H:(o[k].map I).length=10:=by rw [List.length_map];exact G.len
      generalize o[k].map I=hc at *
      have AM:((k+1:Nat):Int)=IntKind.wrap .i64 ((k:Int)+1):=by rw [oA] <;> omega
      have BT:o.length - (k+1)<o.length - k:=by omega
      obtain ⟨xs,er,hE2,V,W⟩: ∃(xs:List (List Int)) (er:Int),DCalls Tryz.prog 86 [fds l,.agg (uV (wb x.1)),.agg hc,I tick] (.tup [uT xs,I er])/\(gives l tick x.1 o[k]=none->er=2/\xs=[])/\(∀ ys,gives l tick x.1 o[k]=some ys->er=0/\xs=ys):=by
       cases w:gives l tick x.1 o[k] with
       |none=>rw [w] at N;exact ⟨[],2,N,(fun _=>⟨rfl,rfl⟩),(fun _ h=>by cases h)⟩
       |some xs=>rw [w] at N;exact ⟨xs,0,N,(fun h=>by cases h),(fun ys h=>by cases h;exact ⟨rfl,rfl⟩)⟩
      refine rnZ ?_;refine uE (β:=Unit) (fun _=>{sl:=[(0,.t (fds l)),(1,.t (psT q)),(2,.t (esT st)),(4,.t (I tick)),(10,.ptr 10 0),(11,.t (uT o)),(12,.t (esT v)),(13,.t (I i)),(14,.own 52 27 10 (f.map hd)),(15,.t (I k)),(16,.t (uT xs)),(17,.t (I er))],bx:=[(10,.d 3 [.nil,.nil,I 0])]}) (fun _=>True) ?_ ?_
      ·repeat' ((conv=>whnf);first|(refine nv_ (.agg hc) (by first|exact J) ?_)|(refine nv_ (.agg (uY (gOf x))) (by first|exact hx) ?_)|(refine nv_ (.agg (uV (wb x.1))) (by first|exact congrArg T.agg L) ?_)|refine pC _ (hE2) ?_|(exact ⟨(),trivial,wkZ⟩)|(refine And.intro (by first|exact yj _|exact zm _|exact xr _|exact H) ?_)|refine aS ?_|refine nT_ ?_)
      rintro _ _;clear N hE2 J H L;have Mf:=Ez;cases w:gives l tick x.1 o[k] with
      |none=>
       obtain ⟨rfl,rfl⟩:=V w;rw [w] at n;dsimp only at n;rw [<- n] at D;obtain ⟨rfl,rfl,rfl⟩:=O D.symm;clear V W Ez Mf hD;exact rcZ
      |some zs=>
       obtain ⟨rfl,hz⟩:=W zs w;rw [w, <-hz] at n;have X:=Ez zs w;rw [<- hz] at X;dsimp only at n;have hxl:=X.len;have Q:=II f xs;have hgn:((f.map hd++xs.map hd).length:Int)=(f++xs).length:=by rw [List.length_append,List.length_append,List.length_map,List.length_map]
       clear V W Ez Mf hD
       by_cases hb:(f++xs).length>256
       ·rw [if_pos hb] at n;rw [<- n] at D;obtain ⟨rfl,rfl,rfl⟩:=O D.symm;have hb':((f.map hd++xs.map hd).length:Int)>256:=by omega
        exact rcZ
       ·rw [if_neg hb] at n;have hb': ¬((f.map hd++xs.map hd).length:Int)>256:=by omega
        have B:k+1<=o.length/\(f++xs).length<=256/\vP (f++xs)/\vW (gives l tick x.1) (o.drop (k+1)) (f++xs)=vW (gives l tick x.1) o []:=⟨C,by omega,fun y hy=>(List.mem_append.1 hy).elim (K y) (X.ok y),n⟩
        refine rnZ ?_;(exact ⟨(k+1,f++xs),B,BT,by (repeat' (first|(exact leI AM)|(exact rM Q)|exact wJ|refine And.intro ?_ ?_));done⟩)
     ·have wx: ¬(k:Int)<((o.map hd).length:Int):=by omega
      rw [List.drop_eq_nil_of_le C] at n;have Y:f.length<=256/\vP f/\vW (gives l tick x.1) o []=some f:=⟨U,K,n.symm⟩
      refine rnZ ?_;(exact ⟨f,Y,wkZ⟩)
    ·rintro f ⟨U,K,n⟩;rw [n] at D;dsimp only at D;clear O n L;have hgn:((f.map hd).length:Int)=f.length:=by rw [List.length_map]
     skip
     refine tT 4 (α:=Nat×List (List Int)×List RE) (β:=List (List Int)×List RE) (fun p=>{sl:=[(0,.t (fds l)),(1,.t (psT q)),(2,.t (esT st)),(4,.t (I tick)),(10,.ptr 10 0),(11,.own 89 27 10 (p.2.1.map hd)),(12,.t (esT p.2.2)),(13,.t (I i)),(14,.t (uT f)),(18,.t (I p.1))],bx:=[(10,.d 3 [.nil,.nil,I 0])]})
      (fun p=>p.1<=f.length/\p.2.1.length<=p.1/\vP p.2.1/\OkS vars p.2.2/\vO l x.2 tick (f.drop p.1) p.2=vO l x.2 tick f ([],v)) (fun p=>f.length - p.1)
      (fun p=>{sl:=[(0,.t (fds l)),(1,.t (psT q)),(2,.t (esT st)),(4,.t (I tick)),(10,.ptr 10 0),(11,.t (uT p.1)),(12,.t (esT p.2)),(13,.t (I i))],bx:=[(10,.d 3 [.nil,.nil,I 0])]}) (fun p=>p.1.length<=256/\vP p.1/\OkS vars p.2/\p=vO l x.2 tick f ([],v)) (0,[],v) ⟨Nat.zero_le _,by simp,fun g S=>by simp at S,Gc,rfl⟩ ?_ ?_ ?_
     ·repeat' (first|(exact yq rfl)|exact wJ|refine And.intro ?_ ?_)
     ·rintro ⟨k,j,m⟩ ⟨hk,BU,A,F,u⟩;dsimp only at hk BU A F u;rcases Nat.lt_or_ge k f.length with C|C
      ·have wx:(k:Int)<((f.map hd).length:Int):=by omega
       rw [CH C] at u;have J:=F4 C;have G:=K f[k] (List.getElem_mem C);obtain ⟨-,E,Dy,Dz⟩:=hD F G;have H:(f[k].map I).length=10:=by rw [List.length_map];exact G.len
       have E:DCalls Tryz.prog 12 [fds l,.agg (uX x.2),esT m,.agg (f[k].map I),I tick] (wF (doE l x.2 m f[k] tick)):=E;obtain ⟨Z,y1,y2,y3,y4,y5,y6,y7,y8,y9,hy⟩:=ten Dz;generalize doE l x.2 m f[k] tick=d at *
       obtain ⟨dh,dp,ds⟩:=d;dsimp only at Dy Dz hy u;subst hy;generalize f[k].map I=hc at *
       have E:DCalls Tryz.prog 12 [fds l,.agg (uX x.2),esT m,.agg hc,I tick] (.agg [I Z,I y1,I y2,I y3,I y4,I y5,I y6,I y7,I y8,I y9,.bool dp,esT ds]):=E;have AM:((k+1:Nat):Int)=IntKind.wrap .i64 ((k:Int)+1):=by rw [oA] <;> omega
       have BT:f.length - (k+1)<f.length - k:=by omega
       have hrm:((j.map hd).length+1) * 80<=140737488355328:=by rw [List.length_map];omega
       have Q:=G8 j [Z,y1,y2,y3,y4,y5,y6,y7,y8,y9];refine rnZ ?_;refine uE (β:=Unit) (fun _=>{sl:=[(0,.t (fds l)),(1,.t (psT q)),(2,.t (esT st)),(4,.t (I tick)),(10,.ptr 10 0),(11,.own 89 27 10 (j.map hd)),(13,.t (I i)),(14,.t (uT f)),(18,.t (I k)),(19,.ptr 19 0)],bx:=[(10,.d 3 [.nil,.nil,I 0]),(19,.d 12 [I Z,I y1,I y2,I y3,I y4,I y5,I y6,I y7,I y8,I y9,.bool dp,esT ds])]}) (fun _=>True) ?_ ?_
       ·repeat' ((conv=>whnf);first|(refine nv_ (.agg hc) (by first|exact J) ?_)|(refine nv_ (.agg (uY (gOf x))) (by first|exact hx) ?_)|(refine nv_ (.agg (uX x.2)) (by first|exact congrArg T.agg hc2) ?_)|refine pC _ (E) ?_|(exact ⟨(),trivial,wkZ⟩)|(refine And.intro (by first|exact xr _|exact H) ?_)|refine aS ?_|refine nT_ ?_)
       rintro _ _;clear E J H hD hx;cases dp with
       |true=>
        rw [if_pos rfl] at u;have B:k+1<=f.length/\(j++[[Z,y1,y2,y3,y4,y5,y6,y7,y8,y9]]).length<=k+1/\vP (j++[[Z,y1,y2,y3,y4,y5,y6,y7,y8,y9]])/\OkS vars ds/\vO l x.2 tick (f.drop (k+1)) (j++[[Z,y1,y2,y3,y4,y5,y6,y7,y8,y9]],ds)=vO l x.2 tick f ([],v):=
         ⟨C,by rw [List.length_append];simp;omega,fun z hz=>(List.mem_append.1 hz).elim (A z) (fun hz=>by rw [List.mem_singleton.1 hz];exact Dz),Dy,u⟩
        refine rnZ ?_;(exact ⟨(k+1,j++[[Z,y1,y2,y3,y4,y5,y6,y7,y8,y9]],ds),B,BT,by (repeat' (first|(exact leI AM)|(exact rM Q)|exact wJ|refine And.intro ?_ ?_));done⟩)
       |false=>
        rw [if_neg (by simp)] at u;have B:k+1<=f.length/\j.length<=k+1/\vP j/\OkS vars ds/\vO l x.2 tick (f.drop (k+1)) (j,ds)=vO l x.2 tick f ([],v):=⟨C,by omega,A,Dy,u⟩
        refine rnZ ?_;(exact ⟨(k+1,j,ds),B,BT,by (repeat' (first|(exact leI AM)|exact wJ|refine And.intro ?_ ?_));done⟩)
      ·have wx: ¬(k:Int)<((f.map hd).length:Int):=by omega
       rw [List.drop_eq_nil_of_le C] at u;have Y:j.length<=256/\vP j/\OkS vars m/\(j,m)=vO l x.2 tick f ([],v):=⟨by omega,A,F,u⟩
       refine rnZ ?_;(exact ⟨(j,m),Y,by (repeat' (first|(exact yq rfl)|exact wJ|refine And.intro ?_ ?_));done⟩)
     ·rintro ⟨j,m⟩ ⟨BU,A,F,u⟩;dsimp only at BU A F u;rw [<- u] at D;have B:i+1<=q.length/\vP j/\j.length<=256/\OkS vars m/\yX l tick (q.drop (i+1)) (j,m)=R:=⟨h,A,BU,F,D⟩
      refine rnZ ?_;(exact ⟨(i+1,j,m),B,hmu,by (repeat' (first|(exact leI hnx)|exact wJ|refine And.intro ?_ ?_));done⟩)
   ·have hlt: ¬(i:Int)<(((q.map gOf).map vk).length:Int):=by omega
    rw [List.drop_eq_nil_of_le h] at D;have Y:R=some (o,v):=D.symm;refine rnZ ?_;(exact ⟨(o,v),Y,wkZ⟩)
  ·rintro ⟨o,v⟩ Y;obtain ⟨rfl,rfl,rfl⟩:=M _ Y;exact rcZ
 exact main _ rfl
theorem Hk{l:List Fd}{vars:List RV}{tick:Int}: ∀{h:List (Po×RS)},Eo l vars h tick-> ∀{r b:List (List Int)×List RE},vP r.1->OkS vars r.2->r.1.length<=256->yX l tick h r=some b->vP b.1/\OkS vars b.2/\b.1.length<=256
 |[],_,r,b,h1,h2,h3,e=>by cases e;exact ⟨h1,h2,h3⟩
 |p::h,P,r,b,h1,h2,h3,e=>by
  unfold yX at e;cases d:vW (gives l tick p.1) r.1 [] with
  |none=>rw [d] at e;cases e
  |some a=>
   rw [d] at e;dsimp only at e;have c:=DW P.lok (P.pol p (by simp)) h1 (fun g c=>by simp at c) d;have i:=Db (by simp) d;obtain ⟨k,m⟩:=Ej (r:=([],r.2)) P.lok P.t0 P.t1 (P.st p (by simp)) c (fun g c=>by simp at c) h2;have j:=Dm (l:=l) (s:=p.2) (tick:=tick) (gs:=a) (r:=([],r.2));refine Hk ⟨P.lok,P.no,P.t0,P.t1,P.vs,P.vl,fun q f=>P.pol q (by simp [f]),fun q f=>P.st q (by simp [f])⟩ m k ?_ e
   have:([]:List (List Int)).length=0:=rfl
   dsimp only at j;omega
theorem Ks{L:List Fd}: ∀{gs:List RG},(∀ g∈gs,yJ L g.pol=0)-> ∃b:List (Po×RS),gs=b.map gOf/\ ∀p∈b,OOk L p.1
 |[],_=>⟨[],rfl,by simp⟩
 |g::gs,h=>by
  obtain ⟨b,d,i⟩:=Ks (gs:=gs) (fun x a=>h x (by simp [a]));subst d;have f:=h g (by simp);rw [He] at f;obtain ⟨p,e,j⟩:=Km f;refine ⟨(p,g.st)::b,?_,fun x a=>?_⟩
  ·rw [List.map_cons]
   congr 1
   obtain ⟨k,c⟩:=g;exact congrArg (fun y=>RG.mk y c) e
  ·rcases List.mem_cons.1 a with rfl|a
   ·exact j
   ·exact i x a
theorem law_Runs(l:List RF)(gs:List RG)(st:List RE)(h:List Int)(tick:Int)(a:Ob l gs st h):DCalls Tryz.prog 7 [zH l,gsT gs,esT st,hd h,I tick] (.bool true):=by
 refine dl2 mixed [.tmp 10] [.bool true] Tryz.func7 Go.STC.l7.2 ?_;have Q:=Ki;have C:=Li l a.ll a.ln gs a.gl a.gg st (by have:=a.sl;omega) a.sk h a.hl tick;have h10:(h.map I).length=10:=by rw [List.length_map];exact a.hl
 cases B:CC l gs st h tick with
 |false=>
  rw [B] at C;exact rcZ
 |true=>
 rw [B] at C;have p:=I9 a.hl B;have hV:=Dj (l.map RF.fd) p.ck.ok gs (by have:=a.gl;omega) (fun g hm=>by have:=(a.gg g hm).st.len;omega) p.fits.pw;have m:=GI p.ck.ok p.fits;have U:gs.length<=12:=by have:=p.few;unfold Cs at this;simp only [Bool.and_eq_true,decide_eq_true_eq] at this;exact this.2
 have hvl:(xX (l.map RF.fd) gs).length<=1000:=by
  have h2:=Fw (l:=l.map RF.fd) (gs:=gs);omega
 obtain ⟨A,c,y⟩:=Ks p.fits.pol;have P:Eo (l.map RF.fd) (xX (l.map RF.fd) gs) A tick:=⟨p.ck.ok,NL p.ck,p.t0,p.t1,m,hvl,y,fun x hx=>by
  by_cases Q:x.2.kind=0
  ·exact Or.inl Q
  ·exact Or.inr (J5 p.fits (g:=gOf x) (by rw [c];exact List.mem_map.2 ⟨x,hx,rfl⟩) Q)⟩
 have w:A.length<=1000:=by rw [c,List.length_map] at U;omega
 have k1:=N4 P w p.st p.hh;have k2:=NX P w p.st p.hh;have vg:=fun r (e:yX (l.map RF.fd) tick A ([h],st)=some r)=>Hk P (r:=([h],st)) (fun g S=>by rw [List.mem_singleton.1 S];exact p.hh) p.st (by simp) e
 have z:=p.st;have hsl:=p.len;rw [show psT A=gsT gs by rw [c]] at k1 k2;have u:=p.hh;have n:=p.ck.fds;rw [n] at C ⊢;clear n B a p P c y;generalize l.map RF.fd=L at *
 generalize xX L gs=vars at *
 obtain ⟨x0,x1,x2,x3,x4,x5,x6,x7,x8,x9,rfl⟩:=ten u;obtain ⟨b,s,j,q,V,W,Z,f,hlen,hqq⟩: ∃(b:List (List Int)) (s:List RE) (j:Int) (q:T),DCalls Tryz.prog 34 [fds L,gsT gs,esT st,.agg [I x0,I x1,I x2,I x3,I x4,I x5,I x6,I x7,I x8,I x9],I tick] (.tup [q,esT s,I j])/\DCalls Tryz.prog 35 [fds L,gsT gs,esT st,.agg [I x0,I x1,I x2,I x3,I x4,I x5,I x6,I x7,I x8,I x9],I tick] (.agg [q,esT s,I j])/\vP b/\OkS vars s/\b.length<=256/\(q=uT b\/(q= .nil/\b=[])):=by
  cases R:yX L tick A ([[x0,x1,x2,x3,x4,x5,x6,x7,x8,x9]],st) with
  |none=>
   rw [R] at k1 k2;exact ⟨[],st,2,.nil,k1,k2,(fun g S=>by simp at S),z,by simp,Or.inr ⟨rfl,rfl⟩⟩
  |some r=>
   rw [R] at k1 k2;obtain ⟨o1,o2,o3⟩:=vg r R;exact ⟨r.1,r.2,0,uT r.1,k1,k2,o1,o2,o3,Or.inl rfl⟩
 clear k1 k2 vg;have hdl:s.length<=200000:=by have:=f.len;omega
 have k:=f.kok m;have c1:=MJ s s (by omega) (by omega) k k;rw [decide_eq_true rfl] at c1;have c2:=Hh vars (by omega) m s (by omega) k;rw [G0.2 f] at c2;refine rnZ ?_;refine uE (β:=Unit) (fun _=>{sl:=[(0,.t (fds L)),(1,.t (gsT gs)),(2,.t (esT st)),(4,.t (I tick)),(8,.ptr 8 0),(12,.t q),(13,.t (esT s)),(14,.t (I j))],bx:=[(8,.d 10 [I x0,I x1,I x2,I x3,I x4,I x5,I x6,I x7,I x8,I x9])]}) (fun _=>True) ?_ ?_
 ·refine rnZ ?_;(exact ⟨(),trivial,wkZ⟩)
 rintro _ _
 skip
 refine uE (β:=Unit) (fun _=>{sl:=[(0,.t (fds L)),(1,.t (gsT gs)),(12,.t q),(13,.t (esT s)),(14,.t (I j)),(15,.ptr 15 0)],bx:=[(15,.d 3 [q,esT s,I j])]}) (fun _=>True) ?_ ?_
 ·refine rnZ ?_;(exact ⟨(),trivial,wkZ⟩)
 rintro _ _;clear V W C u f z;rcases hqq with rfl|⟨rfl,rfl⟩
 ·refine rnZ ?_;have hn:((b.map hd).length:Int)=b.length:=by rw [List.length_map]
  refine tT 0 (α:=Nat) (β:=Unit) (fun i=>{sl:=[(12,.t (uT b)),(15,.ptr 15 0),(16,.t (I i))],bx:=[(15,.d 3 [uT b,esT s,I j])]})
   (fun i=>i<=b.length) (fun i=>b.length - i) (fun _=>{sl:=[],bx:=[]}) (fun _=>True) 0 (by simp) ?_ ?_ ?_
  ·exact wkZ
  ·rintro i hi;rcases Nat.lt_or_ge i b.length with h|h
   ·have v:(i:Int)<((b.map hd).length:Int):=by omega
    have o:=F4 h;obtain ⟨D,E,F,G,H,J,K,M,N,O,hy⟩:=ten (Z b[i] (List.getElem_mem h));rw [hy] at o;have e1:(!eqL [I D,I E,I F,I G,I H,I J,I K,I M,I N,I O] [I D,I E,I F,I G,I H,I J,I K,I M,I N,I O])=false:=L6 (a:=[D,E,F,G,H,J,K,M,N,O]) rfl;have Y:((i+1:Nat):Int)=IntKind.wrap .i64 ((i:Int)+1):=by rw [oA] <;> omega
    have X:b.length - (i+1)<b.length - i:=by omega
    repeat' ((conv=>whnf);first|refine nr v ?_|(refine nv_ (.agg [I D,I E,I F,I G,I H,I J,I K,I M,I N,I O]) (by first|exact o) ?_)|refine nb_ _ e1 ?_|(exact ⟨i+1,h,X,by (repeat' (first|(exact leI Y)|exact wJ|refine And.intro ?_ ?_));done⟩)|(refine And.intro (by first|exact ⟨IA ..,IA ..⟩) ?_)|refine aS ?_|refine nT_ ?_)
   ·have v: ¬(i:Int)<((b.map hd).length:Int):=by omega
    refine rnZ ?_;(exact ⟨(),trivial,wkZ⟩)
  ·rintro _ _;exact rcZ
 ·refine rnZ ?_;refine tT 0 (α:=Unit) (β:=Unit) (fun _=>{sl:=[(12,.t .nil),(15,.ptr 15 0),(16,.t (I 0))],bx:=[(15,.d 3 [.nil,esT s,I j])]})
   (fun _=>True) (fun _=>0) (fun _=>{sl:=[],bx:=[]}) (fun _=>True) () trivial ?_ ?_ ?_
  ·exact wkZ
  ·rintro _ _;refine rnZ ?_;(exact ⟨(),trivial,wkZ⟩)
  ·rintro _ _;exact rcZ
end Go.ST
end
section
end
section
end
section
end
section
end
section
end
section
end
section
end
section
end
section
namespace Go.MM
open Go Go.DL Go.Proofs
theorem aInt{us:List T}(h:cE Tryz.prog 3 us): ∃n,mkT Tryz.prog 3 us=I n:=by
 obtain ⟨n,rfl,_⟩:=xm h;exact ⟨n,by unfold mkT;rw [Tryz.underlying3];rfl⟩
theorem aHead{us:List T}(h:cE Tryz.prog 27 us): ∃h,mkT Tryz.prog 27 us=hd h/\h.length=10:=by
 obtain ⟨x,rfl,a,_⟩:=K8 h;exact ⟨x,P3 _,a⟩
theorem aFields{us:List T}(h:cE Tryz.prog 22 us)(e:aU us<=1048576): ∃l,Les (mkT Tryz.prog 22 us) (zH l)/\l.length<2^60/\ ∀f∈l,f.name.size<2^62:=by
 obtain ⟨l,a,d,b⟩:=I6 h;exact ⟨l,a,by omega,fun f c=>by have:=b f c;omega⟩
end Go.MM
end
section
namespace Go.ST
open Go Go.DL Go.MM Go.Proofs
open Go.TY hiding Fd
def typesS:List TypeId:=[22,54,36,34,39,37,42,40,44,24,30,67,59,25,64,27,9,3,4]
theorem typesS_ok:fj Tryz.prog typesS=true:=by kernel_rfl
theorem FN:Tryz.prog.cellsOf 64=4:=by kernel_rfl
theorem NK(us:List T):mkT Tryz.prog 64 us= .agg us:=by unfold mkT;rw [Tryz.underlying64]
theorem Ny{us:List T}(h:us.length=4): ∃a b c d,us=[a,b,c,d]:=by
 match us,h with
 |[a,b,c,d],_=>exact ⟨a,b,c,d,rfl⟩
theorem JZ{us:List T}(h:cE Tryz.prog 64 us): ∃e:RE,dz us (uR e)/\e.key.length<aU us:=by
 cases h with
 |struct h us q f=>
  rw [Tryz.underlying64] at h;cases h;rw [FN] at q;obtain ⟨a,b,c,d,rfl⟩:=Ny q;have j:=f ⟨ "Var",9,0,false, "", "",0⟩ (by simp);have k:=f ⟨ "Key",59,1,false, "", "",16⟩ (by simp);have o:=f ⟨ "N",3,2,false, "", "",40⟩ (by simp);have p:=f ⟨ "At",3,3,false, "", "",48⟩ (by simp);simp only [Az,Bn,Iu,List.drop,List.take] at j k o p;obtain ⟨v,e0⟩:=AK j;obtain ⟨l,r,s⟩:=Lx k;obtain ⟨n,g,_⟩:=xm o;obtain ⟨m,i,_⟩:=xm p;simp only [List.cons.injEq,and_true] at e0 g i;subst e0;subst g;subst i;refine ⟨⟨v,l,n,m⟩,.cons (Les.refl _) rfl (dz.append (us:=[T.slice 1 (l.map I)]) r (.cons (Les.refl _) rfl (.cons (Les.refl _) rfl .nil))),?_⟩;simp only [aU,T.bulk] at s ⊢;show l.length<_
  omega
 |int h|bool h|str h|nil h|slice h|array h=>rw [Tryz.underlying64] at h;cases h
theorem aEnts{us:List T}(h:cE Tryz.prog 25 us)(d:aU us<=1048576): ∃st:List RE,Les (mkT Tryz.prog 25 us) (esT st)/\st.length<=1048576/\ ∀e∈st,kOk e:=by
 have e: ∀t,mkT Tryz.prog 25 [t]=t:=fun t=>by unfold mkT;rw [wg];rfl
 cases h with
 |nil h=>exact ⟨[],by rw [e];exact Les.nil 4,by simp,by simp⟩
 |slice h xs c p=>
  rw [wg] at h;cases h;rw [e,FN];have m:xs.map (mkT Tryz.prog 64)=xs.map .agg:=List.map_congr_left fun x _=>NK x
  rw [m] at d ⊢;simp only [aU,T.bulk] at d;have key: ∃l:List RE,l.length=xs.length/\l.length<=aU (xs.map .agg)/\(∀ r∈l,kOk r)/\ ∀(i:Nat) x (r:RE),xs[i]? =some x->l[i]? =some r->dz x (uR r):=by
   clear p m
   induction xs with
   |nil=>exact ⟨[],rfl,by simp,by simp,by simp⟩
   |cons x xs q=>
    simp only [List.map_cons,aU,T.bulk] at d;obtain ⟨r,o,v⟩:=JZ (c x (by simp));obtain ⟨l,k1,k2,j,k⟩:=q (fun y a=>c y (by simp [a])) (by omega);refine ⟨r::l,by simp [k1],by simp only [List.map_cons,aU,T.bulk,List.length_cons];omega,fun s b=>?_,fun i y s a b=>?_⟩
    ·rcases List.mem_cons.1 b with rfl|b
     ·show s.key.length<2^60
      omega
     ·exact j s b
    ·cases i with
     |zero=>simp at a b;subst a;subst b;exact o
     |succ i=>exact k i y s (by simpa using a) (by simpa using b)
  obtain ⟨l,k1,k2,j,k⟩:=key;refine ⟨l,Les.slice (by simp [k1]) fun i x y c a=>?_,by omega,j⟩;rw [List.getElem?_map] at c a;obtain ⟨u,g,rfl⟩:=Option.map_eq_some_iff.1 c;obtain ⟨n,f,rfl⟩:=Option.map_eq_some_iff.1 a;exact ⟨k i u n g f,vu n⟩
 |int h|bool h|str h|array h|struct h=>rw [wg] at h;cases h
theorem aProgS{us:List T}(h:cE Tryz.prog 24 us)(e:aU us<=1048576): ∃gs:List RG,Les (mkT Tryz.prog 24 us) (.slice 15 (gs.map vk))/\gs.length<=1048576/\ ∀g∈gs,SmG (2^39) g:=by
 obtain ⟨gs,a,d,b⟩:=Lz h;exact ⟨gs,a,by omega,fun g c=>by
  have:=b g c
  exact ⟨this.st.mono (by omega),by have:=this.wt;omega,fun _=>this.names (by omega)⟩⟩
end Go.ST
end
