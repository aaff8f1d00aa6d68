/- Joined by program: parts of a data level over the model, of the program's functions over it, and of the statement's proof. -/
import Derived.Test.YtnfonfjleonbdaaGreatGb
import Derived.Laws.Sem
import Derived.RangeFuncLeaves
import Derived.RangeFuncRecord
import Derived.OrdersIn
import Derived.RangeFuncIn
import Derived.RangeFuncOwn
import Derived.DataReads
import Derived.Carry
import Derived.ProofKit
import Derived.OpenShut
import Derived.Below
import Derived.JoinedCond
import Derived.Deep.DeepHandedRow
import Derived.Lib.LaidTab
import Derived.Laws.IdiomCopy
import Derived.Deep.AppendSrc
import Derived.Lib.Overlaps
import Derived.Lib.AppendZerosOnto
import Derived.Shelf.Spec.SlicesGrow
import Derived.Shelf.SlSortCmp.NoneTotal
import Derived.Sort.LoopGhostIn
import Derived.RangeFuncNested
import Derived.Shelf.Sort.Plain
import Derived.Shelf.Slices.In.SortNone
section
namespace Go.DL
open Go.RowKit
section
variable [Glb]{P:Program}{X:List FuncId}{N:Nat}{w0:World}{S0:aa}{a:Act}{E:Env}{st:St}
def lg:List T->T
 |[x]=>x
 |xs=>.tup xs
def dj(P:Program)(t:TypeId):Option (Nat×Bool):=
 match P.underlying t,P.info? t with
 |some _,some i=>cond (au P t||Nat.beq i.size 1) (some (i.size,au P t)) none
 |_,_=>none
theorem qq(h:SR N w0 S0 E st a.tmps){t:TypeId}{d:TypeDesc}{i:TypeInfo}(D:P.underlying t=some d)(hi:P.info? t=some i){b off:Nat}{bx:BX}(hb:st.bx b=some bx){x:T}
  (f:match eQ b bx off i.size (au P t) with
   |.yes e=>asT e.val=some x
   |.eq c t _=>c/\t=x
   |_=>False): ∃v,(loadVar t ⟨E.κ b,off,none⟩).run P E.w= .ok v E.w/\Rep E.S E.w v x:=by
 have hB:=h.bx b bx hb;cases U:bx.isM with
 |true=>cases bx <;> first|exact f.elim|cases U
 |false=>
 obtain ⟨cs,e,hg,M⟩:=hB.cells U;have p: ∀j,E.w.cell? ⟨E.κ b,j,none⟩=cs[j]? :=fun j=>cell_of_row _ _ _ _ _ _ hg
 cases M with
 |d m ts hl R B=>
  unfold eQ lW at f;cases g:au P t with
  |true=>
   rw [g] at f;have C:off+i.size<=m-> ∃v,(loadVar t ⟨E.κ b,off,none⟩).run P E.w= .ok v E.w/\Rep E.S E.w v (.agg ((ts.drop off).take i.size)):=fun Y=>by
    have A:((cs.toList.drop off).take i.size).length=i.size:=by simp;omega
    refine ⟨_,b9 D hi g _ _ _ ((cs.toList.drop off).take i.size) A fun j v r=>?_,dW (fun j x u f s=>?_) ?_⟩
    ·rw [aF] at r;split at r
     ·rw [p];simpa using r
     ·cases r
    ·rw [aF] at f s;split at f
     ·rename_i r;rw [if_pos r] at s;exact B (off+j) x u (by simpa using f) s
     ·cases f
    ·rw [A];simp [hl];omega
   simp only at f;cases z:(Nat.beq off 0&&Nat.beq m i.size) with
   |true=>
    rw [z] at f;simp only [Bool.and_eq_true] at z;have H:off=0:=Nat.eq_of_beq_eq_true z.1;have hm:m=i.size:=Nat.eq_of_beq_eq_true z.2;have k:x= .agg ts:=by
     have:asT (.t (.agg ts))=some x:=f
     exact (Option.some.inj this).symm
    obtain ⟨v,Z,O⟩:=C (by omega);refine ⟨v,Z,?_⟩;rw [H,List.drop_zero,List.take_of_length_le (by omega)] at O;rw [k];exact O
   |false=>
    rw [z] at f;obtain ⟨M,rfl⟩:=f;exact C M
  |false=>
   rw [g] at f;obtain ⟨q,rfl⟩:=f;have Q:off<cs.size:=by omega
   have I:E.w.cell? ⟨E.κ b,off,none⟩=some cs[off]:=by rw [p];simp [Q]
   have ht:ts[off]? =some (ts[off]?.getD .nil):=by
    have:off<ts.length:=by omega
    simp [this]
   exact ⟨_,ba D g _ _ _ I,(B off _ _ (by simp [Q]) ht).1⟩
 |v vs R B=>
  unfold eQ at f;cases g:au P t with
  |true=>
   rw [g] at f;simp only at f;cases L:eI ((vs.drop off).take i.size) with
   |none=>rw [L] at f;exact f.elim
   |some ts=>
   rw [L] at f;simp only at f;cases z:Nat.beq ts.length i.size with
   |false=>rw [z] at f;exact f.elim
   |true=>
   rw [z] at f;have k:x= .agg ts:=by
    have:asT (.t (.agg ts))=some x:=f
    exact (Option.some.inj this).symm
   subst k;have z:=Nat.eq_of_beq_eq_true z;obtain ⟨q1,q2⟩:=kR L;rw [List.length_take,List.length_drop,z] at q1;have A:((cs.toList.drop off).take i.size).length=i.size:=by simp;omega
   refine ⟨_,b9 D hi g _ _ _ ((cs.toList.drop off).take i.size) A fun j v r=>?_,dW (fun j x u f s=>?_) ?_⟩
   ·rw [aF] at r;split at r
    ·rw [p];simpa using r
    ·cases r
   ·have k:=f;rw [aF] at k;split at k
    ·rename_i r;have q:off+j<vs.length:=by
      have:=(gsZ s).1
      omega
     have J:((vs.drop off).take i.size)[j]? =some vs[off+j]:=by rw [aF,if_pos r];exact ggZ q
     have W:=B (off+j) x _ (by simpa using k) (ggZ q);have V:=aB W.1 (q2 j _ u J s);exact ⟨V,V.kG W.2⟩
    ·cases k
   ·rw [A,z]
  |false=>
   rw [g] at f;simp only at f;cases G:vs[off]? with
   |none=>rw [G] at f;exact f.elim
   |some u=>
    rw [G] at f;have q:off<cs.size:=Nat.lt_of_lt_of_le (gsZ G).1 R;have I:E.w.cell? ⟨E.κ b,off,none⟩=some cs[off]:=by rw [p];simp [q]
    exact ⟨_,ba D g _ _ _ I,aB (B off _ _ (by simp [q]) G).1 f⟩
end
section
variable {P:Program}{X:List FuncId}{N:Nat}{w0:World}{S0:aa}{a:Act}{E:Env}{st:St}
theorem iB{bx:Nat->Option BX}{n:Nat}: ∀{c a b:List V} {k:Nat},ml bx n c=some (a,k,b)->c=a++ .ptr k 0::b/\bx k=some (.v [.ptr n 0])
 |[],a,b,k,h=>by cases h
 |v::vs,a,b,k,h=>by
  unfold ml at h;split at h
  ·rename_i e d;simp only [Option.some.injEq,Prod.mk.injEq] at h;obtain ⟨rfl,rfl,rfl⟩:=h;split at d
   ·rename_i k2;split at d
    ·rename_i m f;simp only [cond_eq_ite] at d;split at d
     ·rename_i p;cases d
      have:=Nat.eq_of_beq_eq_true p
      subst this;exact ⟨rfl,f⟩
     ·cases d
    ·cases d
   ·cases d
  ·split at h
   ·rename_i r e q j;simp only [Option.some.injEq,Prod.mk.injEq] at h;obtain ⟨rfl,rfl,rfl⟩:=h;obtain ⟨g,i⟩:=iB j;exact ⟨by rw [g];rfl,i⟩
   ·cases h
theorem nA(d: ∀n b,st.bx n=some b->bG E (E.κ n) b)(Z: ∀n,E.live n=(st.bx n).isSome){v:Value}{u:V}(h:VR E v u){t:T}{rd:List Nat}(p:og st.bx u=some (t,rd)):Rep (Sx E rd) E.w v t:=by
 unfold og at p;split at p
 ·rename_i n off;split at p
  ·rename_i r f;cases p;unfold qW at f;split at f
   ·rename_i f1 c1 f2 c2 hb;split at f
    ·rename_i a1 k1 b1 a2 k2 b2 h1 h2;split at f
     ·rename_i x1 s y1 s1 x2 q y2 s2 e1 e2 e3 e4;simp only [cond_eq_ite] at f;split at f
      ·rename_i M;simp only [Option.some.injEq,Prod.mk.injEq] at f;obtain ⟨rfl,rfl⟩:=f;have M:=Nat.eq_of_beq_eq_true M;subst M;obtain ⟨q1,q2⟩:=iB h1;obtain ⟨q3,_⟩:=iB h2;obtain ⟨rfl,B⟩:=h.bd;obtain ⟨cs,e,hg,hcr⟩:=(d n _ hb).cells rfl;obtain ⟨Y,ew,I,W⟩:=(d k1 _ q2).cells rfl;have U:E.live k1=true:=by rw [Z,q2];rfl
       cases hcr with
       |v _ hs hh=>
        have hs:2<=cs.size:=hs;have J:cs[0]? =some cs[0]:=Array.getElem?_eq_getElem (by omega);have g1:cs[1]? =some cs[1]:=Array.getElem?_eq_getElem (by omega);have v0:=(hh 0 _ _ J rfl).1;have v1:=(hh 1 _ _ g1 rfl).1;cases W with
        |v _ H hhw=>
         have H:1<=Y.size:=H;have Q:Y[0]? =some Y[0]:=Array.getElem?_eq_getElem (by omega);have vw:=(hhw 0 _ _ Q rfl).1;have O:=vw.bd.1;rw [O] at Q;have rn:n∈(n::k1::(s++s1++q++s2)):=by simp
         have rk:k1∈(n::k1::(s++s1++q++s2)):=by simp
         generalize hc0:cs[0]=z0 at v0 J;generalize hc1:cs[1]=z1 at v1 g1;cases v0 with
         |fn _ d1 _ C z=>
          cases v1 with
          |fn _ d2 _ D G=>
           rw [q1] at C z;rw [q3] at D G;obtain ⟨p1,p2,p3,rfl,p4,p5,p6,p7,p8⟩:=jA C z;obtain ⟨o1,o2,o3,rfl,o4,o5,o6,o7,o8⟩:=jA D G;have R:=p4.bd.1;have z2':=o4.bd.1;subst R;subst z2';obtain ⟨L1,M1⟩:=bI d e1;obtain ⟨L2,M2⟩:=bI d e2;obtain ⟨L3,M3⟩:=bI d e3;obtain ⟨L4,M4⟩:=bI d e4;have g: ∀{c:Array Value} {A:List V} {X:List T} {r:List Nat},A.length=X.length->(∀ (i:Nat) (v:Value) (u:V) (t:T),VR E v u->A[i]? =some u->X[i]? =some t->Rep (Sx E r) E.w v t)->(∀ (i:Nat) (x:Value) (u:V),c[i]? =some x->A[i]? =some u->VR E x u)->(∀ m∈r,m∈(n::k1::(s++s1++q++s2)))->
             ∀(i:Nat) (x:Value) (t:T),c[i]? =some x->X[i]? =some t->Rep (Sx E (n::k1::(s++s1++q++s2))) E.w x t:=fun {c A X r} hL hM hV hr i x t hx ht=>by
            have L:i<A.length:=by rw [hL];exact (gsZ ht).1
            have hA:=ggZ L;exact (hM i x _ t (hV i x _ hx hA) hA ht).mono (fX hr) (fun _ _ _=>aC.rfl)
           have j: ∀i,E.w.cell? ⟨E.κ n,i,none⟩=cs[i]? :=fun i=>cell_of_row _ _ _ _ _ _ hg
           have:=Rep.wrld (S:=Sx E (n::k1::(s++s1++q++s2))) (w:=E.w) (E.κ n) 0 (E.κ k1) 0 off f1 f2 p1 p2 o1 o2 x1 y1 x2 y2 (by omega) (by omega) (by omega) (by omega)
            ⟨by rw [cell_of_row _ _ _ _ _ _ I];exact Q,.inr ⟨k1,rk,U,rfl⟩⟩ ⟨by rw [j];exact J,.inr ⟨n,rn,B,rfl⟩⟩ ⟨by rw [j];exact g1,.inr ⟨n,rn,B,rfl⟩⟩
            (g L1 M1 p7 (fun m k=>by simp [k])) (g L2 M2 p8 (fun m k=>by simp [k])) (g L3 M3 o7 (fun m k=>by simp [k])) (g L4 M4 o8 (fun m k=>by simp [k]))
           rwa [Nat.zero_add] at this
      ·cases f
     ·cases f
    ·cases f
   ·cases f
  ·exact eM d h p
 ·exact eM d h p
end
section
variable [Glb]{P:Program}{X:List FuncId}{N:Nat}{w0:World}{S0:aa}{a:Act}{E:Env}{st:St}
def cA(b:Array Value):ResultVar->Sem Value
 |.tmp t=>pure (b.getD t undef)
 |.cell a t=>do loadVar t (<- asAddr (b.getD a undef))
def pJ(E:Env):ar:=fun b o=>E.S b o\/ ∃n,E.live n=true/\b=E.κ n
end
section
variable {P:Program}{X:List FuncId}{N:Nat}{w0:World}{S0:aa}{a:Act}{E:Env}{st:St}
theorem rS{E:Env}{c:List Nat}: ∀b o,Sx E c b o->pJ E b o:=by
 rintro b o (h|⟨n,_,h⟩)
 ·exact .inl h
 ·exact .inr ⟨n,h⟩
end
section
variable [Glb]{P:Program}{X:List FuncId}{N:Nat}{w0:World}{S0:aa}{a:Act}{E:Env}{st:St}
theorem jP(h:SR N w0 S0 E st a.tmps): ∀{rs:List ResultVar} {xs:List T},iP (dj P) st rs xs-> ∃vs:List Value,(rs.mapM (cA a.tmps)).run P E.w= .ok vs E.w/\vs.length=xs.length/\
  ∀(i:Nat) (v:Value) (x:T),vs[i]? =some v->xs[i]? =some x->Rep (pJ E) E.w v x
 |[],[],_=>⟨[],by simp,rfl,fun i v x e=>by simp at e⟩
 |.tmp t::rs,x::xs,hp=>by
  obtain ⟨vs,m,p,q⟩:=jP h hp.2;refine ⟨a.tmps.getD t undef::vs,?_,by simp [p],fun i v y e g=>?_⟩
  ·rw [List.mapM_cons,Sem.run_bind]
   have:(cA a.tmps (.tmp t)).run P E.w= .ok (a.tmps.getD t undef) E.w:=rfl
   rw [this];simp [m]
  ·cases i with
   |zero=>
    simp only [List.getElem?_cons_zero,Option.some.injEq] at e g;subst e;subst g;obtain ⟨⟨D,C⟩,A,rfl⟩:=Option.map_eq_some_iff.1 hp.1;exact (nA h.bx h.live (h.sl t) A).mono rS (fun _ _ _=>aC.rfl)
   |succ i=>simp at e g;exact q i v y e g
 |.cell c ty::rs,x::xs,hp=>by
  obtain ⟨f,r⟩:=hp;obtain ⟨vs,m,p,q⟩:=jP h r;have key: ∃v,(cA a.tmps (.cell c ty)).run P E.w= .ok v E.w/\Rep E.S E.w v x:=by
   have k:=h.sl c;split at f
   ·rename_i b off n agg z j;rw [z] at k;obtain ⟨e,B⟩:=k.bd;unfold dj at j;split at j
    ·rename_i d i u hi;simp only [cond_eq_ite] at j;split at j
     ·simp only [Option.some.injEq,Prod.mk.injEq] at j;obtain ⟨rfl,rfl⟩:=j;split at f
      ·rename_i cs s;obtain ⟨v,k1,k2⟩:=qq h u hi (off:=off) s (x:=x) f;refine ⟨v,?_,k2⟩;show (asAddr (a.tmps.getD c undef) >>= fun d=>loadVar ty d).run P E.w=_
       rw [e];simp [asAddr,k1]
      ·exact f.elim
     ·cases j
    ·cases j
   ·exact f.elim
  obtain ⟨v0,k1,k2⟩:=key;refine ⟨v0::vs,?_,by simp [p],fun i v y e g=>?_⟩
  ·rw [List.mapM_cons,Sem.run_bind,k1];simp [m]
  ·cases i with
   |zero=>simp only [List.getElem?_cons_zero,Option.some.injEq] at e g;subst e;subst g;exact k2.mono (fun b o k=>.inl k) (fun _ _ _=>aC.rfl)
   |succ i=>simp at e g;exact q i v y e g
 |[],_::_,hp=>hp.elim
 |.tmp _::_,[],hp=>hp.elim
 |.cell _ _::_,[],hp=>hp.elim
theorem ju(h:SR N w0 S0 E st a.tmps){c:Func}{xs:List T}(g:iP (dj P) st c.results.toList xs): ∃v,(results c a.tmps).run P E.w= .ok v E.w/\Rep (pJ E) E.w v (lg xs):=by
 obtain ⟨vs,j,d,b⟩:=jP h g;have m:(results c a.tmps).run P E.w= .ok (if h:vs.toArray.size=1 then vs.toArray[0] else .tuple vs.toArray) E.w:=by
  have:results c a.tmps=(do let vs <-c.results.mapM (cA a.tmps);pure (if h:vs.size=1 then vs[0] else .tuple vs)):=rfl
  rw [this,Array.mapM_eq_mapM_toList];rw [Sem.run_bind];have d:(Functor.map List.toArray (c.results.toList.mapM (cA a.tmps))).run P E.w= .ok vs.toArray E.w:=by
   rw [map_eq_pure_bind,Sem.run_bind,j];rfl
  rw [d];rfl
 refine ⟨_,m,?_⟩
 match vs,xs,d,b with
 |[v],[x],_,b=>exact b 0 v x rfl rfl
 |[],[],_,b=>exact .tup _ _ rfl fun i x t p e=>by simp at e
 |v::u::vs,x::y::xs,d,b=>
  have f: ¬(v::u::vs).toArray.size=1:=by simp
  rw [dif_neg f];exact .tup _ _ (by simpa using d) fun i z t k e=>b i z t (by simpa using k) e
end
section
variable {P:Program}{X:List FuncId}{N:Nat}{w0:World}{S0:aa}{a:Act}{E:Env}{st:St}
theorem eb{f:FuncId}{b:Func}(g:P.funcs[f]? =some b)(j:b.body.isSome=true)(i:(b.name== "runtime.NumGoroutine")=false):bK P f:=fun d w=>by
 have c:b.body.isNone=false:=by cases h:b.body <;> simp_all
 have e:(program:Sem Program).run P w= .ok P w:=rfl;unfold callFunc;rw [Sem.run_bind,e];simp only [Result.andThen_ok,g,i,c,Bool.false_eq_true,if_false];rfl
end
section
variable [Glb]{P:Program}{X:List FuncId}{N:Nat}{w0:World}{S0:aa}{a:Act}{E:Env}{st:St}
theorem kX{S:ar}{w:World}{vs:List Value}{c:List T}(A: ∀b o,S b o->b<w.heap.size)(p:bE S w)(e:vs.length=c.length)(q: ∀(i:Nat) (v:Value) (t:T),vs[i]? =some v->c[i]? =some t->Rep S w v t)(G:c.length<=N):
  SR N w {S:=S } {S:=S,w:=w,B:=w.heap.size,κ:=fun _=>0,ρ:=fun _=>none,live:=fun _=>false } (gA c) (vs.toArray++Array.replicate (N - vs.toArray.size) undef):=by
 refine ⟨by simp;omega,rfl,p,fun m=>?_,fun k m=>.top _,fun n b u=>(by cases u),fun n=>rfl,fun n m s=>(by cases s),fun r g f=>(by cases f),fun r D g f=>(by cases f),A,Below.refl _ _,fun b o h=>h,fun b o h=>.inl h,fun g o z=>(by cases z),trivial⟩;show VR _ _ (match c[m]? with|some t=>.t t|none=>.top)
 cases j:c[m]? with
 |none=>exact .top _
 |some t=>
  have d:m<vs.length:=by rw [e];exact (gsZ j).1
  have C:=q m vs[m] t (ggZ d) j
  have:(vs.toArray++Array.replicate (N - vs.toArray.size) undef).getD m undef=vs[m]:=by
   rw [Array.getD_eq_getD_getElem?,Array.getElem?_append_left (by simpa using d)];simp [d]
  rw [this];exact .t _ _ C
theorem oN(Q:P.follows .mixedOrders=true){f:FuncId}{i:Func}{c:Code}{d:aV}(G:P.funcs[f]? =some i)(I:i.body=some c)(t:(i.name== "runtime.NumGoroutine")=false)
  (V:bt P i.ntmps X c=some d) {g:List T} {r:List T} (Z:g.length<=i.ntmps) (h:wpC P d (gA g) (nX (dj P) i.results.toList r)):DCalls P f g (lg r):=by
 refine ⟨eb G (by rw [I];rfl) t,fun S w vs W L s M=>calls_of_wp G I ?_⟩;have A:=kX (N:=i.ntmps) W L s M Z;refine wp_mono (nr Q V (a:={tmps:=vs.toArray++Array.replicate (i.ntmps - vs.toArray.size) undef,defers:=[]}) A h) ?_;have m: ∀{p:Act} {w':World},bW i.ntmps w {S:=S } [] (fun q=>iP (dj P) q i.results.toList r) p w'->p.defers=[]/\ ∃v,(results i p.tmps).run P w'= .ok v w'/\
   ∃H,Ending.returned v= .returned H/\Below w.heap.size w w'/\Rep (fun b o=>S b o\/(w.heap.size<=b/\b<w'.heap.size)) w' H (lg r):=by
  rintro p w' ⟨E',q,rfl,j,C,B⟩;obtain ⟨v,O,R⟩:=ju j B;refine ⟨C,v,O,v,rfl,j.below,R.mono (fun b o u=>?_) (fun _ _ _=>aC.rfl)⟩;rcases u with u|⟨n,t,rfl⟩
  ·exact (j.s1 b o u).imp id fun z=>⟨z,j.lt b o u⟩
  ·right;rw [j.live] at t;obtain ⟨U,D⟩:=Option.isSome_iff_exists.1 t;have J:=j.bx n U D;obtain ⟨_,Y,_⟩:=J.at_
   have:=J.old
   rw [j.base] at this;exact ⟨this,(Array.getElem?_eq_some_iff.1 Y).1⟩
 intro e p w' k;cases e with
 |normal=>exact m k
 |ret=>exact m k
 |exit id=>
  obtain ⟨_,_,_,_,_,B⟩:=k;exact B.elim
 |goto l=>exact k.elim
 |panic ch=>exact k.elim
 |outgrown=>exact k.elim
theorem oi(j:P.follows .mixedOrders=true){f:FuncId}{e:Func}{d:aV}{N:Nat}{rs:List ResultVar}(q:P.funcs[f]? =some e)(g:(e.body.bind (bt P N X))=some d)(k:e.ntmps=N)(s:(e.name== "runtime.NumGoroutine")=false)
  (p:e.results.toList=rs) {b:List T} {r:List T} (m:b.length<=N) (h:wpC P d (gA b) (nX (dj P) rs r)):DCalls P f b (lg r):=by
 cases i:e.body with
 |none=>rw [i] at g;cases g
 |some c=>
  rw [i] at g;subst k;subst p;exact oN j q i s g m h
end
end Go.DL
end
section
namespace Go.DL
open Go.RowKit
section
variable [Glb]{P:Program}{X:List FuncId}{N:Nat}{w0:World}{S0:aa}{a:Act}{E:Env}{st:St}
theorem eZ{a:Array Value}{d:Option Nat}{v:Value}{u:V}(h:SR N w0 S0 E st a)(hd: ∀n,d=some n->n<N)(b:VR E v u):SR N w0 S0 E (st.set d u) (lf a d v):=by
 cases d with
 |none=>exact h
 |some n=>exact h.put (hd n rfl) b
def fT(st:St):List ResultVar->Option (List V)
 |[]=>some []
 |.tmp t::rs=>match fT st rs with
  |some us=>some (st.sl t::us)
  |none=>none
 |.cell _ _::_=>none
def dV:List V->V
 |[u]=>u
 |us=>.tup us
theorem jO(h:SR N w0 S0 E st a.tmps): ∀{rs:List ResultVar} {us:List V},fT st rs=some us-> ∃vs:List Value,(rs.mapM (cA a.tmps)).run P E.w= .ok vs E.w/\vs.length=us.length/\ ∀(i:Nat) (v:Value) (u:V),vs[i]? =some v->us[i]? =some u->VR E v u
 |[],us,hr=>by cases hr;exact ⟨[],by simp,rfl,fun i v x b=>by simp at b⟩
 |.cell _ _::_,us,hr=>by cases hr
 |.tmp t::rs,us,hr=>by
  unfold fT at hr;split at hr
  ·rename_i g d;cases hr;obtain ⟨vs,e,f,j⟩:=jO h d;refine ⟨a.tmps.getD t undef::vs,?_,by simp [f],fun i v y b c=>?_⟩
   ·rw [List.mapM_cons,Sem.run_bind]
    have:(cA a.tmps (.tmp t)).run P E.w= .ok (a.tmps.getD t undef) E.w:=rfl
    rw [this];simp [e]
   ·cases i with
    |zero=>simp only [List.getElem?_cons_zero,Option.some.injEq] at b c;subst b;subst c;exact h.sl t
    |succ i=>simp at b c;exact j i v y b c
  ·cases hr
theorem mX(h:SR N w0 S0 E st a.tmps){c:Func}{us:List V}(f:fT st c.results.toList=some us): ∃v,(results c a.tmps).run P E.w= .ok v E.w/\VR E v (dV us):=by
 obtain ⟨vs,j,d,b⟩:=jO (P:=P) h f;have f:(results c a.tmps).run P E.w= .ok (if h:vs.toArray.size=1 then vs.toArray[0] else .tuple vs.toArray) E.w:=by
  have:results c a.tmps=(do let vs <-c.results.mapM (cA a.tmps);pure (if h:vs.size=1 then vs[0] else .tuple vs)):=rfl
  rw [this,Array.mapM_eq_mapM_toList];rw [Sem.run_bind];have d:(Functor.map List.toArray (c.results.toList.mapM (cA a.tmps))).run P E.w= .ok vs.toArray E.w:=by
   rw [map_eq_pure_bind,Sem.run_bind,j];rfl
  rw [d];rfl
 refine ⟨_,f,?_⟩
 match vs,us,d,b with
 |[v],[x],_,b=>exact b 0 v x rfl rfl
 |[],[],_,b=>exact .tup _ _ rfl fun i x t m e=>by simp at e
 |v::u::vs,x::y::xs,d,b=>
  have g: ¬(v::u::vs).toArray.size=1:=by simp
  rw [dif_neg g];exact .tup _ _ (by simpa using d) fun i z t k e=>b i z t (by simpa using k) e
def tj(s:Nat->V)(g:Nat->Nat->V):Nat->Nat->V
 |0=>s
 |k+1=>g k
def rj(s:Nat->Value)(g:Nat->Nat->Value):Nat->Nat->Value
 |0=>s
 |k+1=>g k
def St.enter(st:St)(us:List V)(off:Nat):St:={sl:=fun m=>us[m]?.getD .top,bx:=st.bx,gh:=tj st.sl st.gh,off:=off,cx:=fun S w=> ∃vals,st.cx {S with vals:=vals } w }
def St.back(b st:St):St:={sl:=b.gh 0,bx:=b.bx,gh:=fun k=>b.gh (k+1),off:=st.off,cx:=st.cx }
def sS(rs:List ResultVar)(st:St)(d:Option Nat)(K:St->Prop):aG->St->Prop
 |.normal,st2=> ∃us,fT st2 rs=some us/\K ((st2.back st).set d (dV us))
 |.ret,st2=> ∃us,fT st2 rs=some us/\K ((st2.back st).set d (dV us))
 |.exit _,_=>False
theorem tW(R:P.follows .mixedOrders=true){f:FuncId}{g:Func}{Q:aV}{G:Nat}{rs:List ResultVar}(L:P.funcs[f]? =some g)(B:(g.body.bind (bt P G X))=some Q)(hN:g.ntmps=G)(W:(g.name== "runtime.NumGoroutine")=false)
  (Z:g.results.toList=rs) {us:List V} (off:Nat) (ha:us.length<=G) {d:Option Nat} {K:St->Prop} (hw:wpC P Q (st.enter us off) (sS rs st d K)):WC P f us d st K:=by
 cases A:g.body with
 |none=>rw [A] at B;cases B
 |some c=>
  rw [A] at B;subst hN;subst Z;refine ⟨eb L (by rw [A];rfl) W,fun N w0 S0 E a vs h z I hd=>calls_of_wp L A ?_⟩;have C:SR g.ntmps w0 {S0 with vals:=rj (fun m=>a.getD m undef) S0.vals } E (st.enter us off) (vs++Array.replicate (g.ntmps - vs.size) undef):=by
   refine ⟨by simp;omega,h.base,h.glob,fun m=>?_,fun k m=>?_,h.bx,h.live,h.inj,h.rows,h.rinj,h.lt,h.below,h.s0,h.s1,h.obj,⟨S0.vals,h.cx⟩⟩
   ·show VR _ _ (us[m]?.getD .top)
    cases M:us[m]? with
    |none=>exact .top _
    |some t=>
     have j:m<vs.size:=by rw [z];exact (gsZ M).1
     have I:=I m vs[m] t (Array.getElem?_eq_getElem j) M
     have:(vs++Array.replicate (g.ntmps - vs.size) undef).getD m undef=vs[m]:=by
      rw [Array.getD_eq_getD_getElem?,Array.getElem?_append_left j];simp [j]
     rw [this];exact I
   ·cases k with
    |zero=>exact h.sl m
    |succ k=>exact h.gh k m
  refine wp_mono (nr R B (a:={tmps:=vs++Array.replicate (g.ntmps - vs.size) undef,defers:=[]}) C hw) ?_;have q: ∀{r:Act} {w':World},bW g.ntmps w0 {S0 with vals:=rj (fun m=>a.getD m undef) S0.vals } [] (fun i=> ∃us,fT i g.results.toList=some us/\K ((i.back st).set d (dV us))) r w'->r.defers=[]/\ ∃v,(results g r.tmps).run P w'= .ok v w'/\
    ∃O,Ending.returned v= .returned O/\ ∃(u:Env) (s:St),u.w=w'/\K s/\SR N w0 S0 u s (lf a d O):=by
   rintro r w' ⟨u,i,rfl,b,J,U,H,D⟩;obtain ⟨v,S,T⟩:=mX (P:=P) b H;have Y:SR N w0 S0 u (i.back st) a:=by
    refine ⟨h.size,b.base,b.glob,fun m=>b.gh 0 m,fun k m=>b.gh (k+1) m,b.bx,b.live,b.inj,b.rows,b.rinj,b.lt,b.below,b.s0,b.s1,b.obj,h.cx⟩
   exact ⟨J,v,S,v,rfl,u,_,rfl,D,eZ Y hd T⟩
  intro e r w' p;cases e with
  |normal=>exact q p
  |ret=>exact q p
  |exit id=>
   obtain ⟨_,_,_,_,_,D⟩:=p;exact D.elim
  |goto l=>exact p.elim
  |panic ch=>exact p.elim
  |outgrown=>exact p.elim
def sQ(rs:List ResultVar)(e:TypeId)(size:Nat)(xs rest:List T):aG->St->Prop
 |.exit _,_=>False
 |_,st=>(∀ t∈xs.flatMap T.cells,t.flat=true)/\(∀ t∈rest,t.flat=true)/\ ∃u,fT st rs=some (u::rest.map .t)/\((∃ q,u= .own q e size xs)\/(u= .t .nil/\xs=[]))
def rQ(w:World)(e:TypeId)(size:Nat)(xs rest:List T)(v:Value)(w':World):Prop:=
 ∃(b:Value) (us:List Value),Ending.returned v= .returned (jd b us)/\Below w.heap.size w w'/\gK w w' b e size xs/\
  us.length=rest.length/\ ∀(i:Nat) (u:Value) (t:T),us[i]? =some u->rest[i]? =some t->t.flat=true/\Rep (fun _ _=>False) w' u t
theorem pe{S0:aa}{E:Env}{st:St}{w:World}{a:Act}(h:SR N w S0 E st a.tmps){c:Func}{e:TypeId}{size:Nat}{xs rest:List T}(d: ∀t∈xs.flatMap T.cells,t.flat=true)(r: ∀t∈rest,t.flat=true){u:V}
  (H:fT st c.results.toList=some (u::rest.map .t)) (C:(∃ q,u= .own q e size xs)\/(u= .t .nil/\xs=[])): ∃v,(results c a.tmps).run P E.w= .ok v E.w/\rQ w e size xs rest v E.w:=by
 obtain ⟨j,B,b,m⟩:=jO (P:=P) h H
 match j,b,m with
 |[],b,_=>simp at b
 |v::us,b,m=>
  have A:=m 0 v u rfl rfl;have s:gK w E.w v e size xs:=by
   have own: ∀q,VR E v (.own q e size xs)->gK w E.w v e size xs:=fun q f=>by
    have f:=f.eY;obtain ⟨cells,k1,k2,G⟩:=f.ex;rw [h.base] at k1;exact ⟨⟨cells,k1,k2,fun i x t z g=>(G i x t z g).of_flat (d t (List.mem_of_getElem? g))⟩,f.uni,f.one,d⟩
   rcases C with ⟨q,rfl⟩|⟨rfl,rfl⟩
   ·exact own q A
   ·have D:=A.ax;cases D;exact own 0 (.own _ 0 e size [] (bQ.nil 0 e size))
  have I:(results c a.tmps).run P E.w= .ok (if h:(v::us).toArray.size=1 then (v::us).toArray[0] else .tuple (v::us).toArray) E.w:=by
   have:results c a.tmps=(do let vs <-c.results.mapM (cA a.tmps);pure (if h:vs.size=1 then vs[0] else .tuple vs)):=rfl
   rw [this,Array.mapM_eq_mapM_toList];rw [Sem.run_bind];have b:(Functor.map List.toArray (c.results.toList.mapM (cA a.tmps))).run P E.w= .ok (v::us).toArray E.w:=by
    rw [map_eq_pure_bind,Sem.run_bind,B];rfl
   rw [b];rfl
  refine ⟨_,I,v,us,?_,h.below,s,by simpa using b,fun i x t z g=>?_⟩
  ·match us with
   |[]=>rfl
   |y::ys=>
    have p: ¬(v::y::ys).toArray.size=1:=by simp
    rw [dif_neg p];rfl
  ·have k:=r t (List.mem_of_getElem? g);exact ⟨k,(m (i+1) x (.t t) (by simpa using z) (by simpa using g)).ax.of_flat k⟩
theorem sX(H:P.follows .mixedOrders=true){f:FuncId}{g:Func}{d:aV}{N:Nat}{rs:List ResultVar}(C:P.funcs[f]? =some g)(r:(g.body.bind (bt P N X))=some d)(W:g.ntmps=N)(O:(g.name== "runtime.NumGoroutine")=false)
  (U:g.results.toList=rs) {b:List T} {e:TypeId} {size:Nat} {xs rest:List T} (Y:b.length<=N) (h:wpC P d (gA b) (sQ rs e size xs rest)):eC P f b e size xs rest:=by
 cases p:g.body with
 |none=>rw [p] at r;cases r
 |some c=>
  rw [p] at r;subst W;subst U;refine ⟨eb C (by rw [p];rfl) O,fun S w vs V D m G=>calls_of_wp C p ?_⟩;have s:=kX (N:=g.ntmps) V D m G Y;refine wp_mono (nr H r (a:={tmps:=vs.toArray++Array.replicate (g.ntmps - vs.toArray.size) undef,defers:=[]}) s h) ?_;have j: ∀{k:Act} {w':World},bW g.ntmps w {S:=S } [] (fun st=>(∀ t∈xs.flatMap T.cells,t.flat=true)/\(∀ t∈rest,t.flat=true)/\ ∃u,fT st g.results.toList=some (u::rest.map .t)/\((∃ q,u= .own q e size xs)\/(u= .t .nil/\xs=[]))) k w'->
    k.defers=[]/\ ∃v,(results g k.tmps).run P w'= .ok v w'/\rQ w e size xs rest v w':=by
   rintro k w' ⟨E',Q,rfl,L,B,z,A,u,R,I⟩;exact ⟨B,pe L z A R I⟩
  intro J k w' i;cases J with
  |normal=>exact j i
  |ret=>exact j i
  |exit id=>
   obtain ⟨_,_,_,_,_,M⟩:=i;exact M.elim
  |goto l=>exact i.elim
  |panic Z=>exact i.elim
  |outgrown=>exact i.elim
def np(u:V)(rest:List T):V:=
 match rest with
 |[]=>u
 |_=>.tup (u::rest.map .t)
end
section
variable {P:Program}{X:List FuncId}{N:Nat}{w0:World}{S0:aa}{a:Act}{E:Env}{st:St}
theorem jw{v:Value}{u:V}{us:List Value}{rest:List T}(j:VR E v u)(g:us.length=rest.length)(f: ∀(i:Nat) (x:Value) (t:T),us[i]? =some x->rest[i]? =some t->t.flat=true/\Rep (fun _ _=>False) E.w x t):
  VR E (jd v us) (np u rest):=by
 match us,rest,g,f with
 |[],[],_,_=>exact j
 |y::ys,t::ts,g,f=>
  refine .tup _ _ (by simpa using g) fun i x z h d=>?_
  cases i with
  |zero=>simp at h d;subst h;subst d;exact j
  |succ i=>
   have c:(y::ys)[i]? =some x:=by simpa using h
   have b:((t::ts).map V.t)[i]? =some z:=by simpa using d
   rw [List.getElem?_map,Option.map_eq_some_iff] at b;obtain ⟨k,e,rfl⟩:=b
   have:=f i x k c e
   exact .t _ _ (this.2.of_flat this.1)
end
section
variable [Glb]{P:Program}{X:List FuncId}{N:Nat}{w0:World}{S0:aa}{a:Act}{E:Env}{st:St}
theorem tY{f:FuncId}{us:List V}{d:Nat}{K:St->Prop}{ts:List T}{rd:List Nat}{e:TypeId}{size:Nat}{xs rest:List T}(hc:bq st.bx us=some (ts,rd))(c:eC P f ts e size xs rest)
  (L:K ((st.dg (d+st.off) (d+st.off)).set (some d) (np (.own (d+st.off) e size xs) rest))):WC P f us (some d) st K:=by
 refine ⟨c.1,fun N w0 S0 E a vs h p hv hd=>Calls.mono (jl (a:=⟨a,[]⟩) hc c h p hv) ?_⟩;rintro en w' ⟨v,Z,rfl,hb,b,O,J,W⟩;refine ⟨_,rfl,?_⟩;have I:=W.dg (d+st.off) (d+st.off);have Y:E.w.heap.size<=w'.heap.size:=hb.size;have D: ∀m,E.live m=true->E.κ m<E.w.heap.size:=fun m j=>lV (a:=⟨a,[]⟩) h j
 obtain ⟨cells,k1,k2,k3⟩:=b.ex;rcases k1.2 with ⟨rfl,hn⟩|⟨g,cap,z,rfl,R,Q,cT,j,G,A⟩
 ·have H:xs=[]:=List.eq_nil_of_length_eq_zero hn;subst H;exact ⟨_,_,rfl,L,eZ I hd (jw (.own _ _ _ _ _ (bQ.nil _ _ _)) O J)⟩
 ·have u:g<w'.heap.size:=(Array.getElem?_eq_some_iff.1 Q).1;have U:=I.lZ (q:=d+st.off) (g:=g) (k:=(xs.flatMap T.cells).length) (by simp) (fun m j=>by have:=D m j;show E.κ m≠g;omega) (fun r c=>by
   dsimp only at c;split at c
   ·cases c
   ·have:=(h.rows r g c).2.1;omega) u (by show E.B<=g;rw [h.base];have:=h.below.size;omega)
  refine ⟨_,_,rfl,L,eZ U hd (jw (.own _ _ _ _ _ ⟨⟨cells,⟨k1.1,.inr ⟨g,cap,z,rfl,?_,Q,cT,j,G,A⟩⟩,k2,fun i x t H M=>(k3 i x t H M).of_flat (b.flat t (List.mem_of_getElem? M))⟩,b.uni,b.one,fun g' s=>?_⟩) O J)⟩
  ·show E.B<=g;rw [h.base];have:=h.below.size;omega
  ·simp only [Value.ownBlock,Option.some.injEq] at s;subst s;refine ⟨aj _ _ _,fun o=>?_⟩;show (E.S g o\/(g=g/\o<_))↔_
   exact ⟨fun C=>C.elim (fun G=>absurd (h.lt g o G) (by omega)) (·.2),fun C=>.inr ⟨rfl,C⟩⟩
end
end Go.DL
end
section
namespace Go.DL
open Go.RowKit
section
variable [Glb]{P:Program}{N:Nat}{w0:World}{S0:aa}{o:Oper}{a:Act}{E:Env}{st:St}{F:Fence}{n:Nat}
theorem qx(p: ∀f,F.fn f)(h:SR N w0 S0 E st a.tmps)(hd:ay N o.dst){x:DOp}(i:ah P o.op=some x)(s:x.bF=false){K:St->Prop}(r:wpO P x o.dst st K){Q:Exit->Act->World->Prop}:
  o.wpIn F n P a E.w (fun m w'=> ∃b,K b/\bw N w0 S0 a b m w') Q:=by
 obtain ⟨b,j,t,v,k,q,e,d⟩:=nV h hd i s r;refine ⟨fun f _=>p f,?_⟩;rw [Oper.semAt_eq _ _ _ (fun c g=>by rw [g] at i;cases i),q];rcases e with rfl|⟨rfl,rfl⟩
 ·exact ⟨b,j,k,rfl,d,by cases o.dst <;> rfl⟩
 ·exact ⟨b,j,k,rfl,d,by cases o.dst <;> rfl⟩
end
section
variable {P:Program}{N:Nat}{w0:World}{S0:aa}{o:Oper}{a:Act}{E:Env}{st:St}{F:Fence}{n:Nat}
theorem oW(d:Option Nat)(x:DOp):di [] d x=x:=by
 have mx:fD [] x=x:=by
  cases x with
  |append t e size b s x=>cases s <;> rfl
  |_=>rfl
 cases x with
 |buildS=>cases d <;> rfl
 |call=>cases d <;> rfl
 |offA k y=>cases k <;> cases d <;> rfl
 |_=>exact mx
end
section
variable [Glb]{P:Program}{N:Nat}{w0:World}{S0:aa}{o:Oper}{a:Act}{E:Env}{st:St}{F:Fence}{n:Nat}
theorem sJ(J: ∀f,F.fn f)(h:SR N w0 S0 E st a.tmps){c:Array Oper}{k:Nat}(G:c[k]? =some o){i:DI}(S:jM P N [] c o=some i)(U:i.op.bF=false){K:St->Prop}(e:wpI P i st K){Q:Exit->Act->World->Prop}:
  wpOpIn F n P c Q k (fun z w'=> ∃d,K d/\bw N w0 S0 a d z w') a E.w:=by
 obtain ⟨⟨x,L,C⟩,D,H,_,R⟩:=fi S;rw [oW] at C;have r:wpO P i.op i.dst st K->Region.wanted o (yielded c a.tmps)=true->wpOpIn F n P c Q k (fun z w'=> ∃d,K d/\bw N w0 S0 a d z w') a E.w:=fun e B=>by
  rw [D,C] at e;unfold wpOpIn;simp only [G,B,if_true];exact qx J h H L (C▸U) e
 have skip:K (st.set i.dst bH)->Region.wanted o (yielded c a.tmps)=false->wpOpIn F n P c Q k (fun z w'=> ∃d,K d/\bw N w0 S0 a d z w') a E.w:=fun O B=>by
  unfold wpOpIn;simp only [G,B,Bool.false_eq_true,if_false];refine ⟨fun f _=>J f,_,O,?_⟩;rw [D];exact ⟨E,rfl,h.cN H (nT E),by cases o.dst <;> rfl⟩
 unfold wpI at e;rcases R with ⟨A,hi⟩|⟨j,m,g,A,I,hi,v⟩
 ·rw [hi] at e;exact r e (by unfold Region.wanted;rw [A])
 ·rw [hi] at e;simp only at e;have T: ∀b,st.sl g= .t (.bool b)->yielded c a.tmps j=some b:=fun b s=>by
   have u:=h.sl g;rw [s] at u;have u:=u.aP;have p:g<a.tmps.size:=by rw [h.size];exact v
   have:a.tmps[g]? =some (.bool b):=by
    rw [Array.getElem?_eq_getElem p];simpa [p] using u
   unfold yielded;rw [I];simp [this]
  have M: ∀b,st.sl g= .t (.bool b)->Region.wanted o (yielded c a.tmps)=(b==m):=fun b s=>by
   unfold Region.wanted;rw [A];simp only [T b s];cases b <;> cases m <;> rfl
  split at e
  ·rename_i b s;have q:=M b s;cases b <;> cases m <;> simp only at e
   ·exact r e q
   ·exact skip e q
   ·exact skip e q
   ·exact r e q
  ·rename_i s;refine skip e ?_;have u:=nc (s▸h.sl g);unfold Region.wanted;rw [A]
   have:yielded c a.tmps j=none:=by
    have p:g<a.tmps.size:=by rw [h.size];exact v
    have:a.tmps[g]? =some (.tuple #[]):=by
     rw [Array.getElem?_eq_getElem p];simpa [p] using u
    unfold yielded;rw [I];simp [this]
   simp only [this];rfl
  ·exact e.elim
end
section
variable {P:Program}{N:Nat}{w0:World}{S0:aa}{o:Oper}{a:Act}{E:Env}{st:St}{F:Fence}{n:Nat}
theorem iz{w:World}{l:Nat}{x:Obj}(h:w.heap[l]? =some x)(b:cz x=true)(o:Nat):w.cell? ⟨l,o,none⟩=none:=by
 unfold World.cell?;simp only [h];cases x <;> first|rfl|cases b
end
section
variable [Glb]{P:Program}{N:Nat}{w0:World}{S0:aa}{o:Oper}{a:Act}{E:Env}{st:St}{F:Fence}{n:Nat}
def Env.put(E:Env)(l:Nat)(y:Obj):Env:={E with w:=E.w.putObj l y,ρ:=fun r=>if E.ρ r=some l then none else E.ρ r }
section put
variable {l:Nat}{x y:Obj}
end put
end
section
variable {P:Program}{N:Nat}{w0:World}{S0:aa}{o:Oper}{a:Act}{E:Env}{st:St}{F:Fence}{n:Nat}
variable {l:Nat}{x y:Obj}
theorem pg(c:E.w.heap[l]? =some x)(d:cz x=true)(f:cz y=true)(b o:Nat):(E.w.putObj l y).cell? ⟨b,o,none⟩=E.w.cell? ⟨b,o,none⟩:=by
 by_cases e:b=l
 ·subst e;rw [iz c d,iz (World.putObj_heap_same (Array.getElem?_eq_some_iff.1 c).1) f]
 ·exact World.cell?_of_block (w:=E.w) (a:=⟨b,o,none⟩) (World.putObj_heap_other e)
theorem dE(d:E.w.heap[l]? =some x)(f:cz x=true)(i:cz y=true)(b o:Nat):aC E.w (E.w.putObj l y) b o:=
 ⟨pg d f i b o,fun j c g=>by
  have h:b≠l:=fun e=>by rw [e,d] at g;cases g;cases f
  exact (World.putObj_heap_other h).trans g⟩
theorem VR.putObj(k:E.w.heap[l]? =some x)(m:cz x=true)(B:cz y=true){v:Value}{u:V}(h:VR E v u):VR (E.put l y) v u:=by
 have up: ∀{v:Value} {t:T},Rep E.S E.w v t->Rep (E.put l y).S (E.put l y).w v t:=fun h=>h.mono (fun b o h=>h) (fun b o _=>dE k m B b o)
 induction h with
 |top v=>exact .top v
 |t v x h=>exact .t v x (up h)
 |ptr n off s=>exact VR.ptr (E:=E.put l y) n off s
 |view n off len size cap s I=>exact VR.view (E:=E.put l y) n off len size cap s I
 |mp n s=>exact VR.mp (E:=E.put l y) n s
 |own v r e size xs h=>
  obtain ⟨cells,j,C,G⟩:=h.ex;refine .own v r e size xs ⟨⟨cells,fG j fun g d=>?_,C,fun i x t J H=>up (G i x t J H)⟩,h.uni,h.one,fun g d=>⟨?_,(h.row g d).2⟩⟩
  ·refine World.putObj_heap_other fun e=>?_
   rcases j.2 with ⟨rfl,_⟩|⟨D,cap,z,rfl,_,c,_⟩
   ·cases d
   ·simp only [Value.ownBlock,Option.some.injEq] at d;rw [d,e,k] at c;cases c;cases m
  ·show (if E.ρ r=some l then none else E.ρ r)=some g
   have A:=(h.row g d).1;rw [if_neg]
   ·exact A
   ·intro e;rw [A] at e;have e:=Option.some.inj e;rcases j.2 with ⟨rfl,_⟩|⟨D,cap,z,rfl,_,c,_⟩
    ·cases d
    ·simp only [Value.ownBlock,Option.some.injEq] at d;rw [d,e,k] at c;cases c;cases m
 |full a len size xs h=>exact .full a len size xs (up h)
 |fn f cs vs q _ p=>exact .fn f cs vs q p
 |tup cs vs q _ p=>exact .tup cs vs q p
 |agv cs vs q j _ p=>exact .agv cs vs q j p
 |raw v j=>exact .raw v j
end
section
variable [Glb]{P:Program}{N:Nat}{w0:World}{S0:aa}{o:Oper}{a:Act}{E:Env}{st:St}{F:Fence}{n:Nat}
section put
variable {l:Nat}{x y:Obj}
theorem SR.putObj{b:Array Value}(h:SR N w0 S0 E st b)(s:S0.objs l=some x)(q:cz y=true)(hl:w0.heap.size<=l)(Y:st.cx {S0 with objs:=upd S0.objs l (some y)} w0):
  SR N w0 {S0 with objs:=upd S0.objs l (some y)} (E.put l y) st b:=by
 obtain ⟨j,f⟩:=h.obj l x s;have T:l<E.w.heap.size:=(Array.getElem?_eq_some_iff.1 f).1;have J:(E.w.putObj l y).heap.size=E.w.heap.size:=by simp [World.putObj]
 have B: ∀r g,(if E.ρ r=some l then none else E.ρ r)=some g->E.ρ r=some g/\g≠l:=fun r g M=>by
  split at M
  ·cases M
  ·rename_i hn;exact ⟨M,fun e=>hn (e▸M)⟩
 refine ⟨h.size,h.base,h.glob,fun m=>(h.sl m).putObj f j q,fun k m=>(h.gh k m).putObj f j q,fun n b' hb=>?_,h.live,h.inj,fun r g M=>?_,fun r r' g Q L=>h.rinj r r' g (B r g Q).1 (B r' g L).1,fun b o hs=>?_,?_,h.s0,h.s1,fun g o O=>?_,Y⟩
 ·have Z:=h.bx n b' hb;obtain ⟨ob,O,S⟩:=Z.at_;have U:E.κ n≠l:=fun e=>by rw [e,f] at O;cases O;cases S <;> cases j
  refine ⟨Z.old,Z.free,ob,(World.putObj_heap_other U).trans O,?_⟩;cases S with
  |itd k C c ag V W ix hgk hS D=>exact bP.itd (E:=E.put l y) k C c ag V W ix ((dE f j q k 0).map _ _ hgk) hS ⟨D.size,fun i x e s G=>⟨(D.at_ i x e s G).1.mono (fun b o h=>h) (fun b o _=>dE f j q b o),(D.at_ i x e s G).2.1.mono (fun b o h=>h) (fun b o _=>dE f j q b o),(D.at_ i x e s G).2.2⟩,D.lt,D.apart,D.mb⟩
  |it m bs c ix hl=>exact bP.it (E:=E.put l y) m bs c ix hl
  |map C I ag V W mb A=>exact .map C I ag V W mb ⟨A.size,fun i x e s G=>⟨(A.at_ i x e s G).1.mono (fun b o h=>h) (fun b o _=>dE f j q b o),(A.at_ i x e s G).2.1.mono (fun b o h=>h) (fun b o _=>dE f j q b o),(A.at_ i x e s G).2.2⟩,A.lt,A.apart,A.mb⟩
  |cells cs e _ hc=>
  refine .cells cs e _ ?_;cases hc with
  |d m ts Q L h3=>exact .d m ts Q L fun i z t R ht=>⟨(h3 i z t R ht).1.mono (fun b o h=>h) (fun b o _=>dE f j q b o),(h3 i z t R ht).2⟩
  |v vs Q L=>exact .v vs Q fun i z u R hu=>⟨(L i z u R hu).1.putObj f j q,(L i z u R hu).2⟩
 ·obtain ⟨k1,k2⟩:=B r g M;obtain ⟨g1,g2,g3⟩:=h.rows r g k1;exact ⟨g1,by show g<(E.w.putObj l y).heap.size;rw [J];exact g2,g3⟩
 ·show b<(E.w.putObj l y).heap.size
  rw [J];exact h.lt b o hs
 ·exact h.below.trans (.of rfl rfl rfl (by show _<=(E.w.putObj l y).heap.size;rw [J];exact Nat.le_refl _) (fun k hk=>World.putObj_heap_other (by omega)) (Nat.le_refl _))
 ·by_cases H:g=l
  ·subst H
   have:some y=some o:=by
    have p:upd S0.objs g (some y) g=some o:=O;rwa [aj] at p
   cases this;exact ⟨q,World.putObj_heap_same T⟩
  ·have p:upd S0.objs l (some y) g=some o:=O;rw [ae _ _ _ _ H] at p;exact ⟨(h.obj g o p).1,(World.putObj_heap_other H).trans (h.obj g o p).2⟩
end put
end
end Go.DL
end
section
end
section
end
section
end
section
namespace Go.DL
open Go.RowKit
section
variable [Glb]
end
section
theorem uh{c:Prop}{t:T}{K:T->Prop}(d:T)(g:c)(h:t=d)(f:K d):c/\ ∀b,t=b->K b:=⟨g,fun b e=>by rw [<- e,h];exact f⟩
theorem ue{c:Prop}{b:Bool}{K:Bool->Prop}(g:c)(f:b=true->K true)(h:b=false->K false):c/\ ∀d,b=d->K d:=⟨g,fun d e=>match d,e with|true,e=>f e|false,e=>h e⟩
theorem uf{c:Prop}{b:Bool}{K:Bool->Prop}(f:Bool)(i:c)(h:b=f)(g:K f):c/\ ∀d,b=d->K d:=⟨i,fun d e=>by rw [<- e,h];exact g⟩
end
section
variable [Glb]
theorem uc{P:Program}{f:FuncId}{ts:List T}{K:T->Prop}(r:T)(h:DCalls P f ts r)(b:K r): ∃r,DCalls P f ts r/\K r:=⟨r,h,b⟩
end
section
theorem leI{ks:List Nat}{bx:Nat->Option BX}{n m:Int}(h:n=m):LeV ks bx (.t (.int .i64 n)) (.t (.int .i64 m)):=by rw [h];exact .same _
theorem leT{ks:List Nat}{bx:Nat->Option BX}{n m:T}(h:n=m):LeV ks bx (.t n) (.t m):=by rw [h];exact .same _
theorem ug{ks:List Nat}{bx:Nat->Option BX}{r:Nat}{e:TypeId}{n:Nat}{xs ys:List T}(h:xs=ys):LeV ks bx (.own r e n xs) (.own r e n ys):=by rw [h];exact .same _
theorem ui{ks:List Nat}{bx:Nat->Option BX}{n:Nat}{ts us:List T}(h:ts=us):LeB ks bx (.d n ts) (some (.d n us)):=by rw [h];exact .same _
theorem sU{bx:Nat->Option BX}{v:V}{vs:List V}{x:T}{r:List Nat}{xs:List T}{rs:List Nat}(b:conv bx v=some (x,r))(c:bq bx vs=some (xs,rs)):bq bx (v::vs)=some (x::xs,r++rs):=by
 unfold bq;rw [b,c]
end
section
variable [Glb]
theorem DCalls.less{P:Program}{f:FuncId}{ts us:List T}{r:T}(h:DCalls P f us r)(b:ts.length=us.length)
  (d: ∀(S:ar) (w:World) (i:Nat) (v:Value) (t u:T),ts[i]? =some t->us[i]? =some u->Rep S w v t->Rep S w v u):DCalls P f ts r:=
 ⟨h.1,fun S w vs m g k j=>h.2 S w vs m g (k.trans b) fun i v u p e=>by
  have c:i<ts.length:=by rw [b];exact (gsZ e).1
  exact d S w i v ts[i] u (ggZ c) e (j i v ts[i] p (ggZ c))⟩
end
section
theorem Rep.oZ{S:ar}{w:World}{v:Value}(n:Nat)(h:Rep S w v .nil):Rep S w v (.slice n []):=by
 cases h;exact .slice none 0 0 0 0 n [] (fun _=>undef) rfl (Nat.le_refl _) (fun _ h=>by cases h) (fun _ h=>by cases h) (fun h=>absurd h (by simp)) (fun i h=>absurd h (by simp)) (fun i t h=>by simp at h)
theorem nW{n:Int}(b: -9223372036854775808<=n)(c:n<9223372036854775808):IntKind.wrap .i64 n=n:=by
 unfold IntKind.wrap;simp [IntKind.bits,IntKind.signed];omega
end
section
variable [Glb]
theorem lN{P:Program}{K c:St->Prop}(b: ∀s,K s->c s): ∀{l:List DI} {st:St},cW P l st K->cW P l st c
 |[],_,h=>b _ h
 |_::_,_,h=>cV (fun _=>lN b) h
end
end Go.DL
end
section
namespace Go.DL
open Go.RowKit
section
variable [Glb]{P:Program}{N:Nat}{st:St}
def hZ(P:Program)(N:Nat)(b:Array Oper):List Nat->Option (List DI)
 |[]=>some []
 |k::ks=>match b[k]? with
  |some o=>match jM P N [] b o,hZ P N b ks with
   |some i,some is=>some (i::is)
   |_,_=>none
  |none=>none
end
section
variable {P:Program}{N:Nat}{st:St}
theorem nw{F:Fence}{n:Nat}{c:Array Oper}{Q:Exit->Act->World->Prop}{k:Nat}{a:Act}{w:World}{K e:Act->World->Prop}(h: ∀a w,K a w->e a w)(b:wpOpIn F n P c Q k K a w):wpOpIn F n P c Q k e a w:=by
 unfold wpOpIn at *
 split
 ·exact h _ _ (by simpa [*] using b)
 ·rename_i o f;simp only [f] at b;split
  ·rename_i d;simp only [d,if_true] at b;exact Oper.wpIn_mono h b
  ·rename_i d;simp only [d] at b;exact ⟨b.1,h _ _ b.2⟩
end
section
variable [Glb]{P:Program}{N:Nat}{st:St}
end
end Go.DL
end
section
namespace Go.DL
open Go
section
variable [Glb]
def mkT(P:Program)(e:TypeId)(us:List T):T:=
 match P.underlying e with
 |some (.struct _)|some (.array _ _)=>.agg us
 |_=>us.headD .nil
inductive cB (P:Program):TypeId->List T->Prop
 |bool {t:TypeId} (h:P.underlying t=some .bool) (b:Bool):cB P t [.bool b]
 |int {t:TypeId} {k:IntKind} (h:P.underlying t=some (.int k)) (n:Int) (hw:(Lit.int k n).wf=true):cB P t [.int k n]
 |str {t:TypeId} (h:P.underlying t=some .string) (s:ByteArray) (hs:s.size<=maxLen):cB P t [.str s]
 |nil {t e:TypeId} (h:P.underlying t=some (.slice e)):cB P t [.nil]
 |slice {t e:TypeId} (h:P.underlying t=some (.slice e)) (xs:List (List T)) (hx: ∀x∈xs,cB P e x) (hl:xs.length<=maxLen):cB P t [.slice (P.cellsOf e) (xs.map (mkT P e))]
 |struct {t:TypeId} {fs:Array Field} (h:P.underlying t=some (.struct fs)) (us:List T) (hl:us.length=P.cellsOf t) (hf: ∀f∈fs.toList,cB P f.type ((us.drop f.offset).take (P.cellsOf f.type))):cB P t us
 |array {t e:TypeId} {n:Nat} (h:P.underlying t=some (.array n e)) (us:List T) (hl:us.length=P.cellsOf t) (hf: ∀i,i<n->cB P e ((us.drop (i * P.cellsOf e)).take (P.cellsOf e))):cB P t us
def dK(P:Program):Nat->List Field->Nat
 |off,[]=>off
 |off,f::fs=>if f.offset=off then dK P (off+P.cellsOf f.type) fs else 0
def eW(P:Program)(L:List TypeId):Bool:=L.all fun t=>match P.underlying t with
 |some .bool|some (.int _)|some .string=>Nat.beq (P.cellsOf t) 1
 |some (.slice e)=>Nat.beq (P.cellsOf t) 1&&L.contains e
 |some (.struct fs)=>(fs.toList.all fun f=>L.contains f.type)&&Nat.beq (dK P 0 fs.toList) (P.cellsOf t)&&Nat.ble 1 (P.cellsOf t)
 |some (.array n e)=>L.contains e&&Nat.beq (P.cellsOf t) (n * P.cellsOf e)&&Nat.ble 1 (P.cellsOf t)
 |_=>false
structure Weigh (H:Type) where
 B:DataW H->Nat
 BA:List (DataW H)->Nat
 lit: ∀l,1<=B (.lit l)
 str: ∀s,s.length+1<=B (.lit (.string s))
 nil:1<=B .nil
 slice: ∀e s,BA e+1<=B (.slice e s)
 agg: ∀p,BA p<=B (.agg p)
 allc: ∀d r,B d+BA r<=BA (d::r)
mutual
def T.bulk:T->Nat
 |.str s=>s.size+1
 |.slice _ xs=>aQ xs+1
 |.agg cs=>aQ cs
 |_=>1
def aQ:List T->Nat
 |[]=>0
 |t::ts=>t.bulk+aQ ts
end
end
section
theorem iv: ∀{a b:List T},aQ (a++b)=aQ a+aQ b
 |[],b=>by simp [aQ]
 |x::a,b=>by simp only [List.cons_append,aQ,iv (a:=a)];omega
theorem Weigh.sum{H:Type}(K:Weigh H): ∀(l:List (DataW H)),(l.map K.B).sum<=K.BA l
 |[]=>by simp
 |d::l=>by
  have:=K.sum l
  have:=K.allc d l
  simp only [List.map_cons,List.sum_cons];omega
end
section
variable [Glb]
def Got(P:Program)(W:World)(t:TypeId)(cs:List Value)(us:List T):Prop:=
 us.length=cs.length/\cs.length=P.cellsOf t/\(∀ u∈us,u.one=true)/\(∀ (i:Nat) (v:Value) (u:T),cs[i]? =some v->us[i]? =some u->Rep (fun b _=>b<W.heap.size) W v u)/\cB P t us
end
section
theorem gx{P:Program}{W:World}{t:TypeId}{v:Value}{u:T}(g:P.cellsOf t=1)(e:u.one=true)(f:Rep (fun b _=>b<W.heap.size) W v u)(h:cB P t [u]):Got P W t [v] [u]:=by
 refine ⟨rfl,g.symm,by simpa using e,fun i x y c d=>?_,h⟩;cases i with
 |zero=>simp at c d;subst c;subst d;exact f
 |succ i=>simp at c
theorem oX{P:Program}{L:List TypeId}(_:eW P L=true){e:TypeId}{us:List T}(_:e∈L)(h:cB P e us)(b: ∀u∈us,u.one=true):(mkT P e us).cells=us:=by
 unfold mkT;cases h with
 |struct h us d c=>rw [h];rfl
 |array h us d c=>rw [h];rfl
 |bool h|int h|str h|nil h|slice h=>rw [h];exact T.cells_one (b _ (by simp))
theorem qt{P:Program}{e:TypeId}{us:List T}(h:cB P e us):(mkT P e us).bulk=aQ us:=by
 unfold mkT;cases h with
 |struct h us c b=>rw [h];rfl
 |array h us c b=>rw [h];rfl
 |bool h|int h|str h|nil h|slice h=>rw [h];simp [aQ]
theorem lj{P:Program}{e:TypeId}{f:Nat->List T}: ∀{n k:Nat} {bs:List Nat},bs.length=n->(∀ i,i<n->cB P e (f (k+i))/\aQ (f (k+i))<=bs.getD i 0)->aQ (((List.range' k n).map f).map (mkT P e))<=bs.sum
 |0,k,bs,hl,h=>by simp [aQ]
 |n+1,k,b::bs,hl,h=>by
  rw [List.range'_succ,List.map_cons,List.map_cons];have c:=h 0 (by omega);have d:=lj (P:=P) (e:=e) (f:=f) (n:=n) (k:=k+1) (bs:=bs) (by simpa using hl) fun i hi=>by
   have:=h (i+1) (by omega)
   have e:k+1+i=k+(i+1):=by omega
   rw [e];simpa using this
  simp only [aQ,List.sum_cons];rw [qt (by simpa using c.1)]
  have:=c.2
  simp at this;omega
theorem j6{w:World}{base:Nat}{a:Addr}{n:Nat}{cs:List Value}(h:w.cells? base a n=some cs):cs.length=n/\ ∀j,j<n->w.cell? (a.add j)=cs[j]? :=by
 unfold World.cells? at h;split at h
 ·exact ⟨by simpa using mapM_some_length h,fun j b=>mapM_some_get h j j (by simp [b])⟩
 ·cases h
theorem qB{P:Program}{W:World}{L:List TypeId}(hL:eW P L=true){e:TypeId}(he:e∈L){base:Nat}{a:Addr}{len cap:Nat}(Y:len<=cap)
  {bs:List Nat} (V:bs.length=len) (hc: ∀i,i<len-> ∃cs us,W.cells? base (a.add (i * P.cellsOf e)) (P.cellsOf e)=some cs/\Got P W e cs us/\aQ us<=bs.getD i 0):
  ∃xs:List (List T),xs.length=len/\(∀ x∈xs,cB P e x)/\aQ (xs.map (mkT P e))<=bs.sum/\Rep (fun b _=>b<W.heap.size) W (.slice (some a) len cap) (.slice (P.cellsOf e) (xs.map (mkT P e))):=by
 have h0: ∀i, ∃us,i<len-> ∃cs,W.cells? base (a.add (i * P.cellsOf e)) (P.cellsOf e)=some cs/\Got P W e cs us/\aQ us<=bs.getD i 0:=fun i=>by
  by_cases h:i<len
  ·obtain ⟨cs,us,m,z⟩:=hc i h;exact ⟨us,fun _=>⟨cs,m,z⟩⟩
  ·exact ⟨[],fun h'=>absurd h' h⟩
 obtain ⟨f,D⟩:=Classical.axiomOfChoice h0;have w: ∀i,i<len->(mkT P e (f i)).cells=f i/\(f i).length=P.cellsOf e:=fun i hi=>by
  obtain ⟨cs,m,⟨z,Q,G,S,B⟩,R⟩:=D i hi;exact ⟨oX hL he B G,z.trans Q⟩
 have p: ∀x∈((List.range len).map f).map (mkT P e),x.cells.length=P.cellsOf e:=fun x H=>by
  simp only [List.mem_map,List.mem_range] at H;obtain ⟨us,⟨i,hi,rfl⟩,rfl⟩:=H;rw [(w i hi).1,(w i hi).2]
 have c:((((List.range len).map f).map (mkT P e)).flatMap T.cells).length=len * P.cellsOf e:=by rw [aI p];simp
 have gU: ∀i j,i<len->j<P.cellsOf e->((((List.range len).map f).map (mkT P e)).flatMap T.cells)[i * P.cellsOf e+j]? =(f i)[j]? :=fun i j hi d=>by
  rw [jE p i (mkT P e (f i)) (by simp [hi]) j d,(w i hi).1]
 have O: ∀k,k<len * P.cellsOf e-> ∃i j,i<len/\j<P.cellsOf e/\k=i * P.cellsOf e+j:=fun k g=>by
  have hp:0<P.cellsOf e:=Nat.pos_of_ne_zero fun h=>by rw [h] at g;simp at g
  exact ⟨k / P.cellsOf e,k % P.cellsOf e,Nat.div_lt_of_lt_mul (by rwa [Nat.mul_comm]),Nat.mod_lt _ hp,by rw [Nat.mul_comm];exact (Nat.div_add_mod k _).symm⟩
 refine ⟨(List.range len).map f,by simp,fun x H=>?_,?_,?_⟩
 ·simp only [List.mem_map,List.mem_range] at H;obtain ⟨i,hi,rfl⟩:=H;obtain ⟨cs,m,⟨z,Q,G,S,B⟩,R⟩:=D i hi;exact B
 ·rw [List.range_eq_range'];refine lj V fun i hi=>?_
  obtain ⟨cs,m,⟨z,Q,G,S,B⟩,R⟩:=D i hi;rw [Nat.zero_add];exact ⟨B,R⟩
 have M: ∀i j,i<len->j<P.cellsOf e-> ∃v,W.cell? ⟨a.block,a.off+(i * P.cellsOf e+j),none⟩=some v/\(a.spot=none)/\ ∃u,(f i)[j]? =some u/\u.one=true/\Rep (fun b _=>b<W.heap.size) W v u:=fun i j hi d=>by
  obtain ⟨cs,m,⟨z,Q,G,S,B⟩,R⟩:=D i hi;obtain ⟨e1,e2⟩:=j6 m;have C:j<cs.length:=by omega
  have r:j<(f i).length:=by omega
  have I:=e2 j d;rw [ggZ C] at I;have J:=World.cell?_spot I;have q:a.spot=none:=by
   have h00:=e2 0 (by omega)
   have:=D 0 (by omega)
   obtain ⟨cs0,g1,⟨g2,g3,_,_,_⟩,_⟩:=this;obtain ⟨_,q2⟩:=j6 g1;have Z:=q2 0 (by omega);rw [ggZ (by omega)] at Z;simpa [Addr.add] using World.cell?_spot Z
  have ea:((a.add (i * P.cellsOf e)).add j)=⟨a.block,a.off+(i * P.cellsOf e+j),none⟩:=by
   obtain ⟨b,o,J⟩:=a;dsimp only at q;subst q;unfold Addr.add;split <;> split <;> simp_all <;> omega
  rw [ea] at I;exact ⟨_,I,q,(f i)[j],by simp [r],G _ (List.getElem_mem r),S j _ _ (ggZ C) (ggZ r)⟩
 refine .slice (some a) a.block a.off len cap (P.cellsOf e) _ (fun k=>(W.cell? ⟨a.block,a.off+k,none⟩).getD (.bool false)) (by simp) Y p (fun t A=>?_) (fun h=>?_) (fun k g=>?_) fun k t A=>?_
 ·obtain ⟨k,g⟩:=List.mem_iff_getElem?.1 A;obtain ⟨i,j,hi,d,rfl⟩:=O k (by rw [<- c];exact (gsZ g).1);rw [gU i j hi d] at g;obtain ⟨v,_,_,u,p,m,_⟩:=M i j hi d;rw [p] at g;cases g;exact m
 ·rw [c] at h;obtain ⟨i,j,hi,d,_⟩:=O 0 h;obtain ⟨v,_,J,_⟩:=M i j hi d;obtain ⟨b,o,s⟩:=a;dsimp only at J;rw [J]
 ·rw [c] at g;obtain ⟨i,j,hi,d,rfl⟩:=O k g;obtain ⟨v,U,_⟩:=M i j hi d;refine ⟨by rw [U];rfl,?_⟩;exact World.block_lt_of_cell? W ⟨a.block,a.off+(i * P.cellsOf e+j),none⟩ U
 ·obtain ⟨i,j,hi,d,rfl⟩:=O k (by rw [<- c];exact (gsZ A).1);rw [gU i j hi d] at A;obtain ⟨v,U,_,u,p,_,hr⟩:=M i j hi d;rw [p] at A;cases A;rw [U];exact hr
end
section
variable [Glb]
def tz(P:Program)(W:World)(cs:List Value)(fs:List Field)(off:Nat)(us:List T):Prop:=
 off+us.length=cs.length/\(∀ u∈us,u.one=true)/\(∀ (i:Nat) (v:Value) (u:T),cs[off+i]? =some v->us[i]? =some u->Rep (fun b _=>b<W.heap.size) W v u)/\
  ∀f∈fs,off<=f.offset/\cB P f.type ((us.drop (f.offset - off)).take (P.cellsOf f.type))
end
section
theorem mu{P:Program}: ∀{fs:List Field} {off n:Nat},dK P off fs=n->1<=n->off<=n
 |[],off,n,h,_=>by simp [dK] at h;omega
 |f::fs,off,n,h,h1=>by
  unfold dK at h;split at h
  ·have:=mu h h1;omega
  ·omega
theorem gO{P:Program}{W:World}{cs:List Value}: ∀{fs:List Field} {off:Nat} {bs:List Nat},bs.length=fs.length->dK P off fs=cs.length->1<=cs.length->
  (∀ (i:Nat) (f:Field),fs[i]? =some f-> ∃us,Got P W f.type ((cs.drop f.offset).take (P.cellsOf f.type)) us/\aQ us<=bs.getD i 0)-> ∃us,tz P W cs fs off us/\aQ us<=bs.sum
 |[],off,bs,hbs,h,h1,hg=>by
  simp only [dK] at h;exact ⟨[],⟨by simpa using h,by simp,by simp,by simp⟩,by simp [aQ]⟩
 |f::fs,off,b::bs,hbs,h,h1,hg=>by
  unfold dK at h;split at h
  ·rename_i j;obtain ⟨us,⟨B,s,r,A,C⟩,gb⟩:=hg 0 f rfl;obtain ⟨vs,⟨k1,k2,z,w⟩,G⟩:=gO (bs:=bs) (by simpa using hbs) h h1 fun i g c=>by simpa using hg (i+1) g (by simpa using c)
   have p:=mu h h1;have k:us.length=P.cellsOf f.type:=by rw [B];exact s
   refine ⟨us++vs,⟨by simp;omega,fun u d=>(List.mem_append.1 d).elim (r u) (k2 u),fun i v u m d=>?_,fun g c=>?_⟩,by
    rw [iv,List.sum_cons];simp at gb
    omega⟩
   ·rcases Nat.lt_or_ge i us.length with hi|hi
    ·rw [List.getElem?_append_left hi] at d;refine A i v u ?_ d;rw [List.getElem?_take_of_lt (by omega),List.getElem?_drop,j];exact m
    ·rw [List.getElem?_append_right hi] at d;refine z (i - us.length) v u ?_ d;rw [<- k]
     have:off+us.length+(i - us.length)=off+i:=by omega
     rw [this];exact m
   ·rcases List.mem_cons.1 c with rfl|q
    ·refine ⟨by omega,?_⟩;rw [j,Nat.sub_self,List.drop_zero, <-k,List.take_left']
     ·exact C
     ·rfl
    ·obtain ⟨D,t⟩:=w g q;refine ⟨by omega,?_⟩;have e:(us++vs).drop (g.offset - off)=vs.drop (g.offset - (off+P.cellsOf f.type)):=by
      rw [List.drop_append,List.drop_eq_nil_of_le (by omega),List.nil_append]
      congr 1
      omega
     rw [e];exact t
  ·omega
theorem kg{P:Program}{e:TypeId}: ∀(m k:Nat),dK P (k * P.cellsOf e) ((List.range' k m).map fun i=>{name:= "",type:=e,offset:=i * P.cellsOf e,embedded:=false,tag:= "",pkgPath:= "",byteOffset:=0 })=(k+m) * P.cellsOf e
 |0,k=>rfl
 |m+1,k=>by
  rw [List.range'_succ,List.map_cons];unfold dK;rw [if_pos rfl]
  have:=kg (P:=P) (e:=e) m (k+1)
  dsimp only at this ⊢;rw [Nat.succ_mul] at this;rw [this]
  congr 1
  omega
theorem kJ{P:Program}{W:World}{H:Type}(K:Weigh H){enc:TypeId×Value->H}{base:Nat}{spare:Nat->Bool}{held:Bool}{L:List TypeId}(O:eW P L=true):
  ∀(m:Nat) (t:TypeId) (cs:List Value) (x:DataW H×List MemPlace),t∈L->DataW.trod enc P W base spare held m t cs=some x-> ∃us,Got P W t cs us/\aQ us<=K.B x.1
 |0,t,cs,x,ht,h=>by simp [DataW.trod] at h
 |m+1,t,cs,x,ht,h=>by
  have M:=kJ (P:=P) (W:=W) K (enc:=enc) (base:=base) (spare:=spare) (held:=held) O m;have c:=List.all_eq_true.1 O t ht;unfold DataW.trod at h;cases r:P.underlying t with
  |none=>rw [r] at c;cases c
  |some d=>
   rw [r] at c h;cases d <;> try (simp at c;done)
   case bool=>
    have c:P.cellsOf t=1:=by simpa using c
    split at h <;> try (simp_all;done)
    rename_i b _;cases h;exact ⟨[.bool b],gx c rfl (.bool b) (.bool r b),by have:=K.lit (.bool b);simpa [aQ,T.bulk] using this⟩
   case int k=>
    have q:P.cellsOf t=1:=by simpa using c
    clear c;split at h <;> try (simp_all;done)
    rename_i k1 k2 n w;cases w;split at h
    ·rename_i Q;obtain ⟨rfl,hw⟩:=Q;cases h;exact ⟨[.int _ n],gx q rfl (.int _ n) (.int r n hw),by have:=K.lit (.int k2 n);simpa [aQ,T.bulk] using this⟩
    ·cases h
   case string=>
    have c:P.cellsOf t=1:=by simpa using c
    split at h <;> try (simp_all;done)
    rename_i s _;split at h
    ·rename_i Q;cases h;exact ⟨[.str s],gx c rfl (.str s) (.str r s Q),by have:=K.str s.data.toList;simpa [aQ,T.bulk] using this⟩
    ·cases h
   case slice e=>
    simp only [Bool.and_eq_true,List.contains_iff_mem] at c;have q:P.cellsOf t=1:=by simpa using c.1
    have w:=c.2;clear c;split at h <;> try (simp_all;done)
    ·cases h;exact ⟨[.nil],gx q rfl .nil (.nil r),by have:=K.nil;simpa [aQ,T.bulk] using this⟩
    ·rename_i e1 a len cap z;cases z;dsimp only at h;split at h
     ·rename_i hb;obtain ⟨g,p,ja⟩:=Option.bind_eq_some_iff.1 h;obtain ⟨rest,_,A⟩:=Option.map_eq_some_iff.1 ja;have v:g.length=len:=by simpa using mapM_some_length p
      obtain ⟨xs,x1,x2,xb,x3⟩:=qB (W:=W) O w (base:=base) (a:=a) hb.2.1 (bs:=(g.map (·.1)).map K.B) (by simpa using v) fun i hi=>by
       have u:=mapM_some_get p i i (by simp [hi]);rw [ggZ (by omega)] at u;obtain ⟨cs,h5,h6⟩:=Option.bind_eq_some_iff.1 u;obtain ⟨us,h7,h8⟩:=M e cs _ w h6;exact ⟨cs,us,h5,h7,by simp [ggZ (show i<g.length by omega)];exact h8⟩
      refine ⟨_,gx q rfl x3 (.slice r xs x2 (by omega)),?_⟩;have Y:=K.sum (g.map (·.1))
      have G:=K.slice (g.map (·.1)) (rest.map (·.1))
      cases A;simp only [aQ,T.bulk];omega
     ·cases h
   case struct fs=>
    simp only [Bool.and_eq_true,List.contains_iff_mem,List.all_eq_true] at c;have hd:dK P 0 fs.toList=P.cellsOf t:=by simpa using c.1.2
    have hp:1<=P.cellsOf t:=by simpa using c.2
    have hm:=c.1.1;clear c;split at h <;> try (simp_all;done)
    rename_i fs' z;cases z;split at h
    ·rename_i I;obtain ⟨ys,p,A⟩:=Option.map_eq_some_iff.1 h;obtain ⟨us,⟨Y,G,U,V⟩,qb⟩:=gO (P:=P) (W:=W) (fs:=fs.toList) (off:=0) (bs:=(ys.map (·.1)).map K.B) (by simpa using mapM_some_length p) (by rw [hd];exact I.symm) (by omega) fun i f hi=>by
      have v:=mapM_some_get p i f hi;have u:i<ys.length:=by rw [mapM_some_length p];exact (gsZ hi).1
      rw [ggZ u] at v;obtain ⟨us,R,S⟩:=M f.type _ _ (hm f (List.mem_of_getElem? hi)) v;exact ⟨us,R,by simp [ggZ u];exact S⟩
     refine ⟨us,⟨by omega,I,G,fun i=>by simpa using U i,.struct r us (by omega) fun f D=>by simpa using (V f D).2⟩,?_⟩;have z1:=K.sum (ys.map (·.1))
     have z2:=K.agg (ys.map (·.1))
     cases A;dsimp only;omega
    ·cases h
   case array n e=>
    simp only [Bool.and_eq_true,List.contains_iff_mem] at c;have hd:P.cellsOf t=n * P.cellsOf e:=by simpa using c.1.2
    have J:1<=P.cellsOf t:=by simpa using c.2
    have w:=c.1.1;clear c;split at h <;> try (simp_all;done)
    rename_i c0 n' e' z;cases z;rename_i Z _;split at h
    ·rename_i I;obtain ⟨ys,p,A⟩:=Option.map_eq_some_iff.1 h;have hg: ∀i,i<n-> ∃us,Got P W e ((Z.drop (i * P.cellsOf e)).take (P.cellsOf e)) us/\aQ us<=((ys.map (·.1)).map K.B).getD i 0:=fun i hi=>by
      have v:=mapM_some_get p i i (by simp [hi]);have u:i<ys.length:=by rw [mapM_some_length p];simpa using hi
      rw [ggZ u] at v;obtain ⟨us,R,S⟩:=M e _ _ w v;exact ⟨us,R,by simp [ggZ u];exact S⟩
     have C:=kg (P:=P) (e:=e) n 0;rw [Nat.zero_mul,Nat.zero_add, <-List.range_eq_range'] at C;rcases Nat.eq_zero_or_pos (n * P.cellsOf e) with h0|h0
     ·have hz:P.cellsOf t=0:=by omega
      simp [hz] at J
     ·obtain ⟨us,⟨Y,G,U,V⟩,qb⟩:=gO (P:=P) (W:=W) (cs:=Z) (fs:=(List.range n).map fun i=>{name:= "",type:=e,offset:=i * P.cellsOf e,embedded:=false,tag:= "",pkgPath:= "",byteOffset:=0 }) (off:=0) (bs:=(ys.map (·.1)).map K.B) (by simpa using mapM_some_length p) (by rw [C];omega) (by omega) fun i f D=>by
       rw [List.getElem?_map] at D;obtain ⟨j,hj,rfl⟩:=Option.map_eq_some_iff.1 D;obtain ⟨hi,rfl⟩:=gsZ hj
       have:=hg i (by simpa using hi)
       simpa using this
      refine ⟨us,⟨by omega,I,G,fun i=>by simpa using U i,.array r us (by omega) fun i hi=>by simpa using (V _ (List.mem_map.2 ⟨i,List.mem_range.2 hi,rfl⟩)).2⟩,?_⟩;have z1:=K.sum (ys.map (·.1))
      have z2:=K.agg (ys.map (·.1))
      cases A;dsimp only;omega
    ·cases h
end
section
variable [Glb]
end
end Go.DL
end
section
namespace Go.DL
open Go Go.ChangeShapes Go.WideShapes Go.ChangeAt Go.RowKit
section
variable [Glb]
end
section
theorem rq{P:Program}{W:World}{H:Type}(K:Weigh H){enc:TypeId×Value->H}{base:Nat}{spare:Nat->Bool}{held:Bool}{L:List TypeId}(z:eW P L=true){r:Reach}{f:Nat}
  {t:TypeId} {v:Value} {d:DataW H} {p:List MemPlace} (A:t∈L) (c:Value.okWide P W r f t v) (h:DataW.Trod enc P W base spare held t v d p):
  ∃us,cB P t us/\aQ us<=K.B d/\Rep (fun b _=>b<W.heap.size) W v (mkT P t us):=by
 obtain ⟨j,D⟩:=h;obtain ⟨us,⟨q,M,G,m,I⟩,gb⟩:=kJ K z j t _ _ A D;refine ⟨us,I,gb,?_⟩;have s:=List.all_eq_true.1 z t A;unfold mkT;unfold Value.okWide at c;cases g:P.underlying t with
 |none=>rw [g] at s;cases s
 |some d=>
  rw [g] at s c;have one:v.cells= #[v]->Rep (fun b _=>b<W.heap.size) W v (us.headD .nil):=fun w=>by
   rw [w] at q m;have C:us.length=1:=q
   match us,C with
   |[u],_=>exact m 0 v u rfl rfl
  have agg:(∃ cs,v= .agg cs/\cs.size=P.cellsOf t/\Row.okWide P W r f t cs)->Rep (fun b _=>b<W.heap.size) W v (.agg us):=fun ⟨cs,w,_,_⟩=>by
   subst w;have e:(Value.agg cs).cells.toList=cs.toList:=rfl;rw [e] at q m;exact .agg cs us (by simpa using q.symm) G fun i x u J g=>m i x u (by simpa using J) g
  cases d <;> try (simp at s;done)
  case bool=>exact one (by unfold Cell.okWide Cell.ok at c;rw [g] at c;cases v <;> first|rfl|cases c)
  case int k=>exact one (by unfold Cell.okWide Cell.ok at c;rw [g] at c;cases v <;> first|rfl|cases c)
  case string=>exact one (by unfold Cell.okWide Cell.ok at c;rw [g] at c;cases v <;> first|rfl|cases c)
  case slice e=>exact one (by unfold Cell.okWide Cell.ok at c;rw [g] at c;cases v <;> first|rfl|cases c)
  case struct fs=>exact agg c
  case array n e=>exact agg c
end
section
variable [Glb]
def HasAll(P:Program):List TypeId->List (List T)->Prop
 |[],[]=>True
 |t::ts,us::uss=>cB P t us/\HasAll P ts uss
 |_,_=>False
def mkAll(P:Program):List TypeId->List (List T)->List T
 |t::ts,us::uss=>mkT P t us::mkAll P ts uss
 |_,_=>[]
def bulkA:List (List T)->Nat
 |[]=>0
 |us::uss=>aQ us+bulkA uss
end
section
theorem mc{P:Program}{W:World}{H:Type}(K:Weigh H){enc:TypeId×Value->H}{spare:Nat->Bool}{held:Bool}{L:List TypeId}(m:eW P L=true){base e:Nat}{r:Reach}:
  ∀{ts:List TypeId} {vs:List Value} {ds:List (DataW H)} {p:List MemPlace},(∀ t∈ts,t∈L)->(∀ (j:Nat) t v,ts[j]? =some t->vs[j]? =some v->Value.okWide P W r e t v)->
   DataW.TrodAll enc P W base spare held ts vs ds p-> ∃c,HasAll P ts c/\bulkA c<=K.BA ds/\vs.length=(mkAll P ts c).length/\
    ∀(i:Nat) (v:Value) (t:T),vs[i]? =some v->(mkAll P ts c)[i]? =some t->Rep (fun b _=>b<W.heap.size) W v t
 |[],vs,ds,p,_,_,h=>by
  obtain ⟨rfl,rfl,rfl⟩:=trodAll_nil h;exact ⟨[],trivial,by simp [bulkA],rfl,by simp⟩
 |t::ts,vs,ds,p,hm,hok,h=>by
  obtain ⟨v,D,d,k,q,O,rfl,rfl,rfl,s,z⟩:=trodAll_cons h;obtain ⟨us,A,M,w⟩:=rq K m (hm t (by simp)) (hok 0 t v rfl rfl) s;obtain ⟨c,J,Q,G,C⟩:=mc K m (fun x f=>hm x (by simp [f])) (fun j t v B I=>hok (j+1) t v (by simpa using B) (by simpa using I)) z;refine ⟨us::c,⟨A,J⟩,by have:=K.allc d k;simp only [bulkA];omega,by simp [mkAll,G],fun i x u f g=>?_⟩;cases i with
  |zero=>simp [mkAll] at f g;subst f;subst g;exact w
  |succ i=>exact C i x u (by simpa using f) (by simpa [mkAll] using g)
theorem ir{P:Program}{W c:World}{H:Type}{enc:TypeId×Value->H}(g:laidOutB P=true)(f:Below W.heap.size W c):
  ∀{ts:List TypeId} {vs:List Value} {ds:List (DataW H)} {p:List MemPlace},ts.all (fun t=>P.readableRec t&&Nat.blt t P.types.size)=true->DataW.TrodAll enc P W 0 (fun _=>true) true ts vs ds p->
   DataW.TrodAll enc P c 0 (fun b=>decide (b<W.heap.size)) true ts vs ds p
 |[],vs,ds,p,_,h=>by
  obtain ⟨rfl,rfl,rfl⟩:=trodAll_nil h;exact trodAll_mk0
 |t::ts,vs,ds,p,hr,h=>by
  simp only [List.all_cons,Bool.and_eq_true] at hr;obtain ⟨v,r,d,k,q,s,rfl,rfl,rfl,e,j⟩:=trodAll_cons h;have lt: ∀x∈q,x.block<W.heap.size:=by obtain ⟨m,i⟩:=e;exact DataW.trod_lt m _ _ _ i
  exact trodAll_cons_mk (Go.RowKit.Below.trod g hr.1.1 (nlZ hr.1.2) e f.toBelow lt) (ir g f hr.2 j)
theorem jv{P:Program}{W:World}{H:Type}{enc:TypeId×Value->H}{base:Nat}{spare:Nat->Bool}{held:Bool}:
  ∀{ts:List TypeId} {vs:List Value} {ds:List (DataW H)} {p:List MemPlace},DataW.TrodAll enc P W base spare held ts vs ds p->ds.length=ts.length
 |[],vs,ds,p,h=>by
  obtain ⟨rfl,rfl,rfl⟩:=trodAll_nil h;rfl
 |t::ts,vs,ds,p,h=>by
  obtain ⟨v,e,d,c,q,g,rfl,rfl,rfl,f,b⟩:=trodAll_cons h;simp [jv b]
end
section
variable [Glb]
structure LawFits (C:Checked) (f:Func) (s:ChangeSpec) (L:List TypeId) (tb:TypeId):Prop where
 laid:laidOutB C.prog=true
 closed:eW C.prog L=true
 params:f.params.toList.all (fun t=>L.contains t)=true
 readable:f.params.toList.all (fun t=>C.prog.readableRec t&&Nat.blt t C.prog.types.size)=true
 res:f.resultTypes.toList=[tb]
 bool:C.prog.underlying tb=some .bool
 vars:s.vars=[]
 fn: ∀(H:Type) (ds:List (DataW H)),ds.length=f.params.toList.length->s.fn H (ds++[])={results:=[.lit (.bool true)],args:=ds }
theorem nz{C:Checked}{F:FuncId}{f:Func}{H:Type}{enc:TypeId×Value->H}{s:ChangeSpec}{L:List TypeId}{T:TypeId}(d:LawFits C f s L T)(K:Weigh H){N:Nat}
  (law: ∀g,HasAll C.prog f.params.toList g->bulkA g<=N->DCalls C.prog F (mkAll C.prog f.params.toList g) (.bool true))
  {W:World} {base:Nat} {c:Array Value} {ds gs:List (DataW H)} {i:List MemPlace}
  (U: ∀(j:Nat) t v,f.params[j]? =some t->c[j]? =some v->Value.okWide C.prog W .any base t v)
  (D:DataW.Whole enc C.prog f.params.toList s.vars false W c.toList ds gs i) (hN:K.BA ds<=N) (Y:bE (fun b _=>b<W.heap.size) W):
  Calls C.prog F c W fun e A=> ∃v,e= .returned v/\s.post enc C.prog f false true false false W c v A:=by
 have w:=D;obtain ⟨p,q,r,B,rfl,M,R⟩:=D;rw [d.vars] at B;obtain ⟨rfl,rfl⟩:=trodVars_none B;obtain ⟨g,J,S,Q,V⟩:=mc K d.closed (fun t u=>by simpa using List.all_eq_true.1 d.params t u) (fun j t v u hx=>U j t v (by simpa using u) (by simpa using hx)) r;have G:=(law g J (Nat.le_trans S hN)).2 (fun b _=>b<W.heap.size) W c.toList (fun b o h=>h) Y Q V;have k:=d.fn H ds (jv r);have e:c.toList.toArray=c:=by simp
 rw [e] at G;refine G.mono fun ex A ⟨v,Z,m,I⟩=>?_
 subst Z;have z:v= .bool true:=by cases I;rfl
 subst z;refine ⟨_,rfl,_,_,_,[],p,[],w,?_,?_,?_,m.frame _,fun h=>by cases h⟩
 ·have O:f.resultTypes.size=1:=by rw [<- Array.length_toList,d.res];rfl
  rw [d.res,k,O];exact trodAll_mk1 (shut_bool d.bool _)
 ·rw [k];exact ir d.laid m d.readable r
 ·rw [d.vars,k];exact rfl
theorem nC(b: ∀g,(Glb.gs g:Option (List T))=none)(S:ar)(w:World):bE S w:=fun g cs h=>by rw [b] at h;cases h
theorem law_upto{C:Checked}{z:Os}{F:FuncId}{f:Func}{H:Type}{enc:TypeId×Value->H}{s:ChangeSpec}{S:OpenSpec}{k:(H:Type)->List (DataW H)->Bool}{d:List PathCond}{L:List TypeId}{G:TypeId}(m:LawFits C f s L G)(K:Weigh H)(u: ∀g,(Glb.gs g:Option (List T))=none){N:Nat}
  (R:S={OpenSpec.ofChange s with cond:=some k }) (J: ∀ds,k H ds=true->K.BA ds<=N) {I:Stop.Interp}
  (own:ownKnob C.prog.godebug=none) (e:z.Started) (h:C.prog.inits.idxOf? F=none) (v:C.prog.funcs[F]? =some f)
  (c: ∃(w:World) (b:Tape) (i:Input),w.os=z/\(w.forCall b i).Shaped C.prog/\i.vars=[]/\Input.okWide C.prog (w.forCall b i) .any w.heap.size F i/\
   S.pre6 enc C.prog f d false (w.forCall b i).memory i.args/\(({}:Assume)).holds C.prog (lone (Frame.enter C.prog F i.args .normal) [] (w.forCall b i)))
  (law: ∀j,HasAll C.prog f.params.toList j->bulkA j<=N->DCalls C.prog F (mkAll C.prog f.params.toList j) (.bool true)):
  ReturnsInHanded {} C z F .any (S.pre6 enc C.prog f d false) ((S.at I).post enc C.prog f false true false false):=by
 subst R;refine returnsInHanded_of_cond (s:={OpenSpec.ofChange s with cond:=some k }) (k:=k) rfl own e h v c ?_;intro W base A ds gs t M D _ r _;have O:gs=[]:=by
  obtain ⟨p,q,U,B,_,_,_⟩:=D;have Q:({OpenSpec.ofChange s with cond:=some k }:OpenSpec).vars=[]:=m.vars;rw [Q] at B;exact (trodVars_none B).1
 subst O;rw [List.append_nil] at r;exact nz m K law M D (J ds r) (nC u _ _)
end
end Go.DL
end
section
namespace Go.DL
open Go
section
variable [Glb]
end
section
theorem nT_{t:T}{K:T->Prop}(c:K t): ∀b,t=b->K b:=fun _ e=>e▸c
theorem nv_{t:T}{K:T->Prop}(b:T)(h:t=b)(d:K b): ∀c,t=c->K c:=fun _ e=>by rw [<- e,h];exact d
theorem nb_{b:Bool}{K:Bool->Prop}(d:Bool)(h:b=d)(f:K d): ∀c,b=c->K c:=fun _ e=>by rw [<- e,h];exact f
theorem nD_{p:Prop}[Decidable p]{K:Bool->Prop}(c:p->K true)(d: ¬p->K false): ∀b,decide p=b->K b:=fun b e=>match b,e with|true,e=>c (of_decide_eq_true e)|false,e=>d (of_decide_eq_false e)
theorem sC{p:Prop}[Decidable p]{K:Bool->Prop}(h:p)(c:K true): ∀b,decide p=b->K b:=fun b e=>by rw [<- e,decide_eq_true h];exact c
theorem su{p:Prop}[Decidable p]{K:Bool->Prop}(h: ¬p)(c:K false): ∀b,decide p=b->K b:=fun b e=>by rw [<- e,decide_eq_false h];exact c
theorem nE_{x y:Int}{K:Bool->Prop}(c:x=y->K true)(d:x≠y->K false): ∀b,(x==y)=b->K b:=fun b e=>match b,e with|true,e=>c (eq_of_beq e)|false,e=>d (by simpa using e)
theorem sE{x y:Int}{K:Bool->Prop}(h:x=y)(c:K true): ∀b,(x==y)=b->K b:=fun b e=>by rw [<- e,h,beq_self_eq_true];exact c
theorem sD{x y:Int}{K:Bool->Prop}(h:x≠y)(c:K false): ∀b,(x==y)=b->K b:=fun b e=>by rw [<- e,beq_false_of_ne h];exact c
theorem nN_{x y:Int}{K:Bool->Prop}(c:x≠y->K true)(d:x=y->K false): ∀b,(x !=y)=b->K b:=fun b e=>match b,e with|true,e=>c (by simpa using e)|false,e=>d (by simpa using e)
theorem sG{x y:Int}{K:Bool->Prop}(h:x≠y)(c:K true): ∀b,(x !=y)=b->K b:=fun b e=>by rw [<- e,show (x !=y)=true by simpa using h];exact c
theorem sF{x y:Int}{K:Bool->Prop}(h:x=y)(c:K false): ∀b,(x !=y)=b->K b:=fun b e=>by rw [<- e,h,bne_self_eq_false];exact c
theorem leB{ks:List Nat}{bx:Nat->Option BX}{x y:Bool}(h:x=y):LeV ks bx (.t (.bool x)) (.t (.bool y)):=by rw [h];exact .same _
theorem rb{x b:Bool}{c:Prop}(h:x=b)(d:c):some (T.bool x)=some (T.bool b)/\c:=⟨congrArg _ (congrArg _ h),d⟩
theorem ri{k:IntKind}{n m:Int}{c:Prop}(h:n=m)(b:c):some (T.int k n)=some (T.int k m)/\c:=⟨congrArg _ (congrArg _ h),b⟩
theorem rt{t u:T}{c:Prop}(h:t=u)(b:c):some t=some u/\c:=⟨congrArg _ h,b⟩
end
section
variable [Glb]
end
section
theorem aE1{x y:Int}{K:Bool->Prop}(c:K true)(h:x=y:=by first|omega|(simp;done)|(simp;omega)|fail): ∀b,(x==y)=b->K b:=sE h c
theorem aE0{x y:Int}{K:Bool->Prop}(c:K false)(h:x≠y:=by first|omega|(simp;done)|(simp;omega)|fail): ∀b,(x==y)=b->K b:=sD h c
theorem aN1{x y:Int}{K:Bool->Prop}(c:K true)(h:x≠y:=by first|omega|(simp;done)|(simp;omega)|fail): ∀b,(x !=y)=b->K b:=sG h c
theorem aN0{x y:Int}{K:Bool->Prop}(c:K false)(h:x=y:=by first|omega|(simp;done)|(simp;omega)|fail): ∀b,(x !=y)=b->K b:=sF h c
theorem aD1{p:Prop}[Decidable p]{K:Bool->Prop}(c:K true)(h:p:=by first|omega|(simp;done)|(simp;omega)|fail): ∀b,decide p=b->K b:=sC h c
theorem aD0{p:Prop}[Decidable p]{K:Bool->Prop}(c:K false)(h: ¬p:=by first|omega|(simp;done)|(simp;omega)|fail): ∀b,decide p=b->K b:=su h c
theorem aS{c K:Prop}(b:K)(d:c:=by first|exact trivial|rfl|decide|exact nlZ rfl|assumption|exact ⟨rfl,nlZ rfl⟩|exact ⟨trivial,rfl⟩|exact ⟨⟨trivial,rfl⟩,rfl⟩|omega|(simp;done)|(simp;omega)|(simp [*];done)|fail):c/\K:=⟨d,b⟩
theorem rb1{b:Bool}{c:Prop}(d:c)(h:true=b:=by first|rfl|(simp;done)|(simp;omega)|(simp [*];done)|(simp [*];omega)|fail):some (T.bool true)=some (T.bool b)/\c:=rb h d
theorem rb0{b:Bool}{c:Prop}(d:c)(h:false=b:=by first|rfl|(simp;done)|(simp;omega)|(simp [*];done)|(simp [*];omega)|fail):some (T.bool false)=some (T.bool b)/\c:=rb h d
theorem rbx{x b:Bool}{c:Prop}(d:c)(h:x=b:=by first|rfl|(simp;done)|(simp;omega)|(simp [*];done)|(simp [*];omega)|fail):some (T.bool x)=some (T.bool b)/\c:=rb h d
theorem rix{k:IntKind}{n m:Int}{c:Prop}(b:c)(h:n=m:=by first|rfl|omega|(rw [nW] <;> omega)|(simp;omega)|(simp [*];done)|fail):some (T.int k n)=some (T.int k m)/\c:=ri h b
theorem lI{ks:List Nat}{bx:Nat->Option BX}{n m:Int}(h:n=m:=by first|omega|(rw [nW] <;> omega)|(simp;omega)|(simp [*];done)|fail):LeV ks bx (.t (.int .i64 n)) (.t (.int .i64 m)):=leI h
theorem lB{ks:List Nat}{bx:Nat->Option BX}{x y:Bool}(h:x=y:=by first|rfl|(simp;done)|(simp [*];done)|(simp [*];omega)|fail):LeV ks bx (.t (.bool x)) (.t (.bool y)):=leB h
end
section
variable [Glb]
end
end Go.DL
end
section
namespace Go.DL
variable {P:Program}
theorem sO(w:World)(m sT ty e:TypeId)(size b o d g:Nat)(a:Addr)(c f:Nat)(cs:List Value)
  (r:P.underlying m=some (.slice e)) (p:(P.info? e).map (·.size)=some size) (t:cs.length=Nat.min c d * size)
  (z: ∀j v,cs[j]? =some v->w.cell? (a.add j)=some v) (A: ∀j,j<cs.length->(w.cell? ⟨b,o+j,none⟩).isSome=true) (s: ∀j,j<cs.length->w.frozen? ⟨b,o+j,none⟩=false) (q: ∀v∈cs,v.oneCell'=true):
  (Builtin.copy_ #[m,sT] ty #[.slice (some ⟨b,o,none⟩) d g,.slice (some a) c f]).run P w= .ok (goInt (Nat.min c d)) (w.setCells b o cs):=by
 have u:=run_firstCells_some (P:=P) w size (Nat.min c d) a c f cs t z;have k:=run_storeCells_cells (P:=P) b o cs 0 w (by simpa using A) (by simpa using s) q;cases h:P.info? e with
 |none=>simp [h] at p
 |some i=>
  have hi:i.size=size:=by simpa [h] using p
  simp [Builtin.copy_,run_underlying r,Builtin.lenOf,sizeOf,typeInfo,h,hi,u,k]
end Go.DL
end
section
namespace Go.DL
open Go
section
variable [Glb]
def Les(t u:T):Prop:= ∀(S:ar) (w:World) (v:Value),Rep S w v t->Rep S w v u
end
section
theorem Les.refl(t:T):Les t t:=fun _ _ _ h=>h
end
section
variable [Glb]
structure dn (ts us:List T):Prop where
 len:ts.length=us.length
 one: ∀u∈us,u.one=true
 le: ∀(i:Nat) (t u:T),ts[i]? =some t->us[i]? =some u->Les t u
end
section
theorem dn.nil:dn [] []:=⟨rfl,by simp,by simp⟩
theorem dn.cons{t u:T}{ts us:List T}(h:Les t u)(f:u.one=true)(k:dn ts us):dn (t::ts) (u::us):=by
 refine ⟨by simp [k.len],fun x e=>?_,fun i a b d c=>?_⟩
 ·rcases List.mem_cons.1 e with rfl|e
  ·exact f
  ·exact k.one x e
 ·cases i with
  |zero=>simp at d c;subst d;subst c;exact h
  |succ i=>exact k.le i a b (by simpa using d) (by simpa using c)
theorem dn.append{ts us c d:List T}(h:dn ts us)(k:dn c d):dn (ts++c) (us++d):=by
 refine ⟨by simp [h.len,k.len],fun x e=>?_,fun i a b g f=>?_⟩
 ·rcases List.mem_append.1 e with e|e
  ·exact h.one x e
  ·exact k.one x e
 ·rcases Nat.lt_or_ge i ts.length with hi|hi
  ·rw [List.getElem?_append_left hi] at g;rw [List.getElem?_append_left (by rw [<- h.len];exact hi)] at f;exact h.le i a b g f
  ·rw [List.getElem?_append_right hi] at g;rw [List.getElem?_append_right (by rw [<- h.len];exact hi), <-h.len] at f;exact k.le _ a b g f
theorem Les.nil(n:Nat):Les .nil (.slice n []):=fun _ _ _ h=>Rep.oZ n h
theorem Les.agg{ts us:List T}(h:dn ts us):Les (.agg ts) (.agg us):=fun S w v r=>by
 cases r with
 |agg cs _ f g e=>
  refine .agg cs us (f.trans h.len) h.one fun i x u d c=>?_
  have b:i<ts.length:=by rw [h.len];exact (gsZ c).1
  exact h.le i ts[i] u (by simp [b]) c S w x (e i x ts[i] d (by simp [b]))
theorem dn.flat{n:Nat}: ∀{xs ys:List T},xs.length=ys.length->(∀ (i:Nat) (x y:T),xs[i]? =some x->ys[i]? =some y->dn x.cells y.cells/\y.cells.length=n)->dn (xs.flatMap T.cells) (ys.flatMap T.cells)
 |[],[],_,_=>.nil
 |x::xs,y::ys,hl,h=>by
  simp only [List.flatMap_cons];exact (h 0 x y rfl rfl).1.append (dn.flat (n:=n) (by simpa using hl) fun i a b d c=>h (i+1) a b (by simpa using d) (by simpa using c))
 |[],_::_,hl,_=>by simp at hl
 |_::_,[],hl,_=>by simp at hl
theorem Les.slice{n:Nat}{xs ys:List T}(p:xs.length=ys.length)(h: ∀(i:Nat) (x y:T),xs[i]? =some x->ys[i]? =some y->dn x.cells y.cells/\y.cells.length=n):Les (.slice n xs) (.slice n ys):=fun S w v r=>by
 have d:=dn.flat p h;cases r with
 |slice a b o len cap _ _ g m s e z t q k=>
  refine .slice a b o len cap n ys g (by omega) s (fun y f=>?_) d.one (fun j=>t (by rw [d.len];exact j)) (fun i hi=>q i (by rw [d.len];exact hi)) fun i u e=>?_
  ·obtain ⟨i,hi,rfl⟩:=List.getElem_of_mem f;exact (h i xs[i] ys[i] (by simp [show i<xs.length by omega]) (by simp [hi])).2
  ·have c:i<(xs.flatMap T.cells).length:=by rw [d.len];exact (gsZ e).1
   exact d.le i _ u (ggZ c) e S w (g i) (k i _ (ggZ c))
end
section
variable [Glb]
theorem DCalls.les{P:Program}{f:FuncId}{ts us:List T}{r:T}(g:ts.length=us.length)(b: ∀(i:Nat) (t u:T),ts[i]? =some t->us[i]? =some u->Les t u)(h:DCalls P f us r):DCalls P f ts r:=
 h.less g fun S w i v t u c d e=>b i t u c d S w v e
def lesAll:List T->List T->Prop
 |[],[]=>True
 |t::ts,u::us=>Les t u/\lesAll ts us
 |_,_=>False
end
section
theorem kp: ∀{ts us:List T},lesAll ts us->ts.length=us.length
 |[],[],_=>rfl
 |t::ts,u::us,h=>by simp [kp h.2]
theorem ko: ∀{ts us:List T},lesAll ts us-> ∀(i:Nat) (t u:T),ts[i]? =some t->us[i]? =some u->Les t u
 |[],[],_,i,t,u,h,_=>by simp at h
 |a::ts,b::us,h,i,t,u,ht,hu=>by
  cases i with
  |zero=>simp at ht hu;subst ht;subst hu;exact h.1
  |succ i=>exact ko h.2 i t u (by simpa using ht) (by simpa using hu)
end
section
variable [Glb]
theorem DCalls.lesAll{P:Program}{f:FuncId}{ts us:List T}{r:T}(h:DCalls P f us r)(b:lesAll ts us):DCalls P f ts r:=
 DCalls.les (kp b) (ko b) h
end
end Go.DL
end
section
namespace Go.DL
open Go.RowKit
section
variable [Glb]{P:Program}{X:List FuncId}{N:Nat}{w0:World}{S0:aa}{a:Act}{E:Env}{st:St}
abbrev dZ(w:World):ar:=fun b _=>b<w.heap.size
def jB(f:V->Option T):List V->Option (List T)
 |[]=>some []
 |v::vs=>match f v,jB f vs with
  |some x,some xs=>some (x::xs)
  |_,_=>none
def cvM(bx:Nat->Option BX):Nat->V->Option T
 |0,_=>none
 |k+1,v=>match v with
  |.fn f caps=>match jB (cvM bx k) caps with
   |some ts=>some (.clos f ts)
   |none=>none
  |.ptr n off=>match bx n with
   |some (.v vs)=>match jB (cvM bx k) vs with
    |some ts=>some (.cptr ts off)
    |none=>none
   |_=>match aX bx (.ptr n off) with
    |some (t,_)=>some t
    |none=>none
  |v=>match aX bx v with
   |some (t,_)=>some t
   |none=>none
end
section
variable {P:Program}{X:List FuncId}{N:Nat}{w0:World}{S0:aa}{a:Act}{E:Env}{st:St}
theorem gM{f:V->Option T}: ∀{vs:List V} {ts:List T},jB f vs=some ts->vs.length=ts.length/\ ∀(i:Nat) (v:V) (t:T),vs[i]? =some v->ts[i]? =some t->f v=some t
 |[],ts,h=>by simp [jB] at h;subst h;exact ⟨rfl,fun i v t b=>by simp at b⟩
 |v::vs,ts,h=>by
  unfold jB at h;split at h
  ·rename_i x xs j d;cases h;obtain ⟨e,g⟩:=gM d;refine ⟨by simp [e],fun i v t b c=>?_⟩;cases i with
   |zero=>simp at b c;subst b;subst c;exact j
   |succ i=>simp at b c;exact g i v t b c
  ·cases h
end
section
variable [Glb]{P:Program}{X:List FuncId}{N:Nat}{w0:World}{S0:aa}{a:Act}{E:Env}{st:St}
theorem iC(h:SR N w0 S0 E st a.tmps): ∀{k:Nat} {u:V} {v:Value} {t:T},VR E v u->cvM st.bx k u=some t->Rep (dZ E.w) E.w v t
 |0,u,v,t,_,c=>by cases c
 |k+1,u,v,t,hv,c=>by
  have all: ∀{s:List Nat} (b o:Nat),Sx E s b o->dZ E.w b o:=by
   rintro s b o (q|⟨n,_,g,rfl⟩)
   ·exact h.lt b o q
   ·exact lV h g
  have one: ∀{D:T} {s:List Nat},aX st.bx u=some (D,s)->Rep (dZ E.w) E.w v D:=fun q=>(ed h.bx hv q).mono all (fun _ _ _=>aC.rfl)
  have j:(match aX st.bx u with|some (t,_)=>some t|none=>none)=some t->Rep (dZ E.w) E.w v t:=fun c=>by
   split at c
   ·rename_i D s q;cases c;exact one q
   ·cases c
  unfold cvM at c;split at c
  ·rename_i f caps;split at c
   ·rename_i ts p;cases c;cases hv with
    |fn _ cs _ M I=>
     obtain ⟨C,A⟩:=gM p;refine .clos f cs ts (by omega) fun i x t G d=>?_
     have hi:i<caps.length:=by rw [C];exact (gsZ d).1
     have z:=ggZ hi;exact iC h (I i x _ G z) (A i _ t z d)
   ·cases c
  ·rename_i n off;split at c
   ·rename_i vs H;split at c
    ·rename_i ts p;cases c;cases hv with
     |ptr _ _ g=>
      obtain ⟨cs,e,L,B⟩:=(h.bx n _ H).cells rfl;cases B with
      |v _ q J=>
      obtain ⟨C,A⟩:=gM p;have key: ∀(i:Nat) (x:Value) (t:T),cs[i]? =some x->ts[i]? =some t->Rep (dZ E.w) E.w x t/\t.one=true:=fun i x t G d=>by
       have hi:i<vs.length:=by rw [C];exact (gsZ d).1
       have r:=ggZ hi;obtain ⟨k1,k2⟩:=J i x _ G r
       have:=iC h k1 (A i _ t r d)
       exact ⟨this,this.kG k2⟩
      have m: ∀i,i<ts.length->i<cs.size:=fun i hi=>by omega
      have:=Rep.cptr (S:=dZ E.w) (w:=E.w) (E.κ n) 0 off ts (fun i=>cs[i]?.getD undef)
       (fun t d=>by
        obtain ⟨i,hi⟩:=List.mem_iff_getElem?.1 d;have g:=m i (gsZ hi).1;exact (key i cs[i] t (by simp [g]) hi).2)
       (fun i hi=>by
        have g:=m i hi;rw [Nat.zero_add,cell_of_row _ _ _ _ _ _ L];exact ⟨by simp [g],(h.bx n _ H).lt⟩)
       (fun i t d=>by
        have g:=m i (gsZ d).1
        have:=(key i cs[i] t (by simp [g]) d).1
        simpa only [g,getElem?_pos,Option.getD_some] using this)
      rwa [Nat.zero_add] at this
    ·cases c
   ·exact j c
  ·exact j c
abbrev cvA(st:St)(us:List V):Option (List T):=jB (cvM st.bx 6) us
theorem oM(h:SR N w0 S0 E st a.tmps){us:List V}{ts:List T}(j:cvA st us=some ts){vs:Array Value}(e:vs.size=us.length)(g: ∀(i:Nat) (v:Value) (u:V),vs[i]? =some v->us[i]? =some u->VR E v u):
  vs.toList.length=ts.length/\ ∀(i:Nat) (v:Value) (t:T),vs.toList[i]? =some v->ts[i]? =some t->Rep (dZ E.w) E.w v t:=by
 obtain ⟨f,k⟩:=gM j;refine ⟨by simp;omega,fun i v t c d=>?_⟩;have hi:i<us.length:=by rw [f];exact (gsZ d).1
 have b:=ggZ hi;exact iC h (g i v _ (by simpa using c) b) (k i _ t b d)
theorem SR.sY{b:Array Value}(h:SR N w0 S0 E st b):bE (dZ E.w) E.w:=h.iZ.up (fun b o c=>h.lt b o c) (Below.refl _ _)
abbrev qT(w w':World):ar:=fun b _=>w.heap.size<=b/\b<w'.heap.size
def rR(P:Program)(f:FuncId)(ts:List T)(r:T):Prop:=
 bK P f/\ ∀(w:World) (vs:List Value),bE (dZ w) w->vs.length=ts.length->(∀ (i:Nat) (v:Value) (t:T),vs[i]? =some v->ts[i]? =some t->Rep (dZ w) w v t)->
  Calls P f vs.toArray w fun e w'=> ∃v,e= .returned v/\Below w.heap.size w w'/\Rep (qT w w') w' v r
theorem tX{f:FuncId}{us:List V}{d:Option Nat}{K:St->Prop}{ts:List T}{r:T}(A:cvA st us=some ts)(i:rR P f ts r)(q:K (st.set d (.t r))):WC P f us d st K:=by
 refine ⟨i.1,fun N w0 S0 E a vs h g u hd=>?_⟩;obtain ⟨p,z⟩:=oM (a:=⟨a,[]⟩) h A g u;refine Calls.mono (by simpa using i.2 E.w vs.toList h.sY p z) ?_;rintro e w' ⟨v,rfl,s,j⟩;have m:=h.world s (fun b o=>E.S b o\/(E.w.heap.size<=b/\b<w'.heap.size)) (fun b o=>⟨fun c=>c.elim .inl fun k=>.inr ⟨.inr k,k⟩,fun c=>c.elim .inl fun k=>k.1⟩);exact ⟨v,rfl,_,_,rfl,q,eZ m hd (.t _ _ (j.mono (fun b o c=>.inr c) (fun _ _ _=>aC.rfl)))⟩
end
section
variable {P:Program}{X:List FuncId}{N:Nat}{w0:World}{S0:aa}{a:Act}{E:Env}{st:St}
theorem gK.rep{w w':World}{v:Value}{e:TypeId}{size:Nat}{xs:List T}(h:gK w w' v e size xs):Rep (qT w w') w' v (.slice size xs):=by
 obtain ⟨cells,k1,k2,q⟩:=h.ex
 let E:Env:={S:=fun b o=>v.ownBlock=some b/\o<(xs.flatMap T.cells).length,w:=w',B:=w.heap.size,κ:=fun _=>0,ρ:=fun _=>v.ownBlock,live:=fun _=>false }
 have p:bQ E v 0 e size xs:=⟨⟨cells,k1,k2,fun i x t r k=>(q i x t r k).of_flat (h.flat t (List.mem_of_getElem? k))⟩,h.uni,h.one,fun g c=>⟨c,fun o=>⟨fun f=>f.2,fun f=>⟨c,f⟩⟩⟩⟩
 refine p.rep.mono (fun b o j=>?_) (fun _ _ _=>aC.rfl);rcases k1.2 with ⟨rfl,_⟩|⟨g,cap,m,rfl,d,c,_⟩
 ·cases j.1
 ·have:=j.1
  simp only [Value.ownBlock,Option.some.injEq] at this;subst this;exact ⟨d,(Array.getElem?_eq_some_iff.1 c).1⟩
end
section
variable [Glb]{P:Program}{X:List FuncId}{N:Nat}{w0:World}{S0:aa}{a:Act}{E:Env}{st:St}
theorem eC.ua{f:FuncId}{ts:List T}{e:TypeId}{size:Nat}{xs:List T}(h:eC P f ts e size xs []):DCalls P f ts (.slice size xs):=by
 refine ⟨h.1,fun S w vs p c m k=>(h.2 S w vs p c m k).mono ?_⟩;rintro q w' ⟨v,us,rfl,j,g,d,_⟩
 have:us=[]:=List.eq_nil_of_length_eq_zero d
 subst this;exact ⟨v,rfl,j,g.rep.mono (fun b o i=>.inr i) (fun _ _ _=>aC.rfl)⟩
end
end Go.DL
end
section
end
section
end
section
namespace Go.DL
open Go.RowKit Go.Shelf Go.Proofs
section
variable [Glb]{P:Program}{ρ:Ren}
theorem sN(L:Lays8.n4 P ρ){i0:TypeInfo}{z:Value}(m:P.info? (ρ.t 25)=some i0)(k:i0.zero=some z)(g:0<i0.size)(q:z.cells.size=i0.size)(n:Nat)(C:n * i0.bytes<=140737488355328)(B:n<=4611686018427387904)(H:bK P (ρ.f 4)):
  eC P (ρ.f 4) [.nil,.int .i64 n] (ρ.t 25) i0.size [] []:=by
 refine ⟨H,fun S w vs _ _ d v=>?_⟩;have p:vs.length=2:=d
 match vs,p with
 |[a,b],_=>
  have G:=v 0 a .nil rfl rfl;have D:=v 1 b (.int .i64 n) rfl rfl;cases G;cases D;have s: ∀(i:Nat) (u:Value) (t:T),([]:List Value)[i]? =some u->([]:List T)[i]? =some t->t.flat=true/\Rep (fun _ _=>False) w u t:=fun i u t c=>by simp at c
  by_cases I:n=0
  ·subst I;refine (Any8.slices_Grow_room L none 0 0 0 w (Nat.le_refl _) (by omega) (by omega) (by omega)).mono ?_;rintro e w' ⟨rfl,rfl⟩;exact ⟨.slice none 0 0,[],rfl,Below.refl _ _,⟨⟨[],⟨by simp,.inl ⟨rfl,rfl⟩⟩,rfl,fun i x t r=>by simp at r⟩,by simp,by simp,by simp⟩,rfl,fun i u t c=>by simp at c⟩
  ·refine (Any8.slices_Grow_grow L i0 z m k g none 0 0 n [] w (Nat.le_refl _) (by omega) (by simpa using C) (by omega) (by simp) (fun _=>rfl) (fun a h=>by cases h)).mono ?_;rintro e w' ⟨rfl,rfl⟩;have A:=grownCap_ge w (0+n) 0 (ρ.t 25);have j:=grownCap_le_maxLen w (0+n) 0 (ρ.t 25) (by unfold maxLen;omega);refine ⟨_,[],rfl,((Below.refl _ _).drew).alloc (Nat.le_refl _) _,⟨⟨[],⟨by simp,.inr ⟨_,_,_,rfl,Nat.le_refl _,heap_alloc_new w.drew _,Nat.zero_le _,j,?_,by simp⟩⟩,rfl,fun i x t r=>by simp at r⟩,by simp,by simp,by simp⟩,rfl,fun i u t c=>by simp at c⟩;rw [Array.size_append,Array.size_append,size_zeroCells,size_zeroCells,q,show ([]:List Value).toArray.size=0 from rfl,Nat.zero_add, <-Nat.add_mul]
   congr 1
   omega
end
end Go.DL
end
section
namespace Go.DL
open Go.RowKit Go.Shelf Go.Proofs Go.Sort
section
variable [Glb]{P:Program}{N:Nat}{w0:World}{S0:aa}{a:Act}{E:Env}{st:St}
structure lY (P:Program) (f:FuncId) (k:Nat):Prop where
 callable:bK P f
 some_: ∀(m:Nat) (enc:Fin (m+1)->List Value) (cf:Fin (m+1)->Fin (m+1)->Int) (g:Nat) (cb:Array Value) (blk off cap:Nat) (d:Array (Fin (m+1))) (w:World),(∀ x,(enc x).length=k)->(∀ x, ∀v∈enc x,v.oneCell'=true)->Sort.SWO (ltOf cf)->
  (∀ args w,(callFunc g args).run P w= .ok (.enter g args) w)->CmpLays P g cb enc k cf blk off d.size w->HoldsK enc k w blk off d->blk<w.heap.size->d.size<4611686018427387904->
  Calls P f #[.slice (some ⟨blk,off,none⟩) d.size cap,.func (.func g) #[] cb] w fun e w'=>e= .returned (.tuple #[])/\ ∃d' n os,Sort.PermIn 0 d.size d d'/\Sort.SortedIn (ltOf cf) 0 d.size d'/\w'=sortWorldK enc k w blk off n d' os
 none_: ∀(p:Option Addr) (cap:Nat) (fv:Value) (w:World),Calls P f #[.slice p 0 cap,fv] w fun e w'=>e= .returned (.tuple #[])/\w'=w
end
section
variable {P:Program}{N:Nat}{w0:World}{S0:aa}{a:Act}{E:Env}{st:St}
theorem nZ{w w':World}(h:Below w.heap.size w w'): ∃q g,w'=Sort.grow (w.drewN q) g:=by
 refine ⟨w'.drawn - w.drawn,w'.heap.extract w.heap.size w'.heap.size,?_⟩;obtain ⟨t,v,z,g,s⟩:=w;obtain ⟨b,k,m,p,j⟩:=w';have c:=h.os;have d:=h.tape;have e:=h.output;have r:=h.size;have f:=h.block;have u:=h.dr;simp only at c d e r f u;subst c;subst d;subst e;unfold Sort.grow World.drewN;simp only [World.mk.injEq,and_true,true_and];refine ⟨?_,by omega⟩
 apply Array.ext_getElem?
 intro i
 by_cases hi:i<t.size
 ·rw [Array.getElem?_append_left hi,f i hi]
 ·rw [Array.getElem?_append_right (by omega),Array.getElem?_extract]
  by_cases A:i<b.size
  ·rw [if_pos (by omega)]
   congr 1;omega
  ·rw [if_neg (by omega),Array.getElem?_eq_none (by omega)]
theorem jo{k:Nat}: ∀{xs:List T} (_: ∀x∈xs,x.cells.length=k) (j:Nat),0<k->j<xs.length * k->(xs.flatMap T.cells)[j]? =(xs[j / k]?).bind fun x=>x.cells[j % k]?
 |[],_,j,_,hj=>by simp at hj
 |x::xs,hu,j,h0,hj=>by
  rw [List.flatMap_cons];have e:=hu x (by simp)
  by_cases h:j<k
  ·rw [List.getElem?_append_left (by omega),Nat.div_eq_of_lt h,Nat.mod_eq_of_lt h];rfl
  ·rw [List.getElem?_append_right (by omega),e,jo (fun y c=>hu y (by simp [c])) (j - k) h0 (by rw [List.length_cons,Nat.add_mul] at hj;omega)];have b:j / k=(j - k) / k+1:=by rw [Nat.div_eq_sub_div h0 (by omega)]
   have d:j % k=(j - k) % k:=by rw [Nat.mod_eq_sub_mod (by omega)]
   rw [b,d,List.getElem?_cons_succ]
theorem lp{size:Nat}(c:1<size): ∀(n:Nat) (cs:List T) (i:Nat),i<n->n * size<=cs.length->(chunk size n cs)[i]? =some (.agg ((cs.drop (i * size)).take size))
 |0,_,i,h,_=>by omega
 |n+1,cs,i,h,hl=>by
  rw [Nat.add_mul,Nat.one_mul] at hl;cases i with
  |zero=>
   have:Nat.beq size 1=false:=by
    cases b:Nat.beq size 1 with
    |false=>rfl
    |true=>have:=Nat.eq_of_beq_eq_true b;omega
   simp [chunk,elemOf,this]
  |succ i=>
   show (chunk size n (cs.drop size))[i]? =_
   rw [lp c n (cs.drop size) i (by omega) (by simp;omega),List.drop_drop,Nat.add_mul,Nat.one_mul,Nat.add_comm size]
end
section
variable [Glb]{P:Program}{N:Nat}{w0:World}{S0:aa}{a:Act}{E:Env}{st:St}
theorem tU{f:FuncId}{k n off len m:Nat}{ts:List T}{u:V}{g:FuncId}{cts:List T}{d:Option Nat}{K:St->Prop}(hs:lY P f k)(hb:st.bx n=some (.d m ts))(hle:off+len * k<=m)(hk2:1<k)(hlen:len<4611686018427387904)
  (hu:u= .t (.clos g cts)\/ ∃caps,u= .fn g caps/\eI caps=some cts) (hg:bK P g) (cf:T->T->Int)
  (ou: ∀x∈chunk k len (ts.drop off), ∀y∈chunk k len (ts.drop off),DCalls P g (x::y::cts) (.int .i64 (cf x y)))
  (O: ∀x∈chunk k len (ts.drop off), ¬cf x x<0) (trans: ∀x∈chunk k len (ts.drop off), ∀y∈chunk k len (ts.drop off), ∀z∈chunk k len (ts.drop off),cf x y<0->cf y z<0->cf x z<0)
  (Q: ∀x∈chunk k len (ts.drop off), ∀y∈chunk k len (ts.drop off), ∀z∈chunk k len (ts.drop off), ¬cf x y<0-> ¬cf y z<0-> ¬cf x z<0)
  (hk: ∀ys:List T,ys.Perm (chunk k len (ts.drop off))->ys.Pairwise (fun x y=> ¬cf y x<0)->K ({st with bx:=upd st.bx n (some (.d m (aN ts off (len * k) (ys.flatMap T.cells))))}.set d (.t (.tup [])))):WC P f [.view n off len k,u] d st K:=by
 refine ⟨hs.callable,fun N w0 S0 E a vs h hvl hv hd=>?_⟩;have hsz:vs.size=2:=hvl;have hv0:=hv 0 vs[0] _ (by simp [hsz]) rfl;have hv1:=hv 1 vs[1] _ (by simp [hsz]) rfl;have hvs:vs= #[vs[0],vs[1]]:=by
  apply Array.ext
  ·simp [hsz]
  ·intro i h1 h2
   match i,h1 with
   |0,_=>rfl
   |1,_=>rfl
   |i+2,h1=>omega
 obtain ⟨cb,hfv,hcl,hcr⟩: ∃cb:Array Value,vs[1]= .func (.func g) #[] cb/\cb.size=cts.length/\ ∀(i:Nat) (x:Value) (t:T),cb[i]? =some x->cts[i]? =some t->Rep E.S E.w x t:=by
  rcases hu with rfl|⟨caps,rfl,hc⟩
  ·have W:=hv1.ax;generalize vs[1]=v1 at W;cases W with
   |clos _ cs _ h1 h2=>exact ⟨cs,rfl,h1,h2⟩
  ·generalize vs[1]=v1 at hv1;cases hv1 with
   |fn _ cs _ h1 h2=>
    obtain ⟨g1,g2⟩:=jx hc;refine ⟨cs,rfl,by omega,fun i x t hx D=>?_⟩;have hi:i<caps.length:=by rw [g1];exact (gsZ D).1
    have hci:=ggZ hi;exact aB (h2 i x _ hx hci) (g2 i _ t hci D)
 obtain ⟨cap,hsl,cT,qY⟩:=hv0.bM;obtain ⟨cs,e,hgo,tF⟩:=(h.bx n _ hb).cells rfl;have hB:=h.bx n _ hb;cases tF with
 |d _ _ hl tP hh=>
 have lT:0<k:=by omega
 have ones: ∀t∈ts.drop off,t.one=true:=fun t D=>by
  have D:=List.mem_of_mem_drop D;obtain ⟨i,hi⟩:=List.mem_iff_getElem?.1 D;have hlt:i<cs.size:=by have:=(gsZ hi).1;omega
  exact (hh i cs[i] t (by simp [hlt]) hi).2
 generalize hxs:chunk k len (ts.drop off)=xs at ou O trans Q hk;have hsp:=cX lT len (ts.drop off) (by simp;omega) ones;rw [hxs] at hsp;obtain ⟨hfl,hxl,hxu⟩:=hsp
 by_cases hl0:len=0
 ·subst hl0;have hx0:xs=[]:=List.eq_nil_of_length_eq_zero hxl;subst hx0;have cP:=hs.none_ (some ⟨E.κ n,off,none⟩) cap vs[1] E.w;rw [<- hsl, <-hvs] at cP;refine cP.mono ?_;rintro e' w' ⟨rfl,rfl⟩;refine ⟨_,rfl,_,_,rfl,hk [] (List.Perm.refl _) List.Pairwise.nil,eZ ?_ hd (.t _ _ (.tup #[] [] rfl fun i x t hx=>by simp at hx))⟩;have df:aN ts off (0 * k) (([]:List T).flatMap T.cells)=ts:=by simp [aN]
  rw [df]
  have:upd st.bx n (some (.d m ts))=st.bx:=by
   funext i
   by_cases hi:i=n
   ·subst hi;rw [aj,hb]
   ·rw [ae _ _ _ _ hi]
  show SR N w0 S0 E {st with bx:=upd st.bx n (some (.d m ts))} a
  rw [this];exact h
 obtain ⟨s,rfl⟩: ∃s,len=s+1:=⟨len - 1,by omega⟩
 let enc:Fin (s+1)->List Value:=fun i=>(cs.toList.drop (off+i.val * k)).take k
 have qi: ∀i:Fin (s+1),i.val * k+k<=(s+1) * k:=fun i=>by
  have:=Nat.mul_le_mul_right k (show i.val+1<=s+1 from i.isLt)
  rw [Nat.add_mul,Nat.one_mul] at this;exact this
 have qg: ∀x,(enc x).length=k:=fun x=>by
  have:=qi x
  simp only [enc,List.length_take,List.length_drop,Array.length_toList];omega
 have R: ∀(x:Fin (s+1)) (r:Nat),r<k->(enc x)[r]? =cs[off+x.val * k+r]? :=fun x r W=>by
  simp only [enc];rw [List.getElem?_take,if_pos W,List.getElem?_drop,Array.getElem?_toList]
 have xget: ∀x:Fin (s+1),xs[x.val]? =some (.agg (((ts.drop off).drop (x.val * k)).take k)):=fun x=>by
  rw [<- hxs];exact lp hk2 (s+1) (ts.drop off) x.val x.isLt (by simp;omega)
 let Z:Fin (s+1)->T:=fun x=>.agg (((ts.drop off).drop (x.val * k)).take k)
 have A: ∀x,Z x∈xs:=fun x=>List.mem_of_getElem? (xget x)
 have xcell: ∀(x:Fin (s+1)) (r:Nat),r<k->(Z x).cells[r]? =ts[off+x.val * k+r]? :=fun x r W=>by
  show (((ts.drop off).drop (x.val * k)).take k)[r]? =_
  rw [List.getElem?_take,if_pos W,List.getElem?_drop,List.getElem?_drop]
  congr 1;omega
 have xlen: ∀x,(Z x).cells.length=k:=fun x=>hxu _ (A x)
 have h1: ∀x, ∀v∈enc x,v.oneCell'=true:=fun x v hvm=>by
  obtain ⟨r,W⟩:=List.mem_iff_getElem?.1 hvm;have hrk:r<k:=by rw [<- qg x];exact (gsZ W).1
  rw [R x r hrk] at W;have hx:=qi x;have hlt:off+x.val * k+r<ts.length:=by omega
  have:=hh _ v ts[off+x.val * k+r] W (ggZ hlt)
  exact this.1.one this.2
 let c:Fin (s+1)->Fin (s+1)->Int:=fun x y=>cf (Z x) (Z y)
 have hO:Sort.SWO (ltOf c):=by
  refine ⟨fun x=>?_,fun x y z p q=>?_,fun x y z p q=>?_⟩
  ·exact decide_eq_false (O _ (A x))
  ·exact decide_eq_true (trans _ (A x) _ (A y) _ (A z) (of_decide_eq_true p) (of_decide_eq_true q))
  ·exact decide_eq_false (Q _ (A x) _ (A y) _ (A z) (of_decide_eq_false p) (of_decide_eq_false q))
 let Y:Array (Fin (s+1)):=Array.ofFn fun i=>i
 have M:Y.size=s+1:=Array.size_ofFn;have tG: ∀(i:Nat) (hi:i<s+1),Y[i]! =⟨i,hi⟩:=fun i hi=>by
  rw [getElem!_pos Y i (by rw [M];exact hi)];simp [Y]
 have hH:HoldsK enc k E.w (E.κ n) off Y:=by
  intro j hj;rw [size_flatK,M] at hj;have hq:j / k<s+1:=Nat.div_lt_of_lt_mul (by rw [Nat.mul_comm];exact hj);rw [get_flatK _ _ _ _ (by rw [M];exact hj),tG _ hq];have W:j % k<k:=Nat.mod_lt _ lT;have hjk:(j / k) * k+j % k=j:=by rw [Nat.mul_comm];exact Nat.div_add_mod j k
  have hlt:off+j<cs.size:=by omega
  refine ⟨?_,?_⟩
  ·rw [cell_of_row _ _ _ _ _ _ hgo]
   have:=R ⟨j / k,hq⟩ (j % k) W
   simp only at this;rw [getElem!_def,this];have e1:off+j / k * k+j % k=off+j:=by omega
   rw [e1];simp [hlt]
  ·unfold World.frozen?;simp only [hgo];simp
 have gy: ∀(q:Nat) (J:Array (Fin (s+1))) (G:Array Obj) (i:Nat),i≠E.κ n->i<E.w.heap.size->(sortWorldK enc k E.w (E.κ n) off q J G).heap[i]? =E.w.heap[i]? :=fun q J G i hi hil=>by
  unfold sortWorldK Sort.grow putRowK Sort.putRow Sort.mapBlock Sort.ahead;simp only;rw [Array.getElem?_append_left (by simpa using hil),Array.getElem?_modify,if_neg (fun e=>hi e.symm)]
 have fB: ∀(q:Nat) (J:Array (Fin (s+1))) (G:Array Obj),E.w.heap.size<=(sortWorldK enc k E.w (E.κ n) off q J G).heap.size:=fun q J G=>size_sortWorldK_c enc k E.w (E.κ n) off q J G
 have df: ∀(q:Nat) (J:Array (Fin (s+1))) (G:Array Obj) (b o:Nat),E.S b o->aC E.w (sortWorldK enc k E.w (E.κ n) off q J G) b o:=fun q J G b o hso=>
  aC.dD (gy q J G b (fun e=>hB.free o (e▸hso)) (h.lt b o hso))
 have hC:CmpLays P g cb enc k c (E.κ n) off Y.size E.w:=fun q G J _ x y=>by
  have repx: ∀z:Fin (s+1),Rep E.S (sortWorldK enc k E.w (E.κ n) off q J G) (.agg (enc z).toArray) (Z z):=fun z=>by
   refine .agg _ _ (by have:=xlen z;simp only [List.size_toArray,qg];exact this.symm) (fun t D=>?_) (fun i v t B D=>?_)
   ·exact ones t (List.mem_of_mem_drop (List.mem_of_mem_take D))
   ·have hik:i<k:=by have:=(gsZ D).1;have h2:=xlen z;rw [<- h2];exact this
    rw [List.getElem?_toArray,R z i hik] at B
    have:=xcell z i hik
    rw [show (Z z).cells[i]? =some t from D] at this;exact (hh _ v t B this.symm).1.mono (fun _ _ h=>h) (df q J G)
  have hG:bE E.S (sortWorldK enc k E.w (E.κ n) off q J G):=fun g' C hg'=>by
   obtain ⟨k1,v,k2⟩:=h.iZ g' C hg';refine ⟨Nat.lt_of_lt_of_le k1 (fB q J G),v,fun i t D=>?_⟩;obtain ⟨j1,j2,j3,j4,j5⟩:=k2 i t D;exact ⟨(df q J G _ _ j2).cell.trans j1,j2,j3,j4,j5.of_flat j4⟩
  have hdc:=(ou _ (A x) _ (A y)).2 E.S (sortWorldK enc k E.w (E.κ n) off q J G) (.agg (enc x).toArray:: .agg (enc y).toArray::cb.toList) (fun b o hso=>Nat.lt_of_lt_of_le (h.lt b o hso) (fB q J G)) hG (by simp [hcl]) (fun i v t B D=>by
   match i,B,D with
   |0,B,D=>simp at B D;subst B;subst D;exact repx x
   |1,B,D=>simp at B D;subst B;subst D;exact repx y
   |i+2,B,D=>simp at B D;exact (hcr i v t (by simpa using B) D).mono (fun _ _ h=>h) (df q J G))
  have e1:((.agg (enc x).toArray:: .agg (enc y).toArray::cb.toList:List Value)).toArray= #[.agg (enc x).toArray,.agg (enc y).toArray]++cb:=by
   apply Array.ext'
   simp
  rw [e1] at hdc;refine hdc.mono ?_;rintro e' w' ⟨v,rfl,hbw,hrv⟩;obtain ⟨q',os',hw'⟩:=nZ hbw;exact ⟨by rw [hrv.aA],q',os',hw'⟩
 have cP:=hs.some_ s enc c g cb (E.κ n) off cap Y E.w qg h1 hO hg hC hH hB.lt (by rw [M];exact hlen);rw [M, <-hsl, <-hfv, <-hvs] at cP;refine cP.mono ?_;rintro e' w' ⟨rfl,L,q,G,⟨hps,_,qZ⟩,rC,rfl⟩;have I:L.size=s+1:=by rw [hps,M]
 let ys:List T:=L.toList.map Z
 have hys:ys.length=s+1:=by simp [ys,I]
 have hp0:(Y.toList.map Z)=xs:=by
  apply List.ext_getElem?
  intro i
  by_cases hi:i<s+1
  ·rw [List.getElem?_map,Array.getElem?_toList]
   have:Y[i]? =some ⟨i,hi⟩:=by simp [Y,hi]
   rw [this];exact (xget ⟨i,hi⟩).symm
  ·rw [List.getElem?_eq_none (by simp [M];omega),List.getElem?_eq_none (by omega)]
 have oR:ys.Perm xs:=by
  have e1:L.extract 0 (s+1)=L:=Array.extract_eq_self_of_le (by omega);have e2:Y.extract 0 (s+1)=Y:=Array.extract_eq_self_of_le (by omega);rw [e1,e2] at qZ;rw [<- hp0];exact qZ.map Z
 have hpw:ys.Pairwise (fun x y=> ¬cf y x<0):=by
  rw [List.pairwise_iff_getElem];intro i j hi hj hij;have hi':i<L.size:=by rw [I];rw [hys] at hi;exact hi
  have hj':j<L.size:=by rw [I];rw [hys] at hj;exact hj
  have:=rC i j (Nat.zero_le _) hij (by rw [<- I];exact hj')
  rw [getElem!_pos L i hi',getElem!_pos L j hj'] at this
  have:=of_decide_eq_false this
  simpa [ys,c] using this
 have hyu: ∀x∈ys,x.cells.length=k:=fun x hx=>hxu x (oR.mem_iff.1 hx)
 have hyf:(ys.flatMap T.cells).length=(s+1) * k:=by
  have:=aI hyu
  rw [this,hys]
 let C:Array Value:=Sort.putCells id off (flatK enc k L) cs
 have rZ:C.size=cs.size:=by simp [C,Sort.putCells]
 have hw1:(sortWorldK enc k E.w (E.κ n) off q L G).heap[E.κ n]? =some (.cells C e (0,0)):=by
  unfold sortWorldK Sort.grow putRowK Sort.putRow Sort.mapBlock Sort.ahead;simp only;rw [Array.getElem?_append_left (by simpa using hB.lt),Array.getElem?_modify,if_pos rfl,hgo];rfl
 have se:=h.write hb rfl C (.d m (aN ts off ((s+1) * k) (ys.flatMap T.cells))) fun E' gr=>by
  refine .d m _ (by rw [bN _ _ _ _ hyf (by omega)];exact hl) (by rw [rZ];exact tP) (fun j v w H U=>?_);rw [bD _ _ _ _ hyf (by omega)] at U;have hjc:j<cs.size:=by rw [<- rZ];exact (Array.getElem?_eq_some_iff.1 H).1
  have hcj:C[j]? =some (if off<=j/\j<off+(s+1) * k then (flatK enc k L)[j - off]! else cs[j]):=by
   simp only [C,Sort.putCells,Array.getElem?_mapIdx,Array.getElem?_eq_getElem hjc,size_flatK,I,Option.map_some,id]
  rw [hcj] at H
  by_cases g1:j<off
  ·rw [if_pos g1] at U;rw [if_neg (by omega)] at H
   have:=hh j v w (by rw [Array.getElem?_eq_getElem hjc];exact H) U
   exact ⟨gr.rep this.1,this.2⟩
  ·rw [if_neg g1] at U
   by_cases g2:j<off+(s+1) * k
   ·rw [if_pos g2] at U;rw [if_pos (by omega)] at H;have hjo:j - off<(s+1) * k:=by omega
    have hq2:(j - off) / k<s+1:=Nat.div_lt_of_lt_mul (by rw [Nat.mul_comm];exact hjo);have hr2:(j - off) % k<k:=Nat.mod_lt _ lT;rw [get_flatK _ _ _ _ (by rw [I];exact hjo),getElem!_pos L _ (by rw [I];exact hq2)] at H;rw [jo hyu _ lT (by rw [hys];exact hjo)] at U;have hyg:ys[(j - off) / k]? =some (Z (L[(j - off) / k]'(by rw [I];exact hq2))):=by
     simp [ys,I,hq2]
    rw [hyg] at U;generalize (L[(j - off) / k]'(by rw [I];exact hq2))=z at U H;have hz:=qi z;rw [Option.bind_some,xcell z _ hr2] at U;have hlz:off+z.val * k+(j - off) % k<cs.size:=by omega
    rw [getElem!_def,R z _ hr2,Array.getElem?_eq_getElem hlz] at H
    have:=hh _ v w (by rw [Array.getElem?_eq_getElem hlz];exact H) U
    exact ⟨gr.rep this.1,this.2⟩
   ·rw [if_neg g2] at U;rw [if_neg (by omega)] at H
    have:=hh j v w (by rw [Array.getElem?_eq_getElem hjc];exact H) U
    exact ⟨gr.rep this.1,this.2⟩
 have rf:(E.w.setRow (E.κ n) C).heap.size=E.w.heap.size:=by simp [World.setRow]
 have tE:Below ({E with w:=E.w.setRow (E.κ n) C }:Env).w.heap.size ({E with w:=E.w.setRow (E.κ n) C }:Env).w (sortWorldK enc k E.w (E.κ n) off q L G):=by
  refine Below.of rfl rfl rfl (by rw [rf];exact fB q L G) (fun i hi=>?_) ?_
  ·have hi:i<E.w.heap.size:=by rw [<- rf];exact hi
   by_cases hin:i=E.κ n
   ·subst hin;rw [hw1];exact (setRow_heap E.w (E.κ n) cs C e (0,0) hgo).symm
   ·rw [gy q L G i hin hi];show _=(E.w.heap.modify (E.κ n) _)[i]?
    rw [Array.getElem?_modify,if_neg (fun e=>hin e.symm)]
  ·show E.w.drawn<=E.w.drawn+q
   omega
 have h':=se.world tE E.S (fun b o=>⟨.inl,fun hh=>hh.elim id fun k=>k.1⟩);exact ⟨_,rfl,_,_,rfl,hk ys oR hpw,eZ h' hd (.t _ _ (.tup #[] [] rfl fun i x t hx=>by simp at hx))⟩
end
section
variable {P:Program}{N:Nat}{w0:World}{S0:aa}{a:Act}{E:Env}{st:St}
theorem lY.of{ρ:Ren}(L:SlLaysF0.n6 P ρ)(k:Nat)(u: ∀w,(isAgg (ρ.t 24)).run P w= .ok true w)(zE: ∀w,(Go.sizeOf (ρ.t 24)).run P w= .ok k w)(v:bK P (ρ.f 6)):lY P (ρ.f 6) k:=
 ⟨v,fun _ enc z g s c off cap d w j h m q i r b e=>AnyQ.slices_SortFunc L k u zE enc j h z m g s c off cap d w q i r b e,fun p cap A w=>AnyF.slices_SortFunc_none L p cap A w⟩
end
section
variable [Glb]{P:Program}{N:Nat}{w0:World}{S0:aa}{a:Act}{E:Env}{st:St}
end
end Go.DL
end
section
namespace Go.DL
open Go.RowKit
section
variable [Glb]{P:Program}{X:List FuncId}{N:Nat}{w0:World}{S0:aa}{E:Env}{st:St}{n:Nat}{ro:Option Nat}
abbrev fw(ro:Option Nat):Fence:={Fence.wide with round:=ro }
end
section
variable {P:Program}{X:List FuncId}{N:Nat}{w0:World}{S0:aa}{E:Env}{st:St}{n:Nat}{ro:Option Nat}
theorem mi{f:FuncId}{b:Array Value}{w:World}{R:Ending->World->Prop}(h:Calls P f b w R):CallsIn (fw ro) n P f b w R:=(callsIn_wide (n:=n)).2 h
theorem rE{d:String}{b:Array Value}{w:World}{R:Value->World->Prop}(h:Rows P d b w R):RowsIn (fw ro) n P d b w R:=
 fun c cs _=>let ⟨v,w',r,s⟩:=h c cs;⟨v,w',r,stepsIn_wide.2 s⟩
theorem ti{o:Oper}(hd: ∀c,o.op≠ .defer c){a:Act}{w:World}{K:Act->World->Prop}{Q:Exit->Act->World->Prop}(h:o.wp P a w K Q):o.wpIn (fw ro) n P a w K Q:=by
 refine ⟨fun _ _=>trivial,?_⟩;rw [Oper.semAt_eq _ _ _ hd];unfold Oper.wp at h;generalize (execOp a.eval o).run P w=r at h ⊢;cases r with
 |ok x w'=>
  cases x with
  |value v=>exact h
  |skip=>exact h
  |defer d=>exact h
  |enter f b=>exact ⟨fun e=>(by cases e),mi h⟩
  |row r b=>exact ⟨fun e=>(by cases e),rE h⟩
  |_=>exact h.elim
 |halt x w'=>cases x <;> first|exact h|exact h.elim
theorem o9{b:Array Oper}(hd: ∀(k:Nat) (o:Oper),b[k]? =some o-> ∀c,o.op≠ .defer c){Q:Exit->Act->World->Prop}(f: ¬LetsOut Q){i:Nat}{K:Act->World->Prop}{a:Act}{w:World}(h:wpOp P b Q i K a w):wpOpIn (fw ro) n P b Q i K a w:=by
 unfold wpOp at h;unfold wpOpIn;cases e:b[i]? with
 |none=>rw [e] at h;exact h
 |some o=>
  rw [e] at h;dsimp only at h ⊢;split
  ·rename_i d;rw [if_pos d] at h;rcases h with h|h
   ·exact ti (hd i o e) h
   ·exact absurd h.2 f
  ·rename_i d;rw [if_neg d] at h;exact ⟨fun _ _=>trivial,h⟩
theorem pc{b:Array Oper}(hd: ∀(k:Nat) (o:Oper),b[k]? =some o-> ∀c,o.op≠ .defer c){Q:Exit->Act->World->Prop}(d: ¬LetsOut Q): ∀{l:List Nat} {a:Act} {w:World},wpOps P b Q l a w->wpOpsIn (fw ro) n P b Q l a w
 |[],_,_,h=>h
 |i::l,a,w,h=>by
  rw [wpOps_cons] at h;rw [wpOpsIn_cons];exact wpOpIn_mono (fun a w=>pc hd d) (o9 hd d h)
theorem oI{e:Array Oper}{g:Region.Mode}(hd: ∀(k:Nat) (o:Oper),e[k]? =some o-> ∀c,o.op≠ .defer c){Q:Exit->Act->World->Prop}(f: ¬LetsOut Q): ∀{d:Nat} {b:Array Bool} {a:Act} {w:World},wpAny P g e Q d b a w->wpAnyIn (fw ro) n P g e Q d b a w
 |0,_,_,_,h=>h
 |_+1,_,_,_,h=>⟨h.1,fun i hi=>wpOpIn_mono (fun _ _=>oI hd f) (o9 hd f (h.2 i hi))⟩
theorem nF{b:Op}{x:DOp}(d:ah P b=some x): ∀c,b≠ .defer c:=fun c e=>by subst e;cases d
theorem ij{b:Array Oper}{is:List DI}(f:dw P N X b b.toList=some is): ∀(k:Nat) (o:Oper),b[k]? =some o-> ∀c,o.op≠ .defer c:=fun k o g=>by
 obtain ⟨i,hi,d⟩:=(bu f).2 k o (Array.getElem?_toList.trans g);obtain ⟨⟨x,e,_⟩,_⟩:=fi d;exact nF e
end
section
variable [Glb]{P:Program}{X:List FuncId}{N:Nat}{w0:World}{S0:aa}{E:Env}{st:St}{n:Nat}{ro:Option Nat}
theorem mA{ds:List Deferred}{K:aG->St->Prop}: ¬LetsOut (bo N w0 S0 ds K):=fun ⟨_,_,h⟩=>h
theorem ph{a:Act}(h:SR N w0 S0 E st a.tmps){b:Array Oper}{is:List DI}(c:dw P N X b b.toList=some is){K:aG->St->Prop}
  (e:cW P is st (K .normal)) {id:Nat}:(Code.region id b false).wpIn (fw ro) n P (bo N w0 S0 a.defers K) a E.w:=by
 refine wpIn_region (pc (ij c) mA (lh c (K:=K .normal) (fun a w f=>f) _ (fun k d=>by simpa using d) h rfl ?_))
 have:b.size=is.length:=by simpa using (bu c).1
 rw [this,kI];exact e
theorem mV{a:Act}(i:P.follows .mixedOrders=true)(h:SR N w0 S0 E st a.tmps){b:Array Oper}{is:List DI}(g:dw P N X b b.toList=some is)(f:iD is=true){K:aG->St->Prop}
  (e:bO P (eJ is) (fun _=>[]) (eK 0 is) st (K .normal)) {id:Nat}:(Code.region id b true).wpIn (fw ro) n P (bo N w0 S0 a.defers K) a E.w:=by
 refine wpIn_region_any i (oI (ij g) mA (nq (E:={E with w:=E.w.drew }) g f (nM is) (K:=K .normal) (fun a w j=>j) _ _ _ h.drew rfl (by simp) rfl ?_ ?_ ?_))
 ·rw [List.filter_eq_self.2]
  ·simp
  ·intro k c;rw [List.mem_range] at c;simp [c]
 ·intro k c;exfalso
  by_cases d:k<b.size
  ·simp [d] at c
  ·simp [d] at c
 ·rw [List.filter_eq_self.2]
  ·have:b.size=is.length:=by simpa using (bu g).1
   rw [this];rw [iO (is:=is) is 0 (fun m=>by simp)] at e;rw [<- List.range_eq_range'] at e;exact e
  ·intro k c;rw [List.mem_range] at c;simp [c]
def aV.cm:aV->Bool
 |.seq a b=>a.cm&&b.cm
 |.cond _ a b=>a.cm&&b.cm
 |.block _ b=>b.cm
 |.loop b=>b.cm
 |.cut b=>b.cm
 |.sem _ _=>false
 |_=>true
def bV:Code->Bool
 |.seq a b=>bV a&&bV b
 |.cond _ a b=>bV a&&bV b
 |.block _ b=>bV b
 |.loop b=>bV b
 |.scope _=>false
 |_=>true
end
section
variable {P:Program}{X:List FuncId}{N:Nat}{w0:World}{S0:aa}{E:Env}{st:St}{n:Nat}{ro:Option Nat}
theorem lH{b:Bool}{d:aV}(h:(cond b (.cut d) d).cm=true):d.cm=true:=by cases b <;> exact h
end
section
variable [Glb]{P:Program}{X:List FuncId}{N:Nat}{w0:World}{S0:aa}{E:Env}{st:St}{n:Nat}{ro:Option Nat}
theorem mq{c:Code}{b:Bool}{d:aV}{a:Act}{E:Env}{st:St}{K:aG->St->Prop}(_:SR N w0 S0 E st a.tmps)(f:wpC P (cond b (.cut d) d) st K)
  (g: ∀K,wpC P d st K->c.wpIn (fw ro) n P (bo N w0 S0 a.defers K) a E.w):c.wpIn (fw ro) n P (bo N w0 S0 a.defers K) a E.w:=by
 cases b with
 |false=>exact g K f
 |true=>
  have f:gJ (wpC P d) st K:=f;unfold gJ at f;obtain ⟨R,i,j⟩:=f;exact wpIn_mono (g R i) fun e k w' h=>bo.less (bo.mono j h)
theorem sI(hm:P.follows .mixedOrders=true): ∀{c:Code} {d:aV} (_:bt P N X c=some d) (_:d.cm=true) (_:bV c=true) {a:Act} {E:Env} {st:St} {K:aG->St->Prop} (_:SR N w0 S0 E st a.tmps) (_:wpC P d st K),
  c.wpIn (fw ro) n P (bo N w0 S0 a.defers K) a E.w:=by
 intro c
 induction c with
 |skip=>
  intro d f j q a E st K h g;cases f;exact wpIn_skip ⟨E,st,rfl,h,rfl,g⟩
 |ret=>
  intro d f j q a E st K h g;cases f;exact wpIn_ret ⟨E,st,rfl,h,rfl,g⟩
 |exit id=>
  intro d f j q a E st K h g;cases f;exact wpIn_exit ⟨E,st,rfl,h,rfl,g⟩
 |region id ops draw=>
  intro d f j q a E st K h g;unfold bt at f;cases hX:X.contains (1000000+id) with
  |true=>
   rw [hX] at f;cases f;cases j
  |false=>
  rw [hX] at f;simp only [cond_false] at f;split at f
  ·rename_i is V;rw [cond_eq_ite] at f;split at f
   ·rename_i hc;obtain rfl:=(Option.some.inj f).symm;refine mq h (c:=.region id ops draw) g fun K g=>?_
    cases draw with
    |false=>exact ph h V (cd.1 g)
    |true=>
     have g:wpC P (.region (is.map DI.bare) (eJ is)) st K:=g;have hw':bO P (eJ is) (fun _=>[]) (eK 0 is) st (K .normal):=by
      revert g
      cases eJ is with
      |nil=>
       intro g;refine jS ?_
       have: ∀(l:List DI) (k:Nat),(eK k l).map (·.2)=l:=fun l=>by
        induction l with
        |nil=>exact fun _=>rfl
        |cons i l S=>exact fun k=>congrArg (i:: ·) (S (k+1))
       rw [this];exact cd.1 g
      |cons p r=>exact fun g=>eU.1 g
     exact mV hm h V (by simpa using hc) hw'
   ·cases f
  ·cases f
 |seq x y G O=>
  intro d f j q a E st K h g;unfold bt at f;split at f
  ·rename_i dx Y hx hy;obtain rfl:=(Option.some.inj f).symm;obtain ⟨cb,hcb⟩:=mj (X:=X) (a:=x) (d:=.seq dx Y);rw [hcb] at g j;have B:dx.cm=true/\Y.cm=true:=(Bool.and_eq_true _ _).mp (lH j);have C:bV x=true/\bV y=true:=(Bool.and_eq_true _ _).mp q;refine mq h (c:=.seq x y) g fun K g=>?_
   refine wpIn_seq (wpIn_mono (G hx B.1 C.1 h g) ?_);intro e U w' t;cases e with
   |normal=>
    obtain ⟨A,u,rfl,D,H,T⟩:=t;rw [<- H];exact O hy B.2 C.2 D T
   |exit id=>exact t
   |ret=>exact t
   |goto l=>exact t
   |panic ch=>exact t
   |outgrown=>exact t
  ·cases f
 |cond c x y G O=>
  intro d f j q a E st K h g;unfold bt at f;split at f
  ·rename_i z dx Y hz hx hy;cases f;have hv:=af h.sl hz;have B:dx.cm=true/\Y.cm=true:=(Bool.and_eq_true _ _).mp j;have C:bV x=true/\bV y=true:=(Bool.and_eq_true _ _).mp q;have g:kd z (wpC P dx) (wpC P Y) st K:=g;unfold kd at g;split at g
   ·rename_i Q;rw [Q] at hv;exact wpIn_cond_true hv.aP (G hx B.1 C.1 h g)
   ·rename_i Q;rw [Q] at hv;exact wpIn_cond_false hv.aP (O hy B.2 C.2 h g)
   ·exact g.elim
  ·cases f
 |block id b S=>
  intro d f j q a E st K h g;unfold bt at f;split at f
  ·rename_i db Q;obtain rfl:=(Option.some.inj f).symm;refine mq h (c:=.block id b) g fun K g=>?_
   refine wpIn_block (wpIn_mono (S Q (show db.cm=true from lH (d:=.block id db) j) q h g) ?_);intro e U w' t;cases e with
   |normal=>exact t
   |exit k=>
    have t:bW N w0 S0 a.defers (fun u=>bif Nat.beq k id then K .normal u else K (.exit k) u) U w':=t;show if k=id then _ else _
    by_cases T:k=id
    ·rw [if_pos T];obtain ⟨A,u,e1,e2,e3,Z⟩:=t;rw [T,cD] at Z;exact ⟨A,u,e1,e2,e3,Z⟩
    ·rw [if_neg T];obtain ⟨A,u,e1,e2,e3,Z⟩:=t;rw [iu T] at Z;exact ⟨A,u,e1,e2,e3,Z⟩
   |ret=>exact t
   |goto l=>exact t
   |panic ch=>exact t
   |outgrown=>exact t
  ·cases f
 |loop b S=>
  intro d f j q a E st K h g;unfold bt at f;split at f
  ·rename_i db Q;cases f;have g:eE (wpC P db) st K:=g;unfold eE at g;obtain ⟨I,n0,s0,hs0,hi0,J⟩:=g;refine wpIn_loop_ghost (fun n U w'=>U.defers=a.defers/\ ∃(A:Env) (s:Wk),A.w=w'/\SR N w0 S0 A s.mk' U.tmps/\I n s) n0 ?_ ?_
   ·obtain ⟨A,W,D⟩:=h.bU hs0;exact ⟨rfl,A,s0,W,D,hi0⟩
   ·rintro n a1 w1 ⟨H,E1,s,rfl,D,hi⟩;obtain ⟨R,hR,jJ⟩:=J n s hi;refine wpIn_mono (S Q j q D hR) ?_;intro e U w' t;have t:=bo.mono jJ t;rw [H] at t;cases e with
    |normal=>
     obtain ⟨A,u,rfl,aT,gR,m,s',hlt,L,hi'⟩:=t;obtain ⟨M,W,v⟩:=aT.bU L;exact ⟨m,hlt,gR,M,s',W,v,hi'⟩
    |exit id=>
     obtain ⟨A,u,rfl,aT,gR,hq|⟨s',L,hq⟩⟩:=t
     ·exact ⟨A,u,rfl,aT,gR,hq⟩
     ·obtain ⟨M,W,v⟩:=aT.bU L;exact ⟨M,s'.mk',W,v,gR,hq⟩
    |ret=>exact t
    |goto l=>exact t
    |panic ch=>exact t
    |outgrown=>exact t
  ·cases f
 |label l=>
  intro d f j q a E st K h g;cases f;exact wpIn_label ⟨E,st,rfl,h,rfl,g⟩
 |scope b S=>intro d f j q;cases q
 |_=>intro d f;cases f
end
end Go.DL
end
section
namespace Go.DL
open Go.RowKit
section
variable [Glb]{P:Program}{X:List FuncId}{N:Nat}{w0:World}{S0:aa}{E:Env}{st:St}{n:Nat}{ro:Option Nat}
abbrev mkD(D:Nat):Deferred:={target:=.collected D,args:= #[]}
structure Ext (A B:aa):Prop where
 s:B.S=A.S
 v:B.vals=A.vals
 o: ∀g o,A.objs g=some o-> ∃o',B.objs g=some o'/\(∀ x,o= .deferred x->o'=o)/\ ∀r,o= .loop r-> ∃r',o'= .loop r'
end
section
variable {P:Program}{X:List FuncId}{N:Nat}{w0:World}{S0:aa}{E:Env}{st:St}{n:Nat}{ro:Option Nat}
theorem Ext.refl(S:aa):Ext S S:=⟨rfl,rfl,fun _ o h=>⟨o,h,fun _ _=>rfl,fun r b=>⟨r,b⟩⟩⟩
theorem Ext.trans{A B C:aa}(h:Ext A B)(k:Ext B C):Ext A C:=⟨k.s.trans h.s,k.v.trans h.v,fun g o t=>by
 obtain ⟨j,d,f,m⟩:=h.o g o t;obtain ⟨u,k1,k2,p⟩:=k.o g j d;refine ⟨u,k1,fun x c=>?_,fun r q=>?_⟩
 ·have e:=f x c;rw [k2 x (e.trans c),e]
 ·obtain ⟨i,b⟩:=m r q;exact p i b⟩
end
section
variable [Glb]{P:Program}{X:List FuncId}{N:Nat}{w0:World}{S0:aa}{E:Env}{st:St}{n:Nat}{ro:Option Nat}
structure Mks (S0:aa) (w0:World) (ro:Option Nat) (Ds:List Nat) (ds:List Deferred):Prop where
 eq:ds=Ds.map mkD
 nodup:Ds.Nodup
 obj: ∀D∈Ds,S0.objs D=some (.deferred (some []))/\w0.heap.size<=D
 ro: ∀l,ro=some l-> ∃r,S0.objs l=some (.loop r)
structure Dn (S0:aa) (ro:Option Nat) (Ds Ds':List Nat):Prop where
 r:ro≠none->Ds'=Ds
 n: ∀D∈Ds',D∈Ds\/S0.objs D=none
end
section
variable {P:Program}{X:List FuncId}{N:Nat}{w0:World}{S0:aa}{E:Env}{st:St}{n:Nat}{ro:Option Nat}
theorem Dn.refl{b:List Nat}:Dn S0 ro b b:=⟨fun _=>rfl,fun _ h=>Or.inl h⟩
theorem Dn.trans{S1:aa}{A B C:List Nat}(f:Ext S0 S1)(h:Dn S0 ro A B)(k:Dn S1 ro B C):Dn S0 ro A C:=⟨fun d=>(k.r d).trans (h.r d),fun D e=>by
 rcases k.n D e with b|b
 ·exact h.n D b
 ·refine Or.inr ?_;cases g:S0.objs D with
  |none=>rfl
  |some o=>
   obtain ⟨i,c,_⟩:=f.o D o g;rw [b] at c;cases c⟩
end
section
variable [Glb]{P:Program}{X:List FuncId}{N:Nat}{w0:World}{S0:aa}{E:Env}{st:St}{n:Nat}{ro:Option Nat}
def e9(N:Nat)(w0:World)(S0:aa)(ro:Option Nat)(g:List Nat)(K:St->Prop)(f:Act)(w':World):Prop:=
 ∃(b:aa) (d:List Nat) (e:Env) (c:St),Ext S0 b/\Mks b w0 ro d f.defers/\Dn S0 ro g d/\e.w=w'/\SR N w0 b e c f.tmps/\K c
def eB(N:Nat)(w0:World)(S0:aa)(ro:Option Nat)(b:List Nat)(K:aG->St->Prop):Exit->Act->World->Prop
 |.normal,a,w=>e9 N w0 S0 ro b (K .normal) a w
 |.exit id,a,w=>e9 N w0 S0 ro b (K (.exit id)) a w
 |.ret,a,w=>e9 N w0 S0 ro b (K .ret) a w
 |_,_,_=>False
def bR(P:Program)(N:Nat)(c:Code)(st:St)(Q:aG->St->Prop):Prop:=
 ∀(ro:Option Nat) (n:Nat) (w0:World) (S0:aa) (E:Env) (a:Act) (b:List Nat),SR N w0 S0 E st a.tmps->Mks S0 w0 ro b a.defers->c.wpIn (fw ro) n P (eB N w0 S0 ro b Q) a E.w
theorem e9.ext{b:aa}{f c:List Nat}{K e:St->Prop}{d:Act}{w':World}(g:Ext S0 b)(hd:Dn S0 ro f c)(k: ∀s,K s->e s)(h:e9 N w0 b ro c K d w'):e9 N w0 S0 ro f e d w':=by
 obtain ⟨S1,m,t,s1,i,j,q,p,r,u⟩:=h;exact ⟨S1,m,t,s1,g.trans i,j,hd.trans g q,p,r,k _ u⟩
theorem eB.ext{b:aa}{i c:List Nat}{K j:aG->St->Prop}(g:Ext S0 b)(hd:Dn S0 ro i c)(d: ∀e s,K e s->j e s): ∀{e:Exit} {f:Act} {w':World},eB N w0 b ro c K e f w'->eB N w0 S0 ro i j e f w':=by
 intro e f w' h;cases e with
 |normal=>exact e9.ext g hd (d _) h
 |exit id=>exact e9.ext g hd (d _) h
 |ret=>exact e9.ext g hd (d _) h
 |goto l=>exact h
 |panic k=>exact h
 |outgrown=>exact h
theorem bR.mono{c:Code}{Q b:aG->St->Prop}(h:bR P N c st Q)(f: ∀e s,Q e s->b e s):bR P N c st b:=
 fun ro n w0 S0 E a g i d=>wpIn_mono (h ro n w0 S0 E a g i d) fun _ _ _ q=>eB.ext (Ext.refl _) Dn.refl f q
theorem bR.low(q:P.follows .mixedOrders=true){c:Code}{d:aV}(t:bt P N X c=some d)(j:d.cm=true)(m:bV c=true){Q:aG->St->Prop}(v:wpC P d st Q):bR P N c st Q:=by
 intro ro n w0 S0 E a p s b;refine wpIn_mono (sI q t j m s v) ?_;have key: ∀{K:St->Prop} {f:Act} {w':World},bW N w0 S0 a.defers K f w'->e9 N w0 S0 ro p K f w':=by
  rintro K f w' ⟨u,i,rfl,g,k,r⟩;exact ⟨S0,p,u,i,Ext.refl _,⟨k.trans b.eq,b.nodup,b.obj,b.ro⟩,Dn.refl,rfl,g,r⟩
 intro e f w' h;cases e with
 |normal=>exact key h
 |exit id=>exact key h
 |ret=>exact key h
 |goto l=>exact h
 |panic w=>exact h
 |outgrown=>exact h
theorem bR.seq{x y:Code}{Q:aG->St->Prop}(h:bR P N x st fun e s=>match e with
  |.normal=>bR P N y s Q
  |.exit id=>Q (.exit id) s
  |.ret=>Q .ret s):bR P N (.seq x y) st Q:=by
 intro ro n w0 S0 E a p i b;refine wpIn_seq (wpIn_mono (h ro n w0 S0 E a p i b) ?_);intro e f w' q;cases e with
 |normal=>
  obtain ⟨S1,g,m,s1,c,d,j,rfl,k,r⟩:=q;exact wpIn_mono (r ro n w0 S1 m f g k d) fun _ _ _ q=>eB.ext c j (fun _ _ h=>h) q
 |exit id=>exact q
 |ret=>exact q
 |goto l=>exact q
 |panic t=>exact q
 |outgrown=>exact q
theorem bR.bU{c:Code}{s:Wk}{Q:aG->St->Prop}(f:bU s st)(h:bR P N c s.mk' Q):bR P N c st Q:=by
 intro ro n w0 S0 E a g j d;obtain ⟨e,i,b⟩:=j.bU f;rw [<- i];exact h ro n w0 S0 e a g b d
def CxD(b:aa->World->Prop):Prop:= ∀S w D x y,S.objs D=some (.deferred x)->b S w->b {S with objs:=upd S.objs D (some y)} w
theorem jq{q:Func}{c:Array Value}{R:Ending->World->Prop}(i:CxD st.cx): ∀(f:List Nat) {S0:aa} {E:Env},SR N w0 S0 E st c->f.Nodup->(∀ D∈f,S0.objs D=some (.deferred (some []))/\w0.heap.size<=D)->
  (∀ S1 d,S1.S=S0.S->S1.vals=S0.vals->(∀ g, ¬g∈f->S1.objs g=S0.objs g)->SR N w0 S1 d st c-> ∃v,(results q c).run P d.w= .ok v d.w/\R (.returned v) d.w)->LeavesInM Fence.wide n P q c R (f.map mkD) .returning E.w
 |[],S0,E,h,_,_,hf=>by
  obtain ⟨v,s,j⟩:=hf S0 E rfl rfl (fun _ _=>rfl) h;exact ⟨v,s,j⟩
 |D::f,S0,E,h,hn,ho,hf=>by
  obtain ⟨p,G⟩:=ho D (by simp);obtain ⟨_,C⟩:=h.obj D _ p;obtain ⟨A,t⟩:=List.nodup_cons.1 hn;refine ⟨by simp,.inl ⟨D,_,rfl,run_takeDeferred C,?_⟩⟩;have j:=h.putObj (x:=.deferred (some [])) (y:=.deferred none) p rfl G (i _ _ _ _ _ p h.cx);refine jq i f j t (fun m b=>?_) (fun S1 d z B u k=>hf S1 d z B (fun g r=>(u g (fun h=>r (List.mem_cons_of_mem _ h))).trans ?_) k)
  ·refine ⟨?_,(ho m (by simp [b])).2⟩;show upd S0.objs D _ m=_
   rw [ae _ _ _ _ (fun e=>A (by first|(rw [e] at b;exact b)|(rw [<- e] at b;exact b)|(rw [e];exact b)|(rw [<- e];exact b)))];exact (ho m (by simp [b])).1
  ·show upd S0.objs D _ g=_
   exact ae _ _ _ _ (fun e=>r (by rw [e];simp))
theorem oK{f:FuncId}{b:Func}{c:Code}(J:P.funcs[f]? =some b)(O:b.body=some c){vs:Array Value}(h:SR b.ntmps w0 S0 E st (vs++Array.replicate (b.ntmps - vs.size) undef)){Q:aG->St->Prop}(S:bR P b.ntmps c st Q){R:Ending->World->Prop}
  (H: ∀S1 i s1 (D:Array Value),Ext S0 S1->SR b.ntmps w0 S1 i s1 D->Q .normal s1\/Q .ret s1-> ∃v,(results b D).run P i.w= .ok v i.w/\R (.returned v) i.w)
  (W: ∀id s, ¬Q (.exit id) s) (p: ∀e s,Q e s->CxD s.cx):CallsIn (fw ro) n P f vs E.w R:=by
 have key:CallsIn Fence.wide n P f vs E.w R:=by
  refine callsIn_of_wp_marks J O trivial (wpIn_mono (S none n w0 S0 E {tmps:=vs++Array.replicate (b.ntmps - vs.size) undef,defers:=[]} [] h ⟨rfl,by simp,by simp,fun l T=>by cases T⟩) ?_);have j: ∀{K:St->Prop} {d:Act} {w':World},(∀ s,K s->(Q .normal s\/Q .ret s)/\CxD s.cx)->e9 b.ntmps w0 S0 none [] K d w'->LeavesInM Fence.wide n P b d.tmps R d.defers .returning w':=by
   rintro K d w' A ⟨S1,B,i,s1,r,t,C,rfl,G,u⟩;rw [t.eq];refine jq (A s1 u).2 B G t.nodup t.obj fun Z Y M U L k=>?_
   refine H Z Y s1 d.tmps ⟨M.trans r.s,U.trans r.v,fun g o z=>?_⟩ k (A s1 u).1;obtain ⟨V,k1,k2⟩:=r.o g o z;refine ⟨V,(L g fun I=>?_).trans k1,k2⟩;rcases C.n g I with h|h
   ·simp at h
   ·rw [h] at z;cases z
  intro e d w' q;cases e with
  |normal=>exact j (fun s m=>⟨Or.inl m,p _ _ m⟩) q
  |ret=>exact j (fun s m=>⟨Or.inr m,p _ _ m⟩) q
  |exit id=>
   obtain ⟨S1,B,i,s1,r,t,C,h4,G,u⟩:=q;exact (W _ _ u).elim
  |goto l=>exact q.elim
  |panic ch=>exact q.elim
  |outgrown=>exact q.elim
 exact key
def sR(P:Program)(rs:List ResultVar)(r:List T)(e:aG)(s:St):Prop:=nX (dj P) rs r e s/\ ∀S w,s.cx S w
theorem sV{f:FuncId}{j:Func}{c:Code}(z:P.funcs[f]? =some j)(A:j.body=some c)(p:(j.name== "runtime.NumGoroutine")=false)
  {d:List T} {r:List T} (U:d.length<=j.ntmps) (h:bR P j.ntmps c (gA d) (sR P j.results.toList r)):DCalls P f d (lg r):=by
 refine ⟨eb z (by rw [A];rfl) p,fun S w vs Q C m G=>?_⟩;have t:=kX (N:=j.ntmps) Q C m G U;refine (callsIn_wide (n:=0)).1 (oK (ro:=none) z A t h (fun S1 V s1 O M k g=>?_) (fun id s g=>g.1.elim) (fun e s g S w D x y _ _=>g.2 _ _));have L:iP (dj P) s1 j.results.toList r:=by
  rcases g with g|g
  ·exact g.1
  ·exact g.1
 obtain ⟨v,H,I⟩:=ju (a:={tmps:=O,defers:=[]}) k L;refine ⟨v,H,v,rfl,k.below,I.mono (fun b o i=>?_) (fun _ _ _=>aC.rfl)⟩;rcases i with i|⟨n,p,rfl⟩
 ·refine (k.s1 b o i).imp (fun h=>?_) fun q=>⟨q,k.lt b o i⟩
  rw [M.s] at h;exact h
 ·right;rw [k.live] at p;obtain ⟨J,u⟩:=Option.isSome_iff_exists.1 p;have B:=k.bx n J u;obtain ⟨_,R,_⟩:=B.at_
  have:=B.old
  rw [k.base] at this;exact ⟨this,(Array.getElem?_eq_some_iff.1 R).1⟩
end
end Go.DL
end
section
namespace Go.DL
open Go.RowKit
section
variable [Glb]{P:Program}{X:List FuncId}{N:Nat}{w0:World}{S0:aa}{E:Env}{st:St}{n:Nat}{ro:Option Nat}
def WCM(P:Program)(f:FuncId)(us:List V)(d:Option Nat)(st:St)(K:St->Prop):Prop:=
 bK P f/\ ∀(N:Nat) (w0:World) (S0:aa) (E:Env) (a vs:Array Value),SR N w0 S0 E st a->vs.size=us.length->
  (∀ (i:Nat) (v:Value) (u:V),vs[i]? =some v->us[i]? =some u->VR E v u)->(∀ n,d=some n->n<N)->
  Calls P f vs E.w fun e w'=> ∃v,e= .returned v/\ ∃(S1:aa) (c:Env) (b:St),Ext S0 S1/\c.w=w'/\K b/\SR N w0 S1 c b (lf a d v)
def YC(P:Program)(l:Nat)(us:List V)(d:Option Nat)(st:St)(K:St->Prop):Prop:=
 ∀(ro:Option Nat) (n N:Nat) (w0:World) (S0:aa) (E:Env) (a vs:Array Value),SR N w0 S0 E st a->vs.size=us.length->
  (∀ (i:Nat) (v:Value) (u:V),vs[i]? =some v->us[i]? =some u->VR E v u)->(∀ n,d=some n->n<N)->
  YieldAt (fw ro) n P l vs E.w fun e w'=> ∃v,e= .returned v/\ ∃(S1:aa) (c:Env) (b:St),Ext S0 S1/\c.w=w'/\K b/\SR N w0 S1 c b (lf a d v)
abbrev sM(l:Nat):V:=.raw (.func (.yield l) #[] #[])
def kQ(P:Program)(u:V)(us:List V)(d:Option Nat)(st:St)(K:St->Prop):Prop:=
 match jF u with
 |some (f,caps)=>WCM P f (us++caps) d st K
 |none=> ∃l,u=sM l/\YC P l us d st K
end
section
variable {P:Program}{X:List FuncId}{N:Nat}{w0:World}{S0:aa}{E:Env}{st:St}{n:Nat}{ro:Option Nat}
theorem Mks.ext{S1:aa}{c:List Nat}{ds:List Deferred}(d:Ext S0 S1)(h:Mks S0 w0 ro c ds):Mks S1 w0 ro c ds:=
 ⟨h.eq,h.nodup,fun D g=>by
  obtain ⟨e,f⟩:=h.obj D g;obtain ⟨m,k1,k2,_⟩:=d.o D _ e;rw [k2 _ rfl] at k1;exact ⟨k1,f⟩,fun l k=>by
  obtain ⟨r,j⟩:=h.ro l k;obtain ⟨m,k1,_,k2⟩:=d.o l _ j;obtain ⟨i,b⟩:=k2 r rfl;exact ⟨i,by rw [k1,b]⟩⟩
end
section
variable [Glb]{P:Program}{X:List FuncId}{N:Nat}{w0:World}{S0:aa}{E:Env}{st:St}{n:Nat}{ro:Option Nat}
theorem qR{b:Array Oper}{Q:Exit->Act->World->Prop}{rest:List Nat}{ds:List Deferred}{K:St->Prop}
  (j: ∀(a:Act) (E:Env) (st:St),SR N w0 S0 E st a.tmps->a.defers=ds->K st->wpOpsIn (fw ro) n P b Q rest a E.w):
  ∀(ks:List Nat) (is:List DI) (_:hZ P N b ks=some is) (_:is.all (fun i=> !i.op.bF)=true) {a:Act} {E:Env} {st:St} (_:SR N w0 S0 E st a.tmps) (_:a.defers=ds) (_:cW P is st K),wpOpsIn (fw ro) n P b Q (ks++rest) a E.w
 |[],is,hl,_,a,E,st,h,hd,hw=>by
  cases hl;exact j a E st h hd hw
 |k::ks,is,hl,hc,a,E,st,h,hd,hw=>by
  unfold hZ at hl;split at hl
  ·rename_i o p;split at hl
   ·rename_i i e hi d;cases hl;simp only [List.all_cons,Bool.and_eq_true] at hc;rw [List.cons_append,wpOpsIn_cons];refine nw ?_ (sJ (fun _=>trivial) h p hi (by simpa using hc.1) hw);rintro q w' ⟨m,f,r,rfl,c,g⟩;exact qR j ks e d hc.2 c (g.trans hd) f
   ·cases hl
  ·cases hl
end
section
variable {P:Program}{X:List FuncId}{N:Nat}{w0:World}{S0:aa}{E:Env}{st:St}{n:Nat}{ro:Option Nat}
theorem oH{a:Act}{o:Oper}{l:Nat}{X:Operand}{az:Array Operand}{ats:Array TypeId}(b:o.op= .call {callee:=.value X,args:=az,argTypes:=ats })(c:a.eval X= .func (.yield l) #[] #[])(w:World):
  (execOp a.eval o).run P w=(Instr.yield l (az.map a.eval)).run P w:=by
 unfold execOp;simp [b,resolve,c,Deferred.ofValue,invoke]
end
section
variable [Glb]{P:Program}{X:List FuncId}{N:Nat}{w0:World}{S0:aa}{E:Env}{st:St}{n:Nat}{ro:Option Nat}
theorem pR{a:Act}{o:Oper}(h:SR N w0 S0 E st a.tmps){X:Operand}{y:O}{az:Array Operand}{ys:List O}{ats:Array TypeId}(R:o.op= .call {callee:=.value X,args:=az,argTypes:=ats })(hX:ak X=some y)(has:dP az.toList=some ys)
  {d:Nat} (hd:o.dst=some d) (D:d<N) {K:St->Prop} (B:kQ P (ev st.sl y) (ys.map (ev st.sl)) (some d) st K) {Q:Exit->Act->World->Prop}:
  o.wpIn (fw ro) n P a E.w (fun a' w'=> ∃(S1:aa) (C:Env) (j:St),Ext S0 S1/\C.w=w'/\K j/\SR N w0 S1 C j a'.tmps/\a'.defers=a.defers) Q:=by
 refine ⟨fun _ _=>trivial,?_⟩;rw [Oper.semAt_eq _ _ _ (fun c G=>by rw [R] at G;cases G)];obtain ⟨H,h2⟩:=gj (E:=E) (st:=st) (a:=a) h.sl has;have s:=af h.sl hX;have fc: ∀v,(a.put o.dst v).tmps=lf a.tmps (some d) v:=fun v=>by rw [hd];rfl
 have r5: ∀v,(a.put o.dst v).defers=a.defers:=fun v=>by rw [hd];rfl
 unfold kQ at B;cases b:jF (ev st.sl y) with
 |some q=>
  obtain ⟨f,caps⟩:=q;rw [b] at B;dsimp only at B;have key: ∃r:Array Value,a.eval X= .func (.func f) #[] r/\r.size=caps.length/\ ∀(i:Nat) (v:Value) (u:V),r[i]? =some v->caps[i]? =some u->VR E v u:=by
   unfold jF at b;split at b
   ·rename_i g cs m;simp only [Option.some.injEq,Prod.mk.injEq] at b;obtain ⟨rfl,rfl⟩:=b;rw [m] at s;have Z:=s.ax;generalize a.eval X=v at Z;cases Z with
    |clos _ r _ L z=>
     refine ⟨r,rfl,by simpa using L,fun i v u m p=>?_⟩;simp only [List.getElem?_map,Option.map_eq_some_iff] at p;obtain ⟨t,ht,rfl⟩:=p;exact .t _ _ (z i v t m ht)
   ·rename_i g cs m;simp only [Option.some.injEq,Prod.mk.injEq] at b;obtain ⟨rfl,rfl⟩:=b;rw [m] at s;generalize a.eval X=v at s;cases s with
    |fn _ r _ L z=>exact ⟨r,rfl,L,z⟩
   ·cases b
  obtain ⟨r,A,Y,S⟩:=key;have T:=fl (E:=E) (a:=a) (o:=o) R A B.1;rw [T];refine ⟨fun z=>(by cases z),CallsIn.mono (mi (B.2 N w0 S0 E a.tmps (az.map a.eval++r) h (by simp [H,Y]) (fun i v u m p=>?_) (fun k J=>by cases J;exact D))) ?_⟩
  ·by_cases hi:i<az.size
   ·rw [Array.getElem?_append_left (by simpa using hi)] at m;rw [List.getElem?_append_left (by simp;omega)] at p;exact h2 i v u m p
   ·rw [Array.getElem?_append_right (by simp;omega)] at m;rw [List.getElem?_append_right (by simp;omega)] at p;simp only [Array.size_map,List.length_map] at m p;rw [<- H] at p;exact S _ v u m p
  ·rintro e w' ⟨v,rfl,S1,C,j,W,M,I,U⟩;exact ⟨S1,C,j,W,M,I,by rw [fc];exact U,r5 v⟩
 |none=>
  rw [b] at B;obtain ⟨l,hy,hY⟩:=B;rw [hy] at s;have A:a.eval X= .func (.yield l) #[] #[]:=by
   generalize a.eval X=v at s;cases s;rfl
  rw [oH R A];obtain ⟨fn,tmps,asg,body,e1,hR⟩:=hY ro (n - 1) N w0 S0 E a.tmps (az.map a.eval) h (by simp [H]) h2 (fun k J=>by cases J;exact D);rw [e1];refine ⟨fun z=>(by cases z),RoundIn.mono hR ?_⟩;rintro e w' ⟨v,rfl,S1,C,j,W,M,I,U⟩;exact ⟨S1,C,j,W,M,I,by rw [fc];exact U,r5 v⟩
theorem bR.bY{id:Nat}{b:Array Oper}{k1 k2:List Nat}{k:Nat}(q:List.range b.size=k1++(k::k2)){c e:List DI}(C:hZ P N b k1=some c)(I:c.all (fun i=> !i.op.bF)=true)(H:hZ P N b k2=some e)(Y:e.all (fun i=> !i.op.bF)=true)
  {o:Oper} (s:b[k]? =some o) (V:o.guard=none) {X:Operand} {y:O} {az:Array Operand} {ys:List O} {ats:Array TypeId} (M:o.op= .call {callee:=.value X,args:=az,argTypes:=ats }) (J:ak X=some y) (has:dP az.toList=some ys)
  {d:Nat} (hd:o.dst=some d) (h:d<N) {Q:aG->St->Prop}
  (W:cW P c st fun f=>kQ P (ev f.sl y) (ys.map (ev f.sl)) (some d) f fun s1=>cW P e s1 (Q .normal)):bR P N (.region id b false) st Q:=by
 intro ro n w0 S0 E a t R B;refine wpIn_region ?_;rw [q];refine qR (ds:=a.defers) ?_ k1 c C I R rfl W;rintro S E1 f m p T;rw [wpOpsIn_cons];have U:Region.wanted o (yielded b S.tmps)=true:=by unfold Region.wanted;rw [V]
 unfold wpOpIn;simp only [s,U,if_true];refine Oper.wpIn_mono ?_ (pR (ro:=ro) (n:=n) m M J has hd h T);rintro Z w' ⟨S1,E',L,z,rfl,u,g,v⟩
 have:=qR (rest:=[]) (ro:=ro) (n:=n) (Q:=eB N w0 S0 ro t Q) (ds:=a.defers) (K:=Q .normal) (fun D A s2 j r G=>(by
  show eB N w0 S0 ro t Q .normal D A.w
  exact ⟨S1,t,A,s2,z,(by rw [r];exact B.ext z),Dn.refl,rfl,j,G⟩)) k2 e H Y g (v.trans p) u
 rwa [List.append_nil] at this
end
end Go.DL
end
section
end
section
end
section
namespace Go.DL
open Go.RowKit
section
variable [Glb]{P:Program}{X:List FuncId}{N:Nat}{w0:World}{S0:aa}{E:Env}{st:St}{n:Nat}{ro:Option Nat}
theorem WCM.mono{f:FuncId}{us:List V}{d:Option Nat}{K c:St->Prop}(h:WCM P f us d st K)(j: ∀s,K s->c s):WCM P f us d st c:=by
 refine ⟨h.1,fun N w0 S0 E a vs m b r hd=>(h.2 N w0 S0 E a vs m b r hd).mono ?_⟩;rintro e w' ⟨v,rfl,S1,q,s1,g,i,p,k⟩;exact ⟨v,rfl,S1,q,s1,g,i,j _ p,k⟩
theorem YC.mono{l:Nat}{us:List V}{d:Option Nat}{K i:St->Prop}(h:YC P l us d st K)(m: ∀s,K s->i s):YC P l us d st i:=by
 intro ro n N w0 S0 E a vs r f A hd;obtain ⟨u,b,g,c,q,w⟩:=h ro n N w0 S0 E a vs r f A hd;refine ⟨u,b,g,c,q,RoundIn.mono w ?_⟩;rintro e w' ⟨v,rfl,S1,z,s1,j,k,t,p⟩;exact ⟨v,rfl,S1,z,s1,j,k,m _ t,p⟩
theorem bR.rX{id:Nat}{b:Array Oper}{k1 k2:List Nat}{k:Nat}(j:List.range b.size=k1++(k::k2)){c e:List DI}(m:hZ P N b k1=some c)(q:c.all (fun i=> !i.op.bF)=true)(p:hZ P N b k2=some e)(v:e.all (fun i=> !i.op.bF)=true)
  {X:Operand} {y:O} {az:Array Operand} {ys:List O} {ats:Array TypeId} {d:Nat} (s:(b[k]?).map (fun o=>(o.guard,o.op,o.dst))=some (none,.call {callee:=.value X,args:=az,argTypes:=ats },some d)) (r:ak X=some y) (has:dP az.toList=some ys)
  (g:d<N) {Q:aG->St->Prop}
  (u:cW P c st fun h=>kQ P (ev h.sl y) (ys.map (ev h.sl)) (some d) h fun s1=>cW P e s1 (Q .normal)):bR P N (.region id b false) st Q:=by
 obtain ⟨o,t,f⟩:=Option.map_eq_some_iff.1 s;simp only [Prod.mk.injEq] at f;exact bR.bY j m q p v t f.1 f.2.1 r has f.2.2 g u
end
section
variable {P:Program}{X:List FuncId}{N:Nat}{w0:World}{S0:aa}{E:Env}{st:St}{n:Nat}{ro:Option Nat}
theorem ma{is:List DI}(h:(is.map DI.bare).all (fun i=> !i.op.bF)=true):is.all (fun i=> !i.op.bF)=true:=by
 rw [List.all_map] at h;exact h
end
section
variable [Glb]{P:Program}{X:List FuncId}{N:Nat}{w0:World}{S0:aa}{E:Env}{st:St}{n:Nat}{ro:Option Nat}
theorem bR.tZ{id:Nat}{b:Array Oper}{k1 k2:List Nat}{k:Nat}(m:List.range b.size=k1++(k::k2)){c e:List DI}(r:(hZ P N b k1).map (List.map DI.bare)=some c)(v:c.all (fun i=> !i.op.bF)=true)(u:(hZ P N b k2).map (List.map DI.bare)=some e)(H:e.all (fun i=> !i.op.bF)=true)
  {X:Operand} {y:O} {az:Array Operand} {ys:List O} {ats:Array TypeId} {d:Nat} (B:(b[k]?).map (fun o=>(o.guard,o.op,o.dst))=some (none,.call {callee:=.value X,args:=az,argTypes:=ats },some d)) (w:ak X=some y) (has:dP az.toList=some ys)
  (j:d<N) {Q:aG->St->Prop}
  (G:cW P c st fun g=>kQ P (ev g.sl y) (ys.map (ev g.sl)) (some d) g fun s1=>cW P e s1 (Q .normal)):bR P N (.region id b false) st Q:=by
 obtain ⟨t,D,rfl⟩:=Option.map_eq_some_iff.1 r;obtain ⟨I,A,rfl⟩:=Option.map_eq_some_iff.1 u;refine bR.rX m D (ma v) A (ma H) B w has j (lN ?_ (cd.1 G));intro g h;unfold kQ at h ⊢;split
 ·rename_i f caps q;rw [q] at h;exact WCM.mono h fun s p=>cd.1 p
 ·rename_i q;rw [q] at h;obtain ⟨l,C,z⟩:=h;exact ⟨l,C,YC.mono z fun s p=>cd.1 p⟩
def iQ:List Nat->Code->Code
 |[],c=>c
 |0::p,.seq a _=>iQ p a
 |1::p,.seq _ b=>iQ p b
 |0::p,.cond _ a _=>iQ p a
 |1::p,.cond _ _ b=>iQ p b
 |0::p,.block _ b=>iQ p b
 |0::p,.loop b=>iQ p b
 |0::p,.rangeFunc _ _ a _=>iQ p a
 |1::p,.rangeFunc _ _ _ b=>iQ p b
 |_,_=>.skip
def uj:Code->Array Oper
 |.region _ ops _=>ops
 |_=> #[]
end
end Go.DL
end
section
end
section
end
section
namespace Go.DL
section
variable [Glb]{P:Program}{st:St}{K:St->Prop}{is:List DI}
end
section
variable {P:Program}{st:St}{K:St->Prop}{is:List DI}
theorem tq{cs vs:List T}{n:Nat}(h:cs.length=n):aN cs 0 n vs=vs:=by
 unfold aN;rw [List.take_zero,List.nil_append,Nat.zero_add,List.drop_eq_nil_of_le (by omega),List.append_nil]
end
section
variable [Glb]{P:Program}{st:St}{K:St->Prop}{is:List DI}
end
end Go.DL
end
section
end
section
end
section
end
section
end
section
end
section
namespace Go.DL
open Go Go.Proofs
theorem wJ {p:Prop} (h:p:=by first|exact trivial|exact LeV.same _|exact LeB.same _|exact rfl|exact fun _ _ _=>trivial|exact lI|exact LeV.nil _ _ _|exact lB):p:=h
section
variable [Glb]
theorem dl2 {P:Program} {X:List FuncId} (e:P.follows .mixedOrders=true) (rs:List ResultVar) (r:List T) {f:FuncId} {c:Func} {d:aV} {N:Nat} {b:List T} (j:P.funcs[f]? =some c) (k:(c.body.bind (bt P N X))=some d)
  (h:wpC P d (gA b) (nX (dj P) rs r)) (g:c.ntmps=N:=by rfl) (m:(c.name== "runtime.NumGoroutine")=false:=by rfl) (p:c.results.toList=rs:=by rfl) (i:b.length≤N:=by exact Nat.le_of_ble_eq_true rfl):DCalls P f b (lg r):=oi e j k g m p i h
end
abbrev sr (is:List DI) (c:aV):aV:=.seq (.region is []) c
abbrev rg (is:List DI):aV:=.region is []
end Go.DL
end

