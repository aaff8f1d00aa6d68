/- Joined by program: parts of a data level over the model, of the program's functions over it, and of the statement's proof. -/
import Derived.Test.YtnfonfjleonbdaaGreatGb
import Derived.Laws.Sem
import Derived.RangeFuncLeaves
import Derived.RangeFuncRecord
import Derived.OrdersIn
import Derived.RangeFuncIn
import Derived.RangeFuncOwn
import Derived.Laws.IdiomCopy
import Derived.Below
import Derived.Deep.AppendSrc
import Derived.Lib.Overlaps
import Derived.Lib.AppendZerosOnto
import Derived.DataReads
import Derived.Carry
import Derived.ProofKit
import Derived.OpenShut
import Derived.JoinedCond
import Derived.Deep.DeepHandedRow
import Derived.Lib.LaidTab
import Derived.Shelf.Spec.SlicesGrow
import Derived.Shelf.SlSortCmp.NoneTotal
import Derived.Sort.LoopGhostIn
import Derived.RangeFuncNested
import Derived.Shelf.Sort.Plain
import Derived.Shelf.Slices.In.SortNone
section
namespace Go.DL
open Go.RowKit
section
variable [Glb]{P:Program}{X:List FuncId}{N:Nat}{w0:World}{S0:aa}{a:Act}{E:Env}{st:St}
def lF:List T->T
 |[x]=>x
 |xs=>.tup xs
def du(P:Program)(t:TypeId):Option (Nat×Bool):=
 match P.underlying t,P.info? t with
 |some _,some i=>cond (au P t||Nat.beq i.size 1) (some (i.size,au P t)) none
 |_,_=>none
theorem qM(h:SR N w0 S0 E st a.tmps){t:TypeId}{d:TypeDesc}{i:TypeInfo}(D:P.underlying t=some d)(hi:P.info? t=some i){b off:Nat}{bx:BX}(hb:st.bx b=some bx){x:T}
  (f:match eX b bx off i.size (au P t) with
   |.yes e=>asT e.val=some x
   |.eq c t _=>c/\t=x
   |_=>False): ∃v,(loadVar t ⟨E.κ b,off,none⟩).run P E.w= .ok v E.w/\Rep E.S E.w v x:=by
 have Z:=h.bx b bx hb;cases R:bx.isM with
 |true=>cases bx <;> first|exact f.elim|cases R
 |false=>
 obtain ⟨cs,e,hg,J⟩:=Z.cells R;have p: ∀j,E.w.cell? ⟨E.κ b,j,none⟩=cs[j]? :=fun j=>cell_of_row _ _ _ _ _ _ hg
 cases J with
 |d m ts hl W B=>
  unfold eX mi at f;cases g:au P t with
  |true=>
   rw [g] at f;have C:off+i.size<=m-> ∃v,(loadVar t ⟨E.κ b,off,none⟩).run P E.w= .ok v E.w/\Rep E.S E.w v (.agg ((ts.drop off).take i.size)):=fun hle=>by
    have A:((cs.toList.drop off).take i.size).length=i.size:=by simp;omega
    refine ⟨_,cm D hi g _ _ _ ((cs.toList.drop off).take i.size) A fun j v q=>?_,eu (fun j x u f s=>?_) ?_⟩
    ·rw [aH] at q;split at q
     ·rw [p];simpa using q
     ·cases q
    ·rw [aH] at f s;split at f
     ·rename_i q;rw [if_pos q] at s;exact B (off+j) x u (by simpa using f) s
     ·cases f
    ·rw [A];simp [hl];omega
   simp only at f;cases z:(Nat.beq off 0&&Nat.beq m i.size) with
   |true=>
    rw [z] at f;simp only [Bool.and_eq_true] at z;have L:off=0:=Nat.eq_of_beq_eq_true z.1;have hm:m=i.size:=Nat.eq_of_beq_eq_true z.2;have k:x= .agg ts:=by
     have:asT (.t (.agg ts))=some x:=f
     exact (Option.some.inj this).symm
    obtain ⟨v,Y,Q⟩:=C (by omega);refine ⟨v,Y,?_⟩;rw [L,List.drop_zero,List.take_of_length_le (by omega)] at Q;rw [k];exact Q
   |false=>
    rw [z] at f;obtain ⟨J,rfl⟩:=f;exact C J
  |false=>
   rw [g] at f;obtain ⟨r,rfl⟩:=f;have O:off<cs.size:=by omega
   have H:E.w.cell? ⟨E.κ b,off,none⟩=some cs[off]:=by rw [p];simp [O]
   have ht:ts[off]? =some (ts[off]?.getD .nil):=by
    have:off<ts.length:=by omega
    simp [this]
   exact ⟨_,bc D g _ _ _ H,(B off _ _ (by simp [O]) ht).1⟩
 |v vs W B=>
  unfold eX at f;cases g:au P t with
  |true=>
   rw [g] at f;simp only at f;cases I:eO ((vs.drop off).take i.size) with
   |none=>rw [I] at f;exact f.elim
   |some ts=>
   rw [I] at f;simp only at f;cases z:Nat.beq ts.length i.size with
   |false=>rw [z] at f;exact f.elim
   |true=>
   rw [z] at f;have k:x= .agg ts:=by
    have:asT (.t (.agg ts))=some x:=f
    exact (Option.some.inj this).symm
   subst k;have z:=Nat.eq_of_beq_eq_true z;obtain ⟨q1,q2⟩:=lp I;rw [List.length_take,List.length_drop,z] at q1;have A:((cs.toList.drop off).take i.size).length=i.size:=by simp;omega
   refine ⟨_,cm D hi g _ _ _ ((cs.toList.drop off).take i.size) A fun j v q=>?_,eu (fun j x u f s=>?_) ?_⟩
   ·rw [aH] at q;split at q
    ·rw [p];simpa using q
    ·cases q
   ·have k:=f;rw [aH] at k;split at k
    ·rename_i q;have r:off+j<vs.length:=by
      have:=(gsZ s).1
      omega
     have M:((vs.drop off).take i.size)[j]? =some vs[off+j]:=by rw [aH,if_pos q];exact ggZ r
     have V:=B (off+j) x _ (by simpa using k) (ggZ r);have U:=aD V.1 (q2 j _ u M s);exact ⟨U,U.kV V.2⟩
    ·cases k
   ·rw [A,z]
  |false=>
   rw [g] at f;simp only at f;cases G:vs[off]? with
   |none=>rw [G] at f;exact f.elim
   |some u=>
    rw [G] at f;have r:off<cs.size:=Nat.lt_of_lt_of_le (gsZ G).1 W;have H:E.w.cell? ⟨E.κ b,off,none⟩=some cs[off]:=by rw [p];simp [r]
    exact ⟨_,bc D g _ _ _ H,aD (B off _ _ (by simp [r]) G).1 f⟩
end
section
variable {P:Program}{X:List FuncId}{N:Nat}{w0:World}{S0:aa}{a:Act}{E:Env}{st:St}
theorem iO{bx:Nat->Option BX}{n:Nat}: ∀{c a b:List V} {k:Nat},mG bx n c=some (a,k,b)->c=a++ .ptr k 0::b/\bx k=some (.v [.ptr n 0])
 |[],a,b,k,h=>by cases h
 |v::vs,a,b,k,h=>by
  unfold mG at h;split at h
  ·rename_i p d;simp only [Option.some.injEq,Prod.mk.injEq] at h;obtain ⟨rfl,rfl,rfl⟩:=h;split at d
   ·rename_i k2;split at d
    ·rename_i m g;simp only [cond_eq_ite] at d;split at d
     ·rename_i i;cases d
      have:=Nat.eq_of_beq_eq_true i
      subst this;exact ⟨rfl,g⟩
     ·cases d
    ·cases d
   ·cases d
  ·split at h
   ·rename_i q p r j;simp only [Option.some.injEq,Prod.mk.injEq] at h;obtain ⟨rfl,rfl,rfl⟩:=h;obtain ⟨e,f⟩:=iO j;exact ⟨by rw [e];rfl,f⟩
   ·cases h
theorem nR(d: ∀n b,st.bx n=some b->bI E (E.κ n) b)(hlv: ∀n,E.live n=(st.bx n).isSome){v:Value}{u:V}(h:VR E v u){t:T}{rd:List Nat}(p:oJ st.bx u=some (t,rd)):Rep (Sx E rd) E.w v t:=by
 unfold oJ at p;split at p
 ·rename_i n off;split at p
  ·rename_i r f;cases p;unfold rG at f;split at f
   ·rename_i f1 c1 f2 c2 hb;split at f
    ·rename_i a1 k1 b1 a2 k2 b2 h1 h2;split at f
     ·rename_i x1 G y1 s1 x2 H y2 s2 e1 e2 e3 e4;simp only [cond_eq_ite] at f;split at f
      ·rename_i Y;simp only [Option.some.injEq,Prod.mk.injEq] at f;obtain ⟨rfl,rfl⟩:=f;have Y:=Nat.eq_of_beq_eq_true Y;subst Y;obtain ⟨q1,q2⟩:=iO h1;obtain ⟨q3,_⟩:=iO h2;obtain ⟨rfl,q⟩:=h.bh;obtain ⟨cs,e,hg,Q⟩:=(d n _ hb).cells rfl;obtain ⟨I,ew,U,R⟩:=(d k1 _ q2).cells rfl;have Z:E.live k1=true:=by rw [hlv,q2];rfl
       cases Q with
       |v _ hs hh=>
        have hs:2<=cs.size:=hs;have L:cs[0]? =some cs[0]:=Array.getElem?_eq_getElem (by omega);have M:cs[1]? =some cs[1]:=Array.getElem?_eq_getElem (by omega);have v0:=(hh 0 _ _ L rfl).1;have v1:=(hh 1 _ _ M rfl).1;cases R with
        |v _ B W=>
         have B:1<=I.size:=B;have O:I[0]? =some I[0]:=Array.getElem?_eq_getElem (by omega);have vw:=(W 0 _ _ O rfl).1;have J:=vw.bh.1;rw [J] at O;have rn:n∈(n::k1::(G++s1++H++s2)):=by simp
         have rk:k1∈(n::k1::(G++s1++H++s2)):=by simp
         generalize hc0:cs[0]=z0 at v0 L;generalize hc1:cs[1]=z1 at v1 M;cases v0 with
         |fn _ d1 _ s C=>
          cases v1 with
          |fn _ d2 _ z D=>
           rw [q1] at s C;rw [q3] at z D;obtain ⟨p1,p2,p3,rfl,p4,p5,p6,p7,p8⟩:=jN s C;obtain ⟨o1,o2,o3,rfl,o4,o5,o6,o7,o8⟩:=jN z D;have z1':=p4.bh.1;have z2':=o4.bh.1;subst z1';subst z2';obtain ⟨L1,M1⟩:=bK d e1;obtain ⟨L2,M2⟩:=bK d e2;obtain ⟨L3,M3⟩:=bK d e3;obtain ⟨L4,M4⟩:=bK d e4;have g: ∀{c:Array Value} {A:List V} {X:List T} {r:List Nat},A.length=X.length->(∀ (i:Nat) (v:Value) (u:V) (t:T),VR E v u->A[i]? =some u->X[i]? =some t->Rep (Sx E r) E.w v t)->(∀ (i:Nat) (x:Value) (u:V),c[i]? =some x->A[i]? =some u->VR E x u)->(∀ m∈r,m∈(n::k1::(G++s1++H++s2)))->
             ∀(i:Nat) (x:Value) (t:T),c[i]? =some x->X[i]? =some t->Rep (Sx E (n::k1::(G++s1++H++s2))) E.w x t:=fun {c A X r} hL hM hV hr i x t hx ht=>by
            have hlt:i<A.length:=by rw [hL];exact (gsZ ht).1
            have hA:=ggZ hlt;exact (hM i x _ t (hV i x _ hx hA) hA ht).mono (gy hr) (fun _ _ _=>aC.rfl)
           have j: ∀i,E.w.cell? ⟨E.κ n,i,none⟩=cs[i]? :=fun i=>cell_of_row _ _ _ _ _ _ hg
           have:=Rep.wrld (S:=Sx E (n::k1::(G++s1++H++s2))) (w:=E.w) (E.κ n) 0 (E.κ k1) 0 off f1 f2 p1 p2 o1 o2 x1 y1 x2 y2 (by omega) (by omega) (by omega) (by omega)
            ⟨by rw [cell_of_row _ _ _ _ _ _ U];exact O,.inr ⟨k1,rk,Z,rfl⟩⟩ ⟨by rw [j];exact L,.inr ⟨n,rn,q,rfl⟩⟩ ⟨by rw [j];exact M,.inr ⟨n,rn,q,rfl⟩⟩
            (g L1 M1 p7 (fun m k=>by simp [k])) (g L2 M2 p8 (fun m k=>by simp [k])) (g L3 M3 o7 (fun m k=>by simp [k])) (g L4 M4 o8 (fun m k=>by simp [k]))
           rwa [Nat.zero_add] at this
      ·cases f
     ·cases f
    ·cases f
   ·cases f
  ·exact eT d h p
 ·exact eT d h p
end
section
variable [Glb]{P:Program}{X:List FuncId}{N:Nat}{w0:World}{S0:aa}{a:Act}{E:Env}{st:St}
def cD(b:Array Value):ResultVar->Sem Value
 |.tmp t=>pure (b.getD t undef)
 |.cell a t=>do loadVar t (<- asAddr (b.getD a undef))
def qj(E:Env):ar:=fun b o=>E.S b o\/ ∃n,E.live n=true/\b=E.κ n
end
section
variable {P:Program}{X:List FuncId}{N:Nat}{w0:World}{S0:aa}{a:Act}{E:Env}{st:St}
theorem sF{E:Env}{rd:List Nat}: ∀b o,Sx E rd b o->qj E b o:=by
 rintro b o (h|⟨n,_,h⟩)
 ·exact .inl h
 ·exact .inr ⟨n,h⟩
end
section
variable [Glb]{P:Program}{X:List FuncId}{N:Nat}{w0:World}{S0:aa}{a:Act}{E:Env}{st:St}
theorem j7(h:SR N w0 S0 E st a.tmps): ∀{rs:List ResultVar} {xs:List T},jc (du P) st rs xs-> ∃vs:List Value,(rs.mapM (cD a.tmps)).run P E.w= .ok vs E.w/\vs.length=xs.length/\
  ∀(i:Nat) (v:Value) (x:T),vs[i]? =some v->xs[i]? =some x->Rep (qj E) E.w v x
 |[],[],_=>⟨[],by simp,rfl,fun i v x e=>by simp at e⟩
 |.tmp t::rs,x::xs,hp=>by
  obtain ⟨vs,m,p,q⟩:=j7 h hp.2;refine ⟨a.tmps.getD t undef::vs,?_,by simp [p],fun i v y e g=>?_⟩
  ·rw [List.mapM_cons,Sem.run_bind]
   have:(cD a.tmps (.tmp t)).run P E.w= .ok (a.tmps.getD t undef) E.w:=rfl
   rw [this];simp [m]
  ·cases i with
   |zero=>
    simp only [List.getElem?_cons_zero,Option.some.injEq] at e g;subst e;subst g;obtain ⟨⟨C,rd⟩,z,rfl⟩:=Option.map_eq_some_iff.1 hp.1;exact (nR h.bx h.live (h.sl t) z).mono sF (fun _ _ _=>aC.rfl)
   |succ i=>simp at e g;exact q i v y e g
 |.cell c ty::rs,x::xs,hp=>by
  obtain ⟨f,s⟩:=hp;obtain ⟨vs,m,p,q⟩:=j7 h s;have key: ∃v,(cD a.tmps (.cell c ty)).run P E.w= .ok v E.w/\Rep E.S E.w v x:=by
   have k:=h.sl c;split at f
   ·rename_i b off n agg u j;rw [u] at k;obtain ⟨e,B⟩:=k.bh;unfold du at j;split at j
    ·rename_i d i A hi;simp only [cond_eq_ite] at j;split at j
     ·simp only [Option.some.injEq,Prod.mk.injEq] at j;obtain ⟨rfl,rfl⟩:=j;split at f
      ·rename_i cs r;obtain ⟨v,k1,k2⟩:=qM h A hi (off:=off) r (x:=x) f;refine ⟨v,?_,k2⟩;show (asAddr (a.tmps.getD c undef) >>= fun d=>loadVar ty d).run P E.w=_
       rw [e];simp [asAddr,k1]
      ·exact f.elim
     ·cases j
    ·cases j
   ·exact f.elim
  obtain ⟨v0,k1,k2⟩:=key;refine ⟨v0::vs,?_,by simp [p],fun i v y e g=>?_⟩
  ·rw [List.mapM_cons,Sem.run_bind,k1];simp [m]
  ·cases i with
   |zero=>simp only [List.getElem?_cons_zero,Option.some.injEq] at e g;subst e;subst g;exact k2.mono (fun b o k=>.inl k) (fun _ _ _=>aC.rfl)
   |succ i=>simp at e g;exact q i v y e g
 |[],_::_,hp=>hp.elim
 |.tmp _::_,[],hp=>hp.elim
 |.cell _ _::_,[],hp=>hp.elim
theorem jH(h:SR N w0 S0 E st a.tmps){fn:Func}{xs:List T}(g:jc (du P) st fn.results.toList xs): ∃v,(results fn a.tmps).run P E.w= .ok v E.w/\Rep (qj E) E.w v (lF xs):=by
 obtain ⟨vs,f,c,b⟩:=j7 h g;have j:(results fn a.tmps).run P E.w= .ok (if h:vs.toArray.size=1 then vs.toArray[0] else .tuple vs.toArray) E.w:=by
  have:results fn a.tmps=(do let vs <-fn.results.mapM (cD a.tmps);pure (if h:vs.size=1 then vs[0] else .tuple vs)):=rfl
  rw [this,Array.mapM_eq_mapM_toList];rw [Sem.run_bind];have c:(Functor.map List.toArray (fn.results.toList.mapM (cD a.tmps))).run P E.w= .ok vs.toArray E.w:=by
   rw [map_eq_pure_bind,Sem.run_bind,f];rfl
  rw [c];rfl
 refine ⟨_,j,?_⟩
 match vs,xs,c,b with
 |[v],[x],_,b=>exact b 0 v x rfl rfl
 |[],[],_,b=>exact .tup _ _ rfl fun i x t m e=>by simp at e
 |v::u::vs,x::y::xs,c,b=>
  have d: ¬(v::u::vs).toArray.size=1:=by simp
  rw [dif_neg d];exact .tup _ _ (by simpa using c) fun i z t k e=>b i z t (by simpa using k) e
end
section
variable {P:Program}{X:List FuncId}{N:Nat}{w0:World}{S0:aa}{a:Act}{E:Env}{st:St}
theorem cP{f:FuncId}{fn:Func}(d:P.funcs[f]? =some fn)(i:fn.body.isSome=true)(e:(fn.name== "runtime.NumGoroutine")=false):bM P f:=fun c w=>by
 have b:fn.body.isNone=false:=by cases h:fn.body <;> simp_all
 have g:(program:Sem Program).run P w= .ok P w:=rfl;unfold callFunc;rw [Sem.run_bind,g];simp only [Result.andThen_ok,d,e,b,Bool.false_eq_true,if_false];rfl
end
section
variable [Glb]{P:Program}{X:List FuncId}{N:Nat}{w0:World}{S0:aa}{a:Act}{E:Env}{st:St}
theorem jr{S:ar}{w:World}{vs:List Value}{c:List T}(s: ∀b o,S b o->b<w.heap.size)(q:bH S w)(e:vs.length=c.length)(p: ∀(i:Nat) (v:Value) (t:T),vs[i]? =some v->c[i]? =some t->Rep S w v t)(D:c.length<=N):
  SR N w {S:=S } {S:=S,w:=w,B:=w.heap.size,κ:=fun _=>0,ρ:=fun _=>none,live:=fun _=>false } (ft c) (vs.toArray++Array.replicate (N - vs.toArray.size) undef):=by
 refine ⟨by simp;omega,rfl,q,fun m=>?_,fun k m=>.top _,fun n b u=>(by cases u),fun n=>rfl,fun n m A=>(by cases A),fun r g f=>(by cases f),fun r G g f=>(by cases f),s,Below.refl _ _,fun b o h=>h,fun b o h=>.inl h,fun g o z=>(by cases z),trivial⟩;show VR _ _ (match c[m]? with|some t=>.t t|none=>.top)
 cases j:c[m]? with
 |none=>exact .top _
 |some t=>
  have d:m<vs.length:=by rw [e];exact (gsZ j).1
  have C:=p m vs[m] t (ggZ d) j
  have:(vs.toArray++Array.replicate (N - vs.toArray.size) undef).getD m undef=vs[m]:=by
   rw [Array.getD_eq_getD_getElem?,Array.getElem?_append_left (by simpa using d)];simp [d]
  rw [this];exact .t _ _ C
theorem pq(Y:P.follows .mixedOrders=true){f:FuncId}{fn:Func}{c:Code}{d:aQ}(H:P.funcs[f]? =some fn)(G:fn.body=some c)(s:(fn.name== "runtime.NumGoroutine")=false)
  (W:bo P fn.ntmps X c=some d) {g:List T} {r:List T} (U:g.length<=fn.ntmps) (h:wpC P d (ft g) (oB (du P) fn.results.toList r)):DCalls P f g (lF r):=by
 refine ⟨cP H (by rw [G];rfl) s,fun S w vs R Q p J=>calls_of_wp H G ?_⟩;have C:=jr (N:=fn.ntmps) R Q p J U;refine wp_mono (lg Y W (a:={tmps:=vs.toArray++Array.replicate (fn.ntmps - vs.toArray.size) undef,defers:=[]}) C h) ?_;have m: ∀{k:Act} {w':World},bz fn.ntmps w {S:=S } [] (fun q=>jc (du P) q fn.results.toList r) k w'->k.defers=[]/\ ∃v,(results fn k.tmps).run P w'= .ok v w'/\
   ∃I,Ending.returned v= .returned I/\Below w.heap.size w w'/\Rep (fun b o=>S b o\/(w.heap.size<=b/\b<w'.heap.size)) w' I (lF r):=by
  rintro k w' ⟨Z,q,rfl,i,z,A⟩;obtain ⟨v,M,O⟩:=jH i A;refine ⟨z,v,M,v,rfl,i.below,O.mono (fun b o t=>?_) (fun _ _ _=>aC.rfl)⟩;rcases t with t|⟨n,s,rfl⟩
  ·exact (i.s1 b o t).imp id fun B=>⟨B,i.lt b o t⟩
  ·right;rw [i.live] at s;obtain ⟨L,u⟩:=Option.isSome_iff_exists.1 s;have D:=i.bx n L u;obtain ⟨_,V,_⟩:=D.at_
   have:=D.old
   rw [i.base] at this;exact ⟨this,(Array.getElem?_eq_some_iff.1 V).1⟩
 intro e k w' j;cases e with
 |normal=>exact m j
 |ret=>exact m j
 |exit id=>
  obtain ⟨_,_,_,_,_,A⟩:=j;exact A.elim
 |goto l=>exact j.elim
 |panic ch=>exact j.elim
 |outgrown=>exact j.elim
theorem oL(m:P.follows .mixedOrders=true){f:FuncId}{fn:Func}{d:aQ}{N:Nat}{rs:List ResultVar}(k:P.funcs[f]? =some fn)(e:(fn.body.bind (bo P N X))=some d)(i:fn.ntmps=N)(p:(fn.name== "runtime.NumGoroutine")=false)
  (q:fn.results.toList=rs) {b:List T} {r:List T} (j:b.length<=N) (h:wpC P d (ft b) (oB (du P) rs r)):DCalls P f b (lF r):=by
 cases g:fn.body with
 |none=>rw [g] at e;cases e
 |some c=>
  rw [g] at e;subst i;subst q;exact pq m k g p e j h
end
end Go.DL
end
section
namespace Go.DL
open Go.RowKit
section
variable [Glb]{P:Program}{X:List FuncId}{N:Nat}{w0:World}{S0:aa}{a:Act}{E:Env}{st:St}
theorem dI{a:Array Value}{d:Option Nat}{v:Value}{u:V}(h:SR N w0 S0 E st a)(hd: ∀n,d=some n->n<N)(b:VR E v u):SR N w0 S0 E (st.set d u) (lE a d v):=by
 cases d with
 |none=>exact h
 |some n=>exact h.put (hd n rfl) b
def eS(st:St):List ResultVar->Option (List V)
 |[]=>some []
 |.tmp t::rs=>match eS st rs with
  |some us=>some (st.sl t::us)
  |none=>none
 |.cell _ _::_=>none
def et:List V->V
 |[u]=>u
 |us=>.tup us
theorem j6(h:SR N w0 S0 E st a.tmps): ∀{rs:List ResultVar} {us:List V},eS st rs=some us-> ∃vs:List Value,(rs.mapM (cD a.tmps)).run P E.w= .ok vs E.w/\vs.length=us.length/\ ∀(i:Nat) (v:Value) (u:V),vs[i]? =some v->us[i]? =some u->VR E v u
 |[],us,hr=>by cases hr;exact ⟨[],by simp,rfl,fun i v x b=>by simp at b⟩
 |.cell _ _::_,us,hr=>by cases hr
 |.tmp t::rs,us,hr=>by
  unfold eS at hr;split at hr
  ·rename_i j d;cases hr;obtain ⟨vs,e,f,g⟩:=j6 h d;refine ⟨a.tmps.getD t undef::vs,?_,by simp [f],fun i v y b c=>?_⟩
   ·rw [List.mapM_cons,Sem.run_bind]
    have:(cD a.tmps (.tmp t)).run P E.w= .ok (a.tmps.getD t undef) E.w:=rfl
    rw [this];simp [e]
   ·cases i with
    |zero=>simp only [List.getElem?_cons_zero,Option.some.injEq] at b c;subst b;subst c;exact h.sl t
    |succ i=>simp at b c;exact g i v y b c
  ·cases hr
theorem nD(h:SR N w0 S0 E st a.tmps){fn:Func}{us:List V}(e:eS st fn.results.toList=some us): ∃v,(results fn a.tmps).run P E.w= .ok v E.w/\VR E v (et us):=by
 obtain ⟨vs,g,c,b⟩:=j6 (P:=P) h e;have e:(results fn a.tmps).run P E.w= .ok (if h:vs.toArray.size=1 then vs.toArray[0] else .tuple vs.toArray) E.w:=by
  have:results fn a.tmps=(do let vs <-fn.results.mapM (cD a.tmps);pure (if h:vs.size=1 then vs[0] else .tuple vs)):=rfl
  rw [this,Array.mapM_eq_mapM_toList];rw [Sem.run_bind];have c:(Functor.map List.toArray (fn.results.toList.mapM (cD a.tmps))).run P E.w= .ok vs.toArray E.w:=by
   rw [map_eq_pure_bind,Sem.run_bind,g];rfl
  rw [c];rfl
 refine ⟨_,e,?_⟩
 match vs,us,c,b with
 |[v],[x],_,b=>exact b 0 v x rfl rfl
 |[],[],_,b=>exact .tup _ _ rfl fun i x t k f=>by simp at f
 |v::u::vs,x::y::xs,c,b=>
  have d: ¬(v::u::vs).toArray.size=1:=by simp
  rw [dif_neg d];exact .tup _ _ (by simpa using c) fun i z t j f=>b i z t (by simpa using j) f
def oX(s:Nat->V)(g:Nat->Nat->V):Nat->Nat->V
 |0=>s
 |k+1=>g k
def ml(s:Nat->Value)(g:Nat->Nat->Value):Nat->Nat->Value
 |0=>s
 |k+1=>g k
def St.enter(st:St)(us:List V)(off:Nat):St:={sl:=fun m=>us[m]?.getD .top,bx:=st.bx,gh:=oX st.sl st.gh,off:=off,cx:=fun S w=> ∃vals,st.cx {S with vals:=vals } w }
def St.back(b st:St):St:={sl:=b.gh 0,bx:=b.bx,gh:=fun k=>b.gh (k+1),off:=st.off,cx:=st.cx }
def tC(rs:List ResultVar)(st:St)(d:Option Nat)(K:St->Prop):aF->St->Prop
 |.normal,st2=> ∃us,eS st2 rs=some us/\K ((st2.back st).set d (et us))
 |.ret,st2=> ∃us,eS st2 rs=some us/\K ((st2.back st).set d (et us))
 |.exit _,_=>False
theorem uF(T:P.follows .mixedOrders=true){f:FuncId}{fn:Func}{dc:aQ}{B:Nat}{rs:List ResultVar}(J:P.funcs[f]? =some fn)(A:(fn.body.bind (bo P B X))=some dc)(S:fn.ntmps=B)(U:(fn.name== "runtime.NumGoroutine")=false)
  (W:fn.results.toList=rs) {us:List V} (off:Nat) (ha:us.length<=B) {d:Option Nat} {K:St->Prop} (Y:wpC P dc (st.enter us off) (tC rs st d K)):WC P f us d st K:=by
 cases z:fn.body with
 |none=>rw [z] at A;cases A
 |some c=>
  rw [z] at A;subst S;subst W;refine ⟨cP J (by rw [z];rfl) U,fun N w0 S0 E a vs h s I hd=>calls_of_wp J z ?_⟩;have G:SR fn.ntmps w0 {S0 with vals:=ml (fun m=>a.getD m undef) S0.vals } E (st.enter us off) (vs++Array.replicate (fn.ntmps - vs.size) undef):=by
   refine ⟨by simp;omega,h.base,h.glob,fun m=>?_,fun k m=>?_,h.bx,h.live,h.inj,h.rows,h.rinj,h.lt,h.below,h.s0,h.s1,h.obj,⟨S0.vals,h.cx⟩⟩
   ·show VR _ _ (us[m]?.getD .top)
    cases L:us[m]? with
    |none=>exact .top _
    |some t=>
     have i:m<vs.size:=by rw [s];exact (gsZ L).1
     have I:=I m vs[m] t (Array.getElem?_eq_getElem i) L
     have:(vs++Array.replicate (fn.ntmps - vs.size) undef).getD m undef=vs[m]:=by
      rw [Array.getD_eq_getD_getElem?,Array.getElem?_append_left i];simp [i]
     rw [this];exact I
   ·cases k with
    |zero=>exact h.sl m
    |succ k=>exact h.gh k m
  refine wp_mono (lg T A (a:={tmps:=vs++Array.replicate (fn.ntmps - vs.size) undef,defers:=[]}) G Y) ?_;have r: ∀{q:Act} {w':World},bz fn.ntmps w0 {S0 with vals:=ml (fun m=>a.getD m undef) S0.vals } [] (fun g=> ∃us,eS g fn.results.toList=some us/\K ((g.back st).set d (et us))) q w'->q.defers=[]/\ ∃v,(results fn q.tmps).run P w'= .ok v w'/\
    ∃M,Ending.returned v= .returned M/\ ∃(p:Env) (u:St),p.w=w'/\K u/\SR N w0 S0 p u (lE a d M):=by
   rintro q w' ⟨p,g,rfl,b,C,Z,H,D⟩;obtain ⟨v,Q,R⟩:=nD (P:=P) b H;have O:SR N w0 S0 p (g.back st) a:=by
    refine ⟨h.size,b.base,b.glob,fun m=>b.gh 0 m,fun k m=>b.gh (k+1) m,b.bx,b.live,b.inj,b.rows,b.rinj,b.lt,b.below,b.s0,b.s1,b.obj,h.cx⟩
   exact ⟨C,v,Q,v,rfl,p,_,rfl,D,dI O hd R⟩
  intro e q w' j;cases e with
  |normal=>exact r j
  |ret=>exact r j
  |exit id=>
   obtain ⟨_,_,_,_,_,D⟩:=j;exact D.elim
  |goto l=>exact j.elim
  |panic ch=>exact j.elim
  |outgrown=>exact j.elim
def tu(rs:List ResultVar)(e:TypeId)(size:Nat)(xs rest:List T):aF->St->Prop
 |.exit _,_=>False
 |_,st=>(∀ t∈xs.flatMap T.cells,t.flat=true)/\(∀ t∈rest,t.flat=true)/\ ∃u,eS st rs=some (u::rest.map .t)/\((∃ q,u= .own q e size xs)\/(u= .t .nil/\xs=[]))
def sC(w:World)(e:TypeId)(size:Nat)(xs rest:List T)(v:Value)(w':World):Prop:=
 ∃(b:Value) (us:List Value),Ending.returned v= .returned (gR b us)/\Below w.heap.size w w'/\fH w w' b e size xs/\
  us.length=rest.length/\ ∀(i:Nat) (u:Value) (t:T),us[i]? =some u->rest[i]? =some t->t.flat=true/\Rep (fun _ _=>False) w' u t
theorem lT{S0:aa}{E:Env}{st:St}{w:World}{a:Act}(h:SR N w S0 E st a.tmps){fn:Func}{e:TypeId}{size:Nat}{xs rest:List T}(c: ∀t∈xs.flatMap T.cells,t.flat=true)(r: ∀t∈rest,t.flat=true){u:V}
  (H:eS st fn.results.toList=some (u::rest.map .t)) (D:(∃ q,u= .own q e size xs)\/(u= .t .nil/\xs=[])): ∃v,(results fn a.tmps).run P E.w= .ok v E.w/\sC w e size xs rest v E.w:=by
 obtain ⟨j,A,b,k⟩:=j6 (P:=P) h H
 match j,b,k with
 |[],b,_=>simp at b
 |v::us,b,k=>
  have z:=k 0 v u rfl rfl;have m:fH w E.w v e size xs:=by
   have own: ∀q,VR E v (.own q e size xs)->fH w E.w v e size xs:=fun q f=>by
    have f:=f.fl;obtain ⟨cells,k1,k2,G⟩:=f.ex;rw [h.base] at k1;exact ⟨⟨cells,k1,k2,fun i x t s g=>(G i x t s g).of_flat (c t (List.mem_of_getElem? g))⟩,f.uni,f.one,c⟩
   rcases D with ⟨q,rfl⟩|⟨rfl,rfl⟩
   ·exact own q z
   ·have B:=z.ax;cases B;exact own 0 (.own _ 0 e size [] (bU.nil 0 e size))
  have C:(results fn a.tmps).run P E.w= .ok (if h:(v::us).toArray.size=1 then (v::us).toArray[0] else .tuple (v::us).toArray) E.w:=by
   have:results fn a.tmps=(do let vs <-fn.results.mapM (cD a.tmps);pure (if h:vs.size=1 then vs[0] else .tuple vs)):=rfl
   rw [this,Array.mapM_eq_mapM_toList];rw [Sem.run_bind];have b:(Functor.map List.toArray (fn.results.toList.mapM (cD a.tmps))).run P E.w= .ok (v::us).toArray E.w:=by
    rw [map_eq_pure_bind,Sem.run_bind,A];rfl
   rw [b];rfl
  refine ⟨_,C,v,us,?_,h.below,m,by simpa using b,fun i x t s g=>?_⟩
  ·match us with
   |[]=>rfl
   |y::ys=>
    have p: ¬(v::y::ys).toArray.size=1:=by simp
    rw [dif_neg p];rfl
  ·have d:=r t (List.mem_of_getElem? g);exact ⟨d,(k (i+1) x (.t t) (by simpa using s) (by simpa using g)).ax.of_flat d⟩
theorem tG(O:P.follows .mixedOrders=true){f:FuncId}{fn:Func}{d:aQ}{N:Nat}{rs:List ResultVar}(B:P.funcs[f]? =some fn)(p:(fn.body.bind (bo P N X))=some d)(I:fn.ntmps=N)(Q:(fn.name== "runtime.NumGoroutine")=false)
  (R:fn.results.toList=rs) {b:List T} {e:TypeId} {size:Nat} {xs rest:List T} (L:b.length<=N) (h:wpC P d (ft b) (tu rs e size xs rest)):dA P f b e size xs rest:=by
 cases m:fn.body with
 |none=>rw [m] at p;cases p
 |some c=>
  rw [m] at p;subst I;subst R;refine ⟨cP B (by rw [m];rfl) Q,fun S w vs J H k D=>calls_of_wp B m ?_⟩;have A:=jr (N:=fn.ntmps) J H k D L;refine wp_mono (lg O p (a:={tmps:=vs.toArray++Array.replicate (fn.ntmps - vs.toArray.size) undef,defers:=[]}) A h) ?_;have j: ∀{i:Act} {w':World},bz fn.ntmps w {S:=S } [] (fun st=>(∀ t∈xs.flatMap T.cells,t.flat=true)/\(∀ t∈rest,t.flat=true)/\ ∃u,eS st fn.results.toList=some (u::rest.map .t)/\((∃ q,u= .own q e size xs)\/(u= .t .nil/\xs=[]))) i w'->
    i.defers=[]/\ ∃v,(results fn i.tmps).run P w'= .ok v w'/\sC w e size xs rest v w':=by
   rintro i w' ⟨Y,W,rfl,C,r,s,z,u,V,U⟩;exact ⟨r,lT C s z V U⟩
  intro G i w' g;cases G with
  |normal=>exact j g
  |ret=>exact j g
  |exit id=>
   obtain ⟨_,_,_,_,_,M⟩:=g;exact M.elim
  |goto l=>exact g.elim
  |panic Z=>exact g.elim
  |outgrown=>exact g.elim
def iC(u:V)(rest:List T):V:=
 match rest with
 |[]=>u
 |_=>.tup (u::rest.map .t)
end
section
variable {P:Program}{X:List FuncId}{N:Nat}{w0:World}{S0:aa}{a:Act}{E:Env}{st:St}
theorem eI{v:Value}{u:V}{us:List Value}{rest:List T}(j:VR E v u)(c:us.length=rest.length)(d: ∀(i:Nat) (x:Value) (t:T),us[i]? =some x->rest[i]? =some t->t.flat=true/\Rep (fun _ _=>False) E.w x t):
  VR E (gR v us) (iC u rest):=by
 match us,rest,c,d with
 |[],[],_,_=>exact j
 |y::ys,t::ts,c,d=>
  refine .tup _ _ (by simpa using c) fun i x z f h=>?_
  cases i with
  |zero=>simp at f h;subst f;subst h;exact j
  |succ i=>
   have g:(y::ys)[i]? =some x:=by simpa using f
   have b:((t::ts).map V.t)[i]? =some z:=by simpa using h
   rw [List.getElem?_map,Option.map_eq_some_iff] at b;obtain ⟨k,e,rfl⟩:=b
   have:=d i x k g e
   exact .t _ _ (this.2.of_flat this.1)
end
section
variable [Glb]{P:Program}{X:List FuncId}{N:Nat}{w0:World}{S0:aa}{a:Act}{E:Env}{st:St}
theorem uH{f:FuncId}{us:List V}{d:Nat}{K:St->Prop}{ts:List T}{rd:List Nat}{e:TypeId}{size:Nat}{xs rest:List T}(hc:bt st.bx us=some (ts,rd))(c:dA P f ts e size xs rest)
  (M:K ((st.dg (d+st.off) (d+st.off)).set (some d) (iC (.own (d+st.off) e size xs) rest))):WC P f us (some d) st K:=by
 refine ⟨c.1,fun N w0 S0 E a vs h p hv hd=>Calls.mono (fZ (a:=⟨a,[]⟩) hc c h p hv) ?_⟩;rintro en w' ⟨v,us',rfl,Y,b,O,I,U⟩;refine ⟨_,rfl,?_⟩;have J:=U.dg (d+st.off) (d+st.off);have hne:E.w.heap.size<=w'.heap.size:=Y.size;have H: ∀m,E.live m=true->E.κ m<E.w.heap.size:=fun m s=>kL (a:=⟨a,[]⟩) h s
 obtain ⟨cells,k1,k2,k3⟩:=b.ex;rcases k1.2 with ⟨rfl,hn⟩|⟨g,cap,u,rfl,Z,L,R,s,C,D⟩
 ·have G:xs=[]:=List.eq_nil_of_length_eq_zero hn;subst G;exact ⟨_,_,rfl,M,dI J hd (eI (.own _ _ _ _ _ (bU.nil _ _ _)) O I)⟩
 ·have A:g<w'.heap.size:=(Array.getElem?_eq_some_iff.1 L).1;have W:=J.mu (q:=d+st.off) (g:=g) (k:=(xs.flatMap T.cells).length) (by simp) (fun m s=>by have:=H m s;show E.κ m≠g;omega) (fun r c=>by
   dsimp only at c;split at c
   ·cases c
   ·have:=(h.rows r g c).2.1;omega) A (by show E.B<=g;rw [h.base];have:=h.below.size;omega)
  refine ⟨_,_,rfl,M,dI W hd (eI (.own _ _ _ _ _ ⟨⟨cells,⟨k1.1,.inr ⟨g,cap,u,rfl,?_,L,R,s,C,D⟩⟩,k2,fun i x t G Q=>(k3 i x t G Q).of_flat (b.flat t (List.mem_of_getElem? Q))⟩,b.uni,b.one,fun g' j=>?_⟩) O I)⟩
  ·show E.B<=g;rw [h.base];have:=h.below.size;omega
  ·simp only [Value.ownBlock,Option.some.injEq] at j;subst j;refine ⟨ai _ _ _,fun o=>?_⟩;show (E.S g o\/(g=g/\o<_))↔_
   exact ⟨fun z=>z.elim (fun C=>absurd (h.lt g o C) (by omega)) (·.2),fun z=>.inr ⟨rfl,z⟩⟩
theorem uC{f:FuncId}{us:List V}{d:Nat}{K:St->Prop}{ts:List T}{rd:List Nat}{e:TypeId}{size:Nat}{xs rest:List T}(S:bt st.bx us=some (ts,rd))(s:dA P f ts e size xs rest)(hq:st.bx (d+st.off)=none)
  (mU:xs=[]->K (st.set (some d) (iC (.t .nil) rest))) (W:K ({st with bx:=upd st.bx (d+st.off) (some (.d (xs.length * size) (xs.flatMap T.cells)))}.set (some d) (iC (.view (d+st.off) 0 xs.length size) rest))):WC P f us (some d) st K:=by
 refine ⟨s.1,fun N w0 S0 E a vs h k hv hd=>Calls.mono (fZ (a:=⟨a,[]⟩) S s h k hv) ?_⟩;rintro en w' ⟨v,us',rfl,Q,b,M,J,L⟩;refine ⟨_,rfl,?_⟩;have Z:E.w.heap.size<=w'.heap.size:=Q.size;have H: ∀m,E.live m=true->E.κ m<E.w.heap.size:=fun m p=>kL (a:=⟨a,[]⟩) h p
 obtain ⟨cells,k1,k2,k3⟩:=b.ex;rcases k1.2 with ⟨rfl,Y⟩|⟨g,cap,c,rfl,R,U,I,p,A,C⟩
 ·have D:xs=[]:=List.eq_nil_of_length_eq_zero Y;exact ⟨_,_,rfl,mU D,dI L hd (eI (.t _ _ .nil) M J)⟩
 ·have j:=aJ b.uni;have z:xs.length * size<=c.size:=by rw [A];exact Nat.mul_le_mul_right _ I
  have O:=L.mr (q:=d+st.off) (g:=g) hq (fun m p=>by have:=H m p;show E.κ m≠g;omega) (fun r s=>by have:=(h.rows r g s).2.1;omega)
   (bx:=.d (xs.length * size) (xs.flatMap T.cells)) ⟨by show E.B<=g;rw [h.base];have:=h.below.size;omega,fun o A=>absurd (h.lt g o A) (by omega),_,U,.cells c e _ <| .d _ _ j z fun i x t D u=>by
    have hi:i<xs.length * size:=by rw [<- j];exact (gsZ u).1
    refine ⟨(k3 i x t ?_ u).of_flat (b.flat t (List.mem_of_getElem? u)),b.one t (List.mem_of_getElem? u)⟩;rw [<- C,List.getElem?_take,if_pos hi];simpa using D⟩
  refine ⟨_,_,rfl,W,dI O hd (eI ?_ M J)⟩
  have:=VR.view (E:={E with w:=w',κ:=upd E.κ (d+st.off) g,live:=upd E.live (d+st.off) true }) (d+st.off) 0 xs.length size cap (by show upd E.live _ true _=true;exact ai _ _ _) I
  have G:upd E.κ (d+st.off) g (d+st.off)=g:=ai _ _ _;simp only [G] at this;exact this
end
end Go.DL
end
section
namespace Go.DL
open Go.RowKit
section
variable [Glb]{P:Program}{N:Nat}{w0:World}{S0:aa}{o:Oper}{a:Act}{E:Env}{st:St}{F:Fence}{n:Nat}
theorem qR(p: ∀f,F.fn f)(h:SR N w0 S0 E st a.tmps)(hd:ay N o.dst){x:DOp}(e:ah P o.op=some x)(q:x.aO=false){K:St->Prop}(s:wpO P x o.dst st K){Q:Exit->Act->World->Prop}:
  o.wpIn F n P a E.w (fun m w'=> ∃b,K b/\bB N w0 S0 a b m w') Q:=by
 obtain ⟨b,k,nx,v,j,r,g,d⟩:=oz h hd e q s;refine ⟨fun f _=>p f,?_⟩;rw [Oper.semAt_eq _ _ _ (fun c i=>by rw [i] at e;cases e),r];rcases g with rfl|⟨rfl,rfl⟩
 ·exact ⟨b,k,j,rfl,d,by cases o.dst <;> rfl⟩
 ·exact ⟨b,k,j,rfl,d,by cases o.dst <;> rfl⟩
end
section
variable {P:Program}{N:Nat}{w0:World}{S0:aa}{o:Oper}{a:Act}{E:Env}{st:St}{F:Fence}{n:Nat}
theorem pF(d:Option Nat)(x:DOp):dt [] d x=x:=by
 have mx:fN [] x=x:=by
  cases x with
  |append t e size b s x=>cases s <;> rfl
  |_=>rfl
 cases x with
 |buildS=>cases d <;> rfl
 |call=>cases d <;> rfl
 |offA k y=>cases k <;> cases d <;> rfl
 |_=>exact mx
end
section
variable [Glb]{P:Program}{N:Nat}{w0:World}{S0:aa}{o:Oper}{a:Act}{E:Env}{st:St}{F:Fence}{n:Nat}
theorem nN(H: ∀f,F.fn f)(h:SR N w0 S0 E st a.tmps){c:Array Oper}{k:Nat}(J:c[k]? =some o){i:DI}(S:jY P N [] c o=some i)(O:i.op.aO=false){K:St->Prop}(e:wpI P i st K){Q:Exit->Act->World->Prop}:
  wpOpIn F n P c Q k (fun v w'=> ∃d,K d/\bB N w0 S0 a d v w') a E.w:=by
 obtain ⟨⟨x,L,C⟩,D,G,_,M⟩:=fz S;rw [pF] at C;have s:wpO P i.op i.dst st K->Region.wanted o (yielded c a.tmps)=true->wpOpIn F n P c Q k (fun v w'=> ∃d,K d/\bB N w0 S0 a d v w') a E.w:=fun e B=>by
  rw [D,C] at e;unfold wpOpIn;simp only [J,B,if_true];exact qR H h G L (C▸O) e
 have skip:K (st.set i.dst bJ)->Region.wanted o (yielded c a.tmps)=false->wpOpIn F n P c Q k (fun v w'=> ∃d,K d/\bB N w0 S0 a d v w') a E.w:=fun R B=>by
  unfold wpOpIn;simp only [J,B,Bool.false_eq_true,if_false];refine ⟨fun f _=>H f,_,R,?_⟩;rw [D];exact ⟨E,rfl,h.cL G (ov E),by cases o.dst <;> rfl⟩
 unfold wpI at e;rcases M with ⟨A,hi⟩|⟨j,p,g,A,I,hi,z⟩
 ·rw [hi] at e;exact s e (by unfold Region.wanted;rw [A])
 ·rw [hi] at e;simp only at e;have U: ∀b,st.sl g= .t (.bool b)->yielded c a.tmps j=some b:=fun b r=>by
   have u:=h.sl g;rw [r] at u;have u:=u.aT;have m:g<a.tmps.size:=by rw [h.size];exact z
   have:a.tmps[g]? =some (.bool b):=by
    rw [Array.getElem?_eq_getElem m];simpa [m] using u
   unfold yielded;rw [I];simp [this]
  have T: ∀b,st.sl g= .t (.bool b)->Region.wanted o (yielded c a.tmps)=(b==p):=fun b r=>by
   unfold Region.wanted;rw [A];simp only [U b r];cases b <;> cases p <;> rfl
  split at e
  ·rename_i b r;have q:=T b r;cases b <;> cases p <;> simp only at e
   ·exact s e q
   ·exact skip e q
   ·exact skip e q
   ·exact s e q
  ·rename_i r;refine skip e ?_;have u:=nG (r▸h.sl g);unfold Region.wanted;rw [A]
   have:yielded c a.tmps j=none:=by
    have m:g<a.tmps.size:=by rw [h.size];exact z
    have:a.tmps[g]? =some (.tuple #[]):=by
     rw [Array.getElem?_eq_getElem m];simpa [m] using u
    unfold yielded;rw [I];simp [this]
   simp only [this];rfl
  ·exact e.elim
theorem oy(r: ∀f,F.fn f){b:Array Oper}{is:List DI}(u:bQ P N [] b b.toList=some is)(t:is.all (fun i=> !i.op.aO)=true){Q:Exit->Act->World->Prop}{K:St->Prop}{ds:List Deferred}{rest:List Nat}
  (s: ∀a w,bz N w0 S0 ds K a w->wpOpsIn F n P b Q rest a w):
  ∀(ks:List Nat) (_: ∀k∈ks,k<b.size) {a:Act} {E:Env} {st:St} (_:SR N w0 S0 E st a.tmps) (_:a.defers=ds) (_:bp P (fQ is ks) st K),wpOpsIn F n P b Q (ks++rest) a E.w
 |[],_,a,E,st,h,hd,hw=>s a E.w ⟨E,st,rfl,h,hd,hw⟩
 |k::ks,hk,a,E,st,h,hd,hw=>by
  have m:=hk k (by simp);have v:b[k]? =some b[k]:=Array.getElem?_eq_getElem m;obtain ⟨i,hi,j⟩:=(bk u).2 k _ (Array.getElem?_toList.trans v);have q:wpI P i st fun d=>bp P (fQ is ks) d K:=by
   have:=hw
   unfold fQ at this;rw [List.map_cons,hi] at this;exact this
  have e:i.op.aO=false:=by
   have:=List.all_eq_true.1 t i (List.mem_of_getElem? hi)
   simpa using this
  rw [List.cons_append,wpOpsIn_cons];refine wpOpIn_mono ?_ (nN r h v j e q (Q:=Q));rintro A w' ⟨d,c,z,rfl,p,g⟩;exact oy r u t s ks (fun k c=>hk k (List.mem_cons_of_mem _ c)) p (g.trans hd) c
theorem jG(e: ∀f,F.fn f)(h:SR N w0 S0 E st a.tmps){b:Array Oper}{is:List DI}(d:bQ P N [] b b.toList=some is)(j:is.all (fun i=> !i.op.aO)=true){Q:Exit->Act->World->Prop}{K:St->Prop}
  (g: ∀c w,bz N w0 S0 a.defers K c w->Q .normal c w) (q:bp P is st K) {id:Nat}:(Code.region id b false).wpIn F n P Q a E.w:=by
 refine wpIn_region ?_
 have:=oy (n:=n) e d j (rest:=[]) (K:=K) (ds:=a.defers) (Q:=Q) (fun a w m=>g a w m) (List.range b.size) (fun k p=>by simpa using p) h rfl (by
  have:b.size=is.length:=by simpa using (bk d).1
  rw [this,iA];exact q)
 rwa [List.append_nil] at this
end
section
variable {P:Program}{N:Nat}{w0:World}{S0:aa}{o:Oper}{a:Act}{E:Env}{st:St}{F:Fence}{n:Nat}
theorem iM{w:World}{l:Nat}{x:Obj}(h:w.heap[l]? =some x)(b:bY x=true)(o:Nat):w.cell? ⟨l,o,none⟩=none:=by
 unfold World.cell?;simp only [h];cases x <;> first|rfl|cases b
end
section
variable [Glb]{P:Program}{N:Nat}{w0:World}{S0:aa}{o:Oper}{a:Act}{E:Env}{st:St}{F:Fence}{n:Nat}
def Env.put(E:Env)(l:Nat)(y:Obj):Env:={E with w:=E.w.putObj l y,ρ:=fun r=>if E.ρ r=some l then none else E.ρ r }
section put
variable {l:Nat}{x y:Obj}
end put
end
section
variable {P:Program}{N:Nat}{w0:World}{S0:aa}{o:Oper}{a:Act}{E:Env}{st:St}{F:Fence}{n:Nat}
variable {l:Nat}{x y:Obj}
theorem pM(c:E.w.heap[l]? =some x)(d:bY x=true)(f:bY y=true)(b o:Nat):(E.w.putObj l y).cell? ⟨b,o,none⟩=E.w.cell? ⟨b,o,none⟩:=by
 by_cases e:b=l
 ·subst e;rw [iM c d,iM (World.putObj_heap_same (Array.getElem?_eq_some_iff.1 c).1) f]
 ·exact World.cell?_of_block (w:=E.w) (a:=⟨b,o,none⟩) (World.putObj_heap_other e)
theorem dH(d:E.w.heap[l]? =some x)(f:bY x=true)(j:bY y=true)(b o:Nat):aC E.w (E.w.putObj l y) b o:=
 ⟨pM d f j b o,fun h c g=>by
  have i:b≠l:=fun e=>by rw [e,d] at g;cases g;cases f
  exact (World.putObj_heap_other i).trans g⟩
theorem VR.putObj(k:E.w.heap[l]? =some x)(m:bY x=true)(J:bY y=true){v:Value}{u:V}(h:VR E v u):VR (E.put l y) v u:=by
 have up: ∀{v:Value} {t:T},Rep E.S E.w v t->Rep (E.put l y).S (E.put l y).w v t:=fun h=>h.mono (fun b o h=>h) (fun b o _=>dH k m J b o)
 induction h with
 |top v=>exact .top v
 |t v x h=>exact .t v x (up h)
 |ptr n off p=>exact VR.ptr (E:=E.put l y) n off p
 |view n off len size cap p G=>exact VR.view (E:=E.put l y) n off len size cap p G
 |mp n p=>exact VR.mp (E:=E.put l y) n p
 |own v r e size xs h=>
  obtain ⟨cells,j,C,D⟩:=h.ex;refine .own v r e size xs ⟨⟨cells,fP j fun g d=>?_,C,fun i x t I H=>up (D i x t I H)⟩,h.uni,h.one,fun g d=>⟨?_,(h.row g d).2⟩⟩
  ·refine World.putObj_heap_other fun e=>?_
   rcases j.2 with ⟨rfl,_⟩|⟨B,cap,z,rfl,_,c,_⟩
   ·cases d
   ·simp only [Value.ownBlock,Option.some.injEq] at d;rw [d,e,k] at c;cases c;cases m
  ·show (if E.ρ r=some l then none else E.ρ r)=some g
   have A:=(h.row g d).1;rw [if_neg]
   ·exact A
   ·intro e;rw [A] at e;have e:=Option.some.inj e;rcases j.2 with ⟨rfl,_⟩|⟨B,cap,z,rfl,_,c,_⟩
    ·cases d
    ·simp only [Value.ownBlock,Option.some.injEq] at d;rw [d,e,k] at c;cases c;cases m
 |full a len size xs h=>exact .full a len size xs (up h)
 |fn f cs vs q _ s=>exact .fn f cs vs q s
 |tup cs vs q _ s=>exact .tup cs vs q s
 |agv cs vs q j _ s=>exact .agv cs vs q j s
 |raw v j=>exact .raw v j
end
section
variable [Glb]{P:Program}{N:Nat}{w0:World}{S0:aa}{o:Oper}{a:Act}{E:Env}{st:St}{F:Fence}{n:Nat}
section put
variable {l:Nat}{x y:Obj}
theorem SR.putObj{b:Array Value}(h:SR N w0 S0 E st b)(s:S0.objs l=some x)(q:bY y=true)(hl:w0.heap.size<=l)(W:st.cx {S0 with objs:=upd S0.objs l (some y)} w0):
  SR N w0 {S0 with objs:=upd S0.objs l (some y)} (E.put l y) st b:=by
 obtain ⟨j,f⟩:=h.obj l x s;have Z:l<E.w.heap.size:=(Array.getElem?_eq_some_iff.1 f).1;have J:(E.w.putObj l y).heap.size=E.w.heap.size:=by simp [World.putObj]
 have I: ∀r g,(if E.ρ r=some l then none else E.ρ r)=some g->E.ρ r=some g/\g≠l:=fun r g O=>by
  split at O
  ·cases O
  ·rename_i hn;exact ⟨O,fun e=>hn (e▸O)⟩
 refine ⟨h.size,h.base,h.glob,fun m=>(h.sl m).putObj f j q,fun k m=>(h.gh k m).putObj f j q,fun n b' hb=>?_,h.live,h.inj,fun r g O=>?_,fun r r' g Q L=>h.rinj r r' g (I r g Q).1 (I r' g L).1,fun b o hs=>?_,?_,h.s0,h.s1,fun g o M=>?_,W⟩
 ·have V:=h.bx n b' hb;obtain ⟨ob,M,R⟩:=V.at_;have hnl:E.κ n≠l:=fun e=>by rw [e,f] at M;cases M;cases R <;> cases j
  refine ⟨V.old,V.free,ob,(World.putObj_heap_other hnl).trans M,?_⟩;cases R with
  |itd k A c T sh U ix Y hS C=>exact bS.itd (E:=E.put l y) k A c T sh U ix ((dH f j q k 0).map _ _ Y) hS ⟨C.size,fun i x e s D=>⟨(C.at_ i x e s D).1.mono (fun b o h=>h) (fun b o _=>dH f j q b o),(C.at_ i x e s D).2.1.mono (fun b o h=>h) (fun b o _=>dH f j q b o),(C.at_ i x e s D).2.2⟩,C.lt,C.apart,C.mb⟩
  |it m bs c ix hl=>exact bS.it (E:=E.put l y) m bs c ix hl
  |map A B T sh U mb H=>exact .map A B T sh U mb ⟨H.size,fun i x e s D=>⟨(H.at_ i x e s D).1.mono (fun b o h=>h) (fun b o _=>dH f j q b o),(H.at_ i x e s D).2.1.mono (fun b o h=>h) (fun b o _=>dH f j q b o),(H.at_ i x e s D).2.2⟩,H.lt,H.apart,H.mb⟩
  |cells cs e _ hc=>
  refine .cells cs e _ ?_;cases hc with
  |d m ts Q L h3=>exact .d m ts Q L fun i z t S ht=>⟨(h3 i z t S ht).1.mono (fun b o h=>h) (fun b o _=>dH f j q b o),(h3 i z t S ht).2⟩
  |v vs Q L=>exact .v vs Q fun i z u S hu=>⟨(L i z u S hu).1.putObj f j q,(L i z u S hu).2⟩
 ·obtain ⟨k1,k2⟩:=I r g O;obtain ⟨g1,g2,g3⟩:=h.rows r g k1;exact ⟨g1,by show g<(E.w.putObj l y).heap.size;rw [J];exact g2,g3⟩
 ·show b<(E.w.putObj l y).heap.size
  rw [J];exact h.lt b o hs
 ·exact h.below.trans (.of rfl rfl rfl (by show _<=(E.w.putObj l y).heap.size;rw [J];exact Nat.le_refl _) (fun k hk=>World.putObj_heap_other (by omega)) (Nat.le_refl _))
 ·by_cases G:g=l
  ·subst G
   have:some y=some o:=by
    have p:upd S0.objs g (some y) g=some o:=M;rwa [ai] at p
   cases this;exact ⟨q,World.putObj_heap_same Z⟩
  ·have p:upd S0.objs l (some y) g=some o:=M;rw [ae _ _ _ _ G] at p;exact ⟨(h.obj g o p).1,(World.putObj_heap_other G).trans (h.obj g o p).2⟩
end put
end
end Go.DL
end
section
namespace Go.DL
open Go.RowKit
section
variable [Glb]{P:Program}{N:Nat}{w0:World}{S0:aa}{o:Oper}{a:Act}{E:Env}{st:St}{n:Nat}
def St.round(st:St)(p:Nat)(u:V)(off:Nat):St:={sl:=upd (st.gh 0) p u,bx:=st.bx,gh:=oX st.sl st.gh,off:=off }
def cZ(fn:FuncId)(tmps:Array Value)(p:Nat)(assign body:Code)(d:Nat):Loop:={state:=.ready,pending:=none,fn:=fn,tmps:=tmps,params:= #[p],assign:=assign,body:=body,defers:=d }
end
section
variable {P:Program}{N:Nat}{w0:World}{S0:aa}{o:Oper}{a:Act}{E:Env}{st:St}{n:Nat}
theorem qg{l:Nat}{X Y:Operand}{ats:Array TypeId}(c:o.op= .call {callee:=.value X,args:= #[Y],argTypes:=ats })(b:a.eval X= .func (.yield l) #[] #[])(w:World):
  (execOp a.eval o).run P w=(Instr.yield l #[a.eval Y]).run P w:=by
 unfold execOp;simp [c,resolve,b,Deferred.ofValue,invoke]
end
section
variable [Glb]{P:Program}{N:Nat}{w0:World}{S0:aa}{o:Oper}{a:Act}{E:Env}{st:St}{n:Nat}
theorem rB(h:SR N w0 S0 E st a.tmps)(hd: ∀n,o.dst=some n->n<N){l:Nat}{X Y:Operand}{y:O}{ats:Array TypeId}(ho:o.op= .call {callee:=.value X,args:= #[Y],argTypes:=ats })(hX:a.eval X= .func (.yield l) #[] #[])(hY:ak Y=some y)
  {fn:FuncId} {tmps:Array Value} {p z dd id1 id2 bl:Nat} {b j:Array Oper} {B s:List DI} (J:S0.objs l=some (.loop (cZ fn tmps p (.region id1 b false) (.block bl (.region id2 j false)) dd))) (hl:w0.heap.size<=l)
  (sP: ∀m,S0.vals 0 m=tmps.getD m undef) (hN:tmps.size=z) (hp:p<z) (R:bQ P z [] b b.toList=some B) (L:B.all (fun i=> !i.op.aO)=true) (T:bQ P z [] j j.toList=some s) (M:s.all (fun i=> !i.op.aO)=true)
  (off:Nat) {K:St->Prop} (hw:bp P B (st.round p (ev st.sl y) off) fun s1=>(∀ S w,s1.cx S w)/\bp P s s1 fun s2=>(∀ S w,s2.cx S w)/\K ((s2.back st).set o.dst (.t (.bool true)))) {Q:Exit->Act->World->Prop}:
  o.wpIn Fence.wide n P a E.w (fun A w'=> ∃I,K I/\bB N w0 S0 a I A w') Q:=by
 have hF: ∀f,(Fence.wide.inRound l).fn f:=fun _=>trivial
 obtain ⟨_,U⟩:=h.obj l _ J;refine ⟨fun f _=>trivial,?_⟩;rw [Oper.semAt_eq _ _ _ (fun c G=>by rw [ho] at G;cases G),qg ho hX,run_yield U rfl];refine ⟨fun C=>(by cases C),roundIn_of_wpIn trivial ?_⟩
 let v:Array Value:=tmps.setIfInBounds p (a.eval Y)
 let r:aa:={S0 with vals:=ml (fun m=>a.tmps.getD m undef) S0.vals }
 have hv:=af h.sl hY;have W:SR z w0 r E (st.round p (ev st.sl y) off) v:=by
  refine ⟨by simp [v,hN],h.base,h.glob,fun m=>?_,fun k m=>?_,h.bx,h.live,h.inj,h.rows,h.rinj,h.lt,h.below,h.s0,h.s1,h.obj,trivial⟩
  ·rw [hZ (by rw [hN];exact hp)];show VR E _ (upd (st.gh 0) p (ev st.sl y) m)
   by_cases V:m=p
   ·subst V;rw [if_pos rfl,ai];exact hv
   ·rw [if_neg V,ae _ _ _ _ V, <-sP];exact h.gh 0 m
  ·cases k with
   |zero=>exact h.sl m
   |succ k=>exact h.gh k m
 have tX:=jG (F:=Fence.wide.inRound l) (n:=n - 1) (a:={tmps:=v,defers:=[]}) hF W R L (K:=fun s1=>(∀ S w,s1.cx S w)/\bp P s s1 fun s2=>(∀ S w,s2.cx S w)/\K ((s2.back st).set o.dst (.t (.bool true))))
  (Q:=fun e A w'=>match e with
   |.normal=>bz z w0 r [] (fun s1=>(∀ S w,s1.cx S w)/\bp P s s1 fun s2=>(∀ S w,s2.cx S w)/\K ((s2.back st).set o.dst (.t (.bool true)))) A w'
   |_=>False) (fun A w C=>C) hw (id:=id1)
 have hz:(((cZ fn tmps p (.region id1 b false) (.block bl (.region id2 j false)) dd).params.zip #[a.eval Y]).foldl (fun tmps (t,a)=>tmps.setIfInBounds t a) (cZ fn tmps p (.region id1 b false) (.block bl (.region id2 j false)) dd).tmps)=v:=by
  simp [cZ,v]
 rw [hz];refine wpIn_mono tX ?_;intro e a1 w1 H;cases e with
 |normal=>
  obtain ⟨E1,s1,rfl,sV,uN,ua,Z⟩:=H;obtain ⟨_,uh⟩:=sV.obj l _ J;refine ⟨_,run_beginRound uh rfl,?_⟩
  let u:Loop:=cZ fn tmps p (.region id1 b false) (.block bl (.region id2 j false)) dd
  have uq:=sV.putObj (x:=.loop u) (y:=.loop {u with state:=.busy }) J rfl hl (ua _ _);refine wpIn_block ?_;refine wpIn_mono (jG (F:=Fence.wide.inRound l) (n:=n - 1) hF uq T M (K:=fun s2=>(∀ S w,s2.cx S w)/\K ((s2.back st).set o.dst (.t (.bool true))))
   (Q:=fun e A w'=>match e with
    |.normal=>bz z w0 {r with objs:=upd r.objs l (some (.loop {u with state:=.busy }))} a1.defers (fun s2=>(∀ S w,s2.cx S w)/\K ((s2.back st).set o.dst (.t (.bool true)))) A w'
    |_=>False) (fun A w C=>C) Z (id:=id2)) ?_
  intro e a2 w2 H;cases e with
  |normal=>
   obtain ⟨E2,s2,rfl,sW,uO,uc,D⟩:=H;have hb:(upd r.objs l (some (.loop {u with state:=.busy }))) l=some (.loop {u with state:=.busy }):=ai _ _ _;obtain ⟨_,ui⟩:=sW.obj l _ hb;refine ⟨_,_,run_endRound none ui,?_⟩;have q:=sW.putObj (x:=.loop {u with state:=.busy }) (y:=.loop u) hb rfl hl (uc _ _);have tK:upd (upd r.objs l (some (.loop {u with state:=.busy }))) l (some (.loop u))=S0.objs:=by
    funext k
    by_cases D:k=l
    ·subst D;rw [ai];exact J.symm
    ·rw [ae _ _ _ _ D,ae _ _ _ _ D]
   have fK:SR N w0 S0 (E2.put l (.loop u)) (s2.back st) a.tmps:=by
    refine ⟨h.size,q.base,q.glob,fun m=>q.gh 0 m,fun k m=>q.gh (k+1) m,q.bx,q.live,q.inj,q.rows,q.rinj,q.lt,q.below,q.s0,q.s1,fun g x hg=>q.obj g x (by show upd _ l _ g=_;rw [tK];exact hg),h.cx⟩
   refine ⟨_,D,E2.put l (.loop u),rfl,?_,by cases o.dst <;> rfl⟩;exact fK.cL (d:=o.dst) (by cases aw:o.dst with|none=>trivial|some d=>exact hd d aw) (.t _ _ (.bool true))
  |_=>exact H.elim
 |_=>exact H.elim
end
end Go.DL
end
section
namespace Go.DL
open Go.RowKit
section
variable [Glb]{P:Program}{X:List FuncId}{N:Nat}{w0:World}{S0:aa}{a:Act}{E:Env}{st:St}
def pB(l:Nat)(r:Loop):aa->World->Prop:=fun S w=>S.objs l=some (.loop r)/\w.heap.size<=l/\ ∀m,S.vals 0 m=r.tmps.getD m undef
def St.iter(st:St)(l:Nat)(r:Loop)(caps:List V)(off:Nat):St:=
 {sl:=fun m=>match m with|0=>.raw (.func (.yield l) #[] #[])|k+1=>caps[k]?.getD .top,bx:=st.bx,gh:=oX st.sl st.gh,off:=off,cx:=pB l r }
def tx(st:St)(K:St->Prop):aF->St->Prop
 |.exit _,_=>False
 |_,st2=>K (st2.back st)
def iH(N:Nat)(w0:World)(S:ar)(d:Nat->Nat->Value)(a:Act)(K:St->Prop)(f:Act)(w':World):Prop:=
 ∃(b:aa) (e:Env) (c:St) (D:Nat),e.w=w'/\SR N w0 b e c f.tmps/\b.S=S/\b.vals=d/\w0.heap.size<=D/\b.objs D=some (.deferred (some []))/\f.defers={target:=.collected D,args:= #[]}::a.defers/\K c
theorem uw(hm:P.follows .mixedOrders=true)(h:SR N w0 S0 E st a.tmps)(hcx: ∀S w,st.cx S w){g:Operand}{y:O}{p id1 id2 bl:Nat}{z A:Array Oper}(hg:ak g=some y){gf:FuncId}{caps:List V}(hv:ev st.sl y= .fn gf caps)
  {fn:Func} {dc:aQ} {N':Nat} (hf:P.funcs[gf]? =some fn) (I:(fn.body.bind (bo P N' X))=some dc) (hN:fn.ntmps=N') (hn:(fn.name== "runtime.NumGoroutine")=false) (hr:fn.results= #[]) (ha:caps.length+1<=N') (off:Nat) {K:St->Prop}
  (hw: ∀(l d:Nat) (f:FuncId) (tmps:Array Value),tmps.size=N->wpC P dc (st.iter l (cZ f tmps p (.region id1 z false) (.block bl (.region id2 A false)) d) caps off) (tx st K))
  {Q:Exit->Act->World->Prop} (hQ: ∀H w',iH N w0 S0.S S0.vals a K H w'->Q .normal H w'):(Code.rangeFunc g #[p] (.region id1 z false) (.block bl (.region id2 A false))).wp P Q a E.w:=by
 have M:=af h.sl hg;rw [hv] at M;generalize hga:a.eval g=gv at M;cases M with
 |fn _ s _ T oO=>
 refine (wpIn_wide (n:=0)).1 (wpIn_rangeFunc ?_);intro f _
 let L:=E.w.heap.size+1
 let D:=E.w.heap.size
 let C:Loop:=cZ f a.tmps p (.region id1 z false) (.block bl (.region id2 A false)) D
 let G:=(E.w.alloc (.deferred (some []))).alloc (.loop C)
 have hL1:G.heap[L]? =some (.loop C):=by
  have:=World.alloc_heap_new (E.w.alloc (.deferred (some []))) (.loop C);rwa [World.size_alloc] at this
 have hK1:G.heap[D]? =some (.deferred (some [])):=(Below.heap_alloc _ _ _ (by simp [D])).trans (World.alloc_heap_new E.w _);have J:Below E.w.heap.size E.w G:=((Below.refl _ E.w).alloc (Nat.le_refl _) _).alloc (by simp) _;have pt:=cP hf (P:=P) (f:=gf) (by cases Z:fn.body with|none=>rw [Z] at I;cases I|some c=>rfl) hn;refine ⟨L,[{target:=.collected D,args:= #[]}],G,{target:=.fn (.func gf) s,args:= #[.func (.yield L) #[] #[]]},G,gf, #[.func (.yield L) #[] #[]]++s,G,run_enterLoop_outer _ _ _ _ _,?_,fun f' _=>trivial,?_,fun B=>(by cases B),?_⟩
 ·simp only [resolve,hga];simp [go_sem]
 ·simp [invoke,go_sem,pt _ _]
 ·refine callsIn_wide.2 ?_;cases Z:fn.body with
  |none=>rw [Z] at I;cases I
  |some c=>
  rw [Z] at I;subst hN;refine calls_of_wp hf Z ?_
  let t:aa:={S:=S0.S,vals:=ml (fun m=>a.tmps.getD m undef) S0.vals,objs:=upd (upd S0.objs D (some (.deferred (some [])))) L (some (.loop C))}
  have j:=h.world J E.S (fun b o=>⟨.inl,fun B=>B.elim id fun k=>k.1⟩);have W:D≠L:=by show E.w.heap.size≠E.w.heap.size+1;omega
  have ig: ∀(k:Nat) (o:Obj),t.objs k=some o->bY o=true/\G.heap[k]? =some o:=fun k o q=>by
   have q:upd (upd S0.objs D (some (.deferred (some [])))) L (some (.loop C)) k=some o:=q
   by_cases e1:k=L
   ·subst e1;rw [ai] at q;cases q;exact ⟨rfl,hL1⟩
   ·rw [ae _ _ _ _ e1] at q
    by_cases e2:k=D
    ·subst e2;rw [ai] at q;cases q;exact ⟨rfl,hK1⟩
    ·rw [ae _ _ _ _ e2] at q;exact j.obj k o q
  have hsr:SR fn.ntmps w0 t {E with w:=G } (st.iter L C caps off) ((#[.func (.yield L) #[] #[]]++s)++Array.replicate (fn.ntmps - (#[Value.func (.yield L) #[] #[]]++s).size) undef):=by
   refine ⟨by simp [T];omega,j.base,j.glob,fun m=>?_,fun k m=>?_,j.bx,j.live,j.inj,j.rows,j.rinj,j.lt,j.below,j.s0,j.s1,ig,?_⟩
   ·cases m with
    |zero=>
     have:((#[Value.func (.yield L) #[] #[]]++s)++Array.replicate (fn.ntmps - (#[Value.func (.yield L) #[] #[]]++s).size) undef).getD 0 undef= .func (.yield L) #[] #[]:=by
      rw [Array.getD_eq_getD_getElem?,Array.getElem?_append_left (by simp;omega),Array.getElem?_append_left (by simp)];rfl
     rw [this];exact .raw _ rfl
    |succ m=>
     show VR _ _ (caps[m]?.getD .top)
     cases ht:caps[m]? with
     |none=>exact .top _
     |some u=>
      have hlt:m<s.size:=by rw [T];exact (gsZ ht).1
      have hvm:=oO m s[m] u (Array.getElem?_eq_getElem hlt) ht
      have:((#[Value.func (.yield L) #[] #[]]++s)++Array.replicate (fn.ntmps - (#[Value.func (.yield L) #[] #[]]++s).size) undef).getD (m+1) undef=s[m]:=by
       rw [Array.getD_eq_getD_getElem?,Array.getElem?_append_left (by simp;omega),Array.getElem?_append_right (by simp)];simp [hlt]
      rw [this];have gr:Grow E {E with w:=G }:=⟨rfl,fun _ I=>⟨I,rfl⟩,fun r k hr=>⟨hr,J.block k (h.rows r k hr).2.1,fun _=>Iff.rfl⟩,fun _ _ T=>T,fun b o T=>aC.cY J (h.lt b o T)⟩
      exact hvm.grow gr
   ·cases k with
    |zero=>exact j.sl m
    |succ k=>exact j.gh k m
   ·exact ⟨ai _ _ _,by have:=h.below.size;show _<=E.w.heap.size+1;omega,fun m=>rfl⟩
  refine wp_mono (lg hm I (a:={tmps:=(#[.func (.yield L) #[] #[]]++s)++Array.replicate (fn.ntmps - (#[Value.func (.yield L) #[] #[]]++s).size) undef,defers:=[]}) hsr (hw L D f a.tmps h.size)) ?_;have U: ∀{H:Act} {w':World},bz fn.ntmps w0 t [] (fun R=>K (R.back st)) H w'->H.defers=[]/\ ∃v,(results fn H.tmps).run P w'= .ok v w'/\
    rangePost Fence.wide 0 P L Q {a with defers:=[{target:=.collected D,args:= #[]}]++a.defers } (.returned v) w':=by
   rintro H w' ⟨E',R,rfl,i,hdf,q⟩;refine ⟨hdf,.tuple #[],results_none hr _ _ _,?_⟩;have Y:t.objs L=some (.loop C):=ai _ _ _;obtain ⟨_,hlw⟩:=i.obj L _ Y;refine ⟨none,_,run_endLoop hlw (by show LoopState.ready≠ .busy;simp),?_⟩;have fK:SR N w0 {S0 with objs:=t.objs } E' (R.back st) a.tmps:=
    ⟨h.size,i.base,i.glob,fun m=>i.gh 0 m,fun k m=>i.gh (k+1) m,i.bx,i.live,i.inj,i.rows,i.rinj,i.lt,i.below,i.s0,i.s1,i.obj,hcx _ _⟩
   have h2:=fK.putObj (x:=.loop C) (y:=.loop {C with state:=.exhausted }) Y rfl (by have:=h.below.size;show _<=E.w.heap.size+1;omega) (hcx _ _);refine hQ _ _ ⟨_,_,_,D,rfl,h2,rfl,rfl,h.below.size,?_,rfl,q⟩;show upd (upd (upd S0.objs D (some (.deferred (some [])))) L (some (.loop C))) L _ D=_
   rw [ae _ _ _ _ W,ae _ _ _ _ W,ai]
  intro e H w' B;cases e with
  |normal=>exact U B
  |ret=>exact U B
  |exit id=>
   obtain ⟨_,_,_,_,_,q⟩:=B;exact q.elim
  |goto l=>exact B.elim
  |panic ch=>exact B.elim
  |outgrown=>exact B.elim
end
end Go.DL
end
section
namespace Go.DL
open Go.RowKit
section
variable [Glb]{P:Program}
def rg(id:Nat):Code->Option Code
 |.region i ops d=>cond (Nat.beq i id) (some (.region i ops d)) none
 |.seq a b=>match rg id a with|some c=>some c|none=>rg id b
 |.cond _ a b=>match rg id a with|some c=>some c|none=>rg id b
 |.block _ b=>rg id b
 |.loop b=>rg id b
 |.rangeFunc _ _ a b=>match rg id a with|some c=>some c|none=>rg id b
 |_=>none
def rg0(id:Nat)(c:Option Code):Code:=((c.bind (rg id)).getD .skip)
theorem ti{f:FuncId}{fn:Func}{c:Code}(G:P.funcs[f]? =some fn)(C:fn.body=some c)(Y:(fn.name== "runtime.NumGoroutine")=false){b:List T}{e:TypeId}{size:Nat}{xs rest:List T}(W:b.length<=fn.ntmps)
  (r: ∀t∈xs.flatMap T.cells,t.flat=true) (s: ∀t∈rest,t.flat=true)
  (h: ∀(S:ar) (w:World) (a:Act),SR fn.ntmps w {S:=S } {S:=S,w:=w,B:=w.heap.size,κ:=fun _=>0,ρ:=fun _=>none,live:=fun _=>false } (ft b) a.tmps->a.defers=[]->
   c.wp P (fun x d w'=>(x= .normal\/x= .ret)/\iH fn.ntmps w S (fun _ _=>undef) {tmps:= #[],defers:=[]} (fun st=>(∀ S w,st.cx S w)/\ ∃u,eS st fn.results.toList=some (u::rest.map .t)/\((∃ q,u= .own q e size xs)\/(u= .t .nil/\xs=[]))) d w') a w):dA P f b e size xs rest:=by
 refine ⟨cP G (by rw [C];rfl) Y,fun S w vs V U j J=>?_⟩;have z:=jr (N:=fn.ntmps) V U j J W;refine (callsIn_wide (n:=0)).1 (callsIn_of_wp_marks G C trivial ((wpIn_wide (n:=0)).2 (wp_mono (h S w {tmps:=vs.toArray++Array.replicate (fn.ntmps - vs.toArray.size) undef,defers:=[]} z rfl) ?_)));have g: ∀{d:Act} {w':World},iH fn.ntmps w S (fun _ _=>undef) {tmps:= #[],defers:=[]} (fun st=>(∀ S w,st.cx S w)/\ ∃u,eS st fn.results.toList=some (u::rest.map .t)/\((∃ q,u= .own q e size xs)\/(u= .t .nil/\xs=[]))) d w'->
   LeavesInM Fence.wide 0 P fn d.tmps (fun L w'=> ∃(v:Value) (us:List Value),L= .returned (gR v us)/\Below w.heap.size w w'/\fH w w' v e size xs/\
    us.length=rest.length/\ ∀(i:Nat) (u:Value) (t:T),us[i]? =some u->rest[i]? =some t->t.flat=true/\Rep (fun _ _=>False) w' u t) d.defers .returning w':=by
  rintro d w' ⟨I,E',st',D,rfl,A,_,_,R,H,p,m,u,mV,Z⟩;rw [p];obtain ⟨_,hw⟩:=A.obj D _ H;refine ⟨by simp,.inl ⟨D,_,rfl,run_takeDeferred hw,?_⟩⟩;have M:=A.putObj (x:=.deferred (some [])) (y:=.deferred none) H rfl R (m _ _);obtain ⟨v,O,Q⟩:=lT (P:=P) M r s mV Z;exact ⟨v,O,Q⟩
 intro x d w' k;obtain ⟨hx,k⟩:=k;rcases hx with rfl|rfl
 ·exact g k
 ·exact g k
end
end Go.DL
end
section
namespace Go.DL
open Go.RowKit
section
variable [Glb]
end
section
theorem uP{c:Prop}{t:T}{K:T->Prop}(d:T)(f:c)(h:t=d)(g:K d):c/\ ∀b,t=b->K b:=⟨f,fun b e=>by rw [<- e,h];exact g⟩
theorem uL{c:Prop}{b:Bool}{K:Bool->Prop}(h:c)(g:b=true->K true)(f:b=false->K false):c/\ ∀d,b=d->K d:=⟨h,fun d e=>match d,e with|true,e=>g e|false,e=>f e⟩
theorem uM{c:Prop}{b:Bool}{K:Bool->Prop}(f:Bool)(g:c)(h:b=f)(i:K f):c/\ ∀d,b=d->K d:=⟨g,fun d e=>by rw [<- e,h];exact i⟩
end
section
variable [Glb]
theorem pC{P:Program}{f:FuncId}{ts:List T}{K:T->Prop}(r:T)(h:DCalls P f ts r)(b:K r): ∃r,DCalls P f ts r/\K r:=⟨r,h,b⟩
end
section
theorem leI{ks:List Nat}{bx:Nat->Option BX}{n m:Int}(h:n=m):LeV ks bx (.t (.int .i64 n)) (.t (.int .i64 m)):=by rw [h];exact .same _
theorem leT{ks:List Nat}{bx:Nat->Option BX}{n m:T}(h:n=m):LeV ks bx (.t n) (.t m):=by rw [h];exact .same _
theorem rM{ks:List Nat}{bx:Nat->Option BX}{r:Nat}{e:TypeId}{n:Nat}{xs ys:List T}(h:xs=ys):LeV ks bx (.own r e n xs) (.own r e n ys):=by rw [h];exact .same _
theorem uv{ks:List Nat}{bx:Nat->Option BX}{n:Nat}{ts us:List T}(h:ts=us):LeB ks bx (.d n ts) (some (.d n us)):=by rw [h];exact .same _
theorem tD{bx:Nat->Option BX}{v:V}{vs:List V}{x:T}{r:List Nat}{xs:List T}{rs:List Nat}(b:conv bx v=some (x,r))(c:bt bx vs=some (xs,rs)):bt bx (v::vs)=some (x::xs,r++rs):=by
 unfold bt;rw [b,c]
end
section
variable [Glb]
theorem uD{P:Program}{f:FuncId}{b:List V}{d:Option Nat}{st:St}{K:St->Prop}{ts:List T}{rd:List Nat}(r:T)(e:bt st.bx b=some (ts,rd))(h:DCalls P f ts r)(g:r.flat=true)(c:K (st.set d (.t r))):cO P f b d st K:=by
 unfold cO;rw [e];cases rd with
 |nil=>exact ⟨r,h,c⟩
 |cons n rd=>exact ⟨r,h,g,c⟩
theorem DCalls.less{P:Program}{f:FuncId}{ts us:List T}{r:T}(h:DCalls P f us r)(b:ts.length=us.length)
  (d: ∀(S:ar) (w:World) (i:Nat) (v:Value) (t u:T),ts[i]? =some t->us[i]? =some u->Rep S w v t->Rep S w v u):DCalls P f ts r:=
 ⟨h.1,fun S w vs j g k m=>h.2 S w vs j g (k.trans b) fun i v u p e=>by
  have c:i<ts.length:=by rw [b];exact (gsZ e).1
  exact d S w i v ts[i] u (ggZ c) e (m i v ts[i] p (ggZ c))⟩
end
section
theorem Rep.pI{S:ar}{w:World}{v:Value}(n:Nat)(h:Rep S w v .nil):Rep S w v (.slice n []):=by
 cases h;exact .slice none 0 0 0 0 n [] (fun _=>undef) rfl (Nat.le_refl _) (fun _ h=>by cases h) (fun _ h=>by cases h) (fun h=>absurd h (by simp)) (fun i h=>absurd h (by simp)) (fun i t h=>by simp at h)
end
section
variable [Glb]
theorem DCalls.res{P:Program}{f:FuncId}{ts:List T}{r c:T}(h:DCalls P f ts r)(b: ∀(S:ar) (w:World) (v:Value),Rep S w v r->Rep S w v c):DCalls P f ts c:=
 ⟨h.1,fun S w vs j i k m=>(h.2 S w vs j i k m).mono fun _ _ ⟨v,d,e,g⟩=>⟨v,d,e,b _ _ _ g⟩⟩
end
section
theorem oA{n:Int}(b: -9223372036854775808<=n)(c:n<9223372036854775808):IntKind.wrap .i64 n=n:=by
 unfold IntKind.wrap;simp [IntKind.bits,IntKind.signed];omega
end
section
variable [Glb]
theorem lY{P:Program}{K b:St->Prop}(c: ∀s,K s->b s): ∀{l:List DI} {st:St},bp P l st K->bp P l st b
 |[],_,h=>c _ h
 |_::_,_,h=>df (fun _=>lY c) h
end
end Go.DL
end
section
namespace Go.DL
open Go.RowKit
section
variable [Glb]{P:Program}{N:Nat}{st:St}
def ed(P:Program)(N:Nat)(b:Array Oper):List Nat->Option (List DI)
 |[]=>some []
 |k::ks=>match b[k]? with
  |some o=>match jY P N [] b o,ed P N b ks with
   |some i,some is=>some (i::is)
   |_,_=>none
  |none=>none
end
section
variable {P:Program}{N:Nat}{st:St}
theorem jg{F:Fence}{n:Nat}{c:Array Oper}{Q:Exit->Act->World->Prop}{k:Nat}{a:Act}{w:World}{K e:Act->World->Prop}(h: ∀a w,K a w->e a w)(b:wpOpIn F n P c Q k K a w):wpOpIn F n P c Q k e a w:=by
 unfold wpOpIn at *
 split
 ·exact h _ _ (by simpa [*] using b)
 ·rename_i o f;simp only [f] at b;split
  ·rename_i d;simp only [d,if_true] at b;exact Oper.wpIn_mono h b
  ·rename_i d;simp only [d] at b;exact ⟨b.1,h _ _ b.2⟩
end
section
variable [Glb]{P:Program}{N:Nat}{st:St}
theorem wpK{n:Nat}{w0:World}{S0:aa}{b:Array Oper}{Q:Exit->Act->World->Prop}{rest:List Nat}{ds:List Deferred}{K:St->Prop}
  (j: ∀(a:Act) (E:Env) (st:St),SR N w0 S0 E st a.tmps->a.defers=ds->K st->wpOpsIn Fence.wide n P b Q rest a E.w):
  ∀(ks:List Nat) (is:List DI) (_:ed P N b ks=some is) (_:is.all (fun i=> !i.op.aO)=true) {a:Act} {E:Env} {st:St} (_:SR N w0 S0 E st a.tmps) (_:a.defers=ds) (_:bp P is st K),wpOpsIn Fence.wide n P b Q (ks++rest) a E.w
 |[],is,hl,_,a,E,st,h,hd,hw=>by
  cases hl;exact j a E st h hd hw
 |k::ks,is,hl,hc,a,E,st,h,hd,hw=>by
  unfold ed at hl;split at hl
  ·rename_i o m;split at hl
   ·rename_i i g hi d;cases hl;simp only [List.all_cons,Bool.and_eq_true] at hc;rw [List.cons_append,wpOpsIn_cons];refine jg ?_ (nN (fun _=>trivial) h m hi (by simpa using hc.1) hw);rintro r w' ⟨p,e,q,rfl,f,c⟩;exact wpK j ks g d hc.2 f (c.trans hd) e
   ·cases hl
  ·cases hl
theorem tU{b:Array Oper}{k1 k2:List Nat}{k:Nat}(L:List.range b.size=k1++(k::k2)){g c:List DI}(h1:ed P N b k1=some g)(c1:g.all (fun i=> !i.op.aO)=true)(h2:ed P N b k2=some c)(c2:c.all (fun i=> !i.op.aO)=true)
  {o:Oper} (R:b[k]? =some o) (hg:o.guard=none) {x y d:Nat} {ats:Array TypeId} (ho:o.op= .call {callee:=.value (.tmp x),args:= #[.tmp y],argTypes:=ats }) (hd:o.dst=some d) (H:d<N)
  {fn:FuncId} {j:Array Value} {p u dd id1 id2 bl l:Nat} {e f:Array Oper} {m q:List DI} (hN:j.size=u) (hp:p<u)
  (M:bQ P u [] e e.toList=some m) (A:m.all (fun i=> !i.op.aO)=true) (O:bQ P u [] f f.toList=some q) (B:q.all (fun i=> !i.op.aO)=true) (off:Nat) {id:Nat} {Q:aF->St->Prop}
  (hw:bp P g st fun r=>(∀ S w,r.cx S w->pB l (cZ fn j p (.region id1 e false) (.block bl (.region id2 f false)) dd) S w)/\r.sl x= .raw (.func (.yield l) #[] #[])/\
   bp P m (r.round p (r.sl y) off) fun s1=>(∀ S w,s1.cx S w)/\bp P q s1 fun s2=>(∀ S w,s2.cx S w)/\bp P c ((s2.back r).set (some d) (.t (.bool true))) (Q .normal)):sE P N (.region id b false) st Q:=by
 intro w0 S0 E a h;refine (wpIn_wide (n:=0)).1 (wpIn_region ?_);rw [L];refine wpK (ds:=a.defers) (K:=_) ?_ k1 g h1 c1 h rfl hw;rintro z E1 r T D ⟨C,hx,hA⟩;rw [wpOpsIn_cons];have dV:Region.wanted o (yielded b z.tmps)=true:=by unfold Region.wanted;rw [hg]
 unfold wpOpIn;simp only [R,dV,if_true];obtain ⟨q1,q2,q3⟩:=C _ _ T.cx;have hX:z.eval (.tmp x)= .func (.yield l) #[] #[]:=by
  have:=T.sl x
  rw [hx] at this;show z.tmps.getD x undef=_
  generalize z.tmps.getD x undef=v at this;cases this;rfl
 have:=rB (n:=0) (o:=o) T (fun n Z=>by rw [hd] at Z;cases Z;exact H) ho hX (Y:=.tmp y) (y:=.tmp y) rfl q1 q2 q3 hN hp M A O B off (K:=fun s=>bp P c s (Q .normal)) (by rw [hd];exact hA) (Q:=bg N w0 S0 a.defers Q)
 refine Oper.wpIn_mono ?_ this;rintro a' w' ⟨st',J,E',rfl,V,I⟩
 have:=wpK (rest:=[]) (n:=0) (Q:=bg N w0 S0 a.defers Q) (ds:=a.defers) (K:=Q .normal) (fun a2 W s2 U G hq=>(by
  show bg N w0 S0 a.defers Q .normal a2 W.w
  exact ⟨W,s2,rfl,U,G,hq⟩)) k2 c h2 c2 V (I.trans D) J
 rwa [List.append_nil] at this
end
end Go.DL
end
section
namespace Go.DL
variable {P:Program}
theorem tj(w:World)(m sT ty e:TypeId)(size b o d g:Nat)(a:Addr)(c f:Nat)(cs:List Value)
  (z:P.underlying m=some (.slice e)) (p:(P.info? e).map (·.size)=some size) (u:cs.length=Nat.min c d * size)
  (A: ∀j v,cs[j]? =some v->w.cell? (a.add j)=some v) (r: ∀j,j<cs.length->(w.cell? ⟨b,o+j,none⟩).isSome=true) (s: ∀j,j<cs.length->w.frozen? ⟨b,o+j,none⟩=false) (q: ∀v∈cs,v.oneCell'=true):
  (Builtin.copy_ #[m,sT] ty #[.slice (some ⟨b,o,none⟩) d g,.slice (some a) c f]).run P w= .ok (goInt (Nat.min c d)) (w.setCells b o cs):=by
 have t:=run_firstCells_some (P:=P) w size (Nat.min c d) a c f cs u A;have k:=run_storeCells_cells (P:=P) b o cs 0 w (by simpa using r) (by simpa using s) q;cases h:P.info? e with
 |none=>simp [h] at p
 |some i=>
  have hi:i.size=size:=by simpa [h] using p
  simp [Builtin.copy_,run_underlying z,Builtin.lenOf,sizeOf,typeInfo,h,hi,t,k]
end Go.DL
end
section
namespace Go.DL
open Go
structure HdZ (q:Prop):Prop where
 h:q
theorem wkZ{p:Prop}(h:p:=by repeat' (first|exact wJ|exact leI (by assumption)|exact leT (by assumption)|exact rM (by assumption)|exact uv (by assumption)|exact leI (Eq.symm (by assumption))|exact leT (Eq.symm (by assumption))|exact rM (Eq.symm (by assumption))|exact lI|exact LeV.nil _ _ _|exact lB|refine And.intro ?_ ?_)):p:=h
theorem rcZ{p:Prop}(h:p:=by
 repeat' ((conv=>whnf);first
  |exact trivial
  |refine nv_ _ (by with_reducible assumption) ?_|refine nT_ ?_
  |refine pC _ (by assumption) ?_
  |refine nr (by assumption) ?_|refine nq (by assumption) ?_|refine ny (by assumption) ?_|refine nw (by assumption) ?_
  |refine nv (by assumption) ?_|refine nu (by assumption) ?_|refine nb_ _ (by assumption) ?_
  |refine aE1 ?_|refine aE0 ?_|refine aN1 ?_|refine aN0 ?_|refine aD1 ?_|refine aD0 ?_
  |refine nE_ (fun b=>?_) (fun b=>?_)|refine nN_ (fun b=>?_) (fun b=>?_)|refine nD_ (fun b=>?_) (fun b=>?_)
  |refine rb1 ?_|refine rb0 ?_|refine rbx ?_|refine rix ?_
  |refine aS ?_)):p:=h
theorem rnZ{p q:Prop}(k:q)(h:HdZ q->p:=by
 intro b
 repeat' ((conv=>whnf);first
  |exact trivial
  |refine nv_ _ (by with_reducible assumption) ?_|refine nT_ ?_
  |refine pC _ (by assumption) ?_
  |refine nr (by assumption) ?_|refine nq (by assumption) ?_|refine ny (by assumption) ?_|refine nw (by assumption) ?_
  |refine nv (by assumption) ?_|refine nu (by assumption) ?_|refine nb_ _ (by assumption) ?_
  |refine aE1 ?_|refine aE0 ?_|refine aN1 ?_|refine aN0 ?_|refine aD1 ?_|refine aD0 ?_
  |refine rb1 ?_|refine rb0 ?_|refine rbx ?_|refine rix ?_
  |refine aS ?_|exact b.h)):p:=h ⟨k⟩
abbrev LWZ(P:Program)(f:Func)(N:Nat)(X:List FuncId):={c:aQ // (f.body.bind (bo P N X))=some c}
theorem lrZ{P:Program}{N:Nat}{X:List FuncId}{f:Func}{d:aQ}(h:(f.body.bind (bo P N X))=some d:=by conv=>lhs;reduce;(try simp only [Int.ofNat_eq_natCast,Int.cast_ofNat_Int,Int.reduceNegSucc])):(f.body.bind (bo P N X))=some d:=h
section
variable [Glb]
def mkT(P:Program)(e:TypeId)(us:List T):T:=
 match P.underlying e with
 |some (.struct _)|some (.array _ _)=>.agg us
 |_=>us.headD .nil
inductive cE (P:Program):TypeId->List T->Prop
 |bool {t:TypeId} (h:P.underlying t=some .bool) (b:Bool):cE P t [.bool b]
 |int {t:TypeId} {k:IntKind} (h:P.underlying t=some (.int k)) (n:Int) (hw:(Lit.int k n).wf=true):cE P t [.int k n]
 |str {t:TypeId} (h:P.underlying t=some .string) (s:ByteArray) (hs:s.size<=maxLen):cE P t [.str s]
 |nil {t e:TypeId} (h:P.underlying t=some (.slice e)):cE P t [.nil]
 |slice {t e:TypeId} (h:P.underlying t=some (.slice e)) (xs:List (List T)) (hx: ∀x∈xs,cE P e x) (hl:xs.length<=maxLen):cE P t [.slice (P.cellsOf e) (xs.map (mkT P e))]
 |struct {t:TypeId} {fs:Array Field} (h:P.underlying t=some (.struct fs)) (us:List T) (hl:us.length=P.cellsOf t) (hf: ∀f∈fs.toList,cE P f.type ((us.drop f.offset).take (P.cellsOf f.type))):cE P t us
 |array {t e:TypeId} {n:Nat} (h:P.underlying t=some (.array n e)) (us:List T) (hl:us.length=P.cellsOf t) (hf: ∀i,i<n->cE P e ((us.drop (i * P.cellsOf e)).take (P.cellsOf e))):cE P t us
def dP(P:Program):Nat->List Field->Nat
 |off,[]=>off
 |off,f::fs=>if f.offset=off then dP P (off+P.cellsOf f.type) fs else 0
def fj(P:Program)(L:List TypeId):Bool:=L.all fun t=>match P.underlying t with
 |some .bool|some (.int _)|some .string=>Nat.beq (P.cellsOf t) 1
 |some (.slice e)=>Nat.beq (P.cellsOf t) 1&&L.contains e
 |some (.struct fs)=>(fs.toList.all fun f=>L.contains f.type)&&Nat.beq (dP P 0 fs.toList) (P.cellsOf t)&&Nat.ble 1 (P.cellsOf t)
 |some (.array n e)=>L.contains e&&Nat.beq (P.cellsOf t) (n * P.cellsOf e)&&Nat.ble 1 (P.cellsOf t)
 |_=>false
structure Weigh (H:Type) where
 B:DataW H->Nat
 BA:List (DataW H)->Nat
 lit: ∀l,1<=B (.lit l)
 str: ∀s,s.length+1<=B (.lit (.string s))
 nil:1<=B .nil
 slice: ∀e s,BA e+1<=B (.slice e s)
 agg: ∀p,BA p<=B (.agg p)
 allc: ∀d r,B d+BA r<=BA (d::r)
mutual
def T.bulk:T->Nat
 |.str s=>s.size+1
 |.slice _ xs=>aU xs+1
 |.agg cs=>aU cs
 |_=>1
def aU:List T->Nat
 |[]=>0
 |t::ts=>t.bulk+aU ts
end
end
section
theorem iJ: ∀{a b:List T},aU (a++b)=aU a+aU b
 |[],b=>by simp [aU]
 |x::a,b=>by simp only [List.cons_append,aU,iJ (a:=a)];omega
theorem Weigh.sum{H:Type}(K:Weigh H): ∀(l:List (DataW H)),(l.map K.B).sum<=K.BA l
 |[]=>by simp
 |d::l=>by
  have:=K.sum l
  have:=K.allc d l
  simp only [List.map_cons,List.sum_cons];omega
end
section
variable [Glb]
def Got(P:Program)(W:World)(t:TypeId)(cs:List Value)(us:List T):Prop:=
 us.length=cs.length/\cs.length=P.cellsOf t/\(∀ u∈us,u.one=true)/\(∀ (i:Nat) (v:Value) (u:T),cs[i]? =some v->us[i]? =some u->Rep (fun b _=>b<W.heap.size) W v u)/\cE P t us
end
section
theorem gJ{P:Program}{W:World}{t:TypeId}{v:Value}{u:T}(f:P.cellsOf t=1)(e:u.one=true)(h:Rep (fun b _=>b<W.heap.size) W v u)(g:cE P t [u]):Got P W t [v] [u]:=by
 refine ⟨rfl,f.symm,by simpa using e,fun i x y c d=>?_,g⟩;cases i with
 |zero=>simp at c d;subst c;subst d;exact h
 |succ i=>simp at c
theorem pG{P:Program}{L:List TypeId}(f:fj P L=true){e:TypeId}{us:List T}(g:e∈L)(h:cE P e us)(b: ∀u∈us,u.one=true):(mkT P e us).cells=us:=by
 unfold mkT;cases h with
 |struct h us d c=>rw [h];rfl
 |array h us d c=>rw [h];rfl
 |bool h|int h|str h|nil h|slice h=>rw [h];exact T.cells_one (b _ (by simp))
theorem qN{P:Program}{e:TypeId}{us:List T}(h:cE P e us):(mkT P e us).bulk=aU us:=by
 unfold mkT;cases h with
 |struct h us c b=>rw [h];rfl
 |array h us c b=>rw [h];rfl
 |bool h|int h|str h|nil h|slice h=>rw [h];simp [aU]
theorem lH{P:Program}{e:TypeId}{f:Nat->List T}: ∀{n k:Nat} {bs:List Nat},bs.length=n->(∀ i,i<n->cE P e (f (k+i))/\aU (f (k+i))<=bs.getD i 0)->aU (((List.range' k n).map f).map (mkT P e))<=bs.sum
 |0,k,bs,hl,h=>by simp [aU]
 |n+1,k,b::bs,hl,h=>by
  rw [List.range'_succ,List.map_cons,List.map_cons];have c:=h 0 (by omega);have d:=lH (P:=P) (e:=e) (f:=f) (n:=n) (k:=k+1) (bs:=bs) (by simpa using hl) fun i hi=>by
   have:=h (i+1) (by omega)
   have e:k+1+i=k+(i+1):=by omega
   rw [e];simpa using this
  simp only [aU,List.sum_cons];rw [qN (by simpa using c.1)]
  have:=c.2
  simp at this;omega
theorem km{w:World}{base:Nat}{a:Addr}{n:Nat}{cs:List Value}(h:w.cells? base a n=some cs):cs.length=n/\ ∀j,j<n->w.cell? (a.add j)=cs[j]? :=by
 unfold World.cells? at h;split at h
 ·exact ⟨by simpa using mapM_some_length h,fun j b=>mapM_some_get h j j (by simp [b])⟩
 ·cases h
theorem qV{P:Program}{W:World}{L:List TypeId}(hL:fj P L=true){e:TypeId}(he:e∈L){base:Nat}{a:Addr}{len cap:Nat}(Y:len<=cap)
  {bs:List Nat} (V:bs.length=len) (hc: ∀i,i<len-> ∃cs us,W.cells? base (a.add (i * P.cellsOf e)) (P.cellsOf e)=some cs/\Got P W e cs us/\aU us<=bs.getD i 0):
  ∃xs:List (List T),xs.length=len/\(∀ x∈xs,cE P e x)/\aU (xs.map (mkT P e))<=bs.sum/\Rep (fun b _=>b<W.heap.size) W (.slice (some a) len cap) (.slice (P.cellsOf e) (xs.map (mkT P e))):=by
 have h0: ∀i, ∃us,i<len-> ∃cs,W.cells? base (a.add (i * P.cellsOf e)) (P.cellsOf e)=some cs/\Got P W e cs us/\aU us<=bs.getD i 0:=fun i=>by
  by_cases h:i<len
  ·obtain ⟨cs,us,m,z⟩:=hc i h;exact ⟨us,fun _=>⟨cs,m,z⟩⟩
  ·exact ⟨[],fun h'=>absurd h' h⟩
 obtain ⟨f,D⟩:=Classical.axiomOfChoice h0;have p: ∀i,i<len->(mkT P e (f i)).cells=f i/\(f i).length=P.cellsOf e:=fun i hi=>by
  obtain ⟨cs,m,⟨z,O,C,Q,A⟩,R⟩:=D i hi;exact ⟨pG hL he A C,z.trans O⟩
 have r: ∀x∈((List.range len).map f).map (mkT P e),x.cells.length=P.cellsOf e:=fun x H=>by
  simp only [List.mem_map,List.mem_range] at H;obtain ⟨us,⟨i,hi,rfl⟩,rfl⟩:=H;rw [(p i hi).1,(p i hi).2]
 have c:((((List.range len).map f).map (mkT P e)).flatMap T.cells).length=len * P.cellsOf e:=by rw [aJ r];simp
 have ic: ∀i j,i<len->j<P.cellsOf e->((((List.range len).map f).map (mkT P e)).flatMap T.cells)[i * P.cellsOf e+j]? =(f i)[j]? :=fun i j hi d=>by
  rw [jR r i (mkT P e (f i)) (by simp [hi]) j d,(p i hi).1]
 have I: ∀k,k<len * P.cellsOf e-> ∃i j,i<len/\j<P.cellsOf e/\k=i * P.cellsOf e+j:=fun k g=>by
  have hp:0<P.cellsOf e:=Nat.pos_of_ne_zero fun h=>by rw [h] at g;simp at g
  exact ⟨k / P.cellsOf e,k % P.cellsOf e,Nat.div_lt_of_lt_mul (by rwa [Nat.mul_comm]),Nat.mod_lt _ hp,by rw [Nat.mul_comm];exact (Nat.div_add_mod k _).symm⟩
 refine ⟨(List.range len).map f,by simp,fun x H=>?_,?_,?_⟩
 ·simp only [List.mem_map,List.mem_range] at H;obtain ⟨i,hi,rfl⟩:=H;obtain ⟨cs,m,⟨z,O,C,Q,A⟩,R⟩:=D i hi;exact A
 ·rw [List.range_eq_range'];refine lH V fun i hi=>?_
  obtain ⟨cs,m,⟨z,O,C,Q,A⟩,R⟩:=D i hi;rw [Nat.zero_add];exact ⟨A,R⟩
 have J: ∀i j,i<len->j<P.cellsOf e-> ∃v,W.cell? ⟨a.block,a.off+(i * P.cellsOf e+j),none⟩=some v/\(a.spot=none)/\ ∃u,(f i)[j]? =some u/\u.one=true/\Rep (fun b _=>b<W.heap.size) W v u:=fun i j hi d=>by
  obtain ⟨cs,m,⟨z,O,C,Q,A⟩,R⟩:=D i hi;obtain ⟨e1,Z⟩:=km m;have G:j<cs.length:=by omega
  have q:j<(f i).length:=by omega
  have M:=Z j d;rw [ggZ G] at M;have U:=World.cell?_spot M;have w:a.spot=none:=by
   have h00:=Z 0 (by omega)
   have:=D 0 (by omega)
   obtain ⟨cs0,g1,⟨g2,g3,_,_,_⟩,_⟩:=this;obtain ⟨_,q2⟩:=km g1;have q3:=q2 0 (by omega);rw [ggZ (by omega)] at q3;simpa [Addr.add] using World.cell?_spot q3
  have ea:((a.add (i * P.cellsOf e)).add j)=⟨a.block,a.off+(i * P.cellsOf e+j),none⟩:=by
   obtain ⟨b,o,U⟩:=a;dsimp only at w;subst w;unfold Addr.add;split <;> split <;> simp_all <;> omega
  rw [ea] at M;exact ⟨_,M,w,(f i)[j],by simp [q],C _ (List.getElem_mem q),Q j _ _ (ggZ G) (ggZ q)⟩
 refine .slice (some a) a.block a.off len cap (P.cellsOf e) _ (fun k=>(W.cell? ⟨a.block,a.off+k,none⟩).getD (.bool false)) (by simp) Y r (fun t B=>?_) (fun h=>?_) (fun k g=>?_) fun k t B=>?_
 ·obtain ⟨k,g⟩:=List.mem_iff_getElem?.1 B;obtain ⟨i,j,hi,d,rfl⟩:=I k (by rw [<- c];exact (gsZ g).1);rw [ic i j hi d] at g;obtain ⟨v,_,_,u,r,m,_⟩:=J i j hi d;rw [r] at g;cases g;exact m
 ·rw [c] at h;obtain ⟨i,j,hi,d,_⟩:=I 0 h;obtain ⟨v,_,U,_⟩:=J i j hi d;obtain ⟨b,o,s⟩:=a;dsimp only at U;rw [U]
 ·rw [c] at g;obtain ⟨i,j,hi,d,rfl⟩:=I k g;obtain ⟨v,S,_⟩:=J i j hi d;refine ⟨by rw [S];rfl,?_⟩;exact World.block_lt_of_cell? W ⟨a.block,a.off+(i * P.cellsOf e+j),none⟩ S
 ·obtain ⟨i,j,hi,d,rfl⟩:=I k (by rw [<- c];exact (gsZ B).1);rw [ic i j hi d] at B;obtain ⟨v,S,_,u,r,_,hr⟩:=J i j hi d;rw [r] at B;cases B;rw [S];exact hr
end
section
variable [Glb]
def tV(P:Program)(W:World)(cs:List Value)(fs:List Field)(off:Nat)(us:List T):Prop:=
 off+us.length=cs.length/\(∀ u∈us,u.one=true)/\(∀ (i:Nat) (v:Value) (u:T),cs[off+i]? =some v->us[i]? =some u->Rep (fun b _=>b<W.heap.size) W v u)/\
  ∀f∈fs,off<=f.offset/\cE P f.type ((us.drop (f.offset - off)).take (P.cellsOf f.type))
end
section
theorem mJ{P:Program}: ∀{fs:List Field} {off n:Nat},dP P off fs=n->1<=n->off<=n
 |[],off,n,h,_=>by simp [dP] at h;omega
 |f::fs,off,n,h,h1=>by
  unfold dP at h;split at h
  ·have:=mJ h h1;omega
  ·omega
theorem gY{P:Program}{W:World}{cs:List Value}: ∀{fs:List Field} {off:Nat} {bs:List Nat},bs.length=fs.length->dP P off fs=cs.length->1<=cs.length->
  (∀ (i:Nat) (f:Field),fs[i]? =some f-> ∃us,Got P W f.type ((cs.drop f.offset).take (P.cellsOf f.type)) us/\aU us<=bs.getD i 0)-> ∃us,tV P W cs fs off us/\aU us<=bs.sum
 |[],off,bs,hbs,h,h1,hg=>by
  simp only [dP] at h;exact ⟨[],⟨by simpa using h,by simp,by simp,by simp⟩,by simp [aU]⟩
 |f::fs,off,b::bs,hbs,h,h1,hg=>by
  unfold dP at h;split at h
  ·rename_i k;obtain ⟨us,⟨p,q,r,s,t⟩,gb⟩:=hg 0 f rfl;obtain ⟨vs,⟨k1,k2,A,B⟩,D⟩:=gY (bs:=bs) (by simpa using hbs) h h1 fun i g c=>by simpa using hg (i+1) g (by simpa using c)
   have w:=mJ h h1;have j:us.length=P.cellsOf f.type:=by rw [p];exact q
   refine ⟨us++vs,⟨by simp;omega,fun u d=>(List.mem_append.1 d).elim (r u) (k2 u),fun i v u m d=>?_,fun g c=>?_⟩,by
    rw [iJ,List.sum_cons];simp at gb
    omega⟩
   ·rcases Nat.lt_or_ge i us.length with hi|hi
    ·rw [List.getElem?_append_left hi] at d;refine s i v u ?_ d;rw [List.getElem?_take_of_lt (by omega),List.getElem?_drop,k];exact m
    ·rw [List.getElem?_append_right hi] at d;refine A (i - us.length) v u ?_ d;rw [<- j]
     have:off+us.length+(i - us.length)=off+i:=by omega
     rw [this];exact m
   ·rcases List.mem_cons.1 c with rfl|z
    ·refine ⟨by omega,?_⟩;rw [k,Nat.sub_self,List.drop_zero, <-j,List.take_left']
     ·exact t
     ·rfl
    ·obtain ⟨G,C⟩:=B g z;refine ⟨by omega,?_⟩;have e:(us++vs).drop (g.offset - off)=vs.drop (g.offset - (off+P.cellsOf f.type)):=by
      rw [List.drop_append,List.drop_eq_nil_of_le (by omega),List.nil_append]
      congr 1
      omega
     rw [e];exact C
  ·omega
theorem kz{P:Program}{e:TypeId}: ∀(m k:Nat),dP P (k * P.cellsOf e) ((List.range' k m).map fun i=>{name:= "",type:=e,offset:=i * P.cellsOf e,embedded:=false,tag:= "",pkgPath:= "",byteOffset:=0 })=(k+m) * P.cellsOf e
 |0,k=>rfl
 |m+1,k=>by
  rw [List.range'_succ,List.map_cons];unfold dP;rw [if_pos rfl]
  have:=kz (P:=P) (e:=e) m (k+1)
  dsimp only at this ⊢;rw [Nat.succ_mul] at this;rw [this]
  congr 1
  omega
theorem kW{P:Program}{W:World}{H:Type}(K:Weigh H){enc:TypeId×Value->H}{base:Nat}{spare:Nat->Bool}{held:Bool}{L:List TypeId}(J:fj P L=true):
  ∀(m:Nat) (t:TypeId) (cs:List Value) (x:DataW H×List MemPlace),t∈L->DataW.trod enc P W base spare held m t cs=some x-> ∃us,Got P W t cs us/\aU us<=K.B x.1
 |0,t,cs,x,ht,h=>by simp [DataW.trod] at h
 |m+1,t,cs,x,ht,h=>by
  have Q:=kW (P:=P) (W:=W) K (enc:=enc) (base:=base) (spare:=spare) (held:=held) J m;have c:=List.all_eq_true.1 J t ht;unfold DataW.trod at h;cases r:P.underlying t with
  |none=>rw [r] at c;cases c
  |some d=>
   rw [r] at c h;cases d <;> try (simp at c;done)
   case bool=>
    have c:P.cellsOf t=1:=by simpa using c
    split at h <;> try (simp_all;done)
    rename_i b _;cases h;exact ⟨[.bool b],gJ c rfl (.bool b) (.bool r b),by have:=K.lit (.bool b);simpa [aU,T.bulk] using this⟩
   case int k=>
    have q:P.cellsOf t=1:=by simpa using c
    clear c;split at h <;> try (simp_all;done)
    rename_i k1 k2 n w;cases w;split at h
    ·rename_i M;obtain ⟨rfl,hw⟩:=M;cases h;exact ⟨[.int _ n],gJ q rfl (.int _ n) (.int r n hw),by have:=K.lit (.int k2 n);simpa [aU,T.bulk] using this⟩
    ·cases h
   case string=>
    have c:P.cellsOf t=1:=by simpa using c
    split at h <;> try (simp_all;done)
    rename_i s _;split at h
    ·rename_i M;cases h;exact ⟨[.str s],gJ c rfl (.str s) (.str r s M),by have:=K.str s.data.toList;simpa [aU,T.bulk] using this⟩
    ·cases h
   case slice e=>
    simp only [Bool.and_eq_true,List.contains_iff_mem] at c;have q:P.cellsOf t=1:=by simpa using c.1
    have w:=c.2;clear c;split at h <;> try (simp_all;done)
    ·cases h;exact ⟨[.nil],gJ q rfl .nil (.nil r),by have:=K.nil;simpa [aU,T.bulk] using this⟩
    ·rename_i e1 a len cap z;cases z;dsimp only at h;split at h
     ·rename_i hb;obtain ⟨g,p,eW⟩:=Option.bind_eq_some_iff.1 h;obtain ⟨rest,_,C⟩:=Option.map_eq_some_iff.1 eW;have v:g.length=len:=by simpa using mapM_some_length p
      obtain ⟨xs,x1,x2,xb,x3⟩:=qV (W:=W) J w (base:=base) (a:=a) hb.2.1 (bs:=(g.map (·.1)).map K.B) (by simpa using v) fun i hi=>by
       have u:=mapM_some_get p i i (by simp [hi]);rw [ggZ (by omega)] at u;obtain ⟨cs,h5,h6⟩:=Option.bind_eq_some_iff.1 u;obtain ⟨us,h7,h8⟩:=Q e cs _ w h6;exact ⟨cs,us,h5,h7,by simp [ggZ (show i<g.length by omega)];exact h8⟩
      refine ⟨_,gJ q rfl x3 (.slice r xs x2 (by omega)),?_⟩;have Z:=K.sum (g.map (·.1))
      have I:=K.slice (g.map (·.1)) (rest.map (·.1))
      cases C;simp only [aU,T.bulk];omega
     ·cases h
   case struct fs=>
    simp only [Bool.and_eq_true,List.contains_iff_mem,List.all_eq_true] at c;have hd:dP P 0 fs.toList=P.cellsOf t:=by simpa using c.1.2
    have hp:1<=P.cellsOf t:=by simpa using c.2
    have hm:=c.1.1;clear c;split at h <;> try (simp_all;done)
    rename_i fs' z;cases z;split at h
    ·rename_i G;obtain ⟨ys,p,C⟩:=Option.map_eq_some_iff.1 h;obtain ⟨us,⟨Z,I,R,S⟩,qb⟩:=gY (P:=P) (W:=W) (fs:=fs.toList) (off:=0) (bs:=(ys.map (·.1)).map K.B) (by simpa using mapM_some_length p) (by rw [hd];exact G.symm) (by omega) fun i f hi=>by
      have v:=mapM_some_get p i f hi;have u:i<ys.length:=by rw [mapM_some_length p];exact (gsZ hi).1
      rw [ggZ u] at v;obtain ⟨us,U,V⟩:=Q f.type _ _ (hm f (List.mem_of_getElem? hi)) v;exact ⟨us,U,by simp [ggZ u];exact V⟩
     refine ⟨us,⟨by omega,G,I,fun i=>by simpa using R i,.struct r us (by omega) fun f D=>by simpa using (S f D).2⟩,?_⟩;have z1:=K.sum (ys.map (·.1))
     have z2:=K.agg (ys.map (·.1))
     cases C;dsimp only;omega
    ·cases h
   case array n e=>
    simp only [Bool.and_eq_true,List.contains_iff_mem] at c;have hd:P.cellsOf t=n * P.cellsOf e:=by simpa using c.1.2
    have O:1<=P.cellsOf t:=by simpa using c.2
    have w:=c.1.1;clear c;split at h <;> try (simp_all;done)
    rename_i c0 n' e' z;cases z;rename_i Y _;split at h
    ·rename_i G;obtain ⟨ys,p,C⟩:=Option.map_eq_some_iff.1 h;have hg: ∀i,i<n-> ∃us,Got P W e ((Y.drop (i * P.cellsOf e)).take (P.cellsOf e)) us/\aU us<=((ys.map (·.1)).map K.B).getD i 0:=fun i hi=>by
      have v:=mapM_some_get p i i (by simp [hi]);have u:i<ys.length:=by rw [mapM_some_length p];simpa using hi
      rw [ggZ u] at v;obtain ⟨us,U,V⟩:=Q e _ _ w v;exact ⟨us,U,by simp [ggZ u];exact V⟩
     have A:=kz (P:=P) (e:=e) n 0;rw [Nat.zero_mul,Nat.zero_add, <-List.range_eq_range'] at A;rcases Nat.eq_zero_or_pos (n * P.cellsOf e) with h0|h0
     ·have hz:P.cellsOf t=0:=by omega
      simp [hz] at O
     ·obtain ⟨us,⟨Z,I,R,S⟩,qb⟩:=gY (P:=P) (W:=W) (cs:=Y) (fs:=(List.range n).map fun i=>{name:= "",type:=e,offset:=i * P.cellsOf e,embedded:=false,tag:= "",pkgPath:= "",byteOffset:=0 }) (off:=0) (bs:=(ys.map (·.1)).map K.B) (by simpa using mapM_some_length p) (by rw [A];omega) (by omega) fun i f D=>by
       rw [List.getElem?_map] at D;obtain ⟨j,hj,rfl⟩:=Option.map_eq_some_iff.1 D;obtain ⟨hi,rfl⟩:=gsZ hj
       have:=hg i (by simpa using hi)
       simpa using this
      refine ⟨us,⟨by omega,G,I,fun i=>by simpa using R i,.array r us (by omega) fun i hi=>by simpa using (S _ (List.mem_map.2 ⟨i,List.mem_range.2 hi,rfl⟩)).2⟩,?_⟩;have z1:=K.sum (ys.map (·.1))
      have z2:=K.agg (ys.map (·.1))
      cases C;dsimp only;omega
    ·cases h
end
section
variable [Glb]
end
end Go.DL
end
section
namespace Go.DL
open Go Go.ChangeShapes Go.WideShapes Go.ChangeAt Go.RowKit
section
variable [Glb]
end
section
theorem rR{P:Program}{W:World}{H:Type}(K:Weigh H){enc:TypeId×Value->H}{base:Nat}{spare:Nat->Bool}{held:Bool}{L:List TypeId}(z:fj P L=true){r:Reach}{f:Nat}
  {t:TypeId} {v:Value} {d:DataW H} {p:List MemPlace} (A:t∈L) (c:Value.okWide P W r f t v) (h:DataW.Trod enc P W base spare held t v d p):
  ∃us,cE P t us/\aU us<=K.B d/\Rep (fun b _=>b<W.heap.size) W v (mkT P t us):=by
 obtain ⟨j,I⟩:=h;obtain ⟨us,⟨m,M,C,q,D⟩,gb⟩:=kW K z j t _ _ A I;refine ⟨us,D,gb,?_⟩;have s:=List.all_eq_true.1 z t A;unfold mkT;unfold Value.okWide at c;cases g:P.underlying t with
 |none=>rw [g] at s;cases s
 |some d=>
  rw [g] at s c;have one:v.cells= #[v]->Rep (fun b _=>b<W.heap.size) W v (us.headD .nil):=fun w=>by
   rw [w] at m q;have G:us.length=1:=m
   match us,G with
   |[u],_=>exact q 0 v u rfl rfl
  have agg:(∃ cs,v= .agg cs/\cs.size=P.cellsOf t/\Row.okWide P W r f t cs)->Rep (fun b _=>b<W.heap.size) W v (.agg us):=fun ⟨cs,w,_,_⟩=>by
   subst w;have e:(Value.agg cs).cells.toList=cs.toList:=rfl;rw [e] at m q;exact .agg cs us (by simpa using m.symm) C fun i x u J g=>q i x u (by simpa using J) g
  cases d <;> try (simp at s;done)
  case bool=>exact one (by unfold Cell.okWide Cell.ok at c;rw [g] at c;cases v <;> first|rfl|cases c)
  case int k=>exact one (by unfold Cell.okWide Cell.ok at c;rw [g] at c;cases v <;> first|rfl|cases c)
  case string=>exact one (by unfold Cell.okWide Cell.ok at c;rw [g] at c;cases v <;> first|rfl|cases c)
  case slice e=>exact one (by unfold Cell.okWide Cell.ok at c;rw [g] at c;cases v <;> first|rfl|cases c)
  case struct fs=>exact agg c
  case array n e=>exact agg c
end
section
variable [Glb]
def HasAll(P:Program):List TypeId->List (List T)->Prop
 |[],[]=>True
 |t::ts,us::uss=>cE P t us/\HasAll P ts uss
 |_,_=>False
def mkAll(P:Program):List TypeId->List (List T)->List T
 |t::ts,us::uss=>mkT P t us::mkAll P ts uss
 |_,_=>[]
def bulkA:List (List T)->Nat
 |[]=>0
 |us::uss=>aU us+bulkA uss
end
section
theorem mz{P:Program}{W:World}{H:Type}(K:Weigh H){enc:TypeId×Value->H}{spare:Nat->Bool}{held:Bool}{L:List TypeId}(m:fj P L=true){base e:Nat}{r:Reach}:
  ∀{ts:List TypeId} {vs:List Value} {ds:List (DataW H)} {p:List MemPlace},(∀ t∈ts,t∈L)->(∀ (j:Nat) t v,ts[j]? =some t->vs[j]? =some v->Value.okWide P W r e t v)->
   DataW.TrodAll enc P W base spare held ts vs ds p-> ∃c,HasAll P ts c/\bulkA c<=K.BA ds/\vs.length=(mkAll P ts c).length/\
    ∀(i:Nat) (v:Value) (t:T),vs[i]? =some v->(mkAll P ts c)[i]? =some t->Rep (fun b _=>b<W.heap.size) W v t
 |[],vs,ds,p,_,_,h=>by
  obtain ⟨rfl,rfl,rfl⟩:=trodAll_nil h;exact ⟨[],trivial,by simp [bulkA],rfl,by simp⟩
 |t::ts,vs,ds,p,hm,hok,h=>by
  obtain ⟨v,J,d,g,q,Q,rfl,rfl,rfl,C,D⟩:=trodAll_cons h;obtain ⟨us,s,M,w⟩:=rR K m (hm t (by simp)) (hok 0 t v rfl rfl) C;obtain ⟨c,z,O,A,B⟩:=mz K m (fun x f=>hm x (by simp [f])) (fun j t v G I=>hok (j+1) t v (by simpa using G) (by simpa using I)) D;refine ⟨us::c,⟨s,z⟩,by have:=K.allc d g;simp only [bulkA];omega,by simp [mkAll,A],fun i x u f k=>?_⟩;cases i with
  |zero=>simp [mkAll] at f k;subst f;subst k;exact w
  |succ i=>exact B i x u (by simpa using f) (by simpa [mkAll] using k)
theorem iG{P:Program}{W c:World}{H:Type}{enc:TypeId×Value->H}(g:laidOutB P=true)(f:Below W.heap.size W c):
  ∀{ts:List TypeId} {vs:List Value} {ds:List (DataW H)} {p:List MemPlace},ts.all (fun t=>P.readableRec t&&Nat.blt t P.types.size)=true->DataW.TrodAll enc P W 0 (fun _=>true) true ts vs ds p->
   DataW.TrodAll enc P c 0 (fun b=>decide (b<W.heap.size)) true ts vs ds p
 |[],vs,ds,p,_,h=>by
  obtain ⟨rfl,rfl,rfl⟩:=trodAll_nil h;exact trodAll_mk0
 |t::ts,vs,ds,p,hr,h=>by
  simp only [List.all_cons,Bool.and_eq_true] at hr;obtain ⟨v,r,d,i,q,s,rfl,rfl,rfl,e,j⟩:=trodAll_cons h;have lt: ∀x∈q,x.block<W.heap.size:=by obtain ⟨m,k⟩:=e;exact DataW.trod_lt m _ _ _ k
  exact trodAll_cons_mk (Go.RowKit.Below.trod g hr.1.1 (nlZ hr.1.2) e f.toBelow lt) (iG g f hr.2 j)
theorem jJ{P:Program}{W:World}{H:Type}{enc:TypeId×Value->H}{base:Nat}{spare:Nat->Bool}{held:Bool}:
  ∀{ts:List TypeId} {vs:List Value} {ds:List (DataW H)} {p:List MemPlace},DataW.TrodAll enc P W base spare held ts vs ds p->ds.length=ts.length
 |[],vs,ds,p,h=>by
  obtain ⟨rfl,rfl,rfl⟩:=trodAll_nil h;rfl
 |t::ts,vs,ds,p,h=>by
  obtain ⟨v,e,d,b,q,g,rfl,rfl,rfl,f,c⟩:=trodAll_cons h;simp [jJ c]
end
section
variable [Glb]
structure LawFits (C:Checked) (f:Func) (s:ChangeSpec) (L:List TypeId) (tb:TypeId):Prop where
 laid:laidOutB C.prog=true
 closed:fj C.prog L=true
 params:f.params.toList.all (fun t=>L.contains t)=true
 readable:f.params.toList.all (fun t=>C.prog.readableRec t&&Nat.blt t C.prog.types.size)=true
 res:f.resultTypes.toList=[tb]
 bool:C.prog.underlying tb=some .bool
 vars:s.vars=[]
 fn: ∀(H:Type) (ds:List (DataW H)),ds.length=f.params.toList.length->s.fn H (ds++[])={results:=[.lit (.bool true)],args:=ds }
theorem nQ{C:Checked}{F:FuncId}{f:Func}{H:Type}{enc:TypeId×Value->H}{s:ChangeSpec}{L:List TypeId}{V:TypeId}(d:LawFits C f s L V)(K:Weigh H){N:Nat}
  (law: ∀g,HasAll C.prog f.params.toList g->bulkA g<=N->DCalls C.prog F (mkAll C.prog f.params.toList g) (.bool true))
  {W:World} {base:Nat} {c:Array Value} {ds gs:List (DataW H)} {i:List MemPlace}
  (J: ∀(j:Nat) t v,f.params[j]? =some t->c[j]? =some v->Value.okWide C.prog W .any base t v)
  (D:DataW.Whole enc C.prog f.params.toList s.vars false W c.toList ds gs i) (Q:K.BA ds<=N) (O:bH (fun b _=>b<W.heap.size) W):
  Calls C.prog F c W fun e A=> ∃v,e= .returned v/\s.post enc C.prog f false true false false W c v A:=by
 have u:=D;obtain ⟨p,q,r,B,rfl,S,T⟩:=D;rw [d.vars] at B;obtain ⟨rfl,rfl⟩:=trodVars_none B;obtain ⟨g,Y,ub,Z,u3⟩:=mz K d.closed (fun t w=>by simpa using List.all_eq_true.1 d.params t w) (fun j t v w U=>J j t v (by simpa using w) (by simpa using U)) r;have G:=(law g Y (Nat.le_trans ub Q)).2 (fun b _=>b<W.heap.size) W c.toList (fun b o h=>h) O Z u3;have k:=d.fn H ds (jJ r);have e:c.toList.toArray=c:=by simp
 rw [e] at G;refine G.mono fun ex A ⟨v,R,m,I⟩=>?_
 subst R;have z:v= .bool true:=by cases I;rfl
 subst z;refine ⟨_,rfl,_,_,_,[],p,[],u,?_,?_,?_,m.frame _,fun h=>by cases h⟩
 ·have M:f.resultTypes.size=1:=by rw [<- Array.length_toList,d.res];rfl
  rw [d.res,k,M];exact trodAll_mk1 (shut_bool d.bool _)
 ·rw [k];exact iG d.laid m d.readable r
 ·rw [d.vars,k];exact rfl
theorem nT(b: ∀g,(Glb.gs g:Option (List T))=none)(S:ar)(w:World):bH S w:=fun g cs h=>by rw [b] at h;cases h
theorem law_upto{C:Checked}{z:Os}{F:FuncId}{f:Func}{H:Type}{enc:TypeId×Value->H}{s:ChangeSpec}{S:OpenSpec}{k:(H:Type)->List (DataW H)->Bool}{c:List PathCond}{L:List TypeId}{R:TypeId}(m:LawFits C f s L R)(K:Weigh H)(v: ∀g,(Glb.gs g:Option (List T))=none){N:Nat}
  (J:S={OpenSpec.ofChange s with cond:=some k }) (O: ∀ds,k H ds=true->K.BA ds<=N) {I:Stop.Interp}
  (own:ownKnob C.prog.godebug=none) (d:z.Started) (h:C.prog.inits.idxOf? F=none) (u:C.prog.funcs[F]? =some f)
  (e: ∃(w:World) (b:Tape) (i:Input),w.os=z/\(w.forCall b i).Shaped C.prog/\i.vars=[]/\Input.okWide C.prog (w.forCall b i) .any w.heap.size F i/\
   S.pre6 enc C.prog f c false (w.forCall b i).memory i.args/\(({}:Assume)).holds C.prog (lone (Frame.enter C.prog F i.args .normal) [] (w.forCall b i)))
  (law: ∀j,HasAll C.prog f.params.toList j->bulkA j<=N->DCalls C.prog F (mkAll C.prog f.params.toList j) (.bool true)):
  ReturnsInHanded {} C z F .any (S.pre6 enc C.prog f c false) ((S.at I).post enc C.prog f false true false false):=by
 subst J;refine returnsInHanded_of_cond (s:={OpenSpec.ofChange s with cond:=some k }) (k:=k) rfl own d h u e ?_;intro W base A ds gs t G D _ r _;have M:gs=[]:=by
  obtain ⟨p,q,U,B,_,_,_⟩:=D;have Q:({OpenSpec.ofChange s with cond:=some k }:OpenSpec).vars=[]:=m.vars;rw [Q] at B;exact (trodVars_none B).1
 subst M;rw [List.append_nil] at r;exact nQ m K law G D (O ds r) (nT v _ _)
end
end Go.DL
end
section
namespace Go.DL
open Go
section
variable [Glb]
end
section
theorem nT_{t:T}{K:T->Prop}(c:K t): ∀b,t=b->K b:=fun _ e=>e▸c
theorem nv_{t:T}{K:T->Prop}(c:T)(h:t=c)(d:K c): ∀b,t=b->K b:=fun _ e=>by rw [<- e,h];exact d
theorem nb_{b:Bool}{K:Bool->Prop}(d:Bool)(h:b=d)(f:K d): ∀c,b=c->K c:=fun _ e=>by rw [<- e,h];exact f
theorem nD_{p:Prop}[Decidable p]{K:Bool->Prop}(d:p->K true)(c: ¬p->K false): ∀b,decide p=b->K b:=fun b e=>match b,e with|true,e=>d (of_decide_eq_true e)|false,e=>c (of_decide_eq_false e)
theorem nr{p:Prop}[Decidable p]{K:Bool->Prop}(h:p)(c:K true): ∀b,decide p=b->K b:=fun b e=>by rw [<- e,decide_eq_true h];exact c
theorem nq{p:Prop}[Decidable p]{K:Bool->Prop}(h: ¬p)(c:K false): ∀b,decide p=b->K b:=fun b e=>by rw [<- e,decide_eq_false h];exact c
theorem nE_{x y:Int}{K:Bool->Prop}(d:x=y->K true)(c:x≠y->K false): ∀b,(x==y)=b->K b:=fun b e=>match b,e with|true,e=>d (eq_of_beq e)|false,e=>c (by simpa using e)
theorem nv{x y:Int}{K:Bool->Prop}(h:x=y)(c:K true): ∀b,(x==y)=b->K b:=fun b e=>by rw [<- e,h,beq_self_eq_true];exact c
theorem nu{x y:Int}{K:Bool->Prop}(h:x≠y)(c:K false): ∀b,(x==y)=b->K b:=fun b e=>by rw [<- e,beq_false_of_ne h];exact c
theorem nN_{x y:Int}{K:Bool->Prop}(d:x≠y->K true)(c:x=y->K false): ∀b,(x !=y)=b->K b:=fun b e=>match b,e with|true,e=>d (by simpa using e)|false,e=>c (by simpa using e)
theorem ny{x y:Int}{K:Bool->Prop}(h:x≠y)(c:K true): ∀b,(x !=y)=b->K b:=fun b e=>by rw [<- e,show (x !=y)=true by simpa using h];exact c
theorem nw{x y:Int}{K:Bool->Prop}(h:x=y)(c:K false): ∀b,(x !=y)=b->K b:=fun b e=>by rw [<- e,h,bne_self_eq_false];exact c
theorem leB{ks:List Nat}{bx:Nat->Option BX}{x y:Bool}(h:x=y):LeV ks bx (.t (.bool x)) (.t (.bool y)):=by rw [h];exact .same _
theorem rb{x b:Bool}{c:Prop}(h:x=b)(d:c):some (T.bool x)=some (T.bool b)/\c:=⟨congrArg _ (congrArg _ h),d⟩
theorem ri{k:IntKind}{n m:Int}{c:Prop}(h:n=m)(b:c):some (T.int k n)=some (T.int k m)/\c:=⟨congrArg _ (congrArg _ h),b⟩
theorem rt{t u:T}{c:Prop}(h:t=u)(b:c):some t=some u/\c:=⟨congrArg _ h,b⟩
end
section
variable [Glb]
end
section
theorem aE1{x y:Int}{K:Bool->Prop}(c:K true)(h:x=y:=by first|omega|(simp;done)|(simp;omega)|fail): ∀b,(x==y)=b->K b:=nv h c
theorem aE0{x y:Int}{K:Bool->Prop}(c:K false)(h:x≠y:=by first|omega|(simp;done)|(simp;omega)|fail): ∀b,(x==y)=b->K b:=nu h c
theorem aN1{x y:Int}{K:Bool->Prop}(c:K true)(h:x≠y:=by first|omega|(simp;done)|(simp;omega)|fail): ∀b,(x !=y)=b->K b:=ny h c
theorem aN0{x y:Int}{K:Bool->Prop}(c:K false)(h:x=y:=by first|omega|(simp;done)|(simp;omega)|fail): ∀b,(x !=y)=b->K b:=nw h c
theorem aD1{p:Prop}[Decidable p]{K:Bool->Prop}(c:K true)(h:p:=by first|omega|(simp;done)|(simp;omega)|fail): ∀b,decide p=b->K b:=nr h c
theorem aD0{p:Prop}[Decidable p]{K:Bool->Prop}(c:K false)(h: ¬p:=by first|omega|(simp;done)|(simp;omega)|fail): ∀b,decide p=b->K b:=nq h c
theorem aS{c K:Prop}(d:K)(b:c:=by first|exact trivial|rfl|decide|exact nlZ rfl|assumption|exact ⟨rfl,nlZ rfl⟩|exact ⟨trivial,rfl⟩|exact ⟨⟨trivial,rfl⟩,rfl⟩|omega|(simp;done)|(simp;omega)|(simp [*];done)|fail):c/\K:=⟨b,d⟩
theorem rb1{b:Bool}{c:Prop}(d:c)(h:true=b:=by first|rfl|(simp;done)|(simp;omega)|(simp [*];done)|(simp [*];omega)|fail):some (T.bool true)=some (T.bool b)/\c:=rb h d
theorem rb0{b:Bool}{c:Prop}(d:c)(h:false=b:=by first|rfl|(simp;done)|(simp;omega)|(simp [*];done)|(simp [*];omega)|fail):some (T.bool false)=some (T.bool b)/\c:=rb h d
theorem rbx{x b:Bool}{c:Prop}(d:c)(h:x=b:=by first|rfl|(simp;done)|(simp;omega)|(simp [*];done)|(simp [*];omega)|fail):some (T.bool x)=some (T.bool b)/\c:=rb h d
theorem rix{k:IntKind}{n m:Int}{c:Prop}(b:c)(h:n=m:=by first|rfl|omega|(rw [oA] <;> omega)|(simp;omega)|(simp [*];done)|fail):some (T.int k n)=some (T.int k m)/\c:=ri h b
theorem lI{ks:List Nat}{bx:Nat->Option BX}{n m:Int}(h:n=m:=by first|omega|(rw [oA] <;> omega)|(simp;omega)|(simp [*];done)|fail):LeV ks bx (.t (.int .i64 n)) (.t (.int .i64 m)):=leI h
theorem lB{ks:List Nat}{bx:Nat->Option BX}{x y:Bool}(h:x=y:=by first|rfl|(simp;done)|(simp [*];done)|(simp [*];omega)|fail):LeV ks bx (.t (.bool x)) (.t (.bool y)):=leB h
end
section
variable [Glb]
end
end Go.DL
end
section
namespace Go.DL
open Go
section
variable [Glb]
def Les(t u:T):Prop:= ∀(S:ar) (w:World) (v:Value),Rep S w v t->Rep S w v u
end
section
theorem Les.refl(t:T):Les t t:=fun _ _ _ h=>h
end
section
variable [Glb]
structure dz (ts us:List T):Prop where
 len:ts.length=us.length
 one: ∀u∈us,u.one=true
 le: ∀(i:Nat) (t u:T),ts[i]? =some t->us[i]? =some u->Les t u
end
section
theorem dz.nil:dz [] []:=⟨rfl,by simp,by simp⟩
theorem dz.cons{t u:T}{ts us:List T}(h:Les t u)(f:u.one=true)(k:dz ts us):dz (t::ts) (u::us):=by
 refine ⟨by simp [k.len],fun x e=>?_,fun i a b c d=>?_⟩
 ·rcases List.mem_cons.1 e with rfl|e
  ·exact f
  ·exact k.one x e
 ·cases i with
  |zero=>simp at c d;subst c;subst d;exact h
  |succ i=>exact k.le i a b (by simpa using c) (by simpa using d)
theorem dz.append{ts us d e:List T}(h:dz ts us)(k:dz d e):dz (ts++d) (us++e):=by
 refine ⟨by simp [h.len,k.len],fun x c=>?_,fun i a b f g=>?_⟩
 ·rcases List.mem_append.1 c with c|c
  ·exact h.one x c
  ·exact k.one x c
 ·rcases Nat.lt_or_ge i ts.length with hi|hi
  ·rw [List.getElem?_append_left hi] at f;rw [List.getElem?_append_left (by rw [<- h.len];exact hi)] at g;exact h.le i a b f g
  ·rw [List.getElem?_append_right hi] at f;rw [List.getElem?_append_right (by rw [<- h.len];exact hi), <-h.len] at g;exact k.le _ a b f g
theorem Les.nil(n:Nat):Les .nil (.slice n []):=fun _ _ _ h=>Rep.pI n h
theorem Les.agg{ts us:List T}(h:dz ts us):Les (.agg ts) (.agg us):=fun S w v r=>by
 cases r with
 |agg cs _ e g d=>
  refine .agg cs us (e.trans h.len) h.one fun i x u f c=>?_
  have b:i<ts.length:=by rw [h.len];exact (gsZ c).1
  exact h.le i ts[i] u (by simp [b]) c S w x (d i x ts[i] f (by simp [b]))
theorem dz.flat{n:Nat}: ∀{xs ys:List T},xs.length=ys.length->(∀ (i:Nat) (x y:T),xs[i]? =some x->ys[i]? =some y->dz x.cells y.cells/\y.cells.length=n)->dz (xs.flatMap T.cells) (ys.flatMap T.cells)
 |[],[],_,_=>.nil
 |x::xs,y::ys,hl,h=>by
  simp only [List.flatMap_cons];exact (h 0 x y rfl rfl).1.append (dz.flat (n:=n) (by simpa using hl) fun i a b c d=>h (i+1) a b (by simpa using c) (by simpa using d))
 |[],_::_,hl,_=>by simp at hl
 |_::_,[],hl,_=>by simp at hl
theorem Les.slice{n:Nat}{xs ys:List T}(p:xs.length=ys.length)(h: ∀(i:Nat) (x y:T),xs[i]? =some x->ys[i]? =some y->dz x.cells y.cells/\y.cells.length=n):Les (.slice n xs) (.slice n ys):=fun S w v r=>by
 have c:=dz.flat p h;cases r with
 |slice a b o len cap _ _ g q k e z j m s=>
  refine .slice a b o len cap n ys g (by omega) k (fun y t=>?_) c.one (fun f=>j (by rw [c.len];exact f)) (fun i hi=>m i (by rw [c.len];exact hi)) fun i u e=>?_
  ·obtain ⟨i,hi,rfl⟩:=List.getElem_of_mem t;exact (h i xs[i] ys[i] (by simp [show i<xs.length by omega]) (by simp [hi])).2
  ·have d:i<(xs.flatMap T.cells).length:=by rw [c.len];exact (gsZ e).1
   exact c.le i _ u (ggZ d) e S w (g i) (s i _ (ggZ d))
end
section
variable [Glb]
theorem DCalls.les{P:Program}{f:FuncId}{ts us:List T}{r:T}(c:ts.length=us.length)(b: ∀(i:Nat) (t u:T),ts[i]? =some t->us[i]? =some u->Les t u)(h:DCalls P f us r):DCalls P f ts r:=
 h.less c fun S w i v t u e g d=>b i t u e g S w v d
def lesAll:List T->List T->Prop
 |[],[]=>True
 |t::ts,u::us=>Les t u/\lesAll ts us
 |_,_=>False
end
section
theorem kN: ∀{ts us:List T},lesAll ts us->ts.length=us.length
 |[],[],_=>rfl
 |t::ts,u::us,h=>by simp [kN h.2]
theorem kM: ∀{ts us:List T},lesAll ts us-> ∀(i:Nat) (t u:T),ts[i]? =some t->us[i]? =some u->Les t u
 |[],[],_,i,t,u,h,_=>by simp at h
 |a::ts,b::us,h,i,t,u,ht,hu=>by
  cases i with
  |zero=>simp at ht hu;subst ht;subst hu;exact h.1
  |succ i=>exact kM h.2 i t u (by simpa using ht) (by simpa using hu)
end
section
variable [Glb]
theorem DCalls.lesAll{P:Program}{f:FuncId}{ts us:List T}{r:T}(h:DCalls P f us r)(b:lesAll ts us):DCalls P f ts r:=
 DCalls.les (kN b) (kM b) h
end
end Go.DL
end
section
namespace Go.DL
open Go.RowKit
section
variable [Glb]{P:Program}{X:List FuncId}{N:Nat}{w0:World}{S0:aa}{a:Act}{E:Env}{st:St}
abbrev eA(w:World):ar:=fun b _=>b<w.heap.size
def jO(f:V->Option T):List V->Option (List T)
 |[]=>some []
 |v::vs=>match f v,jO f vs with
  |some x,some xs=>some (x::xs)
  |_,_=>none
def cvM(bx:Nat->Option BX):Nat->V->Option T
 |0,_=>none
 |k+1,v=>match v with
  |.fn f caps=>match jO (cvM bx k) caps with
   |some ts=>some (.clos f ts)
   |none=>none
  |.ptr n off=>match bx n with
   |some (.v vs)=>match jO (cvM bx k) vs with
    |some ts=>some (.cptr ts off)
    |none=>none
   |_=>match aY bx (.ptr n off) with
    |some (t,_)=>some t
    |none=>none
  |v=>match aY bx v with
   |some (t,_)=>some t
   |none=>none
end
section
variable {P:Program}{X:List FuncId}{N:Nat}{w0:World}{S0:aa}{a:Act}{E:Env}{st:St}
theorem gW{f:V->Option T}: ∀{vs:List V} {ts:List T},jO f vs=some ts->vs.length=ts.length/\ ∀(i:Nat) (v:V) (t:T),vs[i]? =some v->ts[i]? =some t->f v=some t
 |[],ts,h=>by simp [jO] at h;subst h;exact ⟨rfl,fun i v t b=>by simp at b⟩
 |v::vs,ts,h=>by
  unfold jO at h;split at h
  ·rename_i x xs j d;cases h;obtain ⟨e,g⟩:=gW d;refine ⟨by simp [e],fun i v t b c=>?_⟩;cases i with
   |zero=>simp at b c;subst b;subst c;exact j
   |succ i=>simp at b c;exact g i v t b c
  ·cases h
end
section
variable [Glb]{P:Program}{X:List FuncId}{N:Nat}{w0:World}{S0:aa}{a:Act}{E:Env}{st:St}
theorem iP(h:SR N w0 S0 E st a.tmps): ∀{k:Nat} {u:V} {v:Value} {t:T},VR E v u->cvM st.bx k u=some t->Rep (eA E.w) E.w v t
 |0,u,v,t,_,c=>by cases c
 |k+1,u,v,t,hv,c=>by
  have all: ∀{rd:List Nat} (b o:Nat),Sx E rd b o->eA E.w b o:=by
   rintro rd b o (q|⟨n,_,g,rfl⟩)
   ·exact h.lt b o q
   ·exact kL h g
  have one: ∀{D:T} {rd:List Nat},aY st.bx u=some (D,rd)->Rep (eA E.w) E.w v D:=fun q=>(eB h.bx hv q).mono all (fun _ _ _=>aC.rfl)
  have j:(match aY st.bx u with|some (t,_)=>some t|none=>none)=some t->Rep (eA E.w) E.w v t:=fun c=>by
   split at c
   ·rename_i D rd q;cases c;exact one q
   ·cases c
  unfold cvM at c;split at c
  ·rename_i f caps;split at c
   ·rename_i ts p;cases c;cases hv with
    |fn _ cs _ L J=>
     obtain ⟨z,A⟩:=gW p;refine .clos f cs ts (by omega) fun i x t C d=>?_
     have hi:i<caps.length:=by rw [z];exact (gsZ d).1
     have r:=ggZ hi;exact iP h (J i x _ C r) (A i _ t r d)
   ·cases c
  ·rename_i n off;split at c
   ·rename_i vs G;split at c
    ·rename_i ts p;cases c;cases hv with
     |ptr _ _ g=>
      obtain ⟨cs,e,I,B⟩:=(h.bx n _ G).cells rfl;cases B with
      |v _ q H=>
      obtain ⟨z,A⟩:=gW p;have key: ∀(i:Nat) (x:Value) (t:T),cs[i]? =some x->ts[i]? =some t->Rep (eA E.w) E.w x t/\t.one=true:=fun i x t C d=>by
       have hi:i<vs.length:=by rw [z];exact (gsZ d).1
       have s:=ggZ hi;obtain ⟨k1,k2⟩:=H i x _ C s
       have:=iP h k1 (A i _ t s d)
       exact ⟨this,this.kV k2⟩
      have m: ∀i,i<ts.length->i<cs.size:=fun i hi=>by omega
      have:=Rep.cptr (S:=eA E.w) (w:=E.w) (E.κ n) 0 off ts (fun i=>cs[i]?.getD undef)
       (fun t d=>by
        obtain ⟨i,hi⟩:=List.mem_iff_getElem?.1 d;have g:=m i (gsZ hi).1;exact (key i cs[i] t (by simp [g]) hi).2)
       (fun i hi=>by
        have g:=m i hi;rw [Nat.zero_add,cell_of_row _ _ _ _ _ _ I];exact ⟨by simp [g],(h.bx n _ G).lt⟩)
       (fun i t d=>by
        have g:=m i (gsZ d).1
        have:=(key i cs[i] t (by simp [g]) d).1
        simpa only [g,getElem?_pos,Option.getD_some] using this)
      rwa [Nat.zero_add] at this
    ·cases c
   ·exact j c
  ·exact j c
abbrev cvA(st:St)(us:List V):Option (List T):=jO (cvM st.bx 6) us
theorem po(h:SR N w0 S0 E st a.tmps){us:List V}{ts:List T}(j:cvA st us=some ts){vs:Array Value}(d:vs.size=us.length)(k: ∀(i:Nat) (v:Value) (u:V),vs[i]? =some v->us[i]? =some u->VR E v u):
  vs.toList.length=ts.length/\ ∀(i:Nat) (v:Value) (t:T),vs.toList[i]? =some v->ts[i]? =some t->Rep (eA E.w) E.w v t:=by
 obtain ⟨f,g⟩:=gW j;refine ⟨by simp;omega,fun i v t c e=>?_⟩;have hi:i<us.length:=by rw [f];exact (gsZ e).1
 have b:=ggZ hi;exact iP h (k i v _ (by simpa using c) b) (g i _ t b e)
theorem SR.tH{b:Array Value}(h:SR N w0 S0 E st b):bH (eA E.w) E.w:=h.jq.up (fun b o c=>h.lt b o c) (Below.refl _ _)
abbrev rC(w w':World):ar:=fun b _=>w.heap.size<=b/\b<w'.heap.size
def sD(P:Program)(f:FuncId)(ts:List T)(r:T):Prop:=
 bM P f/\ ∀(w:World) (vs:List Value),bH (eA w) w->vs.length=ts.length->(∀ (i:Nat) (v:Value) (t:T),vs[i]? =some v->ts[i]? =some t->Rep (eA w) w v t)->
  Calls P f vs.toArray w fun e w'=> ∃v,e= .returned v/\Below w.heap.size w w'/\Rep (rC w w') w' v r
theorem uG{f:FuncId}{us:List V}{d:Option Nat}{K:St->Prop}{ts:List T}{r:T}(u:cvA st us=some ts)(i:sD P f ts r)(z:K (st.set d (.t r))):WC P f us d st K:=by
 refine ⟨i.1,fun N w0 S0 E a vs h g A hd=>?_⟩;obtain ⟨m,p⟩:=po (a:=⟨a,[]⟩) h u g A;refine Calls.mono (by simpa using i.2 E.w vs.toList h.tH m p) ?_;rintro e w' ⟨v,rfl,s,j⟩;have q:=h.world s (fun b o=>E.S b o\/(E.w.heap.size<=b/\b<w'.heap.size)) (fun b o=>⟨fun c=>c.elim .inl fun k=>.inr ⟨.inr k,k⟩,fun c=>c.elim .inl fun k=>k.1⟩);exact ⟨v,rfl,_,_,rfl,z,dI q hd (.t _ _ (j.mono (fun b o c=>.inr c) (fun _ _ _=>aC.rfl)))⟩
end
section
variable {P:Program}{X:List FuncId}{N:Nat}{w0:World}{S0:aa}{a:Act}{E:Env}{st:St}
theorem fH.rep{w w':World}{v:Value}{e:TypeId}{size:Nat}{xs:List T}(h:fH w w' v e size xs):Rep (rC w w') w' v (.slice size xs):=by
 obtain ⟨cells,k1,k2,r⟩:=h.ex
 let E:Env:={S:=fun b o=>v.ownBlock=some b/\o<(xs.flatMap T.cells).length,w:=w',B:=w.heap.size,κ:=fun _=>0,ρ:=fun _=>v.ownBlock,live:=fun _=>false }
 have p:bU E v 0 e size xs:=⟨⟨cells,k1,k2,fun i x t q k=>(r i x t q k).of_flat (h.flat t (List.mem_of_getElem? k))⟩,h.uni,h.one,fun g c=>⟨c,fun o=>⟨fun f=>f.2,fun f=>⟨c,f⟩⟩⟩⟩
 refine p.rep.mono (fun b o j=>?_) (fun _ _ _=>aC.rfl);rcases k1.2 with ⟨rfl,_⟩|⟨g,cap,m,rfl,d,c,_⟩
 ·cases j.1
 ·have:=j.1
  simp only [Value.ownBlock,Option.some.injEq] at this;subst this;exact ⟨d,(Array.getElem?_eq_some_iff.1 c).1⟩
end
section
variable [Glb]{P:Program}{X:List FuncId}{N:Nat}{w0:World}{S0:aa}{a:Act}{E:Env}{st:St}
theorem dA.uJ{f:FuncId}{ts:List T}{e:TypeId}{size:Nat}{xs:List T}(h:dA P f ts e size xs []):DCalls P f ts (.slice size xs):=by
 refine ⟨h.1,fun S w vs d c j k=>(h.2 S w vs d c j k).mono ?_⟩;rintro q w' ⟨v,us,rfl,g,i,p,_⟩
 have:us=[]:=List.eq_nil_of_length_eq_zero p
 subst this;exact ⟨v,rfl,g,i.rep.mono (fun b o m=>.inr m) (fun _ _ _=>aC.rfl)⟩
end
end Go.DL
end
section
end
section
end
section
namespace Go.DL
open Go.RowKit Go.Shelf Go.Proofs
section
variable [Glb]{P:Program}{ρ:Ren}
theorem tg(L:Lays8.n4 P ρ){i0:TypeInfo}{z:Value}(g:P.info? (ρ.t 25)=some i0)(q:i0.zero=some z)(k:0<i0.size)(r:z.cells.size=i0.size)(n:Nat)(I:n * i0.bytes<=140737488355328)(B:n<=4611686018427387904)(G:bM P (ρ.f 4)):
  dA P (ρ.f 4) [.nil,.int .i64 n] (ρ.t 25) i0.size [] []:=by
 refine ⟨G,fun S w vs _ _ c v=>?_⟩;have m:vs.length=2:=c
 match vs,m with
 |[a,b],_=>
  have C:=v 0 a .nil rfl rfl;have D:=v 1 b (.int .i64 n) rfl rfl;cases C;cases D;have s: ∀(i:Nat) (u:Value) (t:T),([]:List Value)[i]? =some u->([]:List T)[i]? =some t->t.flat=true/\Rep (fun _ _=>False) w u t:=fun i u t d=>by simp at d
  by_cases A:n=0
  ·subst A;refine (Any8.slices_Grow_room L none 0 0 0 w (Nat.le_refl _) (by omega) (by omega) (by omega)).mono ?_;rintro e w' ⟨rfl,rfl⟩;exact ⟨.slice none 0 0,[],rfl,Below.refl _ _,⟨⟨[],⟨by simp,.inl ⟨rfl,rfl⟩⟩,rfl,fun i x t p=>by simp at p⟩,by simp,by simp,by simp⟩,rfl,fun i u t d=>by simp at d⟩
  ·refine (Any8.slices_Grow_grow L i0 z g q k none 0 0 n [] w (Nat.le_refl _) (by omega) (by simpa using I) (by omega) (by simp) (fun _=>rfl) (fun a h=>by cases h)).mono ?_;rintro e w' ⟨rfl,rfl⟩;have H:=grownCap_ge w (0+n) 0 (ρ.t 25);have j:=grownCap_le_maxLen w (0+n) 0 (ρ.t 25) (by unfold maxLen;omega);refine ⟨_,[],rfl,((Below.refl _ _).drew).alloc (Nat.le_refl _) _,⟨⟨[],⟨by simp,.inr ⟨_,_,_,rfl,Nat.le_refl _,heap_alloc_new w.drew _,Nat.zero_le _,j,?_,by simp⟩⟩,rfl,fun i x t p=>by simp at p⟩,by simp,by simp,by simp⟩,rfl,fun i u t d=>by simp at d⟩;rw [Array.size_append,Array.size_append,size_zeroCells,size_zeroCells,r,show ([]:List Value).toArray.size=0 from rfl,Nat.zero_add, <-Nat.add_mul]
   congr 1
   omega
end
end Go.DL
end
section
namespace Go.DL
open Go.RowKit Go.Shelf Go.Proofs Go.Sort
section
variable [Glb]{P:Program}{N:Nat}{w0:World}{S0:aa}{a:Act}{E:Env}{st:St}
structure mq (P:Program) (f:FuncId) (k:Nat):Prop where
 callable:bM P f
 some_: ∀(m:Nat) (enc:Fin (m+1)->List Value) (cf:Fin (m+1)->Fin (m+1)->Int) (g:Nat) (cb:Array Value) (blk off cap:Nat) (d:Array (Fin (m+1))) (w:World),(∀ x,(enc x).length=k)->(∀ x, ∀v∈enc x,v.oneCell'=true)->Sort.SWO (ltOf cf)->
  (∀ args w,(callFunc g args).run P w= .ok (.enter g args) w)->CmpLays P g cb enc k cf blk off d.size w->HoldsK enc k w blk off d->blk<w.heap.size->d.size<4611686018427387904->
  Calls P f #[.slice (some ⟨blk,off,none⟩) d.size cap,.func (.func g) #[] cb] w fun e w'=>e= .returned (.tuple #[])/\ ∃d' n os,Sort.PermIn 0 d.size d d'/\Sort.SortedIn (ltOf cf) 0 d.size d'/\w'=sortWorldK enc k w blk off n d' os
 none_: ∀(p:Option Addr) (cap:Nat) (fv:Value) (w:World),Calls P f #[.slice p 0 cap,fv] w fun e w'=>e= .returned (.tuple #[])/\w'=w
end
section
variable {P:Program}{N:Nat}{w0:World}{S0:aa}{a:Act}{E:Env}{st:St}
theorem oD{w w':World}(h:Below w.heap.size w w'): ∃q g,w'=Sort.grow (w.drewN q) g:=by
 refine ⟨w'.drawn - w.drawn,w'.heap.extract w.heap.size w'.heap.size,?_⟩;obtain ⟨r,A,v,g,t⟩:=w;obtain ⟨b,u,k,s,j⟩:=w';have c:=h.os;have d:=h.tape;have e:=h.output;have m:=h.size;have f:=h.block;have p:=h.dr;simp only at c d e m f p;subst c;subst d;subst e;unfold Sort.grow World.drewN;simp only [World.mk.injEq,and_true,true_and];refine ⟨?_,by omega⟩
 apply Array.ext_getElem?
 intro i
 by_cases hi:i<r.size
 ·rw [Array.getElem?_append_left hi,f i hi]
 ·rw [Array.getElem?_append_right (by omega),Array.getElem?_extract]
  by_cases z:i<b.size
  ·rw [if_pos (by omega)]
   congr 1;omega
  ·rw [if_neg (by omega),Array.getElem?_eq_none (by omega)]
theorem jD{k:Nat}: ∀{xs:List T} (_: ∀x∈xs,x.cells.length=k) (j:Nat),0<k->j<xs.length * k->(xs.flatMap T.cells)[j]? =(xs[j / k]?).bind fun x=>x.cells[j % k]?
 |[],_,j,_,hj=>by simp at hj
 |x::xs,hu,j,h0,hj=>by
  rw [List.flatMap_cons];have d:=hu x (by simp)
  by_cases h:j<k
  ·rw [List.getElem?_append_left (by omega),Nat.div_eq_of_lt h,Nat.mod_eq_of_lt h];rfl
  ·rw [List.getElem?_append_right (by omega),d,jD (fun y e=>hu y (by simp [e])) (j - k) h0 (by rw [List.length_cons,Nat.add_mul] at hj;omega)];have b:j / k=(j - k) / k+1:=by rw [Nat.div_eq_sub_div h0 (by omega)]
   have c:j % k=(j - k) % k:=by rw [Nat.mod_eq_sub_mod (by omega)]
   rw [b,c,List.getElem?_cons_succ]
theorem lJ{size:Nat}(b:1<size): ∀(n:Nat) (cs:List T) (i:Nat),i<n->n * size<=cs.length->(chunk size n cs)[i]? =some (.agg ((cs.drop (i * size)).take size))
 |0,_,i,h,_=>by omega
 |n+1,cs,i,h,hl=>by
  rw [Nat.add_mul,Nat.one_mul] at hl;cases i with
  |zero=>
   have:Nat.beq size 1=false:=by
    cases c:Nat.beq size 1 with
    |false=>rfl
    |true=>have:=Nat.eq_of_beq_eq_true c;omega
   simp [chunk,elemOf,this]
  |succ i=>
   show (chunk size n (cs.drop size))[i]? =_
   rw [lJ b n (cs.drop size) i (by omega) (by simp;omega),List.drop_drop,Nat.add_mul,Nat.one_mul,Nat.add_comm size]
end
section
variable [Glb]{P:Program}{N:Nat}{w0:World}{S0:aa}{a:Act}{E:Env}{st:St}
theorem uB{f:FuncId}{k n off len m:Nat}{ts:List T}{u:V}{g:FuncId}{cts:List T}{d:Option Nat}{K:St->Prop}(hs:mq P f k)(hb:st.bx n=some (.d m ts))(hle:off+len * k<=m)(hk2:1<k)(hlen:len<4611686018427387904)
  (hu:u= .t (.clos g cts)\/ ∃caps,u= .fn g caps/\eO caps=some cts) (hg:bM P g) (Z:T->T->Int)
  (oP: ∀x∈chunk k len (ts.drop off), ∀y∈chunk k len (ts.drop off),DCalls P g (x::y::cts) (.int .i64 (Z x y)))
  (Q: ∀x∈chunk k len (ts.drop off), ¬Z x x<0) (trans: ∀x∈chunk k len (ts.drop off), ∀y∈chunk k len (ts.drop off), ∀z∈chunk k len (ts.drop off),Z x y<0->Z y z<0->Z x z<0)
  (R: ∀x∈chunk k len (ts.drop off), ∀y∈chunk k len (ts.drop off), ∀z∈chunk k len (ts.drop off), ¬Z x y<0-> ¬Z y z<0-> ¬Z x z<0)
  (hk: ∀ys:List T,ys.Perm (chunk k len (ts.drop off))->ys.Pairwise (fun x y=> ¬Z y x<0)->K ({st with bx:=upd st.bx n (some (.d m (aP ts off (len * k) (ys.flatMap T.cells))))}.set d (.t (.tup [])))):WC P f [.view n off len k,u] d st K:=by
 refine ⟨hs.callable,fun N w0 S0 E a vs h hvl hv hd=>?_⟩;have hsz:vs.size=2:=hvl;have hv0:=hv 0 vs[0] _ (by simp [hsz]) rfl;have hv1:=hv 1 vs[1] _ (by simp [hsz]) rfl;have hvs:vs= #[vs[0],vs[1]]:=by
  apply Array.ext
  ·simp [hsz]
  ·intro i h1 h2
   match i,h1 with
   |0,_=>rfl
   |1,_=>rfl
   |i+2,h1=>omega
 obtain ⟨cb,hfv,hcl,hcr⟩: ∃cb:Array Value,vs[1]= .func (.func g) #[] cb/\cb.size=cts.length/\ ∀(i:Nat) (x:Value) (t:T),cb[i]? =some x->cts[i]? =some t->Rep E.S E.w x t:=by
  rcases hu with rfl|⟨caps,rfl,hc⟩
  ·have W:=hv1.ax;generalize vs[1]=v1 at W;cases W with
   |clos _ cs _ h1 h2=>exact ⟨cs,rfl,h1,h2⟩
  ·generalize vs[1]=v1 at hv1;cases hv1 with
   |fn _ cs _ h1 h2=>
    obtain ⟨g1,g2⟩:=jK hc;refine ⟨cs,rfl,by omega,fun i x t hx D=>?_⟩;have hi:i<caps.length:=by rw [g1];exact (gsZ D).1
    have hci:=ggZ hi;exact aD (h2 i x _ hx hci) (g2 i _ t hci D)
 obtain ⟨cap,hsl,cB,rI⟩:=hv0.bO;obtain ⟨cs,e,hgo,tZ⟩:=(h.bx n _ hb).cells rfl;have hB:=h.bx n _ hb;cases tZ with
 |d _ _ hl uu hh=>
 have mg:0<k:=by omega
 have ones: ∀t∈ts.drop off,t.one=true:=fun t D=>by
  have D:=List.mem_of_mem_drop D;obtain ⟨i,hi⟩:=List.mem_iff_getElem?.1 D;have hlt:i<cs.size:=by have:=(gsZ hi).1;omega
  exact (hh i cs[i] t (by simp [hlt]) hi).2
 generalize hxs:chunk k len (ts.drop off)=xs at oP Q trans R hk;have hsp:=di mg len (ts.drop off) (by simp;omega) ones;rw [hxs] at hsp;obtain ⟨hfl,hxl,hxu⟩:=hsp
 by_cases hl0:len=0
 ·subst hl0;have hx0:xs=[]:=List.eq_nil_of_length_eq_zero hxl;subst hx0;have cU:=hs.none_ (some ⟨E.κ n,off,none⟩) cap vs[1] E.w;rw [<- hsl, <-hvs] at cU;refine cU.mono ?_;rintro e' w' ⟨rfl,rfl⟩;refine ⟨_,rfl,_,_,rfl,hk [] (List.Perm.refl _) List.Pairwise.nil,dI ?_ hd (.t _ _ (.tup #[] [] rfl fun i x t hx=>by simp at hx))⟩;have dq:aP ts off (0 * k) (([]:List T).flatMap T.cells)=ts:=by simp [aP]
  rw [dq]
  have:upd st.bx n (some (.d m ts))=st.bx:=by
   funext i
   by_cases hi:i=n
   ·subst hi;rw [ai,hb]
   ·rw [ae _ _ _ _ hi]
  show SR N w0 S0 E {st with bx:=upd st.bx n (some (.d m ts))} a
  rw [this];exact h
 obtain ⟨s,rfl⟩: ∃s,len=s+1:=⟨len - 1,by omega⟩
 let enc:Fin (s+1)->List Value:=fun i=>(cs.toList.drop (off+i.val * k)).take k
 have qH: ∀i:Fin (s+1),i.val * k+k<=(s+1) * k:=fun i=>by
  have:=Nat.mul_le_mul_right k (show i.val+1<=s+1 from i.isLt)
  rw [Nat.add_mul,Nat.one_mul] at this;exact this
 have qF: ∀x,(enc x).length=k:=fun x=>by
  have:=qH x
  simp only [enc,List.length_take,List.length_drop,Array.length_toList];omega
 have O: ∀(x:Fin (s+1)) (r:Nat),r<k->(enc x)[r]? =cs[off+x.val * k+r]? :=fun x r W=>by
  simp only [enc];rw [List.getElem?_take,if_pos W,List.getElem?_drop,Array.getElem?_toList]
 have xget: ∀x:Fin (s+1),xs[x.val]? =some (.agg (((ts.drop off).drop (x.val * k)).take k)):=fun x=>by
  rw [<- hxs];exact lJ hk2 (s+1) (ts.drop off) x.val x.isLt (by simp;omega)
 let xe:Fin (s+1)->T:=fun x=>.agg (((ts.drop off).drop (x.val * k)).take k)
 have A: ∀x,xe x∈xs:=fun x=>List.mem_of_getElem? (xget x)
 have xcell: ∀(x:Fin (s+1)) (r:Nat),r<k->(xe x).cells[r]? =ts[off+x.val * k+r]? :=fun x r W=>by
  show (((ts.drop off).drop (x.val * k)).take k)[r]? =_
  rw [List.getElem?_take,if_pos W,List.getElem?_drop,List.getElem?_drop]
  congr 1;omega
 have xlen: ∀x,(xe x).cells.length=k:=fun x=>hxu _ (A x)
 have h1: ∀x, ∀v∈enc x,v.oneCell'=true:=fun x v hvm=>by
  obtain ⟨r,W⟩:=List.mem_iff_getElem?.1 hvm;have hrk:r<k:=by rw [<- qF x];exact (gsZ W).1
  rw [O x r hrk] at W;have hx:=qH x;have hlt:off+x.val * k+r<ts.length:=by omega
  have:=hh _ v ts[off+x.val * k+r] W (ggZ hlt)
  exact this.1.one this.2
 let c:Fin (s+1)->Fin (s+1)->Int:=fun x y=>Z (xe x) (xe y)
 have hO:Sort.SWO (ltOf c):=by
  refine ⟨fun x=>?_,fun x y z p q=>?_,fun x y z p q=>?_⟩
  ·exact decide_eq_false (Q _ (A x))
  ·exact decide_eq_true (trans _ (A x) _ (A y) _ (A z) (of_decide_eq_true p) (of_decide_eq_true q))
  ·exact decide_eq_false (R _ (A x) _ (A y) _ (A z) (of_decide_eq_false p) (of_decide_eq_false q))
 let U:Array (Fin (s+1)):=Array.ofFn fun i=>i
 have M:U.size=s+1:=Array.size_ofFn;have ud: ∀(i:Nat) (hi:i<s+1),U[i]! =⟨i,hi⟩:=fun i hi=>by
  rw [getElem!_pos U i (by rw [M];exact hi)];simp [U]
 have hH:HoldsK enc k E.w (E.κ n) off U:=by
  intro j hj;rw [size_flatK,M] at hj;have hq:j / k<s+1:=Nat.div_lt_of_lt_mul (by rw [Nat.mul_comm];exact hj);rw [get_flatK _ _ _ _ (by rw [M];exact hj),ud _ hq];have W:j % k<k:=Nat.mod_lt _ mg;have hjk:(j / k) * k+j % k=j:=by rw [Nat.mul_comm];exact Nat.div_add_mod j k
  have hlt:off+j<cs.size:=by omega
  refine ⟨?_,?_⟩
  ·rw [cell_of_row _ _ _ _ _ _ hgo]
   have:=O ⟨j / k,hq⟩ (j % k) W
   simp only at this;rw [getElem!_def,this];have e1:off+j / k * k+j % k=off+j:=by omega
   rw [e1];simp [hlt]
  ·unfold World.frozen?;simp only [hgo];simp
 have gK: ∀(q:Nat) (J:Array (Fin (s+1))) (G:Array Obj) (i:Nat),i≠E.κ n->i<E.w.heap.size->(sortWorldK enc k E.w (E.κ n) off q J G).heap[i]? =E.w.heap[i]? :=fun q J G i hi hil=>by
  unfold sortWorldK Sort.grow putRowK Sort.putRow Sort.mapBlock Sort.ahead;simp only;rw [Array.getElem?_append_left (by simpa using hil),Array.getElem?_modify,if_neg (fun e=>hi e.symm)]
 have fL: ∀(q:Nat) (J:Array (Fin (s+1))) (G:Array Obj),E.w.heap.size<=(sortWorldK enc k E.w (E.κ n) off q J G).heap.size:=fun q J G=>size_sortWorldK_c enc k E.w (E.κ n) off q J G
 have dq: ∀(q:Nat) (J:Array (Fin (s+1))) (G:Array Obj) (b o:Nat),E.S b o->aC E.w (sortWorldK enc k E.w (E.κ n) off q J G) b o:=fun q J G b o hso=>
  aC.dG (gK q J G b (fun e=>hB.free o (e▸hso)) (h.lt b o hso))
 have hC:CmpLays P g cb enc k c (E.κ n) off U.size E.w:=fun q G J _ x y=>by
  have repx: ∀z:Fin (s+1),Rep E.S (sortWorldK enc k E.w (E.κ n) off q J G) (.agg (enc z).toArray) (xe z):=fun z=>by
   refine .agg _ _ (by have:=xlen z;simp only [List.size_toArray,qF];exact this.symm) (fun t D=>?_) (fun i v t B D=>?_)
   ·exact ones t (List.mem_of_mem_drop (List.mem_of_mem_take D))
   ·have hik:i<k:=by have:=(gsZ D).1;have h2:=xlen z;rw [<- h2];exact this
    rw [List.getElem?_toArray,O z i hik] at B
    have:=xcell z i hik
    rw [show (xe z).cells[i]? =some t from D] at this;exact (hh _ v t B this.symm).1.mono (fun _ _ h=>h) (dq q J G)
  have hG:bH E.S (sortWorldK enc k E.w (E.κ n) off q J G):=fun g' C hg'=>by
   obtain ⟨k1,v,k2⟩:=h.jq g' C hg';refine ⟨Nat.lt_of_lt_of_le k1 (fL q J G),v,fun i t D=>?_⟩;obtain ⟨j1,j2,j3,j4,j5⟩:=k2 i t D;exact ⟨(dq q J G _ _ j2).cell.trans j1,j2,j3,j4,j5.of_flat j4⟩
  have hdc:=(oP _ (A x) _ (A y)).2 E.S (sortWorldK enc k E.w (E.κ n) off q J G) (.agg (enc x).toArray:: .agg (enc y).toArray::cb.toList) (fun b o hso=>Nat.lt_of_lt_of_le (h.lt b o hso) (fL q J G)) hG (by simp [hcl]) (fun i v t B D=>by
   match i,B,D with
   |0,B,D=>simp at B D;subst B;subst D;exact repx x
   |1,B,D=>simp at B D;subst B;subst D;exact repx y
   |i+2,B,D=>simp at B D;exact (hcr i v t (by simpa using B) D).mono (fun _ _ h=>h) (dq q J G))
  have e1:((.agg (enc x).toArray:: .agg (enc y).toArray::cb.toList:List Value)).toArray= #[.agg (enc x).toArray,.agg (enc y).toArray]++cb:=by
   apply Array.ext'
   simp
  rw [e1] at hdc;refine hdc.mono ?_;rintro e' w' ⟨v,rfl,hbw,hrv⟩;obtain ⟨q',os',hw'⟩:=oD hbw;exact ⟨by rw [hrv.aA],q',os',hw'⟩
 have cU:=hs.some_ s enc c g cb (E.κ n) off cap U E.w qF h1 hO hg hC hH hB.lt (by rw [M];exact hlen);rw [M, <-hsl, <-hfv, <-hvs] at cU;refine cU.mono ?_;rintro e' w' ⟨rfl,L,q,G,⟨hps,_,rJ⟩,rY,rfl⟩;have I:L.size=s+1:=by rw [hps,M]
 let ys:List T:=L.toList.map xe
 have hys:ys.length=s+1:=by simp [ys,I]
 have hp0:(U.toList.map xe)=xs:=by
  apply List.ext_getElem?
  intro i
  by_cases hi:i<s+1
  ·rw [List.getElem?_map,Array.getElem?_toList]
   have:U[i]? =some ⟨i,hi⟩:=by simp [U,hi]
   rw [this];exact (xget ⟨i,hi⟩).symm
  ·rw [List.getElem?_eq_none (by simp [M];omega),List.getElem?_eq_none (by omega)]
 have pz:ys.Perm xs:=by
  have e1:L.extract 0 (s+1)=L:=Array.extract_eq_self_of_le (by omega);have e2:U.extract 0 (s+1)=U:=Array.extract_eq_self_of_le (by omega);rw [e1,e2] at rJ;rw [<- hp0];exact rJ.map xe
 have hpw:ys.Pairwise (fun x y=> ¬Z y x<0):=by
  rw [List.pairwise_iff_getElem];intro i j hi hj hij;have hi':i<L.size:=by rw [I];rw [hys] at hi;exact hi
  have hj':j<L.size:=by rw [I];rw [hys] at hj;exact hj
  have:=rY i j (Nat.zero_le _) hij (by rw [<- I];exact hj')
  rw [getElem!_pos L i hi',getElem!_pos L j hj'] at this
  have:=of_decide_eq_false this
  simpa [ys,c] using this
 have hyu: ∀x∈ys,x.cells.length=k:=fun x hx=>hxu x (pz.mem_iff.1 hx)
 have hyf:(ys.flatMap T.cells).length=(s+1) * k:=by
  have:=aJ hyu
  rw [this,hys]
 let C:Array Value:=Sort.putCells id off (flatK enc k L) cs
 have sM:C.size=cs.size:=by simp [C,Sort.putCells]
 have hw1:(sortWorldK enc k E.w (E.κ n) off q L G).heap[E.κ n]? =some (.cells C e (0,0)):=by
  unfold sortWorldK Sort.grow putRowK Sort.putRow Sort.mapBlock Sort.ahead;simp only;rw [Array.getElem?_append_left (by simpa using hB.lt),Array.getElem?_modify,if_pos rfl,hgo];rfl
 have sX:=h.write hb rfl C (.d m (aP ts off ((s+1) * k) (ys.flatMap T.cells))) fun E' gr=>by
  refine .d m _ (by rw [bP _ _ _ _ hyf (by omega)];exact hl) (by rw [sM];exact uu) (fun j v w H Y=>?_);rw [bG _ _ _ _ hyf (by omega)] at Y;have hjc:j<cs.size:=by rw [<- sM];exact (Array.getElem?_eq_some_iff.1 H).1
  have hcj:C[j]? =some (if off<=j/\j<off+(s+1) * k then (flatK enc k L)[j - off]! else cs[j]):=by
   simp only [C,Sort.putCells,Array.getElem?_mapIdx,Array.getElem?_eq_getElem hjc,size_flatK,I,Option.map_some,id]
  rw [hcj] at H
  by_cases g1:j<off
  ·rw [if_pos g1] at Y;rw [if_neg (by omega)] at H
   have:=hh j v w (by rw [Array.getElem?_eq_getElem hjc];exact H) Y
   exact ⟨gr.rep this.1,this.2⟩
  ·rw [if_neg g1] at Y
   by_cases g2:j<off+(s+1) * k
   ·rw [if_pos g2] at Y;rw [if_pos (by omega)] at H;have hjo:j - off<(s+1) * k:=by omega
    have hq2:(j - off) / k<s+1:=Nat.div_lt_of_lt_mul (by rw [Nat.mul_comm];exact hjo);have hr2:(j - off) % k<k:=Nat.mod_lt _ mg;rw [get_flatK _ _ _ _ (by rw [I];exact hjo),getElem!_pos L _ (by rw [I];exact hq2)] at H;rw [jD hyu _ mg (by rw [hys];exact hjo)] at Y;have hyg:ys[(j - off) / k]? =some (xe (L[(j - off) / k]'(by rw [I];exact hq2))):=by
     simp [ys,I,hq2]
    rw [hyg] at Y;generalize (L[(j - off) / k]'(by rw [I];exact hq2))=z at Y H;have hz:=qH z;rw [Option.bind_some,xcell z _ hr2] at Y;have hlz:off+z.val * k+(j - off) % k<cs.size:=by omega
    rw [getElem!_def,O z _ hr2,Array.getElem?_eq_getElem hlz] at H
    have:=hh _ v w (by rw [Array.getElem?_eq_getElem hlz];exact H) Y
    exact ⟨gr.rep this.1,this.2⟩
   ·rw [if_neg g2] at Y;rw [if_neg (by omega)] at H
    have:=hh j v w (by rw [Array.getElem?_eq_getElem hjc];exact H) Y
    exact ⟨gr.rep this.1,this.2⟩
 have rL:(E.w.setRow (E.κ n) C).heap.size=E.w.heap.size:=by simp [World.setRow]
 have tY:Below ({E with w:=E.w.setRow (E.κ n) C }:Env).w.heap.size ({E with w:=E.w.setRow (E.κ n) C }:Env).w (sortWorldK enc k E.w (E.κ n) off q L G):=by
  refine Below.of rfl rfl rfl (by rw [rL];exact fL q L G) (fun i hi=>?_) ?_
  ·have hi:i<E.w.heap.size:=by rw [<- rL];exact hi
   by_cases hin:i=E.κ n
   ·subst hin;rw [hw1];exact (setRow_heap E.w (E.κ n) cs C e (0,0) hgo).symm
   ·rw [gK q L G i hin hi];show _=(E.w.heap.modify (E.κ n) _)[i]?
    rw [Array.getElem?_modify,if_neg (fun e=>hin e.symm)]
  ·show E.w.drawn<=E.w.drawn+q
   omega
 have h':=sX.world tY E.S (fun b o=>⟨.inl,fun hh=>hh.elim id fun k=>k.1⟩);exact ⟨_,rfl,_,_,rfl,hk ys pz hpw,dI h' hd (.t _ _ (.tup #[] [] rfl fun i x t hx=>by simp at hx))⟩
end
section
variable {P:Program}{N:Nat}{w0:World}{S0:aa}{a:Act}{E:Env}{st:St}
theorem mq.of{ρ:Ren}(L:SlLaysF0.n6 P ρ)(k:Nat)(h: ∀w,(isAgg (ρ.t 24)).run P w= .ok true w)(zE: ∀w,(Go.sizeOf (ρ.t 24)).run P w= .ok k w)(v:bM P (ρ.f 6)):mq P (ρ.f 6) k:=
 ⟨v,fun _ enc j g i c off cap d w z r u m A s b e=>AnyQ.slices_SortFunc L k h zE enc z r j u g i c off cap d w m A s b e,fun p cap q w=>AnyF.slices_SortFunc_none L p cap q w⟩
end
section
variable [Glb]{P:Program}{N:Nat}{w0:World}{S0:aa}{a:Act}{E:Env}{st:St}
end
end Go.DL
end
section
namespace Go.DL
open Go.RowKit
section
variable [Glb]{P:Program}{X:List FuncId}{N:Nat}{w0:World}{S0:aa}{E:Env}{st:St}{n:Nat}{ro:Option Nat}
abbrev fw(ro:Option Nat):Fence:={Fence.wide with round:=ro }
end
section
variable {P:Program}{X:List FuncId}{N:Nat}{w0:World}{S0:aa}{E:Env}{st:St}{n:Nat}{ro:Option Nat}
theorem mD{f:FuncId}{b:Array Value}{w:World}{R:Ending->World->Prop}(h:Calls P f b w R):CallsIn (fw ro) n P f b w R:=(callsIn_wide (n:=n)).2 h
theorem r5{d:String}{b:Array Value}{w:World}{R:Value->World->Prop}(h:Rows P d b w R):RowsIn (fw ro) n P d b w R:=
 fun c cs _=>let ⟨v,w',r,s⟩:=h c cs;⟨v,w',r,stepsIn_wide.2 s⟩
theorem tQ{o:Oper}(hd: ∀c,o.op≠ .defer c){a:Act}{w:World}{K:Act->World->Prop}{Q:Exit->Act->World->Prop}(h:o.wp P a w K Q):o.wpIn (fw ro) n P a w K Q:=by
 refine ⟨fun _ _=>trivial,?_⟩;rw [Oper.semAt_eq _ _ _ hd];unfold Oper.wp at h;generalize (execOp a.eval o).run P w=r at h ⊢;cases r with
 |ok x w'=>
  cases x with
  |value v=>exact h
  |skip=>exact h
  |defer d=>exact h
  |enter f b=>exact ⟨fun e=>(by cases e),mD h⟩
  |row r b=>exact ⟨fun e=>(by cases e),r5 h⟩
  |_=>exact h.elim
 |halt x w'=>cases x <;> first|exact h|exact h.elim
theorem pJ{b:Array Oper}(hd: ∀(k:Nat) (o:Oper),b[k]? =some o-> ∀c,o.op≠ .defer c){Q:Exit->Act->World->Prop}(f: ¬LetsOut Q){i:Nat}{K:Act->World->Prop}{a:Act}{w:World}(h:wpOp P b Q i K a w):wpOpIn (fw ro) n P b Q i K a w:=by
 unfold wpOp at h;unfold wpOpIn;cases d:b[i]? with
 |none=>rw [d] at h;exact h
 |some o=>
  rw [d] at h;dsimp only at h ⊢;split
  ·rename_i e;rw [if_pos e] at h;rcases h with h|h
   ·exact tQ (hd i o d) h
   ·exact absurd h.2 f
  ·rename_i e;rw [if_neg e] at h;exact ⟨fun _ _=>trivial,h⟩
theorem pK{b:Array Oper}(hd: ∀(k:Nat) (o:Oper),b[k]? =some o-> ∀c,o.op≠ .defer c){Q:Exit->Act->World->Prop}(d: ¬LetsOut Q): ∀{l:List Nat} {a:Act} {w:World},wpOps P b Q l a w->wpOpsIn (fw ro) n P b Q l a w
 |[],_,_,h=>h
 |i::l,a,w,h=>by
  rw [wpOps_cons] at h;rw [wpOpsIn_cons];exact wpOpIn_mono (fun a w=>pK hd d) (pJ hd d h)
theorem pe{e:Array Oper}{g:Region.Mode}(hd: ∀(k:Nat) (o:Oper),e[k]? =some o-> ∀c,o.op≠ .defer c){Q:Exit->Act->World->Prop}(f: ¬LetsOut Q): ∀{d:Nat} {b:Array Bool} {a:Act} {w:World},wpAny P g e Q d b a w->wpAnyIn (fw ro) n P g e Q d b a w
 |0,_,_,_,h=>h
 |d+1,b,a,w,h=>⟨h.1,fun i hi=>wpOpIn_mono (fun a w=>pe hd f) (pJ hd f (h.2 i hi))⟩
theorem nW{b:Op}{x:DOp}(d:ah P b=some x): ∀c,b≠ .defer c:=fun c e=>by subst e;cases d
theorem iD{b:Array Oper}{is:List DI}(f:bQ P N X b b.toList=some is): ∀(k:Nat) (o:Oper),b[k]? =some o-> ∀c,o.op≠ .defer c:=fun k o g=>by
 obtain ⟨i,hi,d⟩:=(bk f).2 k o (Array.getElem?_toList.trans g);obtain ⟨⟨x,e,_⟩,_⟩:=fz d;exact nW e
end
section
variable [Glb]{P:Program}{X:List FuncId}{N:Nat}{w0:World}{S0:aa}{E:Env}{st:St}{n:Nat}{ro:Option Nat}
theorem mM{ds:List Deferred}{K:aF->St->Prop}: ¬LetsOut (bg N w0 S0 ds K):=fun ⟨_,_,h⟩=>h
theorem pN{a:Act}(h:SR N w0 S0 E st a.tmps){b:Array Oper}{is:List DI}(c:bQ P N X b b.toList=some is){K:aF->St->Prop}
  (f:bp P is st (K .normal)) {id:Nat}:(Code.region id b false).wpIn (fw ro) n P (bg N w0 S0 a.defers K) a E.w:=by
 refine wpIn_region (pK (iD c) mM (lG c (K:=K .normal) (fun a w d=>d) _ (fun k e=>by simpa using e) h rfl ?_))
 have:b.size=is.length:=by simpa using (bk c).1
 rw [this,iA];exact f
theorem nB{a:Act}(j:P.follows .mixedOrders=true)(h:SR N w0 S0 E st a.tmps){b:Array Oper}{is:List DI}(e:bQ P N X b b.toList=some is)(f:iQ is=true){K:aF->St->Prop}
  (g:bR P (eP is) (fun _=>[]) (eQ 0 is) st (K .normal)) {id:Nat}:(Code.region id b true).wpIn (fw ro) n P (bg N w0 S0 a.defers K) a E.w:=by
 refine wpIn_region_any j (pe (iD e) mM (nL (E:={E with w:=E.w.drew }) e f (oe is) (K:=K .normal) (fun a w i=>i) _ _ _ h.drew rfl (by simp) rfl ?_ ?_ ?_))
 ·rw [List.filter_eq_self.2]
  ·simp
  ·intro k c;rw [List.mem_range] at c;simp [c]
 ·intro k c;exfalso
  by_cases d:k<b.size
  ·simp [d] at c
  ·simp [d] at c
 ·rw [List.filter_eq_self.2]
  ·have:b.size=is.length:=by simpa using (bk e).1
   rw [this];rw [jb (is:=is) is 0 (fun m=>by simp)] at g;rw [<- List.range_eq_range'] at g;exact g
  ·intro k c;rw [List.mem_range] at c;simp [c]
def aQ.ct:aQ->Bool
 |.seq a b=>a.ct&&b.ct
 |.cond _ a b=>a.ct&&b.ct
 |.block _ b=>b.ct
 |.loop b=>b.ct
 |.cut b=>b.ct
 |.sem _ _=>false
 |_=>true
def bZ:Code->Bool
 |.seq a b=>bZ a&&bZ b
 |.cond _ a b=>bZ a&&bZ b
 |.block _ b=>bZ b
 |.loop b=>bZ b
 |.scope _=>false
 |_=>true
end
section
variable {P:Program}{X:List FuncId}{N:Nat}{w0:World}{S0:aa}{E:Env}{st:St}{n:Nat}{ro:Option Nat}
theorem lS{b:Bool}{d:aQ}(h:(cond b (.cut d) d).ct=true):d.ct=true:=by cases b <;> exact h
end
section
variable [Glb]{P:Program}{X:List FuncId}{N:Nat}{w0:World}{S0:aa}{E:Env}{st:St}{n:Nat}{ro:Option Nat}
theorem mH{c:Code}{b:Bool}{d:aQ}{a:Act}{E:Env}{st:St}{K:aF->St->Prop}(_:SR N w0 S0 E st a.tmps)(f:wpC P (cond b (.cut d) d) st K)
  (g: ∀K,wpC P d st K->c.wpIn (fw ro) n P (bg N w0 S0 a.defers K) a E.w):c.wpIn (fw ro) n P (bg N w0 S0 a.defers K) a E.w:=by
 cases b with
 |false=>exact g K f
 |true=>
  have f:gU (wpC P d) st K:=f;unfold gU at f;obtain ⟨R,i,j⟩:=f;exact wpIn_mono (g R i) fun e k w' h=>bg.less (bg.mono j h)
theorem s9(hm:P.follows .mixedOrders=true): ∀{c:Code} {d:aQ} (_:bo P N X c=some d) (_:d.ct=true) (_:bZ c=true) {a:Act} {E:Env} {st:St} {K:aF->St->Prop} (_:SR N w0 S0 E st a.tmps) (_:wpC P d st K),
  c.wpIn (fw ro) n P (bg N w0 S0 a.defers K) a E.w:=by
 intro c
 induction c with
 |skip=>
  intro d f j q a E st K h g;cases f;exact wpIn_skip ⟨E,st,rfl,h,rfl,g⟩
 |ret=>
  intro d f j q a E st K h g;cases f;exact wpIn_ret ⟨E,st,rfl,h,rfl,g⟩
 |exit id=>
  intro d f j q a E st K h g;cases f;exact wpIn_exit ⟨E,st,rfl,h,rfl,g⟩
 |region id ops draw=>
  intro d f j q a E st K h g;unfold bo at f;cases hX:X.contains (1000000+id) with
  |true=>
   rw [hX] at f;cases f;cases j
  |false=>
  rw [hX] at f;simp only [cond_false] at f;split at f
  ·rename_i is Z;rw [cond_eq_ite] at f;split at f
   ·rename_i hc;obtain rfl:=(Option.some.inj f).symm;refine mH h (c:=.region id ops draw) g fun K g=>?_
    cases draw with
    |false=>exact pN h Z (cq.1 g)
    |true=>
     have g:wpC P (.region (is.map DI.bare) (eP is)) st K:=g;have hw':bR P (eP is) (fun _=>[]) (eQ 0 is) st (K .normal):=by
      revert g
      cases eP is with
      |nil=>
       intro g;refine kd ?_
       have: ∀(l:List DI) (k:Nat),(eQ k l).map (·.2)=l:=fun l=>by
        induction l with
        |nil=>exact fun _=>rfl
        |cons i l T=>exact fun k=>congrArg (i:: ·) (T (k+1))
       rw [this];exact cq.1 g
      |cons p r=>exact fun g=>fc.1 g
     exact nB hm h Z (by simpa using hc) hw'
   ·cases f
  ·cases f
 |seq x y M O=>
  intro d f j q a E st K h g;unfold bo at f;split at f
  ·rename_i U V hx hy;obtain rfl:=(Option.some.inj f).symm;obtain ⟨cb,hcb⟩:=mE (X:=X) (a:=x) (d:=.seq U V);rw [hcb] at g j;have B:U.ct=true/\V.ct=true:=(Bool.and_eq_true _ _).mp (lS j);have C:bZ x=true/\bZ y=true:=(Bool.and_eq_true _ _).mp q;refine mH h (c:=.seq x y) g fun K g=>?_
   refine wpIn_seq (wpIn_mono (M hx B.1 C.1 h g) ?_);intro e Q w' t;cases e with
   |normal=>
    obtain ⟨A,u,rfl,D,J,S⟩:=t;rw [<- J];exact O hy B.2 C.2 D S
   |exit id=>exact t
   |ret=>exact t
   |goto l=>exact t
   |panic ch=>exact t
   |outgrown=>exact t
  ·cases f
 |cond c x y M O=>
  intro d f j q a E st K h g;unfold bo at f;split at f
  ·rename_i z U V hz hx hy;cases f;have hv:=af h.sl hz;have B:U.ct=true/\V.ct=true:=(Bool.and_eq_true _ _).mp j;have C:bZ x=true/\bZ y=true:=(Bool.and_eq_true _ _).mp q;have g:kr z (wpC P U) (wpC P V) st K:=g;unfold kr at g;split at g
   ·rename_i H;rw [H] at hv;exact wpIn_cond_true hv.aT (M hx B.1 C.1 h g)
   ·rename_i H;rw [H] at hv;exact wpIn_cond_false hv.aT (O hy B.2 C.2 h g)
   ·exact g.elim
  ·cases f
 |block id b T=>
  intro d f j q a E st K h g;unfold bo at f;split at f
  ·rename_i db H;obtain rfl:=(Option.some.inj f).symm;refine mH h (c:=.block id b) g fun K g=>?_
   refine wpIn_block (wpIn_mono (T H (show db.ct=true from lS (d:=.block id db) j) q h g) ?_);intro e Q w' t;cases e with
   |normal=>exact t
   |exit k=>
    have t:bz N w0 S0 a.defers (fun u=>bif Nat.beq k id then K .normal u else K (.exit k) u) Q w':=t;show if k=id then _ else _
    by_cases S:k=id
    ·rw [if_pos S];obtain ⟨A,u,e1,e2,e3,W⟩:=t;rw [S,cG] at W;exact ⟨A,u,e1,e2,e3,W⟩
    ·rw [if_neg S];obtain ⟨A,u,e1,e2,e3,W⟩:=t;rw [iI S] at W;exact ⟨A,u,e1,e2,e3,W⟩
   |ret=>exact t
   |goto l=>exact t
   |panic ch=>exact t
   |outgrown=>exact t
  ·cases f
 |loop b T=>
  intro d f j q a E st K h g;unfold bo at f;split at f
  ·rename_i db H;cases f;have g:eK (wpC P db) st K:=g;unfold eK at g;obtain ⟨I,n0,s0,hs0,hi0,round⟩:=g;refine wpIn_loop_ghost (fun n Q w'=>Q.defers=a.defers/\ ∃(A:Env) (s:Wk),A.w=w'/\SR N w0 S0 A s.mk' Q.tmps/\I n s) n0 ?_ ?_
   ·obtain ⟨A,Y,D⟩:=h.bX hs0;exact ⟨rfl,A,s0,Y,D,hi0⟩
   ·rintro n a1 w1 ⟨J,E1,s,rfl,D,hi⟩;obtain ⟨R,hR,jV⟩:=round n s hi;refine wpIn_mono (T H j q D hR) ?_;intro e Q w' t;have t:=bg.mono jV t;rw [J] at t;cases e with
    |normal=>
     obtain ⟨A,u,rfl,aB,ia,m,s',hlt,L,hi'⟩:=t;obtain ⟨G,Y,v⟩:=aB.bX L;exact ⟨m,hlt,ia,G,s',Y,v,hi'⟩
    |exit id=>
     obtain ⟨A,u,rfl,aB,ia,hq|⟨s',L,hq⟩⟩:=t
     ·exact ⟨A,u,rfl,aB,ia,hq⟩
     ·obtain ⟨G,Y,v⟩:=aB.bX L;exact ⟨G,s'.mk',Y,v,ia,hq⟩
    |ret=>exact t
    |goto l=>exact t
    |panic ch=>exact t
    |outgrown=>exact t
  ·cases f
 |label l=>
  intro d f j q a E st K h g;cases f;exact wpIn_label ⟨E,st,rfl,h,rfl,g⟩
 |scope b T=>intro d f j q;cases q
 |_=>intro d f;cases f
end
end Go.DL
end
section
namespace Go.DL
open Go.RowKit
section
variable [Glb]{P:Program}{X:List FuncId}{N:Nat}{w0:World}{S0:aa}{E:Env}{st:St}{n:Nat}{ro:Option Nat}
abbrev mkD(D:Nat):Deferred:={target:=.collected D,args:= #[]}
structure Ext (A B:aa):Prop where
 s:B.S=A.S
 v:B.vals=A.vals
 o: ∀g o,A.objs g=some o-> ∃o',B.objs g=some o'/\(∀ x,o= .deferred x->o'=o)/\ ∀r,o= .loop r-> ∃r',o'= .loop r'
end
section
variable {P:Program}{X:List FuncId}{N:Nat}{w0:World}{S0:aa}{E:Env}{st:St}{n:Nat}{ro:Option Nat}
theorem Ext.refl(S:aa):Ext S S:=⟨rfl,rfl,fun _ o h=>⟨o,h,fun _ _=>rfl,fun r b=>⟨r,b⟩⟩⟩
theorem Ext.trans{A B C:aa}(h:Ext A B)(k:Ext B C):Ext A C:=⟨k.s.trans h.s,k.v.trans h.v,fun g o j=>by
 obtain ⟨q,d,f,i⟩:=h.o g o j;obtain ⟨t,k1,k2,p⟩:=k.o g q d;refine ⟨t,k1,fun x c=>?_,fun r m=>?_⟩
 ·have e:=f x c;rw [k2 x (e.trans c),e]
 ·obtain ⟨u,b⟩:=i r m;exact p u b⟩
end
section
variable [Glb]{P:Program}{X:List FuncId}{N:Nat}{w0:World}{S0:aa}{E:Env}{st:St}{n:Nat}{ro:Option Nat}
structure Mks (S0:aa) (w0:World) (ro:Option Nat) (Ds:List Nat) (ds:List Deferred):Prop where
 eq:ds=Ds.map mkD
 nodup:Ds.Nodup
 obj: ∀D∈Ds,S0.objs D=some (.deferred (some []))/\w0.heap.size<=D
 ro: ∀l,ro=some l-> ∃r,S0.objs l=some (.loop r)
structure Dn (S0:aa) (ro:Option Nat) (Ds Ds':List Nat):Prop where
 r:ro≠none->Ds'=Ds
 n: ∀D∈Ds',D∈Ds\/S0.objs D=none
end
section
variable {P:Program}{X:List FuncId}{N:Nat}{w0:World}{S0:aa}{E:Env}{st:St}{n:Nat}{ro:Option Nat}
theorem Dn.refl{b:List Nat}:Dn S0 ro b b:=⟨fun _=>rfl,fun _ h=>Or.inl h⟩
theorem Dn.trans{S1:aa}{A B C:List Nat}(g:Ext S0 S1)(h:Dn S0 ro A B)(k:Dn S1 ro B C):Dn S0 ro A C:=⟨fun d=>(k.r d).trans (h.r d),fun D e=>by
 rcases k.n D e with b|b
 ·exact h.n D b
 ·refine Or.inr ?_;cases f:S0.objs D with
  |none=>rfl
  |some o=>
   obtain ⟨i,c,_⟩:=g.o D o f;rw [b] at c;cases c⟩
end
section
variable [Glb]{P:Program}{X:List FuncId}{N:Nat}{w0:World}{S0:aa}{E:Env}{st:St}{n:Nat}{ro:Option Nat}
def fm(N:Nat)(w0:World)(S0:aa)(ro:Option Nat)(g:List Nat)(K:St->Prop)(f:Act)(w':World):Prop:=
 ∃(b:aa) (c:List Nat) (e:Env) (d:St),Ext S0 b/\Mks b w0 ro c f.defers/\Dn S0 ro g c/\e.w=w'/\SR N w0 b e d f.tmps/\K d
def eJ(N:Nat)(w0:World)(S0:aa)(ro:Option Nat)(b:List Nat)(K:aF->St->Prop):Exit->Act->World->Prop
 |.normal,a,w=>fm N w0 S0 ro b (K .normal) a w
 |.exit id,a,w=>fm N w0 S0 ro b (K (.exit id)) a w
 |.ret,a,w=>fm N w0 S0 ro b (K .ret) a w
 |_,_,_=>False
def bV(P:Program)(N:Nat)(c:Code)(st:St)(Q:aF->St->Prop):Prop:=
 ∀(ro:Option Nat) (n:Nat) (w0:World) (S0:aa) (E:Env) (a:Act) (b:List Nat),SR N w0 S0 E st a.tmps->Mks S0 w0 ro b a.defers->c.wpIn (fw ro) n P (eJ N w0 S0 ro b Q) a E.w
theorem fm.ext{c:aa}{d b:List Nat}{K e:St->Prop}{f:Act}{w':World}(g:Ext S0 c)(hd:Dn S0 ro d b)(u: ∀s,K s->e s)(h:fm N w0 c ro b K f w'):fm N w0 S0 ro d e f w':=by
 obtain ⟨S1,i,j,s1,k,m,p,q,r,t⟩:=h;exact ⟨S1,i,j,s1,g.trans k,m,hd.trans g p,q,r,u _ t⟩
theorem eJ.ext{c:aa}{i b:List Nat}{K j:aF->St->Prop}(g:Ext S0 c)(hd:Dn S0 ro i b)(f: ∀e s,K e s->j e s): ∀{e:Exit} {d:Act} {w':World},eJ N w0 c ro b K e d w'->eJ N w0 S0 ro i j e d w':=by
 intro e d w' h;cases e with
 |normal=>exact fm.ext g hd (f _) h
 |exit id=>exact fm.ext g hd (f _) h
 |ret=>exact fm.ext g hd (f _) h
 |goto l=>exact h
 |panic k=>exact h
 |outgrown=>exact h
theorem bV.mono{c:Code}{Q b:aF->St->Prop}(h:bV P N c st Q)(g: ∀e s,Q e s->b e s):bV P N c st b:=
 fun ro n w0 S0 E a d i f=>wpIn_mono (h ro n w0 S0 E a d i f) fun _ _ _ q=>eJ.ext (Ext.refl _) Dn.refl g q
theorem bV.low(t:P.follows .mixedOrders=true){c:Code}{d:aQ}(s:bo P N X c=some d)(i:d.ct=true)(j:bZ c=true){Q:aF->St->Prop}(v:wpC P d st Q):bV P N c st Q:=by
 intro ro n w0 S0 E a p u b;refine wpIn_mono (s9 t s i j u v) ?_;have key: ∀{K:St->Prop} {f:Act} {w':World},bz N w0 S0 a.defers K f w'->fm N w0 S0 ro p K f w':=by
  rintro K f w' ⟨q,m,rfl,k,g,r⟩;exact ⟨S0,p,q,m,Ext.refl _,⟨g.trans b.eq,b.nodup,b.obj,b.ro⟩,Dn.refl,rfl,k,r⟩
 intro e f w' h;cases e with
 |normal=>exact key h
 |exit id=>exact key h
 |ret=>exact key h
 |goto l=>exact h
 |panic w=>exact h
 |outgrown=>exact h
theorem bV.seq{x y:Code}{Q:aF->St->Prop}(h:bV P N x st fun e s=>match e with
  |.normal=>bV P N y s Q
  |.exit id=>Q (.exit id) s
  |.ret=>Q .ret s):bV P N (.seq x y) st Q:=by
 intro ro n w0 S0 E a c r p;refine wpIn_seq (wpIn_mono (h ro n w0 S0 E a c r p) ?_);intro e f w' q;cases e with
 |normal=>
  obtain ⟨S1,b,d,s1,g,i,j,rfl,k,m⟩:=q;exact wpIn_mono (m ro n w0 S1 d f b k i) fun _ _ _ q=>eJ.ext g j (fun _ _ h=>h) q
 |exit id=>exact q
 |ret=>exact q
 |goto l=>exact q
 |panic t=>exact q
 |outgrown=>exact q
theorem bV.bX{c:Code}{s:Wk}{Q:aF->St->Prop}(j:bX s st)(h:bV P N c s.mk' Q):bV P N c st Q:=by
 intro ro n w0 S0 E a d i g;obtain ⟨e,f,b⟩:=i.bX j;rw [<- f];exact h ro n w0 S0 e a d b g
def CxD(b:aa->World->Prop):Prop:= ∀S w D x y,S.objs D=some (.deferred x)->b S w->b {S with objs:=upd S.objs D (some y)} w
theorem jE{fn:Func}{c:Array Value}{R:Ending->World->Prop}(i:CxD st.cx): ∀(d:List Nat) {S0:aa} {E:Env},SR N w0 S0 E st c->d.Nodup->(∀ D∈d,S0.objs D=some (.deferred (some []))/\w0.heap.size<=D)->
  (∀ S1 f,S1.S=S0.S->S1.vals=S0.vals->(∀ g, ¬g∈d->S1.objs g=S0.objs g)->SR N w0 S1 f st c-> ∃v,(results fn c).run P f.w= .ok v f.w/\R (.returned v) f.w)->LeavesInM Fence.wide n P fn c R (d.map mkD) .returning E.w
 |[],S0,E,h,_,_,hf=>by
  obtain ⟨v,u,m⟩:=hf S0 E rfl rfl (fun _ _=>rfl) h;exact ⟨v,u,m⟩
 |D::d,S0,E,h,hn,ho,hf=>by
  obtain ⟨p,C⟩:=ho D (by simp);obtain ⟨_,z⟩:=h.obj D _ p;obtain ⟨A,B⟩:=List.nodup_cons.1 hn;refine ⟨by simp,.inl ⟨D,_,rfl,run_takeDeferred z,?_⟩⟩;have m:=h.putObj (x:=.deferred (some [])) (y:=.deferred none) p rfl C (i _ _ _ _ _ p h.cx);refine jE i d m B (fun j b=>?_) (fun S1 f r s t k=>hf S1 f r s (fun g q=>(t g (fun h=>q (List.mem_cons_of_mem _ h))).trans ?_) k)
  ·refine ⟨?_,(ho j (by simp [b])).2⟩;show upd S0.objs D _ j=_
   rw [ae _ _ _ _ (fun e=>A (by first|(rw [e] at b;exact b)|(rw [<- e] at b;exact b)|(rw [e];exact b)|(rw [<- e];exact b)))];exact (ho j (by simp [b])).1
  ·show upd S0.objs D _ g=_
   exact ae _ _ _ _ (fun e=>q (by rw [e];simp))
theorem ph{f:FuncId}{fn:Func}{c:Code}(T:P.funcs[f]? =some fn)(S:fn.body=some c){vs:Array Value}(h:SR fn.ntmps w0 S0 E st (vs++Array.replicate (fn.ntmps - vs.size) undef)){Q:aF->St->Prop}(V:bV P fn.ntmps c st Q){R:Ending->World->Prop}
  (O: ∀S1 b s1 (A:Array Value),Ext S0 S1->SR fn.ntmps w0 S1 b s1 A->Q .normal s1\/Q .ret s1-> ∃v,(results fn A).run P b.w= .ok v b.w/\R (.returned v) b.w)
  (W: ∀id s, ¬Q (.exit id) s) (j: ∀e s,Q e s->CxD s.cx):CallsIn (fw ro) n P f vs E.w R:=by
 have key:CallsIn Fence.wide n P f vs E.w R:=by
  refine callsIn_of_wp_marks T S trivial (wpIn_mono (V none n w0 S0 E {tmps:=vs++Array.replicate (fn.ntmps - vs.size) undef,defers:=[]} [] h ⟨rfl,by simp,by simp,fun l U=>by cases U⟩) ?_);have i: ∀{K:St->Prop} {d:Act} {w':World},(∀ s,K s->(Q .normal s\/Q .ret s)/\CxD s.cx)->fm fn.ntmps w0 S0 none [] K d w'->LeavesInM Fence.wide n P fn d.tmps R d.defers .returning w':=by
   rintro K d w' D ⟨S1,z,b,s1,p,r,B,rfl,C,t⟩;rw [r.eq];refine jE (D s1 t).2 z C r.nodup r.obj fun H G I J L k=>?_
   refine O H G s1 d.tmps ⟨I.trans p.s,J.trans p.v,fun g o u=>?_⟩ k (D s1 t).1;obtain ⟨Y,k1,k2⟩:=p.o g o u;refine ⟨Y,(L g fun M=>?_).trans k1,k2⟩;rcases B.n g M with h|h
   ·simp at h
   ·rw [h] at u;cases u
  intro e d w' q;cases e with
  |normal=>exact i (fun s m=>⟨Or.inl m,j _ _ m⟩) q
  |ret=>exact i (fun s m=>⟨Or.inr m,j _ _ m⟩) q
  |exit id=>
   obtain ⟨S1,z,b,s1,p,r,B,h4,C,t⟩:=q;exact (W _ _ t).elim
  |goto l=>exact q.elim
  |panic Z=>exact q.elim
  |outgrown=>exact q.elim
 exact key
def tz(P:Program)(rs:List ResultVar)(r:List T)(e:aF)(s:St):Prop:=oB (du P) rs r e s/\ ∀S w,s.cx S w
theorem tE{f:FuncId}{fn:Func}{c:Code}(A:P.funcs[f]? =some fn)(z:fn.body=some c)(m:(fn.name== "runtime.NumGoroutine")=false)
  {d:List T} {r:List T} (O:d.length<=fn.ntmps) (h:bV P fn.ntmps c (ft d) (tz P fn.results.toList r)):DCalls P f d (lF r):=by
 refine ⟨cP A (by rw [z];rfl) m,fun S w vs M L k C=>?_⟩;have t:=jr (N:=fn.ntmps) M L k C O;refine (callsIn_wide (n:=0)).1 (ph (ro:=none) A z t h (fun S1 U s1 B H j g=>?_) (fun id s g=>g.1.elim) (fun e s g S w D x y _ _=>g.2 _ _));have R:jc (du P) s1 fn.results.toList r:=by
  rcases g with g|g
  ·exact g.1
  ·exact g.1
 obtain ⟨v,I,J⟩:=jH (a:={tmps:=B,defers:=[]}) j R;refine ⟨v,I,v,rfl,j.below,J.mono (fun b o i=>?_) (fun _ _ _=>aC.rfl)⟩;rcases i with i|⟨n,m,rfl⟩
 ·refine (j.s1 b o i).imp (fun h=>?_) fun q=>⟨q,j.lt b o i⟩
  rw [H.s] at h;exact h
 ·right;rw [j.live] at m;obtain ⟨G,p⟩:=Option.isSome_iff_exists.1 m;have u:=j.bx n G p;obtain ⟨_,Q,_⟩:=u.at_
  have:=u.old
  rw [j.base] at this;exact ⟨this,(Array.getElem?_eq_some_iff.1 Q).1⟩
end
end Go.DL
end
section
namespace Go.DL
open Go.RowKit
section
variable [Glb]{P:Program}{X:List FuncId}{N:Nat}{w0:World}{S0:aa}{E:Env}{st:St}{n:Nat}{ro:Option Nat}
def WCM(P:Program)(f:FuncId)(us:List V)(d:Option Nat)(st:St)(K:St->Prop):Prop:=
 bM P f/\ ∀(N:Nat) (w0:World) (S0:aa) (E:Env) (a vs:Array Value),SR N w0 S0 E st a->vs.size=us.length->
  (∀ (i:Nat) (v:Value) (u:V),vs[i]? =some v->us[i]? =some u->VR E v u)->(∀ n,d=some n->n<N)->
  Calls P f vs E.w fun e w'=> ∃v,e= .returned v/\ ∃(S1:aa) (c:Env) (b:St),Ext S0 S1/\c.w=w'/\K b/\SR N w0 S1 c b (lE a d v)
def YC(P:Program)(l:Nat)(us:List V)(d:Option Nat)(st:St)(K:St->Prop):Prop:=
 ∀(ro:Option Nat) (n N:Nat) (w0:World) (S0:aa) (E:Env) (a vs:Array Value),SR N w0 S0 E st a->vs.size=us.length->
  (∀ (i:Nat) (v:Value) (u:V),vs[i]? =some v->us[i]? =some u->VR E v u)->(∀ n,d=some n->n<N)->
  YieldAt (fw ro) n P l vs E.w fun e w'=> ∃v,e= .returned v/\ ∃(S1:aa) (c:Env) (b:St),Ext S0 S1/\c.w=w'/\K b/\SR N w0 S1 c b (lE a d v)
abbrev td(l:Nat):V:=.raw (.func (.yield l) #[] #[])
def lj(P:Program)(u:V)(us:List V)(d:Option Nat)(st:St)(K:St->Prop):Prop:=
 match jS u with
 |some (f,caps)=>WCM P f (us++caps) d st K
 |none=> ∃l,u=td l/\YC P l us d st K
end
section
variable {P:Program}{X:List FuncId}{N:Nat}{w0:World}{S0:aa}{E:Env}{st:St}{n:Nat}{ro:Option Nat}
theorem Mks.ext{S1:aa}{c:List Nat}{ds:List Deferred}(d:Ext S0 S1)(h:Mks S0 w0 ro c ds):Mks S1 w0 ro c ds:=
 ⟨h.eq,h.nodup,fun D g=>by
  obtain ⟨e,f⟩:=h.obj D g;obtain ⟨k,k1,k2,_⟩:=d.o D _ e;rw [k2 _ rfl] at k1;exact ⟨k1,f⟩,fun l i=>by
  obtain ⟨r,j⟩:=h.ro l i;obtain ⟨k,k1,_,k2⟩:=d.o l _ j;obtain ⟨m,b⟩:=k2 r rfl;exact ⟨m,by rw [k1,b]⟩⟩
end
section
variable [Glb]{P:Program}{X:List FuncId}{N:Nat}{w0:World}{S0:aa}{E:Env}{st:St}{n:Nat}{ro:Option Nat}
theorem rz{b:Array Oper}{Q:Exit->Act->World->Prop}{rest:List Nat}{ds:List Deferred}{K:St->Prop}
  (j: ∀(a:Act) (E:Env) (st:St),SR N w0 S0 E st a.tmps->a.defers=ds->K st->wpOpsIn (fw ro) n P b Q rest a E.w):
  ∀(ks:List Nat) (is:List DI) (_:ed P N b ks=some is) (_:is.all (fun i=> !i.op.aO)=true) {a:Act} {E:Env} {st:St} (_:SR N w0 S0 E st a.tmps) (_:a.defers=ds) (_:bp P is st K),wpOpsIn (fw ro) n P b Q (ks++rest) a E.w
 |[],is,hl,_,a,E,st,h,hd,hw=>by
  cases hl;exact j a E st h hd hw
 |k::ks,is,hl,hc,a,E,st,h,hd,hw=>by
  unfold ed at hl;split at hl
  ·rename_i o m;split at hl
   ·rename_i i g hi d;cases hl;simp only [List.all_cons,Bool.and_eq_true] at hc;rw [List.cons_append,wpOpsIn_cons];refine jg ?_ (nN (fun _=>trivial) h m hi (by simpa using hc.1) hw);rintro r w' ⟨p,e,q,rfl,f,c⟩;exact rz j ks g d hc.2 f (c.trans hd) e
   ·cases hl
  ·cases hl
end
section
variable {P:Program}{X:List FuncId}{N:Nat}{w0:World}{S0:aa}{E:Env}{st:St}{n:Nat}{ro:Option Nat}
theorem pd{a:Act}{o:Oper}{l:Nat}{X:Operand}{az:Array Operand}{ats:Array TypeId}(c:o.op= .call {callee:=.value X,args:=az,argTypes:=ats })(b:a.eval X= .func (.yield l) #[] #[])(w:World):
  (execOp a.eval o).run P w=(Instr.yield l (az.map a.eval)).run P w:=by
 unfold execOp;simp [c,resolve,b,Deferred.ofValue,invoke]
end
section
variable [Glb]{P:Program}{X:List FuncId}{N:Nat}{w0:World}{S0:aa}{E:Env}{st:St}{n:Nat}{ro:Option Nat}
theorem qo{a:Act}{o:Oper}(h:SR N w0 S0 E st a.tmps){X:Operand}{y:O}{az:Array Operand}{ys:List O}{ats:Array TypeId}(U:o.op= .call {callee:=.value X,args:=az,argTypes:=ats })(hX:ak X=some y)(has:dW az.toList=some ys)
  {d:Nat} (hd:o.dst=some d) (D:d<N) {K:St->Prop} (B:lj P (ev st.sl y) (ys.map (ev st.sl)) (some d) st K) {Q:Exit->Act->World->Prop}:
  o.wpIn (fw ro) n P a E.w (fun Z w'=> ∃(S1:aa) (C:Env) (j:St),Ext S0 S1/\C.w=w'/\K j/\SR N w0 S1 C j Z.tmps/\Z.defers=a.defers) Q:=by
 refine ⟨fun _ _=>trivial,?_⟩;rw [Oper.semAt_eq _ _ _ (fun c G=>by rw [U] at G;cases G)];obtain ⟨M,h2⟩:=gD (E:=E) (st:=st) (a:=a) h.sl has;have s:=af h.sl hX;have fq: ∀v,(a.put o.dst v).tmps=lE a.tmps (some d) v:=fun v=>by rw [hd];rfl
 have sN: ∀v,(a.put o.dst v).defers=a.defers:=fun v=>by rw [hd];rfl
 unfold lj at B;cases b:jS (ev st.sl y) with
 |some q=>
  obtain ⟨f,caps⟩:=q;rw [b] at B;dsimp only at B;have key: ∃p:Array Value,a.eval X= .func (.func f) #[] p/\p.size=caps.length/\ ∀(i:Nat) (v:Value) (u:V),p[i]? =some v->caps[i]? =some u->VR E v u:=by
   unfold jS at b;split at b
   ·rename_i g cs m;simp only [Option.some.injEq,Prod.mk.injEq] at b;obtain ⟨rfl,rfl⟩:=b;rw [m] at s;have aq:=s.ax;generalize a.eval X=v at aq;cases aq with
    |clos _ p _ W A=>
     refine ⟨p,rfl,by simpa using W,fun i v u m r=>?_⟩;simp only [List.getElem?_map,Option.map_eq_some_iff] at r;obtain ⟨t,ht,rfl⟩:=r;exact .t _ _ (A i v t m ht)
   ·rename_i g cs m;simp only [Option.some.injEq,Prod.mk.injEq] at b;obtain ⟨rfl,rfl⟩:=b;rw [m] at s;generalize a.eval X=v at s;cases s with
    |fn _ p _ W A=>exact ⟨p,rfl,W,A⟩
   ·cases b
  obtain ⟨p,z,Y,R⟩:=key;have S:=fC (E:=E) (a:=a) (o:=o) U z B.1;rw [S];refine ⟨fun A=>(by cases A),CallsIn.mono (mD (B.2 N w0 S0 E a.tmps (az.map a.eval++p) h (by simp [M,Y]) (fun i v u m r=>?_) (fun k T=>by cases T;exact D))) ?_⟩
  ·by_cases hi:i<az.size
   ·rw [Array.getElem?_append_left (by simpa using hi)] at m;rw [List.getElem?_append_left (by simp;omega)] at r;exact h2 i v u m r
   ·rw [Array.getElem?_append_right (by simp;omega)] at m;rw [List.getElem?_append_right (by simp;omega)] at r;simp only [Array.size_map,List.length_map] at m r;rw [<- M] at r;exact R _ v u m r
  ·rintro e w' ⟨v,rfl,S1,C,j,H,I,J,L⟩;exact ⟨S1,C,j,H,I,J,by rw [fq];exact L,sN v⟩
 |none=>
  rw [b] at B;obtain ⟨l,hy,hY⟩:=B;rw [hy] at s;have z:a.eval X= .func (.yield l) #[] #[]:=by
   generalize a.eval X=v at s;cases s;rfl
  rw [pd U z];obtain ⟨fn,tmps,asg,body,e1,hR⟩:=hY ro (n - 1) N w0 S0 E a.tmps (az.map a.eval) h (by simp [M]) h2 (fun k T=>by cases T;exact D);rw [e1];refine ⟨fun A=>(by cases A),RoundIn.mono hR ?_⟩;rintro e w' ⟨v,rfl,S1,C,j,H,I,J,L⟩;exact ⟨S1,C,j,H,I,J,by rw [fq];exact L,sN v⟩
theorem bV.cd{id:Nat}{b:Array Oper}{k1 k2:List Nat}{k:Nat}(r:List.range b.size=k1++(k::k2)){c e:List DI}(I:ed P N b k1=some c)(D:c.all (fun i=> !i.op.aO)=true)(J:ed P N b k2=some e)(G:e.all (fun i=> !i.op.aO)=true)
  {o:Oper} (s:b[k]? =some o) (R:o.guard=none) {X:Operand} {y:O} {az:Array Operand} {ys:List O} {ats:Array TypeId} (T:o.op= .call {callee:=.value X,args:=az,argTypes:=ats }) (M:ak X=some y) (has:dW az.toList=some ys)
  {d:Nat} (hd:o.dst=some d) (m:d<N) {Q:aF->St->Prop}
  (W:bp P c st fun f=>lj P (ev f.sl y) (ys.map (ev f.sl)) (some d) f fun s1=>bp P e s1 (Q .normal)):bV P N (.region id b false) st Q:=by
 intro ro n w0 S0 E a g V S;refine wpIn_region ?_;rw [r];refine rz (ds:=a.defers) ?_ k1 c I D V rfl W;rintro B E1 f t h L;rw [wpOpsIn_cons];have H:Region.wanted o (yielded b B.tmps)=true:=by unfold Region.wanted;rw [R]
 unfold wpOpIn;simp only [s,H,if_true];refine Oper.wpIn_mono ?_ (qo (ro:=ro) (n:=n) t T M has hd m L);rintro a' w' ⟨S1,Z,Y,A,rfl,q,v,p⟩
 have:=rz (rest:=[]) (ro:=ro) (n:=n) (Q:=eJ N w0 S0 ro g Q) (ds:=a.defers) (K:=Q .normal) (fun C z s2 u j U=>(by
  show eJ N w0 S0 ro g Q .normal C z.w
  exact ⟨S1,g,z,s2,A,(by rw [j];exact S.ext A),Dn.refl,rfl,u,U⟩)) k2 e J G v (p.trans h) q
 rwa [List.append_nil] at this
end
end Go.DL
end
section
end
section
end
section
namespace Go.DL
open Go.RowKit
section
variable [Glb]{P:Program}{X:List FuncId}{N:Nat}{w0:World}{S0:aa}{E:Env}{st:St}{n:Nat}{ro:Option Nat}
theorem WCM.mono{f:FuncId}{us:List V}{d:Option Nat}{K c:St->Prop}(h:WCM P f us d st K)(p: ∀s,K s->c s):WCM P f us d st c:=by
 refine ⟨h.1,fun N w0 S0 E a vs q b r hd=>(h.2 N w0 S0 E a vs q b r hd).mono ?_⟩;rintro e w' ⟨v,rfl,S1,g,s1,i,j,k,m⟩;exact ⟨v,rfl,S1,g,s1,i,j,p _ k,m⟩
theorem YC.mono{l:Nat}{us:List V}{d:Option Nat}{K i:St->Prop}(h:YC P l us d st K)(u: ∀s,K s->i s):YC P l us d st i:=by
 intro ro n N w0 S0 E a vs w c z hd;obtain ⟨fn,f,g,b,k,t⟩:=h ro n N w0 S0 E a vs w c z hd;refine ⟨fn,f,g,b,k,RoundIn.mono t ?_⟩;rintro e w' ⟨v,rfl,S1,j,s1,m,p,q,r⟩;exact ⟨v,rfl,S1,j,s1,m,p,u _ q,r⟩
theorem bV.sK{id:Nat}{b:Array Oper}{k1 k2:List Nat}{k:Nat}(h:List.range b.size=k1++(k::k2)){c e:List DI}(q:ed P N b k1=some c)(m:c.all (fun i=> !i.op.aO)=true)(r:ed P N b k2=some e)(p:e.all (fun i=> !i.op.aO)=true)
  {X:Operand} {y:O} {az:Array Operand} {ys:List O} {ats:Array TypeId} {d:Nat} (u:(b[k]?).map (fun o=>(o.guard,o.op,o.dst))=some (none,.call {callee:=.value X,args:=az,argTypes:=ats },some d)) (t:ak X=some y) (has:dW az.toList=some ys)
  (g:d<N) {Q:aF->St->Prop}
  (v:bp P c st fun j=>lj P (ev j.sl y) (ys.map (ev j.sl)) (some d) j fun s1=>bp P e s1 (Q .normal)):bV P N (.region id b false) st Q:=by
 obtain ⟨o,s,f⟩:=Option.map_eq_some_iff.1 u;simp only [Prod.mk.injEq] at f;exact bV.cd h q m r p s f.1 f.2.1 t has f.2.2 g v
end
section
variable {P:Program}{X:List FuncId}{N:Nat}{w0:World}{S0:aa}{E:Env}{st:St}{n:Nat}{ro:Option Nat}
theorem mw{is:List DI}(h:(is.map DI.bare).all (fun i=> !i.op.aO)=true):is.all (fun i=> !i.op.aO)=true:=by
 rw [List.all_map] at h;exact h
end
section
variable [Glb]{P:Program}{X:List FuncId}{N:Nat}{w0:World}{S0:aa}{E:Env}{st:St}{n:Nat}{ro:Option Nat}
theorem bV.uI{id:Nat}{b:Array Oper}{k1 k2:List Nat}{k:Nat}(p:List.range b.size=k1++(k::k2)){c e:List DI}(w:(ed P N b k1).map (List.map DI.bare)=some c)(r:c.all (fun i=> !i.op.aO)=true)(z:(ed P N b k2).map (List.map DI.bare)=some e)(t:e.all (fun i=> !i.op.aO)=true)
  {X:Operand} {y:O} {az:Array Operand} {ys:List O} {ats:Array TypeId} {d:Nat} (D:(b[k]?).map (fun o=>(o.guard,o.op,o.dst))=some (none,.call {callee:=.value X,args:=az,argTypes:=ats },some d)) (C:ak X=some y) (has:dW az.toList=some ys)
  (j:d<N) {Q:aF->St->Prop}
  (G:bp P c st fun g=>lj P (ev g.sl y) (ys.map (ev g.sl)) (some d) g fun s1=>bp P e s1 (Q .normal)):bV P N (.region id b false) st Q:=by
 obtain ⟨H,u,rfl⟩:=Option.map_eq_some_iff.1 w;obtain ⟨I,v,rfl⟩:=Option.map_eq_some_iff.1 z;refine bV.sK p u (mw r) v (mw t) D C has j (lY ?_ (cq.1 G));intro g h;unfold lj at h ⊢;split
 ·rename_i f caps m;rw [m] at h;exact WCM.mono h fun s q=>cq.1 q
 ·rename_i m;rw [m] at h;obtain ⟨l,A,B⟩:=h;exact ⟨l,A,YC.mono B fun s q=>cq.1 q⟩
def jd:List Nat->Code->Code
 |[],c=>c
 |0::p,.seq a _=>jd p a
 |1::p,.seq _ b=>jd p b
 |0::p,.cond _ a _=>jd p a
 |1::p,.cond _ _ b=>jd p b
 |0::p,.block _ b=>jd p b
 |0::p,.loop b=>jd p b
 |0::p,.rangeFunc _ _ a _=>jd p a
 |1::p,.rangeFunc _ _ _ b=>jd p b
 |_,_=>.skip
def uQ:Code->Array Oper
 |.region _ ops _=>ops
 |_=> #[]
end
end Go.DL
end
section
end
section
end
section
namespace Go.DL
section
variable [Glb]{P:Program}{st:St}{K:St->Prop}{is:List DI}
end
section
variable {P:Program}{st:St}{K:St->Prop}{is:List DI}
theorem tR{cs vs:List T}{n:Nat}(h:cs.length=n):aP cs 0 n vs=vs:=by
 unfold aP;rw [List.take_zero,List.nil_append,Nat.zero_add,List.drop_eq_nil_of_le (by omega),List.append_nil]
end
section
variable [Glb]{P:Program}{st:St}{K:St->Prop}{is:List DI}
end
end Go.DL
end
section
end
section
end
section
end
section
end
section
end
section
namespace Go.DL
open Go Go.Proofs
theorem wJ {p:Prop} (h:p:=by first|exact trivial|exact LeV.same _|exact LeB.same _|exact rfl|exact fun _ _ _=>trivial|exact lI|exact LeV.nil _ _ _|exact lB):p:=h
section
variable [Glb]
theorem dl2 {P:Program} {X:List FuncId} (j:P.follows .mixedOrders=true) (rs:List ResultVar) (r:List T) {f:FuncId} {fn:Func} {d:aQ} {N:Nat} {b:List T} (g:P.funcs[f]? =some fn) (i:(fn.body.bind (bo P N X))=some d)
  (h:wpC P d (ft b) (oB (du P) rs r)) (c:fn.ntmps=N:=by rfl) (k:(fn.name== "runtime.NumGoroutine")=false:=by rfl) (m:fn.results.toList=rs:=by rfl) (e:b.length≤N:=by exact Nat.le_of_ble_eq_true rfl):DCalls P f b (lF r):=oL j g i c k m e h
end
abbrev sr (is:List DI) (c:aQ):aQ:=.seq (.region is []) c
abbrev rgQ (is:List DI):aQ:=.region is []
end Go.DL
end

