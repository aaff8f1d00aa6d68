/- Joined by program: parts of a data level over the model, of the program's functions over it, and of the statement's proof. -/
import Derived.Test.YtnfonfjleonbdaaGreatDoorGb
import Derived.Laws.Sem
import Derived.RangeFuncLeaves
import Derived.RangeFuncRecord
import Derived.OrdersIn
import Derived.RangeFuncIn
import Derived.RangeFuncOwn
import Derived.DataReads
import Derived.Carry
import Derived.ProofKit
import Derived.OpenShut
import Derived.Below
import Derived.JoinedCond
import Derived.Deep.DeepHandedRow
import Derived.Lib.LaidTab
import Derived.Laws.IdiomCopy
import Derived.Deep.AppendSrc
import Derived.Lib.Overlaps
import Derived.Lib.AppendZerosOnto
import Derived.Shelf.Spec.SlicesGrow
import Derived.Shelf.SlSortCmp.NoneTotal
import Derived.Sort.LoopGhostIn
import Derived.RangeFuncNested
import Derived.Shelf.Sort.Plain
import Derived.Shelf.Slices.In.SortNone
section
namespace Go.DL
open Go.RowKit
section
variable [Glb]{P:Program}{X:List FuncId}{N:Nat}{w0:World}{S0:aa}{a:Act}{E:Env}{st:St}
def kx:List T->T
 |[x]=>x
 |xs=>.tup xs
def cY(P:Program)(t:TypeId):Option (Nat×Bool):=
 match P.underlying t,P.info? t with
 |some _,some i=>cond (au P t||Nat.beq i.size 1) (some (i.size,au P t)) none
 |_,_=>none
theorem pF(h:SR N w0 S0 E st a.tmps){t:TypeId}{d:TypeDesc}{i:TypeInfo}(hu:P.underlying t=some d)(hi:P.info? t=some i){b off:Nat}{bx:BX}(hb:st.bx b=some bx){x:T}
  (hx:match eM b bx off i.size (au P t) with
   |.yes e=>asT e.val=some x
   |.eq c t _=>c/\t=x
   |_=>False): ∃v,(loadVar t ⟨E.κ b,off,none⟩).run P E.w= .ok v E.w/\Rep E.S E.w v x:=by
 have hB:=h.bx b bx hb;cases hM:bx.isM with
 |true=>cases bx <;> first|exact hx.elim|cases hM
 |false=>
 obtain ⟨cs,e,hg,hc⟩:=hB.cells hM;have cell: ∀j,E.w.cell? ⟨E.κ b,j,none⟩=cs[j]? :=fun j=>cell_of_row _ _ _ _ _ _ hg
 cases hc with
 |d m ts hl hs aq=>
  unfold eM ll at hx;cases hag:au P t with
  |true=>
   rw [hag] at hx;have big:off+i.size<=m-> ∃v,(loadVar t ⟨E.κ b,off,none⟩).run P E.w= .ok v E.w/\Rep E.S E.w v (.agg ((ts.drop off).take i.size)):=fun hle=>by
    have hl2:((cs.toList.drop off).take i.size).length=i.size:=by simp;omega
    refine ⟨_,bX hu hi hag _ _ _ ((cs.toList.drop off).take i.size) hl2 fun j v hj=>?_,dS (fun j x u hx hu'=>?_) ?_⟩
    ·rw [aF] at hj;split at hj
     ·rw [cell];simpa using hj
     ·cases hj
    ·rw [aF] at hx hu';split at hx
     ·rename_i hj;rw [if_pos hj] at hu';exact aq (off+j) x u (by simpa using hx) hu'
     ·cases hx
    ·rw [hl2];simp [hl];omega
   simp only at hx;cases hz:(Nat.beq off 0&&Nat.beq m i.size) with
   |true=>
    rw [hz] at hx;simp only [Bool.and_eq_true] at hz;have ho0:off=0:=Nat.eq_of_beq_eq_true hz.1;have hm:m=i.size:=Nat.eq_of_beq_eq_true hz.2;have hx':x= .agg ts:=by
     have:asT (.t (.agg ts))=some x:=hx
     exact (Option.some.inj this).symm
    obtain ⟨v,h1,h2⟩:=big (by omega);refine ⟨v,h1,?_⟩;rw [ho0,List.drop_zero,List.take_of_length_le (by omega)] at h2;rw [hx'];exact h2
   |false=>
    rw [hz] at hx;obtain ⟨hc,rfl⟩:=hx;exact big hc
  |false=>
   rw [hag] at hx;obtain ⟨hlt,rfl⟩:=hx;have bP:off<cs.size:=by omega
   have b9:E.w.cell? ⟨E.κ b,off,none⟩=some cs[off]:=by rw [cell];simp [bP]
   have ht:ts[off]? =some (ts[off]?.getD .nil):=by
    have:off<ts.length:=by omega
    simp [this]
   exact ⟨_,ba hu hag _ _ _ b9,(aq off _ _ (by simp [bP]) ht).1⟩
 |v vs hs aq=>
  unfold eM at hx;cases hag:au P t with
  |true=>
   rw [hag] at hx;simp only at hx;cases hT:eE ((vs.drop off).take i.size) with
   |none=>rw [hT] at hx;exact hx.elim
   |some ts=>
   rw [hT] at hx;simp only at hx;cases hz:Nat.beq ts.length i.size with
   |false=>rw [hz] at hx;exact hx.elim
   |true=>
   rw [hz] at hx;have hx':x= .agg ts:=by
    have:asT (.t (.agg ts))=some x:=hx
    exact (Option.some.inj this).symm
   subst hx';have hz:=Nat.eq_of_beq_eq_true hz;obtain ⟨q1,q2⟩:=ki hT;rw [List.length_take,List.length_drop,hz] at q1;have hl2:((cs.toList.drop off).take i.size).length=i.size:=by simp;omega
   refine ⟨_,bX hu hi hag _ _ _ ((cs.toList.drop off).take i.size) hl2 fun j v hj=>?_,dS (fun j x u hx hu'=>?_) ?_⟩
   ·rw [aF] at hj;split at hj
    ·rw [cell];simpa using hj
    ·cases hj
   ·have hx':=hx;rw [aF] at hx';split at hx'
    ·rename_i hj;have hlt:off+j<vs.length:=by
      have:=(gsZ hu').1
      omega
     have hv':((vs.drop off).take i.size)[j]? =some vs[off+j]:=by rw [aF,if_pos hj];exact ggZ hlt
     have hr:=aq (off+j) x _ (by simpa using hx') (ggZ hlt);have hR:=aC hr.1 (q2 j _ u hv' hu');exact ⟨hR,hR.jZ hr.2⟩
    ·cases hx'
   ·rw [hl2,hz]
  |false=>
   rw [hag] at hx;simp only at hx;cases hv:vs[off]? with
   |none=>rw [hv] at hx;exact hx.elim
   |some u=>
    rw [hv] at hx;have hlt:off<cs.size:=Nat.lt_of_lt_of_le (gsZ hv).1 hs;have b9:E.w.cell? ⟨E.κ b,off,none⟩=some cs[off]:=by rw [cell];simp [hlt]
    exact ⟨_,ba hu hag _ _ _ b9,aC (aq off _ _ (by simp [hlt]) hv).1 hx⟩
end
section
variable {P:Program}{X:List FuncId}{N:Nat}{w0:World}{S0:aa}{a:Act}{E:Env}{st:St}
theorem hZ{bx:Nat->Option BX}{n:Nat}: ∀{c a b:List V} {k:Nat},lH bx n c=some (a,k,b)->c=a++ .ptr k 0::b/\bx k=some (.v [.ptr n 0])
 |[],a,b,k,h=>by cases h
 |v::vs,a,b,k,h=>by
  unfold lH at h;split at h
  ·rename_i k' hk;simp only [Option.some.injEq,Prod.mk.injEq] at h;obtain ⟨rfl,rfl,rfl⟩:=h;split at hk
   ·rename_i k2;split at hk
    ·rename_i m hb;simp only [cond_eq_ite] at hk;split at hk
     ·rename_i hc;cases hk
      have:=Nat.eq_of_beq_eq_true hc
      subst this;exact ⟨rfl,hb⟩
     ·cases hk
    ·cases hk
   ·cases hk
  ·split at h
   ·rename_i a' k' b' hr;simp only [Option.some.injEq,Prod.mk.injEq] at h;obtain ⟨rfl,rfl,rfl⟩:=h;obtain ⟨h1,h2⟩:=hZ hr;exact ⟨by rw [h1];rfl,h2⟩
   ·cases h
theorem mL(hbx: ∀n b,st.bx n=some b->bD E (E.κ n) b)(hlv: ∀n,E.live n=(st.bx n).isSome){v:Value}{u:V}(h:VR E v u){t:T}{rd:List Nat}(hc:nA st.bx u=some (t,rd)):Rep (Sx E rd) E.w v t:=by
 unfold nA at hc;split at hc
 ·rename_i n off;split at hc
  ·rename_i r hw;cases hc;unfold qk at hw;split at hw
   ·rename_i f1 c1 f2 c2 hb;split at hw
    ·rename_i a1 k1 b1 a2 k2 b2 h1 h2;split at hw
     ·rename_i x1 r1 y1 s1 x2 r2 y2 s2 e1 e2 e3 e4;simp only [cond_eq_ite] at hw;split at hw
      ·rename_i hk;simp only [Option.some.injEq,Prod.mk.injEq] at hw;obtain ⟨rfl,rfl⟩:=hw;have hk:=Nat.eq_of_beq_eq_true hk;subst hk;obtain ⟨q1,q2⟩:=hZ h1;obtain ⟨q3,_⟩:=hZ h2;obtain ⟨rfl,hln⟩:=h.bd;obtain ⟨cs,e,hg,hcr⟩:=(hbx n _ hb).cells rfl;obtain ⟨cw,ew,hgw,hcw⟩:=(hbx k1 _ q2).cells rfl;have hlk:E.live k1=true:=by rw [hlv,q2];rfl
       cases hcr with
       |v _ hs hh=>
        have hs:2<=cs.size:=hs;have g0:cs[0]? =some cs[0]:=Array.getElem?_eq_getElem (by omega);have g1:cs[1]? =some cs[1]:=Array.getElem?_eq_getElem (by omega);have v0:=(hh 0 _ _ g0 rfl).1;have v1:=(hh 1 _ _ g1 rfl).1;cases hcw with
        |v _ hsw hhw=>
         have hsw:1<=cw.size:=hsw;have gw:cw[0]? =some cw[0]:=Array.getElem?_eq_getElem (by omega);have vw:=(hhw 0 _ _ gw rfl).1;have ew':=vw.bd.1;rw [ew'] at gw;have rn:n∈(n::k1::(r1++s1++r2++s2)):=by simp
         have rk:k1∈(n::k1::(r1++s1++r2++s2)):=by simp
         generalize hc0:cs[0]=z0 at v0 g0;generalize hc1:cs[1]=z1 at v1 g1;cases v0 with
         |fn _ d1 _ hs1 hv1=>
          cases v1 with
          |fn _ d2 _ hs2 hv2=>
           rw [q1] at hs1 hv1;rw [q3] at hs2 hv2;obtain ⟨p1,p2,p3,rfl,p4,p5,p6,p7,p8⟩:=jf hs1 hv1;obtain ⟨o1,o2,o3,rfl,o4,o5,o6,o7,o8⟩:=jf hs2 hv2;have z1':=p4.bd.1;have z2':=o4.bd.1;subst z1';subst z2';obtain ⟨L1,M1⟩:=bF hbx e1;obtain ⟨L2,M2⟩:=bF hbx e2;obtain ⟨L3,M3⟩:=bF hbx e3;obtain ⟨L4,M4⟩:=bF hbx e4;have fin: ∀{c:Array Value} {A:List V} {X:List T} {r:List Nat},A.length=X.length->(∀ (i:Nat) (v:Value) (u:V) (t:T),VR E v u->A[i]? =some u->X[i]? =some t->Rep (Sx E r) E.w v t)->(∀ (i:Nat) (x:Value) (u:V),c[i]? =some x->A[i]? =some u->VR E x u)->(∀ m∈r,m∈(n::k1::(r1++s1++r2++s2)))->
             ∀(i:Nat) (x:Value) (t:T),c[i]? =some x->X[i]? =some t->Rep (Sx E (n::k1::(r1++s1++r2++s2))) E.w x t:=fun {c A X r} hL hM hV hr i x t hx ht=>by
            have hlt:i<A.length:=by rw [hL];exact (gsZ ht).1
            have hA:=ggZ hlt;exact (hM i x _ t (hV i x _ hx hA) hA ht).mono (fM hr) (fun _ _ _=>aB.rfl)
           have cell: ∀i,E.w.cell? ⟨E.κ n,i,none⟩=cs[i]? :=fun i=>cell_of_row _ _ _ _ _ _ hg
           have:=Rep.wrld (S:=Sx E (n::k1::(r1++s1++r2++s2))) (w:=E.w) (E.κ n) 0 (E.κ k1) 0 off f1 f2 p1 p2 o1 o2 x1 y1 x2 y2 (by omega) (by omega) (by omega) (by omega)
            ⟨by rw [cell_of_row _ _ _ _ _ _ hgw];exact gw,.inr ⟨k1,rk,hlk,rfl⟩⟩ ⟨by rw [cell];exact g0,.inr ⟨n,rn,hln,rfl⟩⟩ ⟨by rw [cell];exact g1,.inr ⟨n,rn,hln,rfl⟩⟩
            (fin L1 M1 p7 (fun m hm=>by simp [hm])) (fin L2 M2 p8 (fun m hm=>by simp [hm])) (fin L3 M3 o7 (fun m hm=>by simp [hm])) (fin L4 M4 o8 (fun m hm=>by simp [hm]))
           rwa [Nat.zero_add] at this
      ·cases hw
     ·cases hw
    ·cases hw
   ·cases hw
  ·exact eI hbx h hc
 ·exact eI hbx h hc
end
section
variable [Glb]{P:Program}{X:List FuncId}{N:Nat}{w0:World}{S0:aa}{a:Act}{E:Env}{st:St}
def cq(tmps:Array Value):ResultVar->Sem Value
 |.tmp t=>pure (tmps.getD t undef)
 |.cell a t=>do loadVar t (<- asAddr (tmps.getD a undef))
def oP(E:Env):ar:=fun b o=>E.S b o\/ ∃n,E.live n=true/\b=E.κ n
end
section
variable {P:Program}{X:List FuncId}{N:Nat}{w0:World}{S0:aa}{a:Act}{E:Env}{st:St}
theorem qS{E:Env}{rd:List Nat}: ∀b o,Sx E rd b o->oP E b o:=by
 rintro b o (h|⟨n,_,h⟩)
 ·exact .inl h
 ·exact .inr ⟨n,h⟩
end
section
variable [Glb]{P:Program}{X:List FuncId}{N:Nat}{w0:World}{S0:aa}{a:Act}{E:Env}{st:St}
theorem jw(h:SR N w0 S0 E st a.tmps): ∀{rs:List ResultVar} {xs:List T},iz (cY P) st rs xs-> ∃vs:List Value,(rs.mapM (cq a.tmps)).run P E.w= .ok vs E.w/\vs.length=xs.length/\
  ∀(i:Nat) (v:Value) (x:T),vs[i]? =some v->xs[i]? =some x->Rep (oP E) E.w v x
 |[],[],_=>⟨[],by simp,rfl,fun i v x hv=>by simp at hv⟩
 |.tmp t::rs,x::xs,hp=>by
  obtain ⟨vs,h1,h2,h3⟩:=jw h hp.2;refine ⟨a.tmps.getD t undef::vs,?_,by simp [h2],fun i v y hv hy=>?_⟩
  ·rw [List.mapM_cons,Sem.run_bind]
   have:(cq a.tmps (.tmp t)).run P E.w= .ok (a.tmps.getD t undef) E.w:=rfl
   rw [this];simp [h1]
  ·cases i with
   |zero=>
    simp only [List.getElem?_cons_zero,Option.some.injEq] at hv hy;subst hv;subst hy;obtain ⟨⟨x',rd⟩,hc,rfl⟩:=Option.map_eq_some_iff.1 hp.1;exact (mL h.bx h.live (h.sl t) hc).mono qS (fun _ _ _=>aB.rfl)
   |succ i=>simp at hv hy;exact h3 i v y hv hy
 |.cell c ty::rs,x::xs,hp=>by
  obtain ⟨hp1,hp2⟩:=hp;obtain ⟨vs,h1,h2,h3⟩:=jw h hp2;have key: ∃v,(cq a.tmps (.cell c ty)).run P E.w= .ok v E.w/\Rep E.S E.w v x:=by
   have hs:=h.sl c;split at hp1
   ·rename_i b off n agg hb hz;rw [hb] at hs;obtain ⟨hv,hl⟩:=hs.bd;unfold cY at hz;split at hz
    ·rename_i d i hu hi;simp only [cond_eq_ite] at hz;split at hz
     ·simp only [Option.some.injEq,Prod.mk.injEq] at hz;obtain ⟨rfl,rfl⟩:=hz;split at hp1
      ·rename_i cs hcs;obtain ⟨v,k1,k2⟩:=pF h hu hi (off:=off) hcs (x:=x) hp1;refine ⟨v,?_,k2⟩;show (asAddr (a.tmps.getD c undef) >>= fun d=>loadVar ty d).run P E.w=_
       rw [hv];simp [asAddr,k1]
      ·exact hp1.elim
     ·cases hz
    ·cases hz
   ·exact hp1.elim
  obtain ⟨v0,k1,k2⟩:=key;refine ⟨v0::vs,?_,by simp [h2],fun i v y hv hy=>?_⟩
  ·rw [List.mapM_cons,Sem.run_bind,k1];simp [h1]
  ·cases i with
   |zero=>simp only [List.getElem?_cons_zero,Option.some.injEq] at hv hy;subst hv;subst hy;exact k2.mono (fun b o hs=>.inl hs) (fun _ _ _=>aB.rfl)
   |succ i=>simp at hv hy;exact h3 i v y hv hy
 |[],_::_,hp=>hp.elim
 |.tmp _::_,[],hp=>hp.elim
 |.cell _ _::_,[],hp=>hp.elim
theorem iZ(h:SR N w0 S0 E st a.tmps){fn:Func}{xs:List T}(hp:iz (cY P) st fn.results.toList xs): ∃v,(results fn a.tmps).run P E.w= .ok v E.w/\Rep (oP E) E.w v (kx xs):=by
 obtain ⟨vs,h1,h2,h3⟩:=jw h hp;have hr:(results fn a.tmps).run P E.w= .ok (if h:vs.toArray.size=1 then vs.toArray[0] else .tuple vs.toArray) E.w:=by
  have:results fn a.tmps=(do let vs <-fn.results.mapM (cq a.tmps);pure (if h:vs.size=1 then vs[0] else .tuple vs)):=rfl
  rw [this,Array.mapM_eq_mapM_toList];rw [Sem.run_bind];have h2:(Functor.map List.toArray (fn.results.toList.mapM (cq a.tmps))).run P E.w= .ok vs.toArray E.w:=by
   rw [map_eq_pure_bind,Sem.run_bind,h1];rfl
  rw [h2];rfl
 refine ⟨_,hr,?_⟩
 match vs,xs,h2,h3 with
 |[v],[x],_,h3=>exact h3 0 v x rfl rfl
 |[],[],_,h3=>exact .tup _ _ rfl fun i x t hx ht=>by simp at ht
 |v::u::vs,x::y::xs,h2,h3=>
  have hne: ¬(v::u::vs).toArray.size=1:=by simp
  rw [dif_neg hne];exact .tup _ _ (by simpa using h2) fun i z t hz ht=>h3 i z t (by simpa using hz) ht
end
section
variable {P:Program}{X:List FuncId}{N:Nat}{w0:World}{S0:aa}{a:Act}{E:Env}{st:St}
theorem dX{f:FuncId}{fn:Func}(hf:P.funcs[f]? =some fn)(hb:fn.body.isSome=true)(hn:(fn.name== "runtime.NumGoroutine")=false):bH P f:=fun args w=>by
 have hb':fn.body.isNone=false:=by cases h:fn.body <;> simp_all
 have hp:(program:Sem Program).run P w= .ok P w:=rfl;unfold callFunc;rw [Sem.run_bind,hp];simp only [Result.andThen_ok,hf,hn,hb',Bool.false_eq_true,if_false];rfl
end
section
variable [Glb]{P:Program}{X:List FuncId}{N:Nat}{w0:World}{S0:aa}{a:Act}{E:Env}{st:St}
theorem ko{S:ar}{w:World}{vs:List Value}{args:List T}(hS: ∀b o,S b o->b<w.heap.size)(hG:bo S w)(hlen:vs.length=args.length)(aq: ∀(i:Nat) (v:Value) (t:T),vs[i]? =some v->args[i]? =some t->Rep S w v t)(ha:args.length<=N):
  SR N w {S:=S } {S:=S,w:=w,B:=w.heap.size,κ:=fun _=>0,ρ:=fun _=>none,live:=fun _=>false } (fX args) (vs.toArray++Array.replicate (N - vs.toArray.size) undef):=by
 refine ⟨by simp;omega,rfl,hG,fun m=>?_,fun k m=>.top _,fun n b hb=>(by cases hb),fun n=>rfl,fun n m hn=>(by cases hn),fun r g hr=>(by cases hr),fun r r' g hr=>(by cases hr),hS,Below.refl _ _,fun b o h=>h,fun b o h=>.inl h,fun g o hg=>(by cases hg),trivial⟩;show VR _ _ (match args[m]? with|some t=>.t t|none=>.top)
 cases ht:args[m]? with
 |none=>exact .top _
 |some t=>
  have hlt:m<vs.length:=by rw [hlen];exact (gsZ ht).1
  have hv:=aq m vs[m] t (ggZ hlt) ht
  have:(vs.toArray++Array.replicate (N - vs.toArray.size) undef).getD m undef=vs[m]:=by
   rw [Array.getD_eq_getD_getElem?,Array.getElem?_append_left (by simpa using hlt)];simp [hlt]
  rw [this];exact .t _ _ hv
theorem nX(hm:P.follows .mixedOrders=true){f:FuncId}{fn:Func}{c:Code}{d:aV}(hf:P.funcs[f]? =some fn)(hb:fn.body=some c)(hn:(fn.name== "runtime.NumGoroutine")=false)
  (hl:bp P fn.ntmps X c=some d) {args:List T} {r:List T} (ha:args.length<=fn.ntmps) (h:wpC P d (fX args) (nq (cY P) fn.results.toList r)):DCalls P f args (kx r):=by
 refine ⟨dX hf (by rw [hb];rfl) hn,fun S w vs hS hG hlen aq=>calls_of_wp hf hb ?_⟩;have hsr:=ko (N:=fn.ntmps) hS hG hlen aq ha;refine wp_mono (mE hm hl (a:={tmps:=vs.toArray++Array.replicate (fn.ntmps - vs.toArray.size) undef,defers:=[]}) hsr h) ?_;have fin: ∀{a':Act} {w':World},bS fn.ntmps w {S:=S } [] (fun st'=>iz (cY P) st' fn.results.toList r) a' w'->a'.defers=[]/\ ∃v,(results fn a'.tmps).run P w'= .ok v w'/\
   ∃v',Ending.returned v= .returned v'/\Below w.heap.size w w'/\Rep (fun b o=>S b o\/(w.heap.size<=b/\b<w'.heap.size)) w' v' (kx r):=by
  rintro a' w' ⟨E',st',rfl,aT,hdf,hk⟩;obtain ⟨v,h1,h2⟩:=iZ aT hk;refine ⟨hdf,v,h1,v,rfl,aT.below,h2.mono (fun b o hs=>?_) (fun _ _ _=>aB.rfl)⟩;rcases hs with hs|⟨n,hn,rfl⟩
  ·exact (aT.s1 b o hs).imp id fun hle=>⟨hle,aT.lt b o hs⟩
  ·right;rw [aT.live] at hn;obtain ⟨b',hb'⟩:=Option.isSome_iff_exists.1 hn;have hB:=aT.bx n b' hb';obtain ⟨_,hg,_⟩:=hB.at_
   have:=hB.old
   rw [aT.base] at this;exact ⟨this,(Array.getElem?_eq_some_iff.1 hg).1⟩
 intro e a' w' hh;cases e with
 |normal=>exact fin hh
 |ret=>exact fin hh
 |exit id=>
  obtain ⟨_,_,_,_,_,hk⟩:=hh;exact hk.elim
 |goto l=>exact hh.elim
 |panic ch=>exact hh.elim
 |outgrown=>exact hh.elim
theorem nC(hm:P.follows .mixedOrders=true){f:FuncId}{fn:Func}{d:aV}{N:Nat}{rs:List ResultVar}(hf:P.funcs[f]? =some fn)(hl:(fn.body.bind (bp P N X))=some d)(hN:fn.ntmps=N)(hn:(fn.name== "runtime.NumGoroutine")=false)
  (hr:fn.results.toList=rs) {args:List T} {r:List T} (ha:args.length<=N) (h:wpC P d (fX args) (nq (cY P) rs r)):DCalls P f args (kx r):=by
 cases hb:fn.body with
 |none=>rw [hb] at hl;cases hl
 |some c=>
  rw [hb] at hl;subst hN;subst hr;exact nX hm hf hb hn hl ha h
end
end Go.DL
end
section
namespace Go.DL
open Go.RowKit
section
variable [Glb]{P:Program}{X:List FuncId}{N:Nat}{w0:World}{S0:aa}{a:Act}{E:Env}{st:St}
theorem dB{a:Array Value}{d:Option Nat}{v:Value}{u:V}(h:SR N w0 S0 E st a)(hd: ∀n,d=some n->n<N)(hv:VR E v u):SR N w0 S0 E (st.set d u) (ku a d v):=by
 cases d with
 |none=>exact h
 |some n=>exact h.put (hd n rfl) hv
theorem sX{f:FuncId}{us:List V}{d:Option Nat}{K:St->Prop}{ts:List T}{rd:List Nat}{r:T}(hc:bm st.bx us=some (ts,rd))(hr:DCalls P f ts r)(hf:rd=[]\/r.flat=true)(hk:K (st.set d (.t r))):WC P f us d st K:=by
 refine ⟨hr.1,fun N w0 S0 E a vs h hlen hv hd=>?_⟩;obtain ⟨c1,c2⟩:=ed h.bx hc;have hlt: ∀b x,Sx E rd b x->b<E.w.heap.size:=by
  rintro b x (h1|⟨n,_,hl,rfl⟩)
  ·exact h.lt b x h1
  ·rw [h.live] at hl;obtain ⟨b',hb'⟩:=Option.isSome_iff_exists.1 hl;obtain ⟨_,hg,_⟩:=(h.bx n b' hb').at_;exact (Array.getElem?_eq_some_iff.1 hg).1
 have bZ:=hr.2 (Sx E rd) E.w vs.toList hlt (h.nF rd) (by simp;omega) (fun i v t hvi ht=>by
  have hi:i<us.length:=by rw [c1];exact (gsZ ht).1
  exact c2 i v _ t (hv i v _ (by simpa using hvi) (ggZ hi)) (ggZ hi) ht)
 refine Calls.mono (by simpa using bZ) ?_;rintro e w' ⟨v,rfl,hb,aq⟩;refine ⟨v,rfl,?_⟩;rcases hf with rfl|hf
 ·have h':=h.world hb (fun b o=>E.S b o\/(E.w.heap.size<=b/\b<w'.heap.size)) (fun b o=>⟨fun hh=>hh.elim .inl fun k=>.inr ⟨.inr k,k⟩,fun hh=>hh.elim .inl fun k=>k.1⟩);refine ⟨_,_,rfl,hk,dB h' hd (.t _ _ (aq.mono (fun b o hh=>?_) (fun _ _ _=>aB.rfl)))⟩;rcases hh with (h1|⟨n,hn,_⟩)|h1
  ·exact .inl h1
  ·simp at hn
  ·exact .inr h1
 ·have h':=h.world hb E.S (fun b o=>⟨.inl,fun hh=>hh.elim id fun k=>k.1⟩);exact ⟨_,_,rfl,hk,dB h' hd (.t _ _ (aq.of_flat hf))⟩
def fI(st:St):List ResultVar->Option (List V)
 |[]=>some []
 |.tmp t::rs=>match fI st rs with
  |some us=>some (st.sl t::us)
  |none=>none
 |.cell _ _::_=>none
def dR:List V->V
 |[u]=>u
 |us=>.tup us
theorem jv(h:SR N w0 S0 E st a.tmps): ∀{rs:List ResultVar} {us:List V},fI st rs=some us-> ∃vs:List Value,(rs.mapM (cq a.tmps)).run P E.w= .ok vs E.w/\vs.length=us.length/\ ∀(i:Nat) (v:Value) (u:V),vs[i]? =some v->us[i]? =some u->VR E v u
 |[],us,hr=>by cases hr;exact ⟨[],by simp,rfl,fun i v x hv=>by simp at hv⟩
 |.cell _ _::_,us,hr=>by cases hr
 |.tmp t::rs,us,hr=>by
  unfold fI at hr;split at hr
  ·rename_i us' hr';cases hr;obtain ⟨vs,h1,h2,h3⟩:=jv h hr';refine ⟨a.tmps.getD t undef::vs,?_,by simp [h2],fun i v y hv hy=>?_⟩
   ·rw [List.mapM_cons,Sem.run_bind]
    have:(cq a.tmps (.tmp t)).run P E.w= .ok (a.tmps.getD t undef) E.w:=rfl
    rw [this];simp [h1]
   ·cases i with
    |zero=>simp only [List.getElem?_cons_zero,Option.some.injEq] at hv hy;subst hv;subst hy;exact h.sl t
    |succ i=>simp at hv hy;exact h3 i v y hv hy
  ·cases hr
theorem mm(h:SR N w0 S0 E st a.tmps){fn:Func}{us:List V}(hr:fI st fn.results.toList=some us): ∃v,(results fn a.tmps).run P E.w= .ok v E.w/\VR E v (dR us):=by
 obtain ⟨vs,h1,h2,h3⟩:=jv (P:=P) h hr;have hr:(results fn a.tmps).run P E.w= .ok (if h:vs.toArray.size=1 then vs.toArray[0] else .tuple vs.toArray) E.w:=by
  have:results fn a.tmps=(do let vs <-fn.results.mapM (cq a.tmps);pure (if h:vs.size=1 then vs[0] else .tuple vs)):=rfl
  rw [this,Array.mapM_eq_mapM_toList];rw [Sem.run_bind];have h2:(Functor.map List.toArray (fn.results.toList.mapM (cq a.tmps))).run P E.w= .ok vs.toArray E.w:=by
   rw [map_eq_pure_bind,Sem.run_bind,h1];rfl
  rw [h2];rfl
 refine ⟨_,hr,?_⟩
 match vs,us,h2,h3 with
 |[v],[x],_,h3=>exact h3 0 v x rfl rfl
 |[],[],_,h3=>exact .tup _ _ rfl fun i x t hx ht=>by simp at ht
 |v::u::vs,x::y::xs,h2,h3=>
  have hne: ¬(v::u::vs).toArray.size=1:=by simp
  rw [dif_neg hne];exact .tup _ _ (by simpa using h2) fun i z t hz ht=>h3 i z t (by simpa using hz) ht
def r7(s:Nat->V)(g:Nat->Nat->V):Nat->Nat->V
 |0=>s
 |k+1=>g k
def qq(s:Nat->Value)(g:Nat->Nat->Value):Nat->Nat->Value
 |0=>s
 |k+1=>g k
def St.enter(st:St)(us:List V)(off:Nat):St:={sl:=fun m=>us[m]?.getD .top,bx:=st.bx,gh:=r7 st.sl st.gh,off:=off,cx:=fun S w=> ∃vals,st.cx {S with vals:=vals } w }
def St.back(st2 st:St):St:={sl:=st2.gh 0,bx:=st2.bx,gh:=fun k=>st2.gh (k+1),off:=st.off,cx:=st.cx }
def rN(rs:List ResultVar)(st:St)(d:Option Nat)(K:St->Prop):aG->St->Prop
 |.normal,st2=> ∃us,fI st2 rs=some us/\K ((st2.back st).set d (dR us))
 |.ret,st2=> ∃us,fI st2 rs=some us/\K ((st2.back st).set d (dR us))
 |.exit _,_=>False
theorem sP(hm:P.follows .mixedOrders=true){f:FuncId}{fn:Func}{dc:aV}{N':Nat}{rs:List ResultVar}(hf:P.funcs[f]? =some fn)(hl:(fn.body.bind (bp P N' X))=some dc)(hN:fn.ntmps=N')(hn:(fn.name== "runtime.NumGoroutine")=false)
  (hr:fn.results.toList=rs) {us:List V} (off:Nat) (ha:us.length<=N') {d:Option Nat} {K:St->Prop} (hw:wpC P dc (st.enter us off) (rN rs st d K)):WC P f us d st K:=by
 cases hb:fn.body with
 |none=>rw [hb] at hl;cases hl
 |some c=>
  rw [hb] at hl;subst hN;subst hr;refine ⟨dX hf (by rw [hb];rfl) hn,fun N w0 S0 E a vs h hlen hv hd=>calls_of_wp hf hb ?_⟩;have hsr:SR fn.ntmps w0 {S0 with vals:=qq (fun m=>a.getD m undef) S0.vals } E (st.enter us off) (vs++Array.replicate (fn.ntmps - vs.size) undef):=by
   refine ⟨by simp;omega,h.base,h.glob,fun m=>?_,fun k m=>?_,h.bx,h.live,h.inj,h.rows,h.rinj,h.lt,h.below,h.s0,h.s1,h.obj,⟨S0.vals,h.cx⟩⟩
   ·show VR _ _ (us[m]?.getD .top)
    cases ht:us[m]? with
    |none=>exact .top _
    |some t=>
     have hlt:m<vs.size:=by rw [hlen];exact (gsZ ht).1
     have hv:=hv m vs[m] t (Array.getElem?_eq_getElem hlt) ht
     have:(vs++Array.replicate (fn.ntmps - vs.size) undef).getD m undef=vs[m]:=by
      rw [Array.getD_eq_getD_getElem?,Array.getElem?_append_left hlt];simp [hlt]
     rw [this];exact hv
   ·cases k with
    |zero=>exact h.sl m
    |succ k=>exact h.gh k m
  refine wp_mono (mE hm hl (a:={tmps:=vs++Array.replicate (fn.ntmps - vs.size) undef,defers:=[]}) hsr hw) ?_;have fin: ∀{a':Act} {w':World},bS fn.ntmps w0 {S0 with vals:=qq (fun m=>a.getD m undef) S0.vals } [] (fun st2=> ∃us,fI st2 fn.results.toList=some us/\K ((st2.back st).set d (dR us))) a' w'->a'.defers=[]/\ ∃v,(results fn a'.tmps).run P w'= .ok v w'/\
    ∃v',Ending.returned v= .returned v'/\ ∃(E':Env) (st':St),E'.w=w'/\K st'/\SR N w0 S0 E' st' (ku a d v'):=by
   rintro a' w' ⟨E',st2,rfl,aT,hdf,us',hus,hk⟩;obtain ⟨v,h1,h2⟩:=mm (P:=P) aT hus;have lf:SR N w0 S0 E' (st2.back st) a:=by
    refine ⟨h.size,aT.base,aT.glob,fun m=>aT.gh 0 m,fun k m=>aT.gh (k+1) m,aT.bx,aT.live,aT.inj,aT.rows,aT.rinj,aT.lt,aT.below,aT.s0,aT.s1,aT.obj,h.cx⟩
   exact ⟨hdf,v,h1,v,rfl,E',_,rfl,hk,dB lf hd h2⟩
  intro e a' w' hh;cases e with
  |normal=>exact fin hh
  |ret=>exact fin hh
  |exit id=>
   obtain ⟨_,_,_,_,_,hk⟩:=hh;exact hk.elim
  |goto l=>exact hh.elim
  |panic ch=>exact hh.elim
  |outgrown=>exact hh.elim
def rL(rs:List ResultVar)(e:TypeId)(size:Nat)(xs rest:List T):aG->St->Prop
 |.exit _,_=>False
 |_,st=>(∀ t∈xs.flatMap T.cells,t.flat=true)/\(∀ t∈rest,t.flat=true)/\ ∃u,fI st rs=some (u::rest.map .t)/\((∃ q,u= .own q e size xs)\/(u= .t .nil/\xs=[]))
def qQ(w:World)(e:TypeId)(size:Nat)(xs rest:List T)(v:Value)(w':World):Prop:=
 ∃(v':Value) (us:List Value),Ending.returned v= .returned (iN v' us)/\Below w.heap.size w w'/\gn w w' v' e size xs/\
  us.length=rest.length/\ ∀(i:Nat) (u:Value) (t:T),us[i]? =some u->rest[i]? =some t->t.flat=true/\Rep (fun _ _=>False) w' u t
theorem ou{S0:aa}{E:Env}{st:St}{w:World}{a:Act}(h:SR N w S0 E st a.tmps){fn:Func}{e:TypeId}{size:Nat}{xs rest:List T}(hfl: ∀t∈xs.flatMap T.cells,t.flat=true)(hrf: ∀t∈rest,t.flat=true){u:V}
  (pC:fI st fn.results.toList=some (u::rest.map .t)) (hu:(∃ q,u= .own q e size xs)\/(u= .t .nil/\xs=[])): ∃v,(results fn a.tmps).run P E.w= .ok v E.w/\qQ w e size xs rest v E.w:=by
 obtain ⟨vals,h1,h2,h3⟩:=jv (P:=P) h pC
 match vals,h2,h3 with
 |[],h2,_=>simp at h2
 |v::us,h2,h3=>
  have hv:=h3 0 v u rfl rfl;have hfr:gn w E.w v e size xs:=by
   have own: ∀q,VR E v (.own q e size xs)->gn w E.w v e size xs:=fun q ho=>by
    have ho:=ho.eU;obtain ⟨cells,k1,k2,k3⟩:=ho.ex;rw [h.base] at k1;exact ⟨⟨cells,k1,k2,fun i x t hx ht=>(k3 i x t hx ht).of_flat (hfl t (List.mem_of_getElem? ht))⟩,ho.uni,ho.one,hfl⟩
   rcases hu with ⟨q,rfl⟩|⟨rfl,rfl⟩
   ·exact own q hv
   ·have hn:=hv.ax;cases hn;exact own 0 (.own _ 0 e size [] (bN.nil 0 e size))
  have hr:(results fn a.tmps).run P E.w= .ok (if h:(v::us).toArray.size=1 then (v::us).toArray[0] else .tuple (v::us).toArray) E.w:=by
   have:results fn a.tmps=(do let vs <-fn.results.mapM (cq a.tmps);pure (if h:vs.size=1 then vs[0] else .tuple vs)):=rfl
   rw [this,Array.mapM_eq_mapM_toList];rw [Sem.run_bind];have h2:(Functor.map List.toArray (fn.results.toList.mapM (cq a.tmps))).run P E.w= .ok (v::us).toArray E.w:=by
    rw [map_eq_pure_bind,Sem.run_bind,h1];rfl
   rw [h2];rfl
  refine ⟨_,hr,v,us,?_,h.below,hfr,by simpa using h2,fun i x t hx ht=>?_⟩
  ·match us with
   |[]=>rfl
   |y::ys=>
    have hne: ¬(v::y::ys).toArray.size=1:=by simp
    rw [dif_neg hne];rfl
  ·have hft:=hrf t (List.mem_of_getElem? ht);exact ⟨hft,(h3 (i+1) x (.t t) (by simpa using hx) (by simpa using ht)).ax.of_flat hft⟩
theorem rR(hm:P.follows .mixedOrders=true){f:FuncId}{fn:Func}{d:aV}{N:Nat}{rs:List ResultVar}(hf:P.funcs[f]? =some fn)(hl:(fn.body.bind (bp P N X))=some d)(hN:fn.ntmps=N)(hn:(fn.name== "runtime.NumGoroutine")=false)
  (hr:fn.results.toList=rs) {args:List T} {e:TypeId} {size:Nat} {xs rest:List T} (ha:args.length<=N) (h:wpC P d (fX args) (rL rs e size xs rest)):eu P f args e size xs rest:=by
 cases hb:fn.body with
 |none=>rw [hb] at hl;cases hl
 |some c=>
  rw [hb] at hl;subst hN;subst hr;refine ⟨dX hf (by rw [hb];rfl) hn,fun S w vs hS hG hlen aq=>calls_of_wp hf hb ?_⟩;have hsr:=ko (N:=fn.ntmps) hS hG hlen aq ha;refine wp_mono (mE hm hl (a:={tmps:=vs.toArray++Array.replicate (fn.ntmps - vs.toArray.size) undef,defers:=[]}) hsr h) ?_;have fin: ∀{a':Act} {w':World},bS fn.ntmps w {S:=S } [] (fun st=>(∀ t∈xs.flatMap T.cells,t.flat=true)/\(∀ t∈rest,t.flat=true)/\ ∃u,fI st fn.results.toList=some (u::rest.map .t)/\((∃ q,u= .own q e size xs)\/(u= .t .nil/\xs=[]))) a' w'->
    a'.defers=[]/\ ∃v,(results fn a'.tmps).run P w'= .ok v w'/\qQ w e size xs rest v w':=by
   rintro a' w' ⟨E',st',rfl,aT,hdf,hfl,hrf,u,pC,hu⟩;exact ⟨hdf,ou aT hfl hrf pC hu⟩
  intro en a' w' hh;cases en with
  |normal=>exact fin hh
  |ret=>exact fin hh
  |exit id=>
   obtain ⟨_,_,_,_,_,hk⟩:=hh;exact hk.elim
  |goto l=>exact hh.elim
  |panic ch=>exact hh.elim
  |outgrown=>exact hh.elim
def mC(u:V)(rest:List T):V:=
 match rest with
 |[]=>u
 |_=>.tup (u::rest.map .t)
end
section
variable {P:Program}{X:List FuncId}{N:Nat}{w0:World}{S0:aa}{a:Act}{E:Env}{st:St}
theorem jb{v:Value}{u:V}{us:List Value}{rest:List T}(hv:VR E v u)(hl:us.length=rest.length)(hr: ∀(i:Nat) (x:Value) (t:T),us[i]? =some x->rest[i]? =some t->t.flat=true/\Rep (fun _ _=>False) E.w x t):
  VR E (iN v us) (mC u rest):=by
 match us,rest,hl,hr with
 |[],[],_,_=>exact hv
 |y::ys,t::ts,hl,hr=>
  refine .tup _ _ (by simpa using hl) fun i x z hx hz=>?_
  cases i with
  |zero=>simp at hx hz;subst hx;subst hz;exact hv
  |succ i=>
   have hx':(y::ys)[i]? =some x:=by simpa using hx
   have hz':((t::ts).map V.t)[i]? =some z:=by simpa using hz
   rw [List.getElem?_map,Option.map_eq_some_iff] at hz';obtain ⟨t',ht',rfl⟩:=hz'
   have:=hr i x t' hx' ht'
   exact .t _ _ (this.2.of_flat this.1)
end
section
variable [Glb]{P:Program}{X:List FuncId}{N:Nat}{w0:World}{S0:aa}{a:Act}{E:Env}{st:St}
theorem sR{f:FuncId}{us:List V}{d:Nat}{K:St->Prop}{ts:List T}{rd:List Nat}{e:TypeId}{size:Nat}{xs rest:List T}(hc:bm st.bx us=some (ts,rd))(hr:eu P f ts e size xs rest)
  (hk:K ((st.dg (d+st.off) (d+st.off)).set (some d) (mC (.own (d+st.off) e size xs) rest))):WC P f us (some d) st K:=by
 refine ⟨hr.1,fun N w0 S0 E a vs h hlen hv hd=>Calls.mono (iT (a:=⟨a,[]⟩) hc hr h hlen hv) ?_⟩;rintro en w' ⟨v,us',rfl,hb,hfr,hl,iK,h'⟩;refine ⟨_,rfl,?_⟩;have h1:=h'.dg (d+st.off) (d+st.off);have hne:E.w.heap.size<=w'.heap.size:=hb.size;have klt: ∀m,E.live m=true->E.κ m<E.w.heap.size:=fun m hm=>lj (a:=⟨a,[]⟩) h hm
 obtain ⟨cells,k1,k2,k3⟩:=hfr.ex;rcases k1.2 with ⟨rfl,hn⟩|⟨g,cap,cur,rfl,hbg,hg,cO,hm,hs,htk⟩
 ·have hx:xs=[]:=List.eq_nil_of_length_eq_zero hn;subst hx;exact ⟨_,_,rfl,hk,dB h1 hd (jb (.own _ _ _ _ _ (bN.nil _ _ _)) hl iK)⟩
 ·have hlt:g<w'.heap.size:=(Array.getElem?_eq_some_iff.1 hg).1;have h2:=h1.lr (q:=d+st.off) (g:=g) (k:=(xs.flatMap T.cells).length) (by simp) (fun m hm=>by have:=klt m hm;show E.κ m≠g;omega) (fun r hr=>by
   dsimp only at hr;split at hr
   ·cases hr
   ·have:=(h.rows r g hr).2.1;omega) hlt (by show E.B<=g;rw [h.base];have:=h.below.size;omega)
  refine ⟨_,_,rfl,hk,dB h2 hd (jb (.own _ _ _ _ _ ⟨⟨cells,⟨k1.1,.inr ⟨g,cap,cur,rfl,?_,hg,cO,hm,hs,htk⟩⟩,k2,fun i x t hx ht=>(k3 i x t hx ht).of_flat (hfr.flat t (List.mem_of_getElem? ht))⟩,hfr.uni,hfr.one,fun g' hg'=>?_⟩) hl iK)⟩
  ·show E.B<=g;rw [h.base];have:=h.below.size;omega
  ·simp only [Value.ownBlock,Option.some.injEq] at hg';subst hg';refine ⟨aj _ _ _,fun o=>?_⟩;show (E.S g o\/(g=g/\o<_))↔_
   exact ⟨fun hh=>hh.elim (fun hs=>absurd (h.lt g o hs) (by omega)) (·.2),fun hh=>.inr ⟨rfl,hh⟩⟩
end
end Go.DL
end
section
namespace Go.DL
open Go.RowKit
section
variable [Glb]{P:Program}{N:Nat}{w0:World}{S0:aa}{o:Oper}{a:Act}{E:Env}{st:St}{F:Fence}{n:Nat}
theorem pK(hF: ∀f,F.fn f)(h:SR N w0 S0 E st a.tmps)(hd:ay N o.dst){x:DOp}(hl:ah P o.op=some x)(hc:x.bC=false){K:St->Prop}(hw:wpO P x o.dst st K){Q:Exit->Act->World->Prop}:
  o.wpIn F n P a E.w (fun a' w'=> ∃st',K st'/\bt N w0 S0 a st' a' w') Q:=by
 obtain ⟨st',hk,nx,v,E',hr,hnx,hsr⟩:=nn h hd hl hc hw;refine ⟨fun f _=>hF f,?_⟩;rw [Oper.semAt_eq _ _ _ (fun c hop=>by rw [hop] at hl;cases hl),hr];rcases hnx with rfl|⟨rfl,rfl⟩
 ·exact ⟨st',hk,E',rfl,hsr,by cases o.dst <;> rfl⟩
 ·exact ⟨st',hk,E',rfl,hsr,by cases o.dst <;> rfl⟩
end
section
variable {P:Program}{N:Nat}{w0:World}{S0:aa}{o:Oper}{a:Act}{E:Env}{st:St}{F:Fence}{n:Nat}
theorem og(d:Option Nat)(x:DOp):cX [] d x=x:=by
 have mx:fk [] x=x:=by
  cases x with
  |append t e size bytes s x=>cases s <;> rfl
  |_=>rfl
 cases x with
 |buildS=>cases d <;> rfl
 |call=>cases d <;> rfl
 |offA k y=>cases k <;> cases d <;> rfl
 |_=>exact mx
end
section
variable [Glb]{P:Program}{N:Nat}{w0:World}{S0:aa}{o:Oper}{a:Act}{E:Env}{st:St}{F:Fence}{n:Nat}
theorem rD(hF: ∀f,F.fn f)(h:SR N w0 S0 E st a.tmps){ops:Array Oper}{k:Nat}(ho:ops[k]? =some o){i:DI}(hl:jt P N [] ops o=some i)(hc:i.op.bC=false){K:St->Prop}(hw:wpI P i st K){Q:Exit->Act->World->Prop}:
  wpOpIn F n P ops Q k (fun a' w'=> ∃st',K st'/\bt N w0 S0 a st' a' w') a E.w:=by
 obtain ⟨⟨x,h1,hx⟩,h2,h3,_,h4⟩:=eX hl;rw [og] at hx;have run:wpO P i.op i.dst st K->Region.wanted o (yielded ops a.tmps)=true->wpOpIn F n P ops Q k (fun a' w'=> ∃st',K st'/\bt N w0 S0 a st' a' w') a E.w:=fun hw eL=>by
  rw [h2,hx] at hw;unfold wpOpIn;simp only [ho,eL,if_true];exact pK hF h h3 h1 (hx▸hc) hw
 have skip:K (st.set i.dst bE)->Region.wanted o (yielded ops a.tmps)=false->wpOpIn F n P ops Q k (fun a' w'=> ∃st',K st'/\bt N w0 S0 a st' a' w') a E.w:=fun hk eL=>by
  unfold wpOpIn;simp only [ho,eL,Bool.false_eq_true,if_false];refine ⟨fun f _=>hF f,_,hk,?_⟩;rw [h2];exact ⟨E,rfl,h.cJ h3 (nj E),by cases o.dst <;> rfl⟩
 unfold wpI at hw;rcases h4 with ⟨hg,hi⟩|⟨j,want,g,hg,hj,hi,hlt⟩
 ·rw [hi] at hw;exact run hw (by unfold Region.wanted;rw [hg])
 ·rw [hi] at hw;simp only at hw;have yl: ∀b,st.sl g= .t (.bool b)->yielded ops a.tmps j=some b:=fun b hb=>by
   have hv:=h.sl g;rw [hb] at hv;have hv:=hv.aO;have hsz:g<a.tmps.size:=by rw [h.size];exact hlt
   have:a.tmps[g]? =some (.bool b):=by
    rw [Array.getElem?_eq_getElem hsz];simpa [hsz] using hv
   unfold yielded;rw [hj];simp [this]
  have wn: ∀b,st.sl g= .t (.bool b)->Region.wanted o (yielded ops a.tmps)=(b==want):=fun b hb=>by
   unfold Region.wanted;rw [hg];simp only [yl b hb];cases b <;> cases want <;> rfl
  split at hw
  ·rename_i b hb;have hwn:=wn b hb;cases b <;> cases want <;> simp only at hw
   ·exact run hw hwn
   ·exact skip hw hwn
   ·exact skip hw hwn
   ·exact run hw hwn
  ·rename_i hb;refine skip hw ?_;have hv:=mu (hb▸h.sl g);unfold Region.wanted;rw [hg]
   have:yielded ops a.tmps j=none:=by
    have hsz:g<a.tmps.size:=by rw [h.size];exact hlt
    have:a.tmps[g]? =some (.tuple #[]):=by
     rw [Array.getElem?_eq_getElem hsz];simpa [hsz] using hv
    unfold yielded;rw [hj];simp [this]
   simp only [this];rfl
  ·exact hw.elim
end
section
variable {P:Program}{N:Nat}{w0:World}{S0:aa}{o:Oper}{a:Act}{E:Env}{st:St}{F:Fence}{n:Nat}
theorem gZ{w:World}{l:Nat}{x:Obj}(h:w.heap[l]? =some x)(hx:cp x=true)(o:Nat):w.cell? ⟨l,o,none⟩=none:=by
 unfold World.cell?;simp only [h];cases x <;> first|rfl|cases hx
end
section
variable [Glb]{P:Program}{N:Nat}{w0:World}{S0:aa}{o:Oper}{a:Act}{E:Env}{st:St}{F:Fence}{n:Nat}
def Env.put(E:Env)(l:Nat)(y:Obj):Env:={E with w:=E.w.putObj l y,ρ:=fun r=>if E.ρ r=some l then none else E.ρ r }
section put
variable {l:Nat}{x y:Obj}
end put
end
section
variable {P:Program}{N:Nat}{w0:World}{S0:aa}{o:Oper}{a:Act}{E:Env}{st:St}{F:Fence}{n:Nat}
variable {l:Nat}{x y:Obj}
theorem ov(hlx:E.w.heap[l]? =some x)(hnx:cp x=true)(hy:cp y=true)(b o:Nat):(E.w.putObj l y).cell? ⟨b,o,none⟩=E.w.cell? ⟨b,o,none⟩:=by
 by_cases hb:b=l
 ·subst hb;rw [gZ hlx hnx,gZ (World.putObj_heap_same (Array.getElem?_eq_some_iff.1 hlx).1) hy]
 ·exact World.cell?_of_block (w:=E.w) (a:=⟨b,o,none⟩) (World.putObj_heap_other hb)
theorem dA(hlx:E.w.heap[l]? =some x)(hnx:cp x=true)(hy:cp y=true)(b o:Nat):aB E.w (E.w.putObj l y) b o:=
 ⟨ov hlx hnx hy b o,fun arr c hg=>by
  have hb:b≠l:=fun e=>by rw [e,hlx] at hg;cases hg;cases hnx
  exact (World.putObj_heap_other hb).trans hg⟩
theorem VR.putObj(hlx:E.w.heap[l]? =some x)(hnx:cp x=true)(hy:cp y=true){v:Value}{u:V}(h:VR E v u):VR (E.put l y) v u:=by
 have up: ∀{v:Value} {t:T},Rep E.S E.w v t->Rep (E.put l y).S (E.put l y).w v t:=fun h=>h.mono (fun b o h=>h) (fun b o _=>dA hlx hnx hy b o)
 induction h with
 |top v=>exact .top v
 |t v x h=>exact .t v x (up h)
 |ptr n off hl=>exact VR.ptr (E:=E.put l y) n off hl
 |view n off len size cap hl hc=>exact VR.view (E:=E.put l y) n off len size cap hl hc
 |mp n hl=>exact VR.mp (E:=E.put l y) n hl
 |own v r e size xs h=>
  obtain ⟨cells,h1,h2,h3⟩:=h.ex;refine .own v r e size xs ⟨⟨cells,fm h1 fun g hg=>?_,h2,fun i x t hx ht=>up (h3 i x t hx ht)⟩,h.uni,h.one,fun g hg=>⟨?_,(h.row g hg).2⟩⟩
  ·refine World.putObj_heap_other fun e=>?_
   rcases h1.2 with ⟨rfl,_⟩|⟨g',cap,cur,rfl,_,hg',_⟩
   ·cases hg
   ·simp only [Value.ownBlock,Option.some.injEq] at hg;rw [hg,e,hlx] at hg';cases hg';cases hnx
  ·show (if E.ρ r=some l then none else E.ρ r)=some g
   have hr:=(h.row g hg).1;rw [if_neg]
   ·exact hr
   ·intro e;rw [hr] at e;have e:=Option.some.inj e;rcases h1.2 with ⟨rfl,_⟩|⟨g',cap,cur,rfl,_,hg',_⟩
    ·cases hg
    ·simp only [Value.ownBlock,Option.some.injEq] at hg;rw [hg,e,hlx] at hg';cases hg';cases hnx
 |full a len size xs h=>exact .full a len size xs (up h)
 |fn f cs vs hs _ ih=>exact .fn f cs vs hs ih
 |tup cs vs hs _ ih=>exact .tup cs vs hs ih
 |agv cs vs hs h1 _ ih=>exact .agv cs vs hs h1 ih
 |raw v h1=>exact .raw v h1
end
section
variable [Glb]{P:Program}{N:Nat}{w0:World}{S0:aa}{o:Oper}{a:Act}{E:Env}{st:St}{F:Fence}{n:Nat}
section put
variable {l:Nat}{x y:Obj}
theorem SR.putObj{b:Array Value}(h:SR N w0 S0 E st b)(hx:S0.objs l=some x)(hy:cp y=true)(hl:w0.heap.size<=l)(hcx:st.cx {S0 with objs:=upd S0.objs l (some y)} w0):
  SR N w0 {S0 with objs:=upd S0.objs l (some y)} (E.put l y) st b:=by
 obtain ⟨hnx,hlx⟩:=h.obj l x hx;have hlt:l<E.w.heap.size:=(Array.getElem?_eq_some_iff.1 hlx).1;have hsz:(E.w.putObj l y).heap.size=E.w.heap.size:=by simp [World.putObj]
 have hne: ∀r g,(if E.ρ r=some l then none else E.ρ r)=some g->E.ρ r=some g/\g≠l:=fun r g hr=>by
  split at hr
  ·cases hr
  ·rename_i hn;exact ⟨hr,fun e=>hn (e▸hr)⟩
 refine ⟨h.size,h.base,h.glob,fun m=>(h.sl m).putObj hlx hnx hy,fun k m=>(h.gh k m).putObj hlx hnx hy,fun n b' hb=>?_,h.live,h.inj,fun r g hr=>?_,fun r r' g h1 h2=>h.rinj r r' g (hne r g h1).1 (hne r' g h2).1,fun b o hs=>?_,?_,h.s0,h.s1,fun g o hg=>?_,hcx⟩
 ·have hB:=h.bx n b' hb;obtain ⟨ob,hg,hob⟩:=hB.at_;have hnl:E.κ n≠l:=fun e=>by rw [e,hlx] at hg;cases hg;cases hob <;> cases hnx
  refine ⟨hB.old,hB.free,ob,(World.putObj_heap_other hnl).trans hg,?_⟩;cases hob with
  |itd k arr c ag sh es ix hgk hS hR=>exact bM.itd (E:=E.put l y) k arr c ag sh es ix ((dA hlx hnx hy k 0).map _ _ hgk) hS ⟨hR.size,fun i x e hx he=>⟨(hR.at_ i x e hx he).1.mono (fun b o h=>h) (fun b o _=>dA hlx hnx hy b o),(hR.at_ i x e hx he).2.1.mono (fun b o h=>h) (fun b o _=>dA hlx hnx hy b o),(hR.at_ i x e hx he).2.2⟩,hR.lt,hR.apart,hR.mb⟩
  |it m bs c ix hl=>exact bM.it (E:=E.put l y) m bs c ix hl
  |map arr clock ag sh es mb hm=>exact .map arr clock ag sh es mb ⟨hm.size,fun i x e hx he=>⟨(hm.at_ i x e hx he).1.mono (fun b o h=>h) (fun b o _=>dA hlx hnx hy b o),(hm.at_ i x e hx he).2.1.mono (fun b o h=>h) (fun b o _=>dA hlx hnx hy b o),(hm.at_ i x e hx he).2.2⟩,hm.lt,hm.apart,hm.mb⟩
  |cells cs e _ hc=>
  refine .cells cs e _ ?_;cases hc with
  |d m ts h1 h2 h3=>exact .d m ts h1 h2 fun i z t hz ht=>⟨(h3 i z t hz ht).1.mono (fun b o h=>h) (fun b o _=>dA hlx hnx hy b o),(h3 i z t hz ht).2⟩
  |v vs h1 h2=>exact .v vs h1 fun i z u hz hu=>⟨(h2 i z u hz hu).1.putObj hlx hnx hy,(h2 i z u hz hu).2⟩
 ·obtain ⟨k1,k2⟩:=hne r g hr;obtain ⟨g1,g2,g3⟩:=h.rows r g k1;exact ⟨g1,by show g<(E.w.putObj l y).heap.size;rw [hsz];exact g2,g3⟩
 ·show b<(E.w.putObj l y).heap.size
  rw [hsz];exact h.lt b o hs
 ·exact h.below.trans (.of rfl rfl rfl (by show _<=(E.w.putObj l y).heap.size;rw [hsz];exact Nat.le_refl _) (fun k hk=>World.putObj_heap_other (by omega)) (Nat.le_refl _))
 ·by_cases hgl:g=l
  ·subst hgl
   have:some y=some o:=by
    have hg':upd S0.objs g (some y) g=some o:=hg;rwa [aj] at hg'
   cases this;exact ⟨hy,World.putObj_heap_same hlt⟩
  ·have hg':upd S0.objs l (some y) g=some o:=hg;rw [ae _ _ _ _ hgl] at hg';exact ⟨(h.obj g o hg').1,(World.putObj_heap_other hgl).trans (h.obj g o hg').2⟩
end put
end
end Go.DL
end
section
end
section
end
section
end
section
namespace Go.DL
open Go.RowKit
section
variable [Glb]
end
section
theorem s7{c:Prop}{t:T}{K:T->Prop}(t0:T)(hc:c)(h:t=t0)(hk:K t0):c/\ ∀t',t=t'->K t':=⟨hc,fun t' e=>by rw [<- e,h];exact hk⟩
theorem sZ{c:Prop}{b:Bool}{K:Bool->Prop}(hc:c)(h1:b=true->K true)(h0:b=false->K false):c/\ ∀b',b=b'->K b':=⟨hc,fun b' e=>match b',e with|true,e=>h1 e|false,e=>h0 e⟩
theorem s5{c:Prop}{b:Bool}{K:Bool->Prop}(b0:Bool)(hc:c)(h:b=b0)(hk:K b0):c/\ ∀b',b=b'->K b':=⟨hc,fun b' e=>by rw [<- e,h];exact hk⟩
end
section
variable [Glb]
theorem sV{P:Program}{f:FuncId}{ts:List T}{K:T->Prop}(r:T)(h:DCalls P f ts r)(hk:K r): ∃r,DCalls P f ts r/\K r:=⟨r,h,hk⟩
end
section
theorem leI{ks:List Nat}{bx:Nat->Option BX}{n m:Int}(h:n=m):LeV ks bx (.t (.int .i64 n)) (.t (.int .i64 m)):=by rw [h];exact .same _
theorem leT{ks:List Nat}{bx:Nat->Option BX}{n m:T}(h:n=m):LeV ks bx (.t n) (.t m):=by rw [h];exact .same _
theorem s6{ks:List Nat}{bx:Nat->Option BX}{r:Nat}{e:TypeId}{n:Nat}{xs ys:List T}(h:xs=ys):LeV ks bx (.own r e n xs) (.own r e n ys):=by rw [h];exact .same _
theorem s8{ks:List Nat}{bx:Nat->Option BX}{n:Nat}{ts us:List T}(h:ts=us):LeB ks bx (.d n ts) (some (.d n us)):=by rw [h];exact .same _
theorem rO{bx:Nat->Option BX}{v:V}{vs:List V}{x:T}{r:List Nat}{xs:List T}{rs:List Nat}(h1:conv bx v=some (x,r))(h2:bm bx vs=some (xs,rs)):bm bx (v::vs)=some (x::xs,r++rs):=by
 unfold bm;rw [h1,h2]
end
section
variable [Glb]
theorem DCalls.less{P:Program}{f:FuncId}{ts us:List T}{r:T}(h:DCalls P f us r)(hlen:ts.length=us.length)
  (hle: ∀(S:ar) (w:World) (i:Nat) (v:Value) (t u:T),ts[i]? =some t->us[i]? =some u->Rep S w v t->Rep S w v u):DCalls P f ts r:=
 ⟨h.1,fun S w vs hS hG hl hr=>h.2 S w vs hS hG (hl.trans hlen) fun i v u hv hu=>by
  have hlt:i<ts.length:=by rw [hlen];exact (gsZ hu).1
  exact hle S w i v ts[i] u (ggZ hlt) hu (hr i v ts[i] hv (ggZ hlt))⟩
end
section
theorem Rep.oj{S:ar}{w:World}{v:Value}(n:Nat)(h:Rep S w v .nil):Rep S w v (.slice n []):=by
 cases h;exact .slice none 0 0 0 0 n [] (fun _=>undef) rfl (Nat.le_refl _) (fun _ h=>by cases h) (fun _ h=>by cases h) (fun h=>absurd h (by simp)) (fun i h=>absurd h (by simp)) (fun i t h=>by simp at h)
theorem np{n:Int}(h0: -9223372036854775808<=n)(h1:n<9223372036854775808):IntKind.wrap .i64 n=n:=by
 unfold IntKind.wrap;simp [IntKind.bits,IntKind.signed];omega
end
section
variable [Glb]
theorem kV{P:Program}{K K':St->Prop}(hk: ∀s,K s->K' s): ∀{l:List DI} {st:St},cR P l st K->cR P l st K'
 |[],_,h=>hk _ h
 |_::_,_,h=>cQ (fun _=>kV hk) h
end
end Go.DL
end
section
namespace Go.DL
open Go.RowKit
section
variable [Glb]{P:Program}{N:Nat}{st:St}
def gK(P:Program)(N:Nat)(ops:Array Oper):List Nat->Option (List DI)
 |[]=>some []
 |k::ks=>match ops[k]? with
  |some o=>match jt P N [] ops o,gK P N ops ks with
   |some i,some is=>some (i::is)
   |_,_=>none
  |none=>none
end
section
variable {P:Program}{N:Nat}{st:St}
theorem mI{F:Fence}{n:Nat}{ops:Array Oper}{Q:Exit->Act->World->Prop}{k:Nat}{a:Act}{w:World}{K K':Act->World->Prop}(h: ∀a w,K a w->K' a w)(hh:wpOpIn F n P ops Q k K a w):wpOpIn F n P ops Q k K' a w:=by
 unfold wpOpIn at *
 split
 ·exact h _ _ (by simpa [*] using hh)
 ·rename_i o ho;simp only [ho] at hh;split
  ·rename_i hw;simp only [hw,if_true] at hh;exact Oper.wpIn_mono h hh
  ·rename_i hw;simp only [hw] at hh;exact ⟨hh.1,h _ _ hh.2⟩
end
section
variable [Glb]{P:Program}{N:Nat}{st:St}
end
end Go.DL
end
section
namespace Go.DL
open Go
section
variable [Glb]
def mkT(P:Program)(e:TypeId)(us:List T):T:=
 match P.underlying e with
 |some (.struct _)|some (.array _ _)=>.agg us
 |_=>us.headD .nil
inductive cr (P:Program):TypeId->List T->Prop
 |bool {t:TypeId} (h:P.underlying t=some .bool) (b:Bool):cr P t [.bool b]
 |int {t:TypeId} {k:IntKind} (h:P.underlying t=some (.int k)) (n:Int) (hw:(Lit.int k n).wf=true):cr P t [.int k n]
 |str {t:TypeId} (h:P.underlying t=some .string) (s:ByteArray) (hs:s.size<=maxLen):cr P t [.str s]
 |nil {t e:TypeId} (h:P.underlying t=some (.slice e)):cr P t [.nil]
 |slice {t e:TypeId} (h:P.underlying t=some (.slice e)) (xs:List (List T)) (hx: ∀x∈xs,cr P e x) (hl:xs.length<=maxLen):cr P t [.slice (P.cellsOf e) (xs.map (mkT P e))]
 |struct {t:TypeId} {fs:Array Field} (h:P.underlying t=some (.struct fs)) (us:List T) (hl:us.length=P.cellsOf t) (hf: ∀f∈fs.toList,cr P f.type ((us.drop f.offset).take (P.cellsOf f.type))):cr P t us
 |array {t e:TypeId} {n:Nat} (h:P.underlying t=some (.array n e)) (us:List T) (hl:us.length=P.cellsOf t) (hf: ∀i,i<n->cr P e ((us.drop (i * P.cellsOf e)).take (P.cellsOf e))):cr P t us
def dH(P:Program):Nat->List Field->Nat
 |off,[]=>off
 |off,f::fs=>if f.offset=off then dH P (off+P.cellsOf f.type) fs else 0
def eS(P:Program)(L:List TypeId):Bool:=L.all fun t=>match P.underlying t with
 |some .bool|some (.int _)|some .string=>Nat.beq (P.cellsOf t) 1
 |some (.slice e)=>Nat.beq (P.cellsOf t) 1&&L.contains e
 |some (.struct fs)=>(fs.toList.all fun f=>L.contains f.type)&&Nat.beq (dH P 0 fs.toList) (P.cellsOf t)&&Nat.ble 1 (P.cellsOf t)
 |some (.array n e)=>L.contains e&&Nat.beq (P.cellsOf t) (n * P.cellsOf e)&&Nat.ble 1 (P.cellsOf t)
 |_=>false
structure Weigh (H:Type) where
 B:DataW H->Nat
 BA:List (DataW H)->Nat
 lit: ∀l,1<=B (.lit l)
 str: ∀s,s.length+1<=B (.lit (.string s))
 nil:1<=B .nil
 slice: ∀e s,BA e+1<=B (.slice e s)
 agg: ∀p,BA p<=B (.agg p)
 allc: ∀d r,B d+BA r<=BA (d::r)
mutual
def T.bulk:T->Nat
 |.str s=>s.size+1
 |.slice _ xs=>aQ xs+1
 |.agg cs=>aQ cs
 |_=>1
def aQ:List T->Nat
 |[]=>0
 |t::ts=>t.bulk+aQ ts
end
end
section
theorem gW: ∀{a b:List T},aQ (a++b)=aQ a+aQ b
 |[],b=>by simp [aQ]
 |x::a,b=>by simp only [List.cons_append,aQ,gW (a:=a)];omega
theorem Weigh.sum{H:Type}(K:Weigh H): ∀(l:List (DataW H)),(l.map K.B).sum<=K.BA l
 |[]=>by simp
 |d::l=>by
  have:=K.sum l
  have:=K.allc d l
  simp only [List.map_cons,List.sum_cons];omega
end
section
variable [Glb]
def Got(P:Program)(W:World)(t:TypeId)(cs:List Value)(us:List T):Prop:=
 us.length=cs.length/\cs.length=P.cellsOf t/\(∀ u∈us,u.one=true)/\(∀ (i:Nat) (v:Value) (u:T),cs[i]? =some v->us[i]? =some u->Rep (fun b _=>b<W.heap.size) W v u)/\cr P t us
end
section
theorem fV{P:Program}{W:World}{t:TypeId}{v:Value}{u:T}(hc:P.cellsOf t=1)(h1:u.one=true)(hr:Rep (fun b _=>b<W.heap.size) W v u)(hh:cr P t [u]):Got P W t [v] [u]:=by
 refine ⟨rfl,hc.symm,by simpa using h1,fun i x y hx hy=>?_,hh⟩;cases i with
 |zero=>simp at hx hy;subst hx;subst hy;exact hr
 |succ i=>simp at hx
theorem oh{P:Program}{L:List TypeId}(_:eS P L=true){e:TypeId}{us:List T}(_:e∈L)(h:cr P e us)(h1: ∀u∈us,u.one=true):(mkT P e us).cells=us:=by
 unfold mkT;cases h with
 |struct h us hl hf=>rw [h];rfl
 |array h us hl hf=>rw [h];rfl
 |bool h|int h|str h|nil h|slice h=>rw [h];exact T.cells_one (h1 _ (by simp))
theorem pG{P:Program}{e:TypeId}{us:List T}(h:cr P e us):(mkT P e us).bulk=aQ us:=by
 unfold mkT;cases h with
 |struct h us hl hf=>rw [h];rfl
 |array h us hl hf=>rw [h];rfl
 |bool h|int h|str h|nil h|slice h=>rw [h];simp [aQ]
theorem kC{P:Program}{e:TypeId}{f:Nat->List T}: ∀{n k:Nat} {bs:List Nat},bs.length=n->(∀ i,i<n->cr P e (f (k+i))/\aQ (f (k+i))<=bs.getD i 0)->aQ (((List.range' k n).map f).map (mkT P e))<=bs.sum
 |0,k,bs,hl,h=>by simp [aQ]
 |n+1,k,b::bs,hl,h=>by
  rw [List.range'_succ,List.map_cons,List.map_cons];have h0:=h 0 (by omega);have ih:=kC (P:=P) (e:=e) (f:=f) (n:=n) (k:=k+1) (bs:=bs) (by simpa using hl) fun i hi=>by
   have:=h (i+1) (by omega)
   have e:k+1+i=k+(i+1):=by omega
   rw [e];simpa using this
  simp only [aQ,List.sum_cons];rw [pG (by simpa using h0.1)]
  have:=h0.2
  simp at this;omega
theorem jG{w:World}{base:Nat}{a:Addr}{n:Nat}{cs:List Value}(h:w.cells? base a n=some cs):cs.length=n/\ ∀j,j<n->w.cell? (a.add j)=cs[j]? :=by
 unfold World.cells? at h;split at h
 ·exact ⟨by simpa using mapM_some_length h,fun j hj=>mapM_some_get h j j (by simp [hj])⟩
 ·cases h
theorem pO{P:Program}{W:World}{L:List TypeId}(hL:eS P L=true){e:TypeId}(he:e∈L){base:Nat}{a:Addr}{len cap:Nat}(hlc:len<=cap)
  {bs:List Nat} (hbs:bs.length=len) (hc: ∀i,i<len-> ∃cs us,W.cells? base (a.add (i * P.cellsOf e)) (P.cellsOf e)=some cs/\Got P W e cs us/\aQ us<=bs.getD i 0):
  ∃xs:List (List T),xs.length=len/\(∀ x∈xs,cr P e x)/\aQ (xs.map (mkT P e))<=bs.sum/\Rep (fun b _=>b<W.heap.size) W (.slice (some a) len cap) (.slice (P.cellsOf e) (xs.map (mkT P e))):=by
 have h0: ∀i, ∃us,i<len-> ∃cs,W.cells? base (a.add (i * P.cellsOf e)) (P.cellsOf e)=some cs/\Got P W e cs us/\aQ us<=bs.getD i 0:=fun i=>by
  by_cases h:i<len
  ·obtain ⟨cs,us,h1,h2⟩:=hc i h;exact ⟨us,fun _=>⟨cs,h1,h2⟩⟩
  ·exact ⟨[],fun h'=>absurd h' h⟩
 obtain ⟨f,hf⟩:=Classical.axiomOfChoice h0;have hcl: ∀i,i<len->(mkT P e (f i)).cells=f i/\(f i).length=P.cellsOf e:=fun i hi=>by
  obtain ⟨cs,h1,⟨h2,h3,h4,h5,h6⟩,hb⟩:=hf i hi;exact ⟨oh hL he h6 h4,h2.trans h3⟩
 have hu: ∀x∈((List.range len).map f).map (mkT P e),x.cells.length=P.cellsOf e:=fun x hx=>by
  simp only [List.mem_map,List.mem_range] at hx;obtain ⟨us,⟨i,hi,rfl⟩,rfl⟩:=hx;rw [(hcl i hi).1,(hcl i hi).2]
 have hlen:((((List.range len).map f).map (mkT P e)).flatMap T.cells).length=len * P.cellsOf e:=by rw [aI hu];simp
 have gD: ∀i j,i<len->j<P.cellsOf e->((((List.range len).map f).map (mkT P e)).flatMap T.cells)[i * P.cellsOf e+j]? =(f i)[j]? :=fun i j hi hj=>by
  rw [jj hu i (mkT P e (f i)) (by simp [hi]) j hj,(hcl i hi).1]
 have b9: ∀k,k<len * P.cellsOf e-> ∃i j,i<len/\j<P.cellsOf e/\k=i * P.cellsOf e+j:=fun k hk=>by
  have hp:0<P.cellsOf e:=Nat.pos_of_ne_zero fun h=>by rw [h] at hk;simp at hk
  exact ⟨k / P.cellsOf e,k % P.cellsOf e,Nat.div_lt_of_lt_mul (by rwa [Nat.mul_comm]),Nat.mod_lt _ hp,by rw [Nat.mul_comm];exact (Nat.div_add_mod k _).symm⟩
 refine ⟨(List.range len).map f,by simp,fun x hx=>?_,?_,?_⟩
 ·simp only [List.mem_map,List.mem_range] at hx;obtain ⟨i,hi,rfl⟩:=hx;obtain ⟨cs,h1,⟨h2,h3,h4,h5,h6⟩,hb⟩:=hf i hi;exact h6
 ·rw [List.range_eq_range'];refine kC hbs fun i hi=>?_
  obtain ⟨cs,h1,⟨h2,h3,h4,h5,h6⟩,hb⟩:=hf i hi;rw [Nat.zero_add];exact ⟨h6,hb⟩
 have dK: ∀i j,i<len->j<P.cellsOf e-> ∃v,W.cell? ⟨a.block,a.off+(i * P.cellsOf e+j),none⟩=some v/\(a.spot=none)/\ ∃u,(f i)[j]? =some u/\u.one=true/\Rep (fun b _=>b<W.heap.size) W v u:=fun i j hi hj=>by
  obtain ⟨cs,h1,⟨h2,h3,h4,h5,h6⟩,hb⟩:=hf i hi;obtain ⟨e1,e2⟩:=jG h1;have hj':j<cs.length:=by omega
  have hju:j<(f i).length:=by omega
  have e3:=e2 j hj;rw [ggZ hj'] at e3;have sp:=World.cell?_spot e3;have spa:a.spot=none:=by
   have h00:=e2 0 (by omega)
   have:=hf 0 (by omega)
   obtain ⟨cs0,g1,⟨g2,g3,_,_,_⟩,_⟩:=this;obtain ⟨_,q2⟩:=jG g1;have q3:=q2 0 (by omega);rw [ggZ (by omega)] at q3;simpa [Addr.add] using World.cell?_spot q3
  have ea:((a.add (i * P.cellsOf e)).add j)=⟨a.block,a.off+(i * P.cellsOf e+j),none⟩:=by
   obtain ⟨b,o,sp⟩:=a;dsimp only at spa;subst spa;unfold Addr.add;split <;> split <;> simp_all <;> omega
  rw [ea] at e3;exact ⟨_,e3,spa,(f i)[j],by simp [hju],h4 _ (List.getElem_mem hju),h5 j _ _ (ggZ hj') (ggZ hju)⟩
 refine .slice (some a) a.block a.off len cap (P.cellsOf e) _ (fun k=>(W.cell? ⟨a.block,a.off+k,none⟩).getD (.bool false)) (by simp) hlc hu (fun t ht=>?_) (fun h=>?_) (fun k hk=>?_) fun k t ht=>?_
 ·obtain ⟨k,hk⟩:=List.mem_iff_getElem?.1 ht;obtain ⟨i,j,hi,hj,rfl⟩:=b9 k (by rw [<- hlen];exact (gsZ hk).1);rw [gD i j hi hj] at hk;obtain ⟨v,_,_,u,hu,h1,_⟩:=dK i j hi hj;rw [hu] at hk;cases hk;exact h1
 ·rw [hlen] at h;obtain ⟨i,j,hi,hj,_⟩:=b9 0 h;obtain ⟨v,_,sp,_⟩:=dK i j hi hj;obtain ⟨b,o,s⟩:=a;dsimp only at sp;rw [sp]
 ·rw [hlen] at hk;obtain ⟨i,j,hi,hj,rfl⟩:=b9 k hk;obtain ⟨v,hv,_⟩:=dK i j hi hj;refine ⟨by rw [hv];rfl,?_⟩;exact World.block_lt_of_cell? W ⟨a.block,a.off+(i * P.cellsOf e+j),none⟩ hv
 ·obtain ⟨i,j,hi,hj,rfl⟩:=b9 k (by rw [<- hlen];exact (gsZ ht).1);rw [gD i j hi hj] at ht;obtain ⟨v,hv,_,u,hu,_,hr⟩:=dK i j hi hj;rw [hu] at ht;cases ht;rw [hv];exact hr
end
section
variable [Glb]
def sd(P:Program)(W:World)(cs:List Value)(fs:List Field)(off:Nat)(us:List T):Prop:=
 off+us.length=cs.length/\(∀ u∈us,u.one=true)/\(∀ (i:Nat) (v:Value) (u:T),cs[off+i]? =some v->us[i]? =some u->Rep (fun b _=>b<W.heap.size) W v u)/\
  ∀f∈fs,off<=f.offset/\cr P f.type ((us.drop (f.offset - off)).take (P.cellsOf f.type))
end
section
theorem lL{P:Program}: ∀{fs:List Field} {off n:Nat},dH P off fs=n->1<=n->off<=n
 |[],off,n,h,_=>by simp [dH] at h;omega
 |f::fs,off,n,h,h1=>by
  unfold dH at h;split at h
  ·have:=lL h h1;omega
  ·omega
theorem gx{P:Program}{W:World}{cs:List Value}: ∀{fs:List Field} {off:Nat} {bs:List Nat},bs.length=fs.length->dH P off fs=cs.length->1<=cs.length->
  (∀ (i:Nat) (f:Field),fs[i]? =some f-> ∃us,Got P W f.type ((cs.drop f.offset).take (P.cellsOf f.type)) us/\aQ us<=bs.getD i 0)-> ∃us,sd P W cs fs off us/\aQ us<=bs.sum
 |[],off,bs,hbs,h,h1,hg=>by
  simp only [dH] at h;exact ⟨[],⟨by simpa using h,by simp,by simp,by simp⟩,by simp [aQ]⟩
 |f::fs,off,b::bs,hbs,h,h1,hg=>by
  unfold dH at h;split at h
  ·rename_i ho;obtain ⟨us,⟨g1,g2,g3,g4,g5⟩,gb⟩:=hg 0 f rfl;obtain ⟨vs,⟨k1,k2,k3,k4⟩,kb⟩:=gx (bs:=bs) (by simpa using hbs) h h1 fun i g hgm=>by simpa using hg (i+1) g (by simpa using hgm)
   have hle:=lL h h1;have hl:us.length=P.cellsOf f.type:=by rw [g1];exact g2
   refine ⟨us++vs,⟨by simp;omega,fun u hu=>(List.mem_append.1 hu).elim (g3 u) (k2 u),fun i v u hv hu=>?_,fun g hgm=>?_⟩,by
    rw [gW,List.sum_cons];simp at gb
    omega⟩
   ·rcases Nat.lt_or_ge i us.length with hi|hi
    ·rw [List.getElem?_append_left hi] at hu;refine g4 i v u ?_ hu;rw [List.getElem?_take_of_lt (by omega),List.getElem?_drop,ho];exact hv
    ·rw [List.getElem?_append_right hi] at hu;refine k3 (i - us.length) v u ?_ hu;rw [<- hl]
     have:off+us.length+(i - us.length)=off+i:=by omega
     rw [this];exact hv
   ·rcases List.mem_cons.1 hgm with rfl|hm
    ·refine ⟨by omega,?_⟩;rw [ho,Nat.sub_self,List.drop_zero, <-hl,List.take_left']
     ·exact g5
     ·rfl
    ·obtain ⟨q1,q2⟩:=k4 g hm;refine ⟨by omega,?_⟩;have e:(us++vs).drop (g.offset - off)=vs.drop (g.offset - (off+P.cellsOf f.type)):=by
      rw [List.drop_append,List.drop_eq_nil_of_le (by omega),List.nil_append]
      congr 1
      omega
     rw [e];exact q2
  ·omega
theorem jM{P:Program}{e:TypeId}: ∀(m k:Nat),dH P (k * P.cellsOf e) ((List.range' k m).map fun i=>{name:= "",type:=e,offset:=i * P.cellsOf e,embedded:=false,tag:= "",pkgPath:= "",byteOffset:=0 })=(k+m) * P.cellsOf e
 |0,k=>rfl
 |m+1,k=>by
  rw [List.range'_succ,List.map_cons];unfold dH;rw [if_pos rfl]
  have:=jM (P:=P) (e:=e) m (k+1)
  dsimp only at this ⊢;rw [Nat.succ_mul] at this;rw [this]
  congr 1
  omega
theorem j8{P:Program}{W:World}{H:Type}(K:Weigh H){enc:TypeId×Value->H}{base:Nat}{spare:Nat->Bool}{held:Bool}{L:List TypeId}(hL:eS P L=true):
  ∀(fuel:Nat) (t:TypeId) (cs:List Value) (x:DataW H×List MemPlace),t∈L->DataW.trod enc P W base spare held fuel t cs=some x-> ∃us,Got P W t cs us/\aQ us<=K.B x.1
 |0,t,cs,x,ht,h=>by simp [DataW.trod] at h
 |fuel+1,t,cs,x,ht,h=>by
  have ih:=j8 (P:=P) (W:=W) K (enc:=enc) (base:=base) (spare:=spare) (held:=held) hL fuel;have hc:=List.all_eq_true.1 hL t ht;unfold DataW.trod at h;cases hu:P.underlying t with
  |none=>rw [hu] at hc;cases hc
  |some d=>
   rw [hu] at hc h;cases d <;> try (simp at hc;done)
   case bool=>
    have hc:P.cellsOf t=1:=by simpa using hc
    split at h <;> try (simp_all;done)
    rename_i b _;cases h;exact ⟨[.bool b],fV hc rfl (.bool b) (.bool hu b),by have:=K.lit (.bool b);simpa [aQ,T.bulk] using this⟩
   case int k=>
    have hc1:P.cellsOf t=1:=by simpa using hc
    clear hc;split at h <;> try (simp_all;done)
    rename_i k1 k2 n he;cases he;split at h
    ·rename_i hk;obtain ⟨rfl,hw⟩:=hk;cases h;exact ⟨[.int _ n],fV hc1 rfl (.int _ n) (.int hu n hw),by have:=K.lit (.int k2 n);simpa [aQ,T.bulk] using this⟩
    ·cases h
   case string=>
    have hc:P.cellsOf t=1:=by simpa using hc
    split at h <;> try (simp_all;done)
    rename_i s _;split at h
    ·rename_i hk;cases h;exact ⟨[.str s],fV hc rfl (.str s) (.str hu s hk),by have:=K.str s.data.toList;simpa [aQ,T.bulk] using this⟩
    ·cases h
   case slice e=>
    simp only [Bool.and_eq_true,List.contains_iff_mem] at hc;have hc1:P.cellsOf t=1:=by simpa using hc.1
    have he:=hc.2;clear hc;split at h <;> try (simp_all;done)
    ·cases h;exact ⟨[.nil],fV hc1 rfl .nil (.nil hu),by have:=K.nil;simpa [aQ,T.bulk] using this⟩
    ·rename_i e1 a len cap h1;cases h1;dsimp only at h;split at h
     ·rename_i hb;obtain ⟨elems,h2,iK⟩:=Option.bind_eq_some_iff.1 h;obtain ⟨rest,_,hx⟩:=Option.map_eq_some_iff.1 iK;have h3:elems.length=len:=by simpa using mapM_some_length h2
      obtain ⟨xs,x1,x2,xb,x3⟩:=pO (W:=W) hL he (base:=base) (a:=a) hb.2.1 (bs:=(elems.map (·.1)).map K.B) (by simpa using h3) fun i hi=>by
       have h4:=mapM_some_get h2 i i (by simp [hi]);rw [ggZ (by omega)] at h4;obtain ⟨cs,h5,h6⟩:=Option.bind_eq_some_iff.1 h4;obtain ⟨us,h7,h8⟩:=ih e cs _ he h6;exact ⟨cs,us,h5,h7,by simp [ggZ (show i<elems.length by omega)];exact h8⟩
      refine ⟨_,fV hc1 rfl x3 (.slice hu xs x2 (by omega)),?_⟩;have q1:=K.sum (elems.map (·.1))
      have q2:=K.slice (elems.map (·.1)) (rest.map (·.1))
      cases hx;simp only [aQ,T.bulk];omega
     ·cases h
   case struct fs=>
    simp only [Bool.and_eq_true,List.contains_iff_mem,List.all_eq_true] at hc;have hd:dH P 0 fs.toList=P.cellsOf t:=by simpa using hc.1.2
    have hp:1<=P.cellsOf t:=by simpa using hc.2
    have hm:=hc.1.1;clear hc;split at h <;> try (simp_all;done)
    rename_i fs' h1;cases h1;split at h
    ·rename_i hl;obtain ⟨ys,h2,hx⟩:=Option.map_eq_some_iff.1 h;obtain ⟨us,⟨q1,q2,q3,q4⟩,qb⟩:=gx (P:=P) (W:=W) (fs:=fs.toList) (off:=0) (bs:=(ys.map (·.1)).map K.B) (by simpa using mapM_some_length h2) (by rw [hd];exact hl.symm) (by omega) fun i f hi=>by
      have h3:=mapM_some_get h2 i f hi;have h4:i<ys.length:=by rw [mapM_some_length h2];exact (gsZ hi).1
      rw [ggZ h4] at h3;obtain ⟨us,u1,u2⟩:=ih f.type _ _ (hm f (List.mem_of_getElem? hi)) h3;exact ⟨us,u1,by simp [ggZ h4];exact u2⟩
     refine ⟨us,⟨by omega,hl,q2,fun i=>by simpa using q3 i,.struct hu us (by omega) fun f hf=>by simpa using (q4 f hf).2⟩,?_⟩;have z1:=K.sum (ys.map (·.1))
     have z2:=K.agg (ys.map (·.1))
     cases hx;dsimp only;omega
    ·cases h
   case array n e=>
    simp only [Bool.and_eq_true,List.contains_iff_mem] at hc;have hd:P.cellsOf t=n * P.cellsOf e:=by simpa using hc.1.2
    have hnz:1<=P.cellsOf t:=by simpa using hc.2
    have he:=hc.1.1;clear hc;split at h <;> try (simp_all;done)
    rename_i c0 n' e' h1;cases h1;rename_i c1 _;split at h
    ·rename_i hl;obtain ⟨ys,h2,hx⟩:=Option.map_eq_some_iff.1 h;have hg: ∀i,i<n-> ∃us,Got P W e ((c1.drop (i * P.cellsOf e)).take (P.cellsOf e)) us/\aQ us<=((ys.map (·.1)).map K.B).getD i 0:=fun i hi=>by
      have h3:=mapM_some_get h2 i i (by simp [hi]);have h4:i<ys.length:=by rw [mapM_some_length h2];simpa using hi
      rw [ggZ h4] at h3;obtain ⟨us,u1,u2⟩:=ih e _ _ he h3;exact ⟨us,u1,by simp [ggZ h4];exact u2⟩
     have hdr:=jM (P:=P) (e:=e) n 0;rw [Nat.zero_mul,Nat.zero_add, <-List.range_eq_range'] at hdr;rcases Nat.eq_zero_or_pos (n * P.cellsOf e) with h0|h0
     ·have hz:P.cellsOf t=0:=by omega
      simp [hz] at hnz
     ·obtain ⟨us,⟨q1,q2,q3,q4⟩,qb⟩:=gx (P:=P) (W:=W) (cs:=c1) (fs:=(List.range n).map fun i=>{name:= "",type:=e,offset:=i * P.cellsOf e,embedded:=false,tag:= "",pkgPath:= "",byteOffset:=0 }) (off:=0) (bs:=(ys.map (·.1)).map K.B) (by simpa using mapM_some_length h2) (by rw [hdr];omega) (by omega) fun i f hf=>by
       rw [List.getElem?_map] at hf;obtain ⟨j,hj,rfl⟩:=Option.map_eq_some_iff.1 hf;obtain ⟨hi,rfl⟩:=gsZ hj
       have:=hg i (by simpa using hi)
       simpa using this
      refine ⟨us,⟨by omega,hl,q2,fun i=>by simpa using q3 i,.array hu us (by omega) fun i hi=>by simpa using (q4 _ (List.mem_map.2 ⟨i,List.mem_range.2 hi,rfl⟩)).2⟩,?_⟩;have z1:=K.sum (ys.map (·.1))
      have z2:=K.agg (ys.map (·.1))
      cases hx;dsimp only;omega
    ·cases h
end
section
variable [Glb]
end
end Go.DL
end
section
namespace Go.DL
open Go Go.ChangeShapes Go.WideShapes Go.ChangeAt Go.RowKit
section
variable [Glb]
end
section
theorem qw{P:Program}{W:World}{H:Type}(K:Weigh H){enc:TypeId×Value->H}{base:Nat}{spare:Nat->Bool}{held:Bool}{L:List TypeId}(hL:eS P L=true){r:Reach}{base':Nat}
  {t:TypeId} {v:Value} {d:DataW H} {p:List MemPlace} (ht:t∈L) (hok:Value.okWide P W r base' t v) (h:DataW.Trod enc P W base spare held t v d p):
  ∃us,cr P t us/\aQ us<=K.B d/\Rep (fun b _=>b<W.heap.size) W v (mkT P t us):=by
 obtain ⟨fuel,hf⟩:=h;obtain ⟨us,⟨g1,g2,g3,g4,g5⟩,gb⟩:=j8 K hL fuel t _ _ ht hf;refine ⟨us,g5,gb,?_⟩;have hc:=List.all_eq_true.1 hL t ht;unfold mkT;unfold Value.okWide at hok;cases hu:P.underlying t with
 |none=>rw [hu] at hc;cases hc
 |some d=>
  rw [hu] at hc hok;have one:v.cells= #[v]->Rep (fun b _=>b<W.heap.size) W v (us.headD .nil):=fun hv=>by
   rw [hv] at g1 g4;have h1:us.length=1:=g1
   match us,h1 with
   |[u],_=>exact g4 0 v u rfl rfl
  have agg:(∃ cs,v= .agg cs/\cs.size=P.cellsOf t/\Row.okWide P W r base' t cs)->Rep (fun b _=>b<W.heap.size) W v (.agg us):=fun ⟨cs,hv,_,_⟩=>by
   subst hv;have e:(Value.agg cs).cells.toList=cs.toList:=rfl;rw [e] at g1 g4;exact .agg cs us (by simpa using g1.symm) g3 fun i x u hx hu=>g4 i x u (by simpa using hx) hu
  cases d <;> try (simp at hc;done)
  case bool=>exact one (by unfold Cell.okWide Cell.ok at hok;rw [hu] at hok;cases v <;> first|rfl|cases hok)
  case int k=>exact one (by unfold Cell.okWide Cell.ok at hok;rw [hu] at hok;cases v <;> first|rfl|cases hok)
  case string=>exact one (by unfold Cell.okWide Cell.ok at hok;rw [hu] at hok;cases v <;> first|rfl|cases hok)
  case slice e=>exact one (by unfold Cell.okWide Cell.ok at hok;rw [hu] at hok;cases v <;> first|rfl|cases hok)
  case struct fs=>exact agg hok
  case array n e=>exact agg hok
end
section
variable [Glb]
def HasAll(P:Program):List TypeId->List (List T)->Prop
 |[],[]=>True
 |t::ts,us::uss=>cr P t us/\HasAll P ts uss
 |_,_=>False
def mkAll(P:Program):List TypeId->List (List T)->List T
 |t::ts,us::uss=>mkT P t us::mkAll P ts uss
 |_,_=>[]
def bulkA:List (List T)->Nat
 |[]=>0
 |us::uss=>aQ us+bulkA uss
end
section
theorem lz{P:Program}{W:World}{H:Type}(K:Weigh H){enc:TypeId×Value->H}{spare:Nat->Bool}{held:Bool}{L:List TypeId}(hL:eS P L=true){base base':Nat}{r:Reach}:
  ∀{ts:List TypeId} {vs:List Value} {ds:List (DataW H)} {p:List MemPlace},(∀ t∈ts,t∈L)->(∀ (j:Nat) t v,ts[j]? =some t->vs[j]? =some v->Value.okWide P W r base' t v)->
   DataW.TrodAll enc P W base spare held ts vs ds p-> ∃uss,HasAll P ts uss/\bulkA uss<=K.BA ds/\vs.length=(mkAll P ts uss).length/\
    ∀(i:Nat) (v:Value) (t:T),vs[i]? =some v->(mkAll P ts uss)[i]? =some t->Rep (fun b _=>b<W.heap.size) W v t
 |[],vs,ds,p,_,_,h=>by
  obtain ⟨rfl,rfl,rfl⟩:=trodAll_nil h;exact ⟨[],trivial,by simp [bulkA],rfl,by simp⟩
 |t::ts,vs,ds,p,hm,hok,h=>by
  obtain ⟨v,vs',d,ds',q,q',rfl,rfl,rfl,h1,h2⟩:=trodAll_cons h;obtain ⟨us,a1,ab,a2⟩:=qw K hL (hm t (by simp)) (hok 0 t v rfl rfl) h1;obtain ⟨uss,b1,bb,b2,b3⟩:=lz K hL (fun x hx=>hm x (by simp [hx])) (fun j t v ht hv=>hok (j+1) t v (by simpa using ht) (by simpa using hv)) h2;refine ⟨us::uss,⟨a1,b1⟩,by have:=K.allc d ds';simp only [bulkA];omega,by simp [mkAll,b2],fun i x u hx hu=>?_⟩;cases i with
  |zero=>simp [mkAll] at hx hu;subst hx;subst hu;exact a2
  |succ i=>exact b3 i x u (by simpa using hx) (by simpa [mkAll] using hu)
theorem gU{P:Program}{W W':World}{H:Type}{enc:TypeId×Value->H}(hl:laidOutB P=true)(hb:Below W.heap.size W W'):
  ∀{ts:List TypeId} {vs:List Value} {ds:List (DataW H)} {p:List MemPlace},ts.all (fun t=>P.readableRec t&&Nat.blt t P.types.size)=true->DataW.TrodAll enc P W 0 (fun _=>true) true ts vs ds p->
   DataW.TrodAll enc P W' 0 (fun b=>decide (b<W.heap.size)) true ts vs ds p
 |[],vs,ds,p,_,h=>by
  obtain ⟨rfl,rfl,rfl⟩:=trodAll_nil h;exact trodAll_mk0
 |t::ts,vs,ds,p,hr,h=>by
  simp only [List.all_cons,Bool.and_eq_true] at hr;obtain ⟨v,vs',d,ds',q,q',rfl,rfl,rfl,h1,h2⟩:=trodAll_cons h;have lt: ∀x∈q,x.block<W.heap.size:=by obtain ⟨m,hm⟩:=h1;exact DataW.trod_lt m _ _ _ hm
  exact trodAll_cons_mk (Go.RowKit.Below.trod hl hr.1.1 (nlZ hr.1.2) h1 hb.toBelow lt) (gU hl hb hr.2 h2)
theorem ja{P:Program}{W:World}{H:Type}{enc:TypeId×Value->H}{base:Nat}{spare:Nat->Bool}{held:Bool}:
  ∀{ts:List TypeId} {vs:List Value} {ds:List (DataW H)} {p:List MemPlace},DataW.TrodAll enc P W base spare held ts vs ds p->ds.length=ts.length
 |[],vs,ds,p,h=>by
  obtain ⟨rfl,rfl,rfl⟩:=trodAll_nil h;rfl
 |t::ts,vs,ds,p,h=>by
  obtain ⟨v,vs',d,ds',q,q',rfl,rfl,rfl,h1,h2⟩:=trodAll_cons h;simp [ja h2]
end
section
variable [Glb]
structure LawFits (C:Checked) (f:Func) (s:ChangeSpec) (L:List TypeId) (tb:TypeId):Prop where
 laid:laidOutB C.prog=true
 closed:eS C.prog L=true
 params:f.params.toList.all (fun t=>L.contains t)=true
 readable:f.params.toList.all (fun t=>C.prog.readableRec t&&Nat.blt t C.prog.types.size)=true
 res:f.resultTypes.toList=[tb]
 bool:C.prog.underlying tb=some .bool
 vars:s.vars=[]
 fn: ∀(H:Type) (ds:List (DataW H)),ds.length=f.params.toList.length->s.fn H (ds++[])={results:=[.lit (.bool true)],args:=ds }
theorem mK{C:Checked}{F:FuncId}{f:Func}{H:Type}{enc:TypeId×Value->H}{s:ChangeSpec}{L:List TypeId}{tb:TypeId}(fit:LawFits C f s L tb)(K:Weigh H){N:Nat}
  (law: ∀uss,HasAll C.prog f.params.toList uss->bulkA uss<=N->DCalls C.prog F (mkAll C.prog f.params.toList uss) (.bool true))
  {W:World} {base:Nat} {args:Array Value} {ds gs:List (DataW H)} {before:List MemPlace}
  (dK: ∀(j:Nat) t v,f.params[j]? =some t->args[j]? =some v->Value.okWide C.prog W .any base t v)
  (hW:DataW.Whole enc C.prog f.params.toList s.vars false W args.toList ds gs before) (hN:K.BA ds<=N) (hG:bo (fun b _=>b<W.heap.size) W):
  Calls C.prog F args W fun e W'=> ∃v,e= .returned v/\s.post enc C.prog f false true false false W args v W':=by
 have hW':=hW;obtain ⟨p,q,hA,hV,rfl,hfz,hnd⟩:=hW;rw [fit.vars] at hV;obtain ⟨rfl,rfl⟩:=trodVars_none hV;obtain ⟨uss,u1,ub,u2,u3⟩:=lz K fit.closed (fun t ht=>by simpa using List.all_eq_true.1 fit.params t ht) (fun j t v ht hx=>dK j t v (by simpa using ht) (by simpa using hx)) hA;have hc:=(law uss u1 (Nat.le_trans ub hN)).2 (fun b _=>b<W.heap.size) W args.toList (fun b o h=>h) hG u2 u3;have hs':=fit.fn H ds (ja hA);have e:args.toList.toArray=args:=by simp
 rw [e] at hc;refine hc.mono fun ex W' ⟨v,he,bel,aq⟩=>?_
 subst he;have hv1:v= .bool true:=by cases aq;rfl
 subst hv1;refine ⟨_,rfl,_,_,_,[],p,[],hW',?_,?_,?_,bel.frame _,fun h=>by cases h⟩
 ·have h1:f.resultTypes.size=1:=by rw [<- Array.length_toList,fit.res];rfl
  rw [fit.res,hs',h1];exact trodAll_mk1 (shut_bool fit.bool _)
 ·rw [hs'];exact gU fit.laid bel fit.readable hA
 ·rw [fit.vars,hs'];exact rfl
theorem law_laid{C:Checked}{os:Os}{F:FuncId}{f:Func}{H:Type}{enc:TypeId×Value->H}{s:ChangeSpec}{S:OpenSpec}{k:(H:Type)->List (DataW H)->Bool}{conds:List PathCond}{laid:List (String×DataW Unit)}{L:List TypeId}{tb:TypeId}(fit:LawFits C f s L tb)(K:Weigh H){N:Nat}
  (hS:S={OpenSpec.ofChange s with cond:=some k }) (hk: ∀ds,k H ds=true->K.BA ds<=N) {I:Stop.Interp}
  (own:ownKnob C.prog.godebug=none) (started:os.Started) (noInit:C.prog.inits.idxOf? F=none) (hfn:C.prog.funcs[F]? =some f)
  (witness: ∃(w:World) (tape:Tape) (i:Input),w.os=os/\(w.forCall tape i).Shaped C.prog/\i.vars=[]/\Input.okWide C.prog (w.forCall tape i) .any w.heap.size F i/\
   S.preRow enc C.prog f conds false laid (w.forCall tape i).memory i.args/\(({}:Assume)).holds C.prog (lone (Frame.enter C.prog F i.args .normal) [] (w.forCall tape i)))
  (hG: ∀W,laidMetH C.prog laid W->bo (fun b _=>b<W.heap.size) W)
  (law: ∀uss,HasAll C.prog f.params.toList uss->bulkA uss<=N->DCalls C.prog F (mkAll C.prog f.params.toList uss) (.bool true)):
  ReturnsInHanded {} C os F .any (S.preRow enc C.prog f conds false laid) ((S.at I).post enc C.prog f false true false false):=by
 subst hS;refine returnsInHanded_of_row (s:={OpenSpec.ofChange s with cond:=some k }) own started noInit hfn witness ?_;intro W base args ds gs before dK hW _ hkk _ hL _ _;have hkk:=hkk k rfl;have hg:gs=[]:=by
  obtain ⟨p,q,hA,hV,_,_,_⟩:=hW;have hv:({OpenSpec.ofChange s with cond:=some k }:OpenSpec).vars=[]:=fit.vars;rw [hv] at hV;exact (trodVars_none hV).1
 subst hg;rw [List.append_nil] at hkk;exact mK fit K law dK hW (hk ds hkk) (hG W hL)
def rB(k:IntKind)(zs:List Int):List T:=zs.map (.int k)
theorem r9{W:World}(h: ∀g cs,Glb.gs g=some cs-> ∃k zs,cs=rB k zs/\0<zs.length/\ ∀i,i<zs.length->W.cell? ⟨g,i,none⟩=some (.int k (zs.getD i 0))):bo (fun b _=>b<W.heap.size) W:=fun g cs hg=>by
 obtain ⟨k,zs,rfl,hp,hc⟩:=h g cs hg;have lt:g<W.heap.size:=by
  have:=hc 0 hp
  unfold World.cell? at this;rcases Nat.lt_or_ge g W.heap.size with h|h
  ·exact h
  ·simp [Array.getElem?_eq_none h] at this
 refine ⟨lt,fun i=>.int k (zs.getD i 0),fun i t ht=>?_⟩;unfold rB at ht;rw [List.getElem?_map,Option.map_eq_some_iff] at ht;obtain ⟨z,hz,rfl⟩:=ht;have hi:=(gsZ hz).1;have e:zs.getD i 0=z:=by simp [List.getD,hz]
 exact ⟨hc i hi,lt,rfl,rfl,by show Rep _ _ (.int k (zs.getD i 0)) _;rw [e];exact .int k z⟩
end
end Go.DL
end
section
namespace Go.DL
open Go
section
variable [Glb]
end
section
theorem nT_{t:T}{K:T->Prop}(hk:K t): ∀t',t=t'->K t':=fun _ e=>e▸hk
theorem nv_{t:T}{K:T->Prop}(t0:T)(h:t=t0)(hk:K t0): ∀t',t=t'->K t':=fun _ e=>by rw [<- e,h];exact hk
theorem nb_{b:Bool}{K:Bool->Prop}(b0:Bool)(h:b=b0)(hk:K b0): ∀b',b=b'->K b':=fun _ e=>by rw [<- e,h];exact hk
theorem nD_{p:Prop}[Decidable p]{K:Bool->Prop}(h1:p->K true)(h0: ¬p->K false): ∀b',decide p=b'->K b':=fun b' e=>match b',e with|true,e=>h1 (of_decide_eq_true e)|false,e=>h0 (of_decide_eq_false e)
theorem ru{p:Prop}[Decidable p]{K:Bool->Prop}(h:p)(hk:K true): ∀b',decide p=b'->K b':=fun b' e=>by rw [<- e,decide_eq_true h];exact hk
theorem rq{p:Prop}[Decidable p]{K:Bool->Prop}(h: ¬p)(hk:K false): ∀b',decide p=b'->K b':=fun b' e=>by rw [<- e,decide_eq_false h];exact hk
theorem nE_{x y:Int}{K:Bool->Prop}(h1:x=y->K true)(h0:x≠y->K false): ∀b',(x==y)=b'->K b':=fun b' e=>match b',e with|true,e=>h1 (eq_of_beq e)|false,e=>h0 (by simpa using e)
theorem ry{x y:Int}{K:Bool->Prop}(h:x=y)(hk:K true): ∀b',(x==y)=b'->K b':=fun b' e=>by rw [<- e,h,beq_self_eq_true];exact hk
theorem rv{x y:Int}{K:Bool->Prop}(h:x≠y)(hk:K false): ∀b',(x==y)=b'->K b':=fun b' e=>by rw [<- e,beq_false_of_ne h];exact hk
theorem sW{x y:Int}{K:Bool->Prop}(h:x≠y)(hk:K true): ∀b',(x !=y)=b'->K b':=fun b' e=>by rw [<- e,show (x !=y)=true by simpa using h];exact hk
theorem rz{x y:Int}{K:Bool->Prop}(h:x=y)(hk:K false): ∀b',(x !=y)=b'->K b':=fun b' e=>by rw [<- e,h,bne_self_eq_false];exact hk
theorem rb{x b:Bool}{c:Prop}(h:x=b)(hc:c):some (T.bool x)=some (T.bool b)/\c:=⟨congrArg _ (congrArg _ h),hc⟩
theorem ri{k:IntKind}{n m:Int}{c:Prop}(h:n=m)(hc:c):some (T.int k n)=some (T.int k m)/\c:=⟨congrArg _ (congrArg _ h),hc⟩
theorem rt{t u:T}{c:Prop}(h:t=u)(hc:c):some t=some u/\c:=⟨congrArg _ h,hc⟩
end
section
variable [Glb]
end
section
theorem aE1{x y:Int}{K:Bool->Prop}(hk:K true)(h:x=y:=by first|omega|(simp;done)|(simp;omega)|fail): ∀b',(x==y)=b'->K b':=ry h hk
theorem aE0{x y:Int}{K:Bool->Prop}(hk:K false)(h:x≠y:=by first|omega|(simp;done)|(simp;omega)|fail): ∀b',(x==y)=b'->K b':=rv h hk
theorem aN0{x y:Int}{K:Bool->Prop}(hk:K false)(h:x=y:=by first|omega|(simp;done)|(simp;omega)|fail): ∀b',(x !=y)=b'->K b':=rz h hk
theorem aD1{p:Prop}[Decidable p]{K:Bool->Prop}(hk:K true)(h:p:=by first|omega|(simp;done)|(simp;omega)|fail): ∀b',decide p=b'->K b':=ru h hk
theorem aD0{p:Prop}[Decidable p]{K:Bool->Prop}(hk:K false)(h: ¬p:=by first|omega|(simp;done)|(simp;omega)|fail): ∀b',decide p=b'->K b':=rq h hk
theorem aS{c K:Prop}(hk:K)(hc:c:=by first|exact trivial|rfl|decide|exact nlZ rfl|assumption|exact ⟨rfl,nlZ rfl⟩|exact ⟨trivial,rfl⟩|exact ⟨⟨trivial,rfl⟩,rfl⟩|omega|(simp;done)|(simp;omega)|(simp [*];done)|fail):c/\K:=⟨hc,hk⟩
theorem rb1{b:Bool}{c:Prop}(hc:c)(h:true=b:=by first|rfl|(simp;done)|(simp;omega)|(simp [*];done)|(simp [*];omega)|fail):some (T.bool true)=some (T.bool b)/\c:=rb h hc
theorem rb0{b:Bool}{c:Prop}(hc:c)(h:false=b:=by first|rfl|(simp;done)|(simp;omega)|(simp [*];done)|(simp [*];omega)|fail):some (T.bool false)=some (T.bool b)/\c:=rb h hc
theorem rbx{x b:Bool}{c:Prop}(hc:c)(h:x=b:=by first|rfl|(simp;done)|(simp;omega)|(simp [*];done)|(simp [*];omega)|fail):some (T.bool x)=some (T.bool b)/\c:=rb h hc
theorem rix{k:IntKind}{n m:Int}{c:Prop}(hc:c)(h:n=m:=by first|rfl|omega|(rw [np] <;> omega)|(simp;omega)|(simp [*];done)|fail):some (T.int k n)=some (T.int k m)/\c:=ri h hc
theorem lI{ks:List Nat}{bx:Nat->Option BX}{n m:Int}(h:n=m:=by first|omega|(rw [np] <;> omega)|(simp;omega)|(simp [*];done)|fail):LeV ks bx (.t (.int .i64 n)) (.t (.int .i64 m)):=leI h
end
section
variable [Glb]
end
end Go.DL
end
section
namespace Go.DL
open Go
section
variable [Glb]
def Les(t u:T):Prop:= ∀(S:ar) (w:World) (v:Value),Rep S w v t->Rep S w v u
end
section
theorem Les.refl(t:T):Les t t:=fun _ _ _ h=>h
end
section
variable [Glb]
structure dq (ts us:List T):Prop where
 len:ts.length=us.length
 one: ∀u∈us,u.one=true
 le: ∀(i:Nat) (t u:T),ts[i]? =some t->us[i]? =some u->Les t u
end
section
theorem dq.nil:dq [] []:=⟨rfl,by simp,by simp⟩
theorem dq.cons{t u:T}{ts us:List T}(h:Les t u)(h1:u.one=true)(k:dq ts us):dq (t::ts) (u::us):=by
 refine ⟨by simp [k.len],fun x hx=>?_,fun i a b ha hb=>?_⟩
 ·rcases List.mem_cons.1 hx with rfl|hx
  ·exact h1
  ·exact k.one x hx
 ·cases i with
  |zero=>simp at ha hb;subst ha;subst hb;exact h
  |succ i=>exact k.le i a b (by simpa using ha) (by simpa using hb)
theorem dq.append{ts us ts' us':List T}(h:dq ts us)(k:dq ts' us'):dq (ts++ts') (us++us'):=by
 refine ⟨by simp [h.len,k.len],fun x hx=>?_,fun i a b ha hb=>?_⟩
 ·rcases List.mem_append.1 hx with hx|hx
  ·exact h.one x hx
  ·exact k.one x hx
 ·rcases Nat.lt_or_ge i ts.length with hi|hi
  ·rw [List.getElem?_append_left hi] at ha;rw [List.getElem?_append_left (by rw [<- h.len];exact hi)] at hb;exact h.le i a b ha hb
  ·rw [List.getElem?_append_right hi] at ha;rw [List.getElem?_append_right (by rw [<- h.len];exact hi), <-h.len] at hb;exact k.le _ a b ha hb
theorem Les.nil(n:Nat):Les .nil (.slice n []):=fun _ _ _ h=>Rep.oj n h
theorem dq.flat{n:Nat}: ∀{xs ys:List T},xs.length=ys.length->(∀ (i:Nat) (x y:T),xs[i]? =some x->ys[i]? =some y->dq x.cells y.cells/\y.cells.length=n)->dq (xs.flatMap T.cells) (ys.flatMap T.cells)
 |[],[],_,_=>.nil
 |x::xs,y::ys,hl,h=>by
  simp only [List.flatMap_cons];exact (h 0 x y rfl rfl).1.append (dq.flat (n:=n) (by simpa using hl) fun i a b ha hb=>h (i+1) a b (by simpa using ha) (by simpa using hb))
 |[],_::_,hl,_=>by simp at hl
 |_::_,[],hl,_=>by simp at hl
theorem Les.slice{n:Nat}{xs ys:List T}(hl:xs.length=ys.length)(h: ∀(i:Nat) (x y:T),xs[i]? =some x->ys[i]? =some y->dq x.cells y.cells/\y.cells.length=n):Les (.slice n xs) (.slice n ys):=fun S w v r=>by
 have hf:=dq.flat hl h;cases r with
 |slice a b o len cap _ _ g hl2 hc hu h1 ha hg hr=>
  refine .slice a b o len cap n ys g (by omega) hc (fun y hy=>?_) hf.one (fun h0=>ha (by rw [hf.len];exact h0)) (fun i hi=>hg i (by rw [hf.len];exact hi)) fun i u hu=>?_
  ·obtain ⟨i,hi,rfl⟩:=List.getElem_of_mem hy;exact (h i xs[i] ys[i] (by simp [show i<xs.length by omega]) (by simp [hi])).2
  ·have hlt:i<(xs.flatMap T.cells).length:=by rw [hf.len];exact (gsZ hu).1
   exact hf.le i _ u (ggZ hlt) hu S w (g i) (hr i _ (ggZ hlt))
end
section
variable [Glb]
theorem DCalls.les{P:Program}{f:FuncId}{ts us:List T}{r:T}(hl:ts.length=us.length)(hle: ∀(i:Nat) (t u:T),ts[i]? =some t->us[i]? =some u->Les t u)(h:DCalls P f us r):DCalls P f ts r:=
 h.less hl fun S w i v t u ht hu hr=>hle i t u ht hu S w v hr
def lesAll:List T->List T->Prop
 |[],[]=>True
 |t::ts,u::us=>Les t u/\lesAll ts us
 |_,_=>False
end
section
theorem jU: ∀{ts us:List T},lesAll ts us->ts.length=us.length
 |[],[],_=>rfl
 |t::ts,u::us,h=>by simp [jU h.2]
theorem jT: ∀{ts us:List T},lesAll ts us-> ∀(i:Nat) (t u:T),ts[i]? =some t->us[i]? =some u->Les t u
 |[],[],_,i,t,u,h,_=>by simp at h
 |a::ts,b::us,h,i,t,u,ht,hu=>by
  cases i with
  |zero=>simp at ht hu;subst ht;subst hu;exact h.1
  |succ i=>exact jT h.2 i t u (by simpa using ht) (by simpa using hu)
end
section
variable [Glb]
theorem DCalls.lesAll{P:Program}{f:FuncId}{ts us:List T}{r:T}(h:DCalls P f us r)(hle:lesAll ts us):DCalls P f ts r:=
 DCalls.les (jU hle) (jT hle) h
end
end Go.DL
end
section
namespace Go.DL
open Go.RowKit
section
variable [Glb]{P:Program}{X:List FuncId}{N:Nat}{w0:World}{S0:aa}{a:Act}{E:Env}{st:St}
abbrev dW(w:World):ar:=fun b _=>b<w.heap.size
def jg(f:V->Option T):List V->Option (List T)
 |[]=>some []
 |v::vs=>match f v,jg f vs with
  |some x,some xs=>some (x::xs)
  |_,_=>none
def cvM(bx:Nat->Option BX):Nat->V->Option T
 |0,_=>none
 |k+1,v=>match v with
  |.fn f caps=>match jg (cvM bx k) caps with
   |some ts=>some (.clos f ts)
   |none=>none
  |.ptr n off=>match bx n with
   |some (.v vs)=>match jg (cvM bx k) vs with
    |some ts=>some (.cptr ts off)
    |none=>none
   |_=>match aX bx (.ptr n off) with
    |some (t,_)=>some t
    |none=>none
  |v=>match aX bx v with
   |some (t,_)=>some t
   |none=>none
end
section
variable {P:Program}{X:List FuncId}{N:Nat}{w0:World}{S0:aa}{a:Act}{E:Env}{st:St}
theorem gq{f:V->Option T}: ∀{vs:List V} {ts:List T},jg f vs=some ts->vs.length=ts.length/\ ∀(i:Nat) (v:V) (t:T),vs[i]? =some v->ts[i]? =some t->f v=some t
 |[],ts,h=>by simp [jg] at h;subst h;exact ⟨rfl,fun i v t hv=>by simp at hv⟩
 |v::vs,ts,h=>by
  unfold jg at h;split at h
  ·rename_i x xs hx hxs;cases h;obtain ⟨h1,h2⟩:=gq hxs;refine ⟨by simp [h1],fun i v t hv ht=>?_⟩;cases i with
   |zero=>simp at hv ht;subst hv;subst ht;exact hx
   |succ i=>simp at hv ht;exact h2 i v t hv ht
  ·cases h
end
section
variable [Glb]{P:Program}{X:List FuncId}{N:Nat}{w0:World}{S0:aa}{a:Act}{E:Env}{st:St}
theorem ia(h:SR N w0 S0 E st a.tmps): ∀{k:Nat} {u:V} {v:Value} {t:T},VR E v u->cvM st.bx k u=some t->Rep (dW E.w) E.w v t
 |0,u,v,t,_,hc=>by cases hc
 |k+1,u,v,t,hv,hc=>by
  have all: ∀{rd:List Nat} (b o:Nat),Sx E rd b o->dW E.w b o:=by
   rintro rd b o (h1|⟨n,_,hl,rfl⟩)
   ·exact h.lt b o h1
   ·exact lj h hl
  have one: ∀{t':T} {rd:List Nat},aX st.bx u=some (t',rd)->Rep (dW E.w) E.w v t':=fun h1=>(dY h.bx hv h1).mono all (fun _ _ _=>aB.rfl)
  have fall:(match aX st.bx u with|some (t,_)=>some t|none=>none)=some t->Rep (dW E.w) E.w v t:=fun hc=>by
   split at hc
   ·rename_i t' rd h1;cases hc;exact one h1
   ·cases hc
  unfold cvM at hc;split at hc
  ·rename_i f caps;split at hc
   ·rename_i ts hts;cases hc;cases hv with
    |fn _ cs _ hs rT=>
     obtain ⟨g1,g2⟩:=gq hts;refine .clos f cs ts (by omega) fun i x t hx ht=>?_
     have hi:i<caps.length:=by rw [g1];exact (gsZ ht).1
     have hci:=ggZ hi;exact ia h (rT i x _ hx hci) (g2 i _ t hci ht)
   ·cases hc
  ·rename_i n off;split at hc
   ·rename_i vs hb;split at hc
    ·rename_i ts hts;cases hc;cases hv with
     |ptr _ _ hl=>
      obtain ⟨cs,e,hg,hcr⟩:=(h.bx n _ hb).cells rfl;cases hcr with
      |v _ h1 h2=>
      obtain ⟨g1,g2⟩:=gq hts;have key: ∀(i:Nat) (x:Value) (t:T),cs[i]? =some x->ts[i]? =some t->Rep (dW E.w) E.w x t/\t.one=true:=fun i x t hx ht=>by
       have hi:i<vs.length:=by rw [g1];exact (gsZ ht).1
       have hvi:=ggZ hi;obtain ⟨k1,k2⟩:=h2 i x _ hx hvi
       have:=ia h k1 (g2 i _ t hvi ht)
       exact ⟨this,this.jZ k2⟩
      have hlt: ∀i,i<ts.length->i<cs.size:=fun i hi=>by omega
      have:=Rep.cptr (S:=dW E.w) (w:=E.w) (E.κ n) 0 off ts (fun i=>cs[i]?.getD undef)
       (fun t ht=>by
        obtain ⟨i,hi⟩:=List.mem_iff_getElem?.1 ht;have hl:=hlt i (gsZ hi).1;exact (key i cs[i] t (by simp [hl]) hi).2)
       (fun i hi=>by
        have hl:=hlt i hi;rw [Nat.zero_add,cell_of_row _ _ _ _ _ _ hg];exact ⟨by simp [hl],(h.bx n _ hb).lt⟩)
       (fun i t ht=>by
        have hl:=hlt i (gsZ ht).1
        have:=(key i cs[i] t (by simp [hl]) ht).1
        simpa only [hl,getElem?_pos,Option.getD_some] using this)
      rwa [Nat.zero_add] at this
    ·cases hc
   ·exact fall hc
  ·exact fall hc
abbrev cvA(st:St)(us:List V):Option (List T):=jg (cvM st.bx 6) us
theorem nW(h:SR N w0 S0 E st a.tmps){us:List V}{ts:List T}(hc:cvA st us=some ts){vs:Array Value}(hlen:vs.size=us.length)(hv: ∀(i:Nat) (v:Value) (u:V),vs[i]? =some v->us[i]? =some u->VR E v u):
  vs.toList.length=ts.length/\ ∀(i:Nat) (v:Value) (t:T),vs.toList[i]? =some v->ts[i]? =some t->Rep (dW E.w) E.w v t:=by
 obtain ⟨g1,g2⟩:=gq hc;refine ⟨by simp;omega,fun i v t hvi ht=>?_⟩;have hi:i<us.length:=by rw [g1];exact (gsZ ht).1
 have hui:=ggZ hi;exact ia h (hv i v _ (by simpa using hvi) hui) (g2 i _ t hui ht)
theorem SR.rS{b:Array Value}(h:SR N w0 S0 E st b):bo (dW E.w) E.w:=h.iJ.up (fun b o hs=>h.lt b o hs) (Below.refl _ _)
abbrev qh(w w':World):ar:=fun b _=>w.heap.size<=b/\b<w'.heap.size
def qR(P:Program)(f:FuncId)(ts:List T)(r:T):Prop:=
 bH P f/\ ∀(w:World) (vs:List Value),bo (dW w) w->vs.length=ts.length->(∀ (i:Nat) (v:Value) (t:T),vs[i]? =some v->ts[i]? =some t->Rep (dW w) w v t)->
  Calls P f vs.toArray w fun e w'=> ∃v,e= .returned v/\Below w.heap.size w w'/\Rep (qh w w') w' v r
theorem sQ{f:FuncId}{us:List V}{d:Option Nat}{K:St->Prop}{ts:List T}{r:T}(hc:cvA st us=some ts)(hr:qR P f ts r)(hk:K (st.set d (.t r))):WC P f us d st K:=by
 refine ⟨hr.1,fun N w0 S0 E a vs h hlen hv hd=>?_⟩;obtain ⟨c1,c2⟩:=nW (a:=⟨a,[]⟩) h hc hlen hv;refine Calls.mono (by simpa using hr.2 E.w vs.toList h.rS c1 c2) ?_;rintro e w' ⟨v,rfl,hb,aq⟩;have h':=h.world hb (fun b o=>E.S b o\/(E.w.heap.size<=b/\b<w'.heap.size)) (fun b o=>⟨fun hh=>hh.elim .inl fun k=>.inr ⟨.inr k,k⟩,fun hh=>hh.elim .inl fun k=>k.1⟩);exact ⟨v,rfl,_,_,rfl,hk,dB h' hd (.t _ _ (aq.mono (fun b o hh=>.inr hh) (fun _ _ _=>aB.rfl)))⟩
end
section
variable {P:Program}{X:List FuncId}{N:Nat}{w0:World}{S0:aa}{a:Act}{E:Env}{st:St}
theorem gn.rep{w w':World}{v:Value}{e:TypeId}{size:Nat}{xs:List T}(h:gn w w' v e size xs):Rep (qh w w') w' v (.slice size xs):=by
 obtain ⟨cells,k1,k2,k3⟩:=h.ex
 let E:Env:={S:=fun b o=>v.ownBlock=some b/\o<(xs.flatMap T.cells).length,w:=w',B:=w.heap.size,κ:=fun _=>0,ρ:=fun _=>v.ownBlock,live:=fun _=>false }
 have ho:bN E v 0 e size xs:=⟨⟨cells,k1,k2,fun i x t hx ht=>(k3 i x t hx ht).of_flat (h.flat t (List.mem_of_getElem? ht))⟩,h.uni,h.one,fun g hg=>⟨hg,fun o=>⟨fun hh=>hh.2,fun hh=>⟨hg,hh⟩⟩⟩⟩
 refine ho.rep.mono (fun b o hs=>?_) (fun _ _ _=>aB.rfl);rcases k1.2 with ⟨rfl,_⟩|⟨g,cap,cur,rfl,hbg,hg,_⟩
 ·cases hs.1
 ·have:=hs.1
  simp only [Value.ownBlock,Option.some.injEq] at this;subst this;exact ⟨hbg,(Array.getElem?_eq_some_iff.1 hg).1⟩
end
section
variable [Glb]{P:Program}{X:List FuncId}{N:Nat}{w0:World}{S0:aa}{a:Act}{E:Env}{st:St}
theorem eu.sU{f:FuncId}{ts:List T}{e:TypeId}{size:Nat}{xs:List T}(h:eu P f ts e size xs []):DCalls P f ts (.slice size xs):=by
 refine ⟨h.1,fun S w vs hS hG hl hr=>(h.2 S w vs hS hG hl hr).mono ?_⟩;rintro en w' ⟨v,us,rfl,hb,hf,hu,_⟩
 have:us=[]:=List.eq_nil_of_length_eq_zero hu
 subst this;exact ⟨v,rfl,hb,hf.rep.mono (fun b o hs=>.inr hs) (fun _ _ _=>aB.rfl)⟩
end
end Go.DL
end
section
end
section
namespace Go.DL
variable {P:Program}
theorem rJ(w:World)(dT sT ty elem:TypeId)(size b o dLen dCap:Nat)(a:Addr)(sLen sCap:Nat)(cs:List Value)
  (hu:P.underlying dT=some (.slice elem)) (hs:(P.info? elem).map (·.size)=some size) (hn:cs.length=Nat.min sLen dLen * size)
  (sH: ∀j v,cs[j]? =some v->w.cell? (a.add j)=some v) (hc: ∀j,j<cs.length->(w.cell? ⟨b,o+j,none⟩).isSome=true) (hf: ∀j,j<cs.length->w.frozen? ⟨b,o+j,none⟩=false) (h1: ∀v∈cs,v.oneCell'=true):
  (Builtin.copy_ #[dT,sT] ty #[.slice (some ⟨b,o,none⟩) dLen dCap,.slice (some a) sLen sCap]).run P w= .ok (goInt (Nat.min sLen dLen)) (w.setCells b o cs):=by
 have hl:=run_firstCells_some (P:=P) w size (Nat.min sLen dLen) a sLen sCap cs hn sH;have hst:=run_storeCells_cells (P:=P) b o cs 0 w (by simpa using hc) (by simpa using hf) h1;cases hq:P.info? elem with
 |none=>simp [hq] at hs
 |some i=>
  have hi:i.size=size:=by simpa [hq] using hs
  simp [Builtin.copy_,run_underlying hu,Builtin.lenOf,sizeOf,typeInfo,hq,hi,hl,hst]
end Go.DL
end
section
end
section
namespace Go.DL
open Go.RowKit Go.Shelf Go.Proofs
section
variable [Glb]{P:Program}{ρ:Ren}
theorem rI(L:Lays8.n4 P ρ){i0:TypeInfo}{z:Value}(hi0:P.info? (ρ.t 25)=some i0)(hz0:i0.zero=some z)(hs0:0<i0.size)(hzs:z.cells.size=i0.size)(n:Nat)(il:n * i0.bytes<=140737488355328)(h62:n<=4611686018427387904)(hc:bH P (ρ.f 4)):
  eu P (ρ.f 4) [.nil,.int .i64 n] (ρ.t 25) i0.size [] []:=by
 refine ⟨hc,fun S w vs _ _ hlen aq=>?_⟩;have hsz:vs.length=2:=hlen
 match vs,hsz with
 |[a,b],_=>
  have ha:=aq 0 a .nil rfl rfl;have hb:=aq 1 b (.int .i64 n) rfl rfl;cases ha;cases hb;have noLen: ∀(i:Nat) (u:Value) (t:T),([]:List Value)[i]? =some u->([]:List T)[i]? =some t->t.flat=true/\Rep (fun _ _=>False) w u t:=fun i u t hu=>by simp at hu
  by_cases h0:n=0
  ·subst h0;refine (Any8.slices_Grow_room L none 0 0 0 w (Nat.le_refl _) (by omega) (by omega) (by omega)).mono ?_;rintro e w' ⟨rfl,rfl⟩;exact ⟨.slice none 0 0,[],rfl,Below.refl _ _,⟨⟨[],⟨by simp,.inl ⟨rfl,rfl⟩⟩,rfl,fun i x t hx=>by simp at hx⟩,by simp,by simp,by simp⟩,rfl,fun i u t hu=>by simp at hu⟩
  ·refine (Any8.slices_Grow_grow L i0 z hi0 hz0 hs0 none 0 0 n [] w (Nat.le_refl _) (by omega) (by simpa using il) (by omega) (by simp) (fun _=>rfl) (fun a h=>by cases h)).mono ?_;rintro e w' ⟨rfl,rfl⟩;have hge:=grownCap_ge w (0+n) 0 (ρ.t 25);have hml:=grownCap_le_maxLen w (0+n) 0 (ρ.t 25) (by unfold maxLen;omega);refine ⟨_,[],rfl,((Below.refl _ _).drew).alloc (Nat.le_refl _) _,⟨⟨[],⟨by simp,.inr ⟨_,_,_,rfl,Nat.le_refl _,heap_alloc_new w.drew _,Nat.zero_le _,hml,?_,by simp⟩⟩,rfl,fun i x t hx=>by simp at hx⟩,by simp,by simp,by simp⟩,rfl,fun i u t hu=>by simp at hu⟩;rw [Array.size_append,Array.size_append,size_zeroCells,size_zeroCells,hzs,show ([]:List Value).toArray.size=0 from rfl,Nat.zero_add, <-Nat.add_mul]
   congr 1
   omega
end
end Go.DL
end
section
namespace Go.DL
open Go.RowKit Go.Shelf Go.Proofs Go.Sort
section
variable [Glb]{P:Program}{N:Nat}{w0:World}{S0:aa}{a:Act}{E:Env}{st:St}
structure lq (P:Program) (f:FuncId) (k:Nat):Prop where
 callable:bH P f
 some_: ∀(m:Nat) (enc:Fin (m+1)->List Value) (cf:Fin (m+1)->Fin (m+1)->Int) (g:Nat) (cb:Array Value) (blk off cap:Nat) (d:Array (Fin (m+1))) (w:World),(∀ x,(enc x).length=k)->(∀ x, ∀v∈enc x,v.oneCell'=true)->Sort.SWO (ltOf cf)->
  (∀ args w,(callFunc g args).run P w= .ok (.enter g args) w)->CmpLays P g cb enc k cf blk off d.size w->HoldsK enc k w blk off d->blk<w.heap.size->d.size<4611686018427387904->
  Calls P f #[.slice (some ⟨blk,off,none⟩) d.size cap,.func (.func g) #[] cb] w fun e w'=>e= .returned (.tuple #[])/\ ∃d' n os,Sort.PermIn 0 d.size d d'/\Sort.SortedIn (ltOf cf) 0 d.size d'/\w'=sortWorldK enc k w blk off n d' os
 none_: ∀(p:Option Addr) (cap:Nat) (fv:Value) (w:World),Calls P f #[.slice p 0 cap,fv] w fun e w'=>e= .returned (.tuple #[])/\w'=w
end
section
variable {P:Program}{N:Nat}{w0:World}{S0:aa}{a:Act}{E:Env}{st:St}
theorem nu{w w':World}(h:Below w.heap.size w w'): ∃q os,w'=Sort.grow (w.drewN q) os:=by
 refine ⟨w'.drawn - w.drawn,w'.heap.extract w.heap.size w'.heap.size,?_⟩;obtain ⟨hp,tp,dr,os,out⟩:=w;obtain ⟨hp',tp',dr',os',out'⟩:=w';have h1:=h.os;have h2:=h.tape;have h3:=h.output;have h4:=h.size;have h5:=h.block;have h6:=h.dr;simp only at h1 h2 h3 h4 h5 h6;subst h1;subst h2;subst h3;unfold Sort.grow World.drewN;simp only [World.mk.injEq,and_true,true_and];refine ⟨?_,by omega⟩
 apply Array.ext_getElem?
 intro i
 by_cases hi:i<hp.size
 ·rw [Array.getElem?_append_left hi,h5 i hi]
 ·rw [Array.getElem?_append_right (by omega),Array.getElem?_extract]
  by_cases hj:i<hp'.size
  ·rw [if_pos (by omega)]
   congr 1;omega
  ·rw [if_neg (by omega),Array.getElem?_eq_none (by omega)]
theorem iW{k:Nat}: ∀{xs:List T} (_: ∀x∈xs,x.cells.length=k) (j:Nat),0<k->j<xs.length * k->(xs.flatMap T.cells)[j]? =(xs[j / k]?).bind fun x=>x.cells[j % k]?
 |[],_,j,_,hj=>by simp at hj
 |x::xs,hu,j,h0,hj=>by
  rw [List.flatMap_cons];have hx:=hu x (by simp)
  by_cases h:j<k
  ·rw [List.getElem?_append_left (by omega),Nat.div_eq_of_lt h,Nat.mod_eq_of_lt h];rfl
  ·rw [List.getElem?_append_right (by omega),hx,iW (fun y hy=>hu y (by simp [hy])) (j - k) h0 (by rw [List.length_cons,Nat.add_mul] at hj;omega)];have h1:j / k=(j - k) / k+1:=by rw [Nat.div_eq_sub_div h0 (by omega)]
   have h2:j % k=(j - k) % k:=by rw [Nat.mod_eq_sub_mod (by omega)]
   rw [h1,h2,List.getElem?_cons_succ]
theorem kE{size:Nat}(h0:1<size): ∀(n:Nat) (cs:List T) (i:Nat),i<n->n * size<=cs.length->(chunk size n cs)[i]? =some (.agg ((cs.drop (i * size)).take size))
 |0,_,i,h,_=>by omega
 |n+1,cs,i,h,hl=>by
  rw [Nat.add_mul,Nat.one_mul] at hl;cases i with
  |zero=>
   have:Nat.beq size 1=false:=by
    cases hb:Nat.beq size 1 with
    |false=>rfl
    |true=>have:=Nat.eq_of_beq_eq_true hb;omega
   simp [chunk,elemOf,this]
  |succ i=>
   show (chunk size n (cs.drop size))[i]? =_
   rw [kE h0 n (cs.drop size) i (by omega) (by simp;omega),List.drop_drop,Nat.add_mul,Nat.one_mul,Nat.add_comm size]
end
section
variable [Glb]{P:Program}{N:Nat}{w0:World}{S0:aa}{a:Act}{E:Env}{st:St}
theorem sN{f:FuncId}{k n off len m:Nat}{ts:List T}{u:V}{g:FuncId}{cts:List T}{d:Option Nat}{K:St->Prop}(hs:lq P f k)(hb:st.bx n=some (.d m ts))(hle:off+len * k<=m)(hk2:1<k)(hlen:len<4611686018427387904)
  (hu:u= .t (.clos g cts)\/ ∃caps,u= .fn g caps/\eE caps=some cts) (hg:bH P g) (cf:T->T->Int)
  (nG: ∀x∈chunk k len (ts.drop off), ∀y∈chunk k len (ts.drop off),DCalls P g (x::y::cts) (.int .i64 (cf x y)))
  (irrefl: ∀x∈chunk k len (ts.drop off), ¬cf x x<0) (trans: ∀x∈chunk k len (ts.drop off), ∀y∈chunk k len (ts.drop off), ∀z∈chunk k len (ts.drop off),cf x y<0->cf y z<0->cf x z<0)
  (ntrans: ∀x∈chunk k len (ts.drop off), ∀y∈chunk k len (ts.drop off), ∀z∈chunk k len (ts.drop off), ¬cf x y<0-> ¬cf y z<0-> ¬cf x z<0)
  (hk: ∀ys:List T,ys.Perm (chunk k len (ts.drop off))->ys.Pairwise (fun x y=> ¬cf y x<0)->K ({st with bx:=upd st.bx n (some (.d m (aP ts off (len * k) (ys.flatMap T.cells))))}.set d (.t (.tup [])))):WC P f [.view n off len k,u] d st K:=by
 refine ⟨hs.callable,fun N w0 S0 E a vs h hvl hv hd=>?_⟩;have hsz:vs.size=2:=hvl;have hv0:=hv 0 vs[0] _ (by simp [hsz]) rfl;have hv1:=hv 1 vs[1] _ (by simp [hsz]) rfl;have hvs:vs= #[vs[0],vs[1]]:=by
  apply Array.ext
  ·simp [hsz]
  ·intro i h1 h2
   match i,h1 with
   |0,_=>rfl
   |1,_=>rfl
   |i+2,h1=>omega
 obtain ⟨cb,hfv,hcl,hcr⟩: ∃cb:Array Value,vs[1]= .func (.func g) #[] cb/\cb.size=cts.length/\ ∀(i:Nat) (x:Value) (t:T),cb[i]? =some x->cts[i]? =some t->Rep E.S E.w x t:=by
  rcases hu with rfl|⟨caps,rfl,hc⟩
  ·have hr:=hv1.ax;generalize vs[1]=v1 at hr;cases hr with
   |clos _ cs _ h1 h2=>exact ⟨cs,rfl,h1,h2⟩
  ·generalize vs[1]=v1 at hv1;cases hv1 with
   |fn _ cs _ h1 h2=>
    obtain ⟨g1,g2⟩:=jc hc;refine ⟨cs,rfl,by omega,fun i x t hx ht=>?_⟩;have hi:i<caps.length:=by rw [g1];exact (gsZ ht).1
    have hci:=ggZ hi;exact aC (h2 i x _ hx hci) (g2 i _ t hci ht)
 obtain ⟨cap,hsl,cO,ql⟩:=hv0.bJ;obtain ⟨cs,e,hgo,sk⟩:=(h.bx n _ hb).cells rfl;have hB:=h.bx n _ hb;cases sk with
 |d _ _ hl sI hh=>
 have lg:0<k:=by omega
 have ones: ∀t∈ts.drop off,t.one=true:=fun t ht=>by
  have ht:=List.mem_of_mem_drop ht;obtain ⟨i,hi⟩:=List.mem_iff_getElem?.1 ht;have hlt:i<cs.size:=by have:=(gsZ hi).1;omega
  exact (hh i cs[i] t (by simp [hlt]) hi).2
 generalize hxs:chunk k len (ts.drop off)=xs at nG irrefl trans ntrans hk;have hsp:=cS lg len (ts.drop off) (by simp;omega) ones;rw [hxs] at hsp;obtain ⟨hfl,hxl,hxu⟩:=hsp
 by_cases hl0:len=0
 ·subst hl0;have hx0:xs=[]:=List.eq_nil_of_length_eq_zero hxl;subst hx0;have bZ:=hs.none_ (some ⟨E.κ n,off,none⟩) cap vs[1] E.w;rw [<- hsl, <-hvs] at bZ;refine bZ.mono ?_;rintro e' w' ⟨rfl,rfl⟩;refine ⟨_,rfl,_,_,rfl,hk [] (List.Perm.refl _) List.Pairwise.nil,dB ?_ hd (.t _ _ (.tup #[] [] rfl fun i x t hx=>by simp at hx))⟩;have cW:aP ts off (0 * k) (([]:List T).flatMap T.cells)=ts:=by simp [aP]
  rw [cW]
  have:upd st.bx n (some (.d m ts))=st.bx:=by
   funext i
   by_cases hi:i=n
   ·subst hi;rw [aj,hb]
   ·rw [ae _ _ _ _ hi]
  show SR N w0 S0 E {st with bx:=upd st.bx n (some (.d m ts))} a
  rw [this];exact h
 obtain ⟨m',rfl⟩: ∃m',len=m'+1:=⟨len - 1,by omega⟩
 let enc:Fin (m'+1)->List Value:=fun i=>(cs.toList.drop (off+i.val * k)).take k
 have py: ∀i:Fin (m'+1),i.val * k+k<=(m'+1) * k:=fun i=>by
  have:=Nat.mul_le_mul_right k (show i.val+1<=m'+1 from i.isLt)
  rw [Nat.add_mul,Nat.one_mul] at this;exact this
 have pt: ∀x,(enc x).length=k:=fun x=>by
  have:=py x
  simp only [enc,List.length_take,List.length_drop,Array.length_toList];omega
 have encg: ∀(x:Fin (m'+1)) (r:Nat),r<k->(enc x)[r]? =cs[off+x.val * k+r]? :=fun x r hr=>by
  simp only [enc];rw [List.getElem?_take,if_pos hr,List.getElem?_drop,Array.getElem?_toList]
 have xget: ∀x:Fin (m'+1),xs[x.val]? =some (.agg (((ts.drop off).drop (x.val * k)).take k)):=fun x=>by
  rw [<- hxs];exact kE hk2 (m'+1) (ts.drop off) x.val x.isLt (by simp;omega)
 let xe:Fin (m'+1)->T:=fun x=>.agg (((ts.drop off).drop (x.val * k)).take k)
 have xmem: ∀x,xe x∈xs:=fun x=>List.mem_of_getElem? (xget x)
 have xcell: ∀(x:Fin (m'+1)) (r:Nat),r<k->(xe x).cells[r]? =ts[off+x.val * k+r]? :=fun x r hr=>by
  show (((ts.drop off).drop (x.val * k)).take k)[r]? =_
  rw [List.getElem?_take,if_pos hr,List.getElem?_drop,List.getElem?_drop]
  congr 1;omega
 have xlen: ∀x,(xe x).cells.length=k:=fun x=>hxu _ (xmem x)
 have h1: ∀x, ∀v∈enc x,v.oneCell'=true:=fun x v hvm=>by
  obtain ⟨r,hr⟩:=List.mem_iff_getElem?.1 hvm;have hrk:r<k:=by rw [<- pt x];exact (gsZ hr).1
  rw [encg x r hrk] at hr;have hx:=py x;have hlt:off+x.val * k+r<ts.length:=by omega
  have:=hh _ v ts[off+x.val * k+r] hr (ggZ hlt)
  exact this.1.one this.2
 let c:Fin (m'+1)->Fin (m'+1)->Int:=fun x y=>cf (xe x) (xe y)
 have hO:Sort.SWO (ltOf c):=by
  refine ⟨fun x=>?_,fun x y z p q=>?_,fun x y z p q=>?_⟩
  ·exact decide_eq_false (irrefl _ (xmem x))
  ·exact decide_eq_true (trans _ (xmem x) _ (xmem y) _ (xmem z) (of_decide_eq_true p) (of_decide_eq_true q))
  ·exact decide_eq_false (ntrans _ (xmem x) _ (xmem y) _ (xmem z) (of_decide_eq_false p) (of_decide_eq_false q))
 let d0:Array (Fin (m'+1)):=Array.ofFn fun i=>i
 have hd0:d0.size=m'+1:=Array.size_ofFn;have sq: ∀(i:Nat) (hi:i<m'+1),d0[i]! =⟨i,hi⟩:=fun i hi=>by
  rw [getElem!_pos d0 i (by rw [hd0];exact hi)];simp [d0]
 have hH:HoldsK enc k E.w (E.κ n) off d0:=by
  intro j hj;rw [size_flatK,hd0] at hj;have hq:j / k<m'+1:=Nat.div_lt_of_lt_mul (by rw [Nat.mul_comm];exact hj);rw [get_flatK _ _ _ _ (by rw [hd0];exact hj),sq _ hq];have hr:j % k<k:=Nat.mod_lt _ lg;have hjk:(j / k) * k+j % k=j:=by rw [Nat.mul_comm];exact Nat.div_add_mod j k
  have hlt:off+j<cs.size:=by omega
  refine ⟨?_,?_⟩
  ·rw [cell_of_row _ _ _ _ _ _ hgo]
   have:=encg ⟨j / k,hq⟩ (j % k) hr
   simp only at this;rw [getElem!_def,this];have e1:off+j / k * k+j % k=off+j:=by omega
   rw [e1];simp [hlt]
  ·unfold World.frozen?;simp only [hgo];simp
 have fW: ∀(q:Nat) (dk:Array (Fin (m'+1))) (os:Array Obj) (i:Nat),i≠E.κ n->i<E.w.heap.size->(sortWorldK enc k E.w (E.κ n) off q dk os).heap[i]? =E.w.heap[i]? :=fun q dk os i hi hil=>by
  unfold sortWorldK Sort.grow putRowK Sort.putRow Sort.mapBlock Sort.ahead;simp only;rw [Array.getElem?_append_left (by simpa using hil),Array.getElem?_modify,if_neg (fun e=>hi e.symm)]
 have fi: ∀(q:Nat) (dk:Array (Fin (m'+1))) (os:Array Obj),E.w.heap.size<=(sortWorldK enc k E.w (E.κ n) off q dk os).heap.size:=fun q dk os=>size_sortWorldK_c enc k E.w (E.κ n) off q dk os
 have cW: ∀(q:Nat) (dk:Array (Fin (m'+1))) (os:Array Obj) (b o:Nat),E.S b o->aB E.w (sortWorldK enc k E.w (E.κ n) off q dk os) b o:=fun q dk os b o hso=>
  aB.dz (fW q dk os b (fun e=>hB.free o (e▸hso)) (h.lt b o hso))
 have hC:CmpLays P g cb enc k c (E.κ n) off d0.size E.w:=fun q os dk _ x y=>by
  have repx: ∀z:Fin (m'+1),Rep E.S (sortWorldK enc k E.w (E.κ n) off q dk os) (.agg (enc z).toArray) (xe z):=fun z=>by
   refine .agg _ _ (by have:=xlen z;simp only [List.size_toArray,pt];exact this.symm) (fun t ht=>?_) (fun i v t hvi ht=>?_)
   ·exact ones t (List.mem_of_mem_drop (List.mem_of_mem_take ht))
   ·have hik:i<k:=by have:=(gsZ ht).1;have h2:=xlen z;rw [<- h2];exact this
    rw [List.getElem?_toArray,encg z i hik] at hvi
    have:=xcell z i hik
    rw [show (xe z).cells[i]? =some t from ht] at this;exact (hh _ v t hvi this.symm).1.mono (fun _ _ h=>h) (cW q dk os)
  have hG:bo E.S (sortWorldK enc k E.w (E.κ n) off q dk os):=fun g' cs' hg'=>by
   obtain ⟨k1,v,k2⟩:=h.iJ g' cs' hg';refine ⟨Nat.lt_of_lt_of_le k1 (fi q dk os),v,fun i t ht=>?_⟩;obtain ⟨j1,j2,j3,j4,j5⟩:=k2 i t ht;exact ⟨(cW q dk os _ _ j2).cell.trans j1,j2,j3,j4,j5.of_flat j4⟩
  have hdc:=(nG _ (xmem x) _ (xmem y)).2 E.S (sortWorldK enc k E.w (E.κ n) off q dk os) (.agg (enc x).toArray:: .agg (enc y).toArray::cb.toList) (fun b o hso=>Nat.lt_of_lt_of_le (h.lt b o hso) (fi q dk os)) hG (by simp [hcl]) (fun i v t hvi ht=>by
   match i,hvi,ht with
   |0,hvi,ht=>simp at hvi ht;subst hvi;subst ht;exact repx x
   |1,hvi,ht=>simp at hvi ht;subst hvi;subst ht;exact repx y
   |i+2,hvi,ht=>simp at hvi ht;exact (hcr i v t (by simpa using hvi) ht).mono (fun _ _ h=>h) (cW q dk os))
  have e1:((.agg (enc x).toArray:: .agg (enc y).toArray::cb.toList:List Value)).toArray= #[.agg (enc x).toArray,.agg (enc y).toArray]++cb:=by
   apply Array.ext'
   simp
  rw [e1] at hdc;refine hdc.mono ?_;rintro e' w' ⟨v,rfl,hbw,hrv⟩;obtain ⟨q',os',hw'⟩:=nu hbw;exact ⟨by rw [hrv.aA],q',os',hw'⟩
 have bZ:=hs.some_ m' enc c g cb (E.κ n) off cap d0 E.w pt h1 hO hg hC hH hB.lt (by rw [hd0];exact hlen);rw [hd0, <-hsl, <-hfv, <-hvs] at bZ;refine bZ.mono ?_;rintro e' w' ⟨rfl,d',q,os,⟨hps,_,qm⟩,qD,rfl⟩;have hds:d'.size=m'+1:=by rw [hps,hd0]
 let ys:List T:=d'.toList.map xe
 have hys:ys.length=m'+1:=by simp [ys,hds]
 have hp0:(d0.toList.map xe)=xs:=by
  apply List.ext_getElem?
  intro i
  by_cases hi:i<m'+1
  ·rw [List.getElem?_map,Array.getElem?_toList]
   have:d0[i]? =some ⟨i,hi⟩:=by simp [d0,hi]
   rw [this];exact (xget ⟨i,hi⟩).symm
  ·rw [List.getElem?_eq_none (by simp [hd0];omega),List.getElem?_eq_none (by omega)]
 have n9:ys.Perm xs:=by
  have e1:d'.extract 0 (m'+1)=d':=Array.extract_eq_self_of_le (by omega);have e2:d0.extract 0 (m'+1)=d0:=Array.extract_eq_self_of_le (by omega);rw [e1,e2] at qm;rw [<- hp0];exact qm.map xe
 have hpw:ys.Pairwise (fun x y=> ¬cf y x<0):=by
  rw [List.pairwise_iff_getElem];intro i j hi hj hij;have hi':i<d'.size:=by rw [hds];rw [hys] at hi;exact hi
  have hj':j<d'.size:=by rw [hds];rw [hys] at hj;exact hj
  have:=qD i j (Nat.zero_le _) hij (by rw [<- hds];exact hj')
  rw [getElem!_pos d' i hi',getElem!_pos d' j hj'] at this
  have:=of_decide_eq_false this
  simpa [ys,c] using this
 have hyu: ∀x∈ys,x.cells.length=k:=fun x hx=>hxu x (n9.mem_iff.1 hx)
 have hyf:(ys.flatMap T.cells).length=(m'+1) * k:=by
  have:=aI hyu
  rw [this,hys]
 let cs':Array Value:=Sort.putCells id off (flatK enc k d') cs
 have qZ:cs'.size=cs.size:=by simp [cs',Sort.putCells]
 have hw1:(sortWorldK enc k E.w (E.κ n) off q d' os).heap[E.κ n]? =some (.cells cs' e (0,0)):=by
  unfold sortWorldK Sort.grow putRowK Sort.putRow Sort.mapBlock Sort.ahead;simp only;rw [Array.getElem?_append_left (by simpa using hB.lt),Array.getElem?_modify,if_pos rfl,hgo];rfl
 have rj:=h.write hb rfl cs' (.d m (aP ts off ((m'+1) * k) (ys.flatMap T.cells))) fun E' gr=>by
  refine .d m _ (by rw [bK _ _ _ _ hyf (by omega)];exact hl) (by rw [qZ];exact sI) (fun j v w hv' hw=>?_);rw [bB _ _ _ _ hyf (by omega)] at hw;have hjc:j<cs.size:=by rw [<- qZ];exact (Array.getElem?_eq_some_iff.1 hv').1
  have hcj:cs'[j]? =some (if off<=j/\j<off+(m'+1) * k then (flatK enc k d')[j - off]! else cs[j]):=by
   simp only [cs',Sort.putCells,Array.getElem?_mapIdx,Array.getElem?_eq_getElem hjc,size_flatK,hds,Option.map_some,id]
  rw [hcj] at hv'
  by_cases g1:j<off
  ·rw [if_pos g1] at hw;rw [if_neg (by omega)] at hv'
   have:=hh j v w (by rw [Array.getElem?_eq_getElem hjc];exact hv') hw
   exact ⟨gr.rep this.1,this.2⟩
  ·rw [if_neg g1] at hw
   by_cases g2:j<off+(m'+1) * k
   ·rw [if_pos g2] at hw;rw [if_pos (by omega)] at hv';have hjo:j - off<(m'+1) * k:=by omega
    have hq2:(j - off) / k<m'+1:=Nat.div_lt_of_lt_mul (by rw [Nat.mul_comm];exact hjo);have hr2:(j - off) % k<k:=Nat.mod_lt _ lg;rw [get_flatK _ _ _ _ (by rw [hds];exact hjo),getElem!_pos d' _ (by rw [hds];exact hq2)] at hv';rw [iW hyu _ lg (by rw [hys];exact hjo)] at hw;have hyg:ys[(j - off) / k]? =some (xe (d'[(j - off) / k]'(by rw [hds];exact hq2))):=by
     simp [ys,hds,hq2]
    rw [hyg] at hw;generalize (d'[(j - off) / k]'(by rw [hds];exact hq2))=z at hw hv';have hz:=py z;rw [Option.bind_some,xcell z _ hr2] at hw;have hlz:off+z.val * k+(j - off) % k<cs.size:=by omega
    rw [getElem!_def,encg z _ hr2,Array.getElem?_eq_getElem hlz] at hv'
    have:=hh _ v w (by rw [Array.getElem?_eq_getElem hlz];exact hv') hw
    exact ⟨gr.rep this.1,this.2⟩
   ·rw [if_neg g2] at hw;rw [if_neg (by omega)] at hv'
    have:=hh j v w (by rw [Array.getElem?_eq_getElem hjc];exact hv') hw
    exact ⟨gr.rep this.1,this.2⟩
 have qo:(E.w.setRow (E.κ n) cs').heap.size=E.w.heap.size:=by simp [World.setRow]
 have sj:Below ({E with w:=E.w.setRow (E.κ n) cs' }:Env).w.heap.size ({E with w:=E.w.setRow (E.κ n) cs' }:Env).w (sortWorldK enc k E.w (E.κ n) off q d' os):=by
  refine Below.of rfl rfl rfl (by rw [qo];exact fi q d' os) (fun i hi=>?_) ?_
  ·have hi:i<E.w.heap.size:=by rw [<- qo];exact hi
   by_cases hin:i=E.κ n
   ·subst hin;rw [hw1];exact (setRow_heap E.w (E.κ n) cs cs' e (0,0) hgo).symm
   ·rw [fW q d' os i hin hi];show _=(E.w.heap.modify (E.κ n) _)[i]?
    rw [Array.getElem?_modify,if_neg (fun e=>hin e.symm)]
  ·show E.w.drawn<=E.w.drawn+q
   omega
 have h':=rj.world sj E.S (fun b o=>⟨.inl,fun hh=>hh.elim id fun k=>k.1⟩);exact ⟨_,rfl,_,_,rfl,hk ys n9 hpw,dB h' hd (.t _ _ (.tup #[] [] rfl fun i x t hx=>by simp at hx))⟩
end
section
variable {P:Program}{N:Nat}{w0:World}{S0:aa}{a:Act}{E:Env}{st:St}
theorem lq.of{ρ:Ren}(L:SlLaysF0.n6 P ρ)(k:Nat)(aE: ∀w,(isAgg (ρ.t 24)).run P w= .ok true w)(zE: ∀w,(Go.sizeOf (ρ.t 24)).run P w= .ok k w)(hc:bH P (ρ.f 6)):lq P (ρ.f 6) k:=
 ⟨hc,fun _ enc cf g cb blk off cap d w hk h1 hO eg nG hH hblk hsz=>AnyQ.slices_SortFunc L k aE zE enc hk h1 cf hO g cb blk off cap d w eg nG hH hblk hsz,fun p cap fv w=>AnyF.slices_SortFunc_none L p cap fv w⟩
end
section
variable [Glb]{P:Program}{N:Nat}{w0:World}{S0:aa}{a:Act}{E:Env}{st:St}
end
end Go.DL
end
section
namespace Go.DL
open Go.RowKit
section
variable [Glb]{P:Program}{X:List FuncId}{N:Nat}{w0:World}{S0:aa}{E:Env}{st:St}{n:Nat}{ro:Option Nat}
abbrev fw(ro:Option Nat):Fence:={Fence.wide with round:=ro }
end
section
variable {P:Program}{X:List FuncId}{N:Nat}{w0:World}{S0:aa}{E:Env}{st:St}{n:Nat}{ro:Option Nat}
theorem lF{f:FuncId}{args:Array Value}{w:World}{R:Ending->World->Prop}(h:Calls P f args w R):CallsIn (fw ro) n P f args w R:=(callsIn_wide (n:=n)).2 h
theorem qF{row:String}{args:Array Value}{w:World}{R:Value->World->Prop}(h:Rows P row args w R):RowsIn (fw ro) n P row args w R:=
 fun c cs _=>let ⟨v,w',r,s⟩:=h c cs;⟨v,w',r,stepsIn_wide.2 s⟩
theorem r6{o:Oper}(hd: ∀c,o.op≠ .defer c){a:Act}{w:World}{K:Act->World->Prop}{Q:Exit->Act->World->Prop}(h:o.wp P a w K Q):o.wpIn (fw ro) n P a w K Q:=by
 refine ⟨fun _ _=>trivial,?_⟩;rw [Oper.semAt_eq _ _ _ hd];unfold Oper.wp at h;generalize (execOp a.eval o).run P w=r at h ⊢;cases r with
 |ok x w'=>
  cases x with
  |value v=>exact h
  |skip=>exact h
  |defer d=>exact h
  |enter f args=>exact ⟨fun hh=>(by cases hh),lF h⟩
  |row r args=>exact ⟨fun hh=>(by cases hh),qF h⟩
  |_=>exact h.elim
 |halt x w'=>cases x <;> first|exact h|exact h.elim
theorem om{ops:Array Oper}(hd: ∀(k:Nat) (o:Oper),ops[k]? =some o-> ∀c,o.op≠ .defer c){Q:Exit->Act->World->Prop}(hQ: ¬LetsOut Q){i:Nat}{K:Act->World->Prop}{a:Act}{w:World}(h:wpOp P ops Q i K a w):wpOpIn (fw ro) n P ops Q i K a w:=by
 unfold wpOp at h;unfold wpOpIn;cases ho:ops[i]? with
 |none=>rw [ho] at h;exact h
 |some o=>
  rw [ho] at h;dsimp only at h ⊢;split
  ·rename_i hw;rw [if_pos hw] at h;rcases h with h|h
   ·exact r6 (hd i o ho) h
   ·exact absurd h.2 hQ
  ·rename_i hw;rw [if_neg hw] at h;exact ⟨fun _ _=>trivial,h⟩
theorem oq{ops:Array Oper}(hd: ∀(k:Nat) (o:Oper),ops[k]? =some o-> ∀c,o.op≠ .defer c){Q:Exit->Act->World->Prop}(hQ: ¬LetsOut Q): ∀{l:List Nat} {a:Act} {w:World},wpOps P ops Q l a w->wpOpsIn (fw ro) n P ops Q l a w
 |[],_,_,h=>h
 |i::l,a,w,h=>by
  rw [wpOps_cons] at h;rw [wpOpsIn_cons];exact wpOpIn_mono (fun a w=>oq hd hQ) (om hd hQ h)
theorem nS{ops:Array Oper}{md:Region.Mode}(hd: ∀(k:Nat) (o:Oper),ops[k]? =some o-> ∀c,o.op≠ .defer c){Q:Exit->Act->World->Prop}(hQ: ¬LetsOut Q): ∀{fuel:Nat} {listed:Array Bool} {a:Act} {w:World},wpAny P md ops Q fuel listed a w->wpAnyIn (fw ro) n P md ops Q fuel listed a w
 |0,_,_,_,h=>h
 |_+1,_,_,_,h=>⟨h.1,fun i hi=>wpOpIn_mono (fun _ _=>nS hd hQ) (om hd hQ (h.2 i hi))⟩
theorem mP{op:Op}{x:DOp}(hl:ah P op=some x): ∀c,op≠ .defer c:=fun c e=>by subst e;cases hl
theorem gQ{ops:Array Oper}{is:List DI}(hl:dj P N X ops ops.toList=some is): ∀(k:Nat) (o:Oper),ops[k]? =some o-> ∀c,o.op≠ .defer c:=fun k o ho=>by
 obtain ⟨i,hi,hli⟩:=(bq hl).2 k o (Array.getElem?_toList.trans ho);obtain ⟨⟨x,h1,_⟩,_⟩:=eX hli;exact mP h1
end
section
variable [Glb]{P:Program}{X:List FuncId}{N:Nat}{w0:World}{S0:aa}{E:Env}{st:St}{n:Nat}{ro:Option Nat}
theorem lO{ds:List Deferred}{K:aG->St->Prop}: ¬LetsOut (bk N w0 S0 ds K):=fun ⟨_,_,h⟩=>h
theorem ow{a:Act}(h:SR N w0 S0 E st a.tmps){ops:Array Oper}{is:List DI}(hl:dj P N X ops ops.toList=some is){K:aG->St->Prop}
  (hw:cR P is st (K .normal)) {id:Nat}:(Code.region id ops false).wpIn (fw ro) n P (bk N w0 S0 a.defers K) a E.w:=by
 refine wpIn_region (oq (gQ hl) lO (kz hl (K:=K .normal) (fun a w hh=>hh) _ (fun k hk=>by simpa using hk) h rfl ?_))
 have:ops.size=is.length:=by simpa using (bq hl).1
 rw [this,j7];exact hw
theorem mj{a:Act}(hm:P.follows .mixedOrders=true)(h:SR N w0 S0 E st a.tmps){ops:Array Oper}{is:List DI}(hl:dj P N X ops ops.toList=some is)(hok:ib is=true){K:aG->St->Prop}
  (hw:bL P (eF is) (fun _=>[]) (eG 0 is) st (K .normal)) {id:Nat}:(Code.region id ops true).wpIn (fw ro) n P (bk N w0 S0 a.defers K) a E.w:=by
 refine wpIn_region_any hm (nS (gQ hl) lO (mD (E:={E with w:=E.w.drew }) hl hok (mX is) (K:=K .normal) (fun a w hh=>hh) _ _ _ h.drew rfl (by simp) rfl ?_ ?_ ?_))
 ·rw [List.filter_eq_self.2]
  ·simp
  ·intro k hk;rw [List.mem_range] at hk;simp [hk]
 ·intro k hk;exfalso
  by_cases hlt:k<ops.size
  ·simp [hlt] at hk
  ·simp [hlt] at hk
 ·rw [List.filter_eq_self.2]
  ·have:ops.size=is.length:=by simpa using (bq hl).1
   rw [this];rw [iy (is:=is) is 0 (fun m=>by simp)] at hw;rw [<- List.range_eq_range'] at hw;exact hw
  ·intro k hk;rw [List.mem_range] at hk;simp [hk]
def aV.cd:aV->Bool
 |.seq a b=>a.cd&&b.cd
 |.cond _ a b=>a.cd&&b.cd
 |.block _ b=>b.cd
 |.loop b=>b.cd
 |.cut b=>b.cd
 |.sem _ _=>false
 |_=>true
def bR:Code->Bool
 |.seq a b=>bR a&&bR b
 |.cond _ a b=>bR a&&bR b
 |.block _ b=>bR b
 |.loop b=>bR b
 |.scope _=>false
 |_=>true
end
section
variable {P:Program}{X:List FuncId}{N:Nat}{w0:World}{S0:aa}{E:Env}{st:St}{n:Nat}{ro:Option Nat}
theorem kO{b:Bool}{d:aV}(h:(cond b (.cut d) d).cd=true):d.cd=true:=by cases b <;> exact h
end
section
variable [Glb]{P:Program}{X:List FuncId}{N:Nat}{w0:World}{S0:aa}{E:Env}{st:St}{n:Nat}{ro:Option Nat}
theorem lJ{c:Code}{b:Bool}{d:aV}{a:Act}{E:Env}{st:St}{K:aG->St->Prop}(_:SR N w0 S0 E st a.tmps)(hw:wpC P (cond b (.cut d) d) st K)
  (hh: ∀K,wpC P d st K->c.wpIn (fw ro) n P (bk N w0 S0 a.defers K) a E.w):c.wpIn (fw ro) n P (bk N w0 S0 a.defers K) a E.w:=by
 cases b with
 |false=>exact hh K hw
 |true=>
  have hw:gm (wpC P d) st K:=hw;unfold gm at hw;obtain ⟨R,hR,jo⟩:=hw;exact wpIn_mono (hh R hR) fun e a' w' h=>bk.less (bk.mono jo h)
theorem rC(hm:P.follows .mixedOrders=true): ∀{c:Code} {d:aV} (_:bp P N X c=some d) (_:d.cd=true) (_:bR c=true) {a:Act} {E:Env} {st:St} {K:aG->St->Prop} (_:SR N w0 S0 E st a.tmps) (_:wpC P d st K),
  c.wpIn (fw ro) n P (bk N w0 S0 a.defers K) a E.w:=by
 intro c
 induction c with
 |skip=>
  intro d hl hns hsc a E st K h hw;cases hl;exact wpIn_skip ⟨E,st,rfl,h,rfl,hw⟩
 |ret=>
  intro d hl hns hsc a E st K h hw;cases hl;exact wpIn_ret ⟨E,st,rfl,h,rfl,hw⟩
 |exit id=>
  intro d hl hns hsc a E st K h hw;cases hl;exact wpIn_exit ⟨E,st,rfl,h,rfl,hw⟩
 |region id ops draw=>
  intro d hl hns hsc a E st K h hw;unfold bp at hl;cases hX:X.contains (1000000+id) with
  |true=>
   rw [hX] at hl;cases hl;cases hns
  |false=>
  rw [hX] at hl;simp only [cond_false] at hl;split at hl
  ·rename_i is his;rw [cond_eq_ite] at hl;split at hl
   ·rename_i hc;obtain rfl:=(Option.some.inj hl).symm;refine lJ h (c:=.region id ops draw) hw fun K hw=>?_
    cases draw with
    |false=>exact ow h his (bY.1 hw)
    |true=>
     have hw:wpC P (.region (is.map DI.bare) (eF is)) st K:=hw;have hw':bL P (eF is) (fun _=>[]) (eG 0 is) st (K .normal):=by
      revert hw
      cases eF is with
      |nil=>
       intro hw;refine jz ?_
       have: ∀(l:List DI) (k:Nat),(eG k l).map (·.2)=l:=fun l=>by
        induction l with
        |nil=>exact fun _=>rfl
        |cons i l ih=>exact fun k=>congrArg (i:: ·) (ih (k+1))
       rw [this];exact bY.1 hw
      |cons p r=>exact fun hw=>eQ.1 hw
     exact mj hm h his (by simpa using hc) hw'
   ·cases hl
  ·cases hl
 |seq x y ih1 ih2=>
  intro d hl hns hsc a E st K h hw;unfold bp at hl;split at hl
  ·rename_i dx dy hx hy;obtain rfl:=(Option.some.inj hl).symm;obtain ⟨cb,hcb⟩:=lG (X:=X) (a:=x) (d:=.seq dx dy);rw [hcb] at hw hns;have hn2:dx.cd=true/\dy.cd=true:=(Bool.and_eq_true _ _).mp (kO hns);have hs2:bR x=true/\bR y=true:=(Bool.and_eq_true _ _).mp hsc;refine lJ h (c:=.seq x y) hw fun K hw=>?_
   refine wpIn_seq (wpIn_mono (ih1 hx hn2.1 hs2.1 h hw) ?_);intro e a' w' hh;cases e with
   |normal=>
    obtain ⟨E',st',rfl,hsr,hdf,hk⟩:=hh;rw [<- hdf];exact ih2 hy hn2.2 hs2.2 hsr hk
   |exit id=>exact hh
   |ret=>exact hh
   |goto l=>exact hh
   |panic ch=>exact hh
   |outgrown=>exact hh
  ·cases hl
 |cond c x y ih1 ih2=>
  intro d hl hns hsc a E st K h hw;unfold bp at hl;split at hl
  ·rename_i z dx dy hz hx hy;cases hl;have hv:=af h.sl hz;have hn2:dx.cd=true/\dy.cd=true:=(Bool.and_eq_true _ _).mp hns;have hs2:bR x=true/\bR y=true:=(Bool.and_eq_true _ _).mp hsc;have hw:jK z (wpC P dx) (wpC P dy) st K:=hw;unfold jK at hw;split at hw
   ·rename_i hb;rw [hb] at hv;exact wpIn_cond_true hv.aO (ih1 hx hn2.1 hs2.1 h hw)
   ·rename_i hb;rw [hb] at hv;exact wpIn_cond_false hv.aO (ih2 hy hn2.2 hs2.2 h hw)
   ·exact hw.elim
  ·cases hl
 |block id b ih=>
  intro d hl hns hsc a E st K h hw;unfold bp at hl;split at hl
  ·rename_i db hb;obtain rfl:=(Option.some.inj hl).symm;refine lJ h (c:=.block id b) hw fun K hw=>?_
   refine wpIn_block (wpIn_mono (ih hb (show db.cd=true from kO (d:=.block id db) hns) hsc h hw) ?_);intro e a' w' hh;cases e with
   |normal=>exact hh
   |exit k=>
    have hh:bS N w0 S0 a.defers (fun st'=>bif Nat.beq k id then K .normal st' else K (.exit k) st') a' w':=hh;show if k=id then _ else _
    by_cases hk:k=id
    ·rw [if_pos hk];obtain ⟨E',st',e1,e2,e3,e4⟩:=hh;rw [hk,cz] at e4;exact ⟨E',st',e1,e2,e3,e4⟩
    ·rw [if_neg hk];obtain ⟨E',st',e1,e2,e3,e4⟩:=hh;rw [gV hk] at e4;exact ⟨E',st',e1,e2,e3,e4⟩
   |ret=>exact hh
   |goto l=>exact hh
   |panic ch=>exact hh
   |outgrown=>exact hh
  ·cases hl
 |loop b ih=>
  intro d hl hns hsc a E st K h hw;unfold bp at hl;split at hl
  ·rename_i db hb;cases hl;have hw:ez (wpC P db) st K:=hw;unfold ez at hw;obtain ⟨I,n0,s0,hs0,hi0,round⟩:=hw;refine wpIn_loop_ghost (fun n a' w'=>a'.defers=a.defers/\ ∃(E':Env) (s:Wk),E'.w=w'/\SR N w0 S0 E' s.mk' a'.tmps/\I n s) n0 ?_ ?_
   ·obtain ⟨E',he,hsr⟩:=h.bQ hs0;exact ⟨rfl,E',s0,he,hsr,hi0⟩
   ·rintro n a1 w1 ⟨hdf,E1,s,rfl,hsr,hi⟩;obtain ⟨R,hR,jo⟩:=round n s hi;refine wpIn_mono (ih hb hns hsc hsr hR) ?_;intro e a' w' hh;have hh:=bk.mono jo hh;rw [hdf] at hh;cases e with
    |normal=>
     obtain ⟨E',st',rfl,aT,gB,m,s',hlt,hs',hi'⟩:=hh;obtain ⟨E'',he,hsr''⟩:=aT.bQ hs';exact ⟨m,hlt,gB,E'',s',he,hsr'',hi'⟩
    |exit id=>
     obtain ⟨E',st',rfl,aT,gB,hq|⟨s',hs',hq⟩⟩:=hh
     ·exact ⟨E',st',rfl,aT,gB,hq⟩
     ·obtain ⟨E'',he,hsr''⟩:=aT.bQ hs';exact ⟨E'',s'.mk',he,hsr'',gB,hq⟩
    |ret=>exact hh
    |goto l=>exact hh
    |panic ch=>exact hh
    |outgrown=>exact hh
  ·cases hl
 |label l=>
  intro d hl hns hsc a E st K h hw;cases hl;exact wpIn_label ⟨E,st,rfl,h,rfl,hw⟩
 |scope b ih=>intro d hl hns hsc;cases hsc
 |_=>intro d hl;cases hl
end
end Go.DL
end
section
namespace Go.DL
open Go.RowKit
section
variable [Glb]{P:Program}{X:List FuncId}{N:Nat}{w0:World}{S0:aa}{E:Env}{st:St}{n:Nat}{ro:Option Nat}
abbrev mkD(D:Nat):Deferred:={target:=.collected D,args:= #[]}
structure Ext (A B:aa):Prop where
 s:B.S=A.S
 v:B.vals=A.vals
 o: ∀g o,A.objs g=some o-> ∃o',B.objs g=some o'/\(∀ x,o= .deferred x->o'=o)/\ ∀r,o= .loop r-> ∃r',o'= .loop r'
end
section
variable {P:Program}{X:List FuncId}{N:Nat}{w0:World}{S0:aa}{E:Env}{st:St}{n:Nat}{ro:Option Nat}
theorem Ext.refl(S:aa):Ext S S:=⟨rfl,rfl,fun _ o h=>⟨o,h,fun _ _=>rfl,fun r hr=>⟨r,hr⟩⟩⟩
theorem Ext.trans{A B C:aa}(h:Ext A B)(k:Ext B C):Ext A C:=⟨k.s.trans h.s,k.v.trans h.v,fun g o hg=>by
 obtain ⟨o1,h1,h2,h3⟩:=h.o g o hg;obtain ⟨o2,k1,k2,k3⟩:=k.o g o1 h1;refine ⟨o2,k1,fun x hx=>?_,fun r hr=>?_⟩
 ·have e:=h2 x hx;rw [k2 x (e.trans hx),e]
 ·obtain ⟨r',hr'⟩:=h3 r hr;exact k3 r' hr'⟩
end
section
variable [Glb]{P:Program}{X:List FuncId}{N:Nat}{w0:World}{S0:aa}{E:Env}{st:St}{n:Nat}{ro:Option Nat}
structure Mks (S0:aa) (w0:World) (ro:Option Nat) (Ds:List Nat) (ds:List Deferred):Prop where
 eq:ds=Ds.map mkD
 nodup:Ds.Nodup
 obj: ∀D∈Ds,S0.objs D=some (.deferred (some []))/\w0.heap.size<=D
 ro: ∀l,ro=some l-> ∃r,S0.objs l=some (.loop r)
structure Dn (S0:aa) (ro:Option Nat) (Ds Ds':List Nat):Prop where
 r:ro≠none->Ds'=Ds
 n: ∀D∈Ds',D∈Ds\/S0.objs D=none
end
section
variable {P:Program}{X:List FuncId}{N:Nat}{w0:World}{S0:aa}{E:Env}{st:St}{n:Nat}{ro:Option Nat}
theorem Dn.refl{Ds:List Nat}:Dn S0 ro Ds Ds:=⟨fun _=>rfl,fun _ h=>Or.inl h⟩
theorem Dn.trans{S1:aa}{A B C:List Nat}(hx:Ext S0 S1)(h:Dn S0 ro A B)(k:Dn S1 ro B C):Dn S0 ro A C:=⟨fun hr=>(k.r hr).trans (h.r hr),fun D hD=>by
 rcases k.n D hD with h1|h1
 ·exact h.n D h1
 ·refine Or.inr ?_;cases ho:S0.objs D with
  |none=>rfl
  |some o=>
   obtain ⟨o',h2,_⟩:=hx.o D o ho;rw [h1] at h2;cases h2⟩
end
section
variable [Glb]{P:Program}{X:List FuncId}{N:Nat}{w0:World}{S0:aa}{E:Env}{st:St}{n:Nat}{ro:Option Nat}
def eV(N:Nat)(w0:World)(S0:aa)(ro:Option Nat)(Ds:List Nat)(K:St->Prop)(a':Act)(w':World):Prop:=
 ∃(S0':aa) (Ds':List Nat) (E':Env) (st':St),Ext S0 S0'/\Mks S0' w0 ro Ds' a'.defers/\Dn S0 ro Ds Ds'/\E'.w=w'/\SR N w0 S0' E' st' a'.tmps/\K st'
def et(N:Nat)(w0:World)(S0:aa)(ro:Option Nat)(Ds:List Nat)(K:aG->St->Prop):Exit->Act->World->Prop
 |.normal,a,w=>eV N w0 S0 ro Ds (K .normal) a w
 |.exit id,a,w=>eV N w0 S0 ro Ds (K (.exit id)) a w
 |.ret,a,w=>eV N w0 S0 ro Ds (K .ret) a w
 |_,_,_=>False
def bO(P:Program)(N:Nat)(c:Code)(st:St)(Q:aG->St->Prop):Prop:=
 ∀(ro:Option Nat) (n:Nat) (w0:World) (S0:aa) (E:Env) (a:Act) (Ds:List Nat),SR N w0 S0 E st a.tmps->Mks S0 w0 ro Ds a.defers->c.wpIn (fw ro) n P (et N w0 S0 ro Ds Q) a E.w
theorem eV.ext{S0':aa}{Ds Ds':List Nat}{K K':St->Prop}{a':Act}{w':World}(hx:Ext S0 S0')(hd:Dn S0 ro Ds Ds')(hk: ∀s,K s->K' s)(h:eV N w0 S0' ro Ds' K a' w'):eV N w0 S0 ro Ds K' a' w':=by
 obtain ⟨S1,D1,E1,s1,h1,h2,h3,h4,h5,h6⟩:=h;exact ⟨S1,D1,E1,s1,hx.trans h1,h2,hd.trans hx h3,h4,h5,hk _ h6⟩
theorem et.ext{S0':aa}{Ds Ds':List Nat}{K K':aG->St->Prop}(hx:Ext S0 S0')(hd:Dn S0 ro Ds Ds')(hk: ∀e s,K e s->K' e s): ∀{e:Exit} {a':Act} {w':World},et N w0 S0' ro Ds' K e a' w'->et N w0 S0 ro Ds K' e a' w':=by
 intro e a' w' h;cases e with
 |normal=>exact eV.ext hx hd (hk _) h
 |exit id=>exact eV.ext hx hd (hk _) h
 |ret=>exact eV.ext hx hd (hk _) h
 |goto l=>exact h
 |panic ch=>exact h
 |outgrown=>exact h
theorem bO.mono{c:Code}{Q Q':aG->St->Prop}(h:bO P N c st Q)(hq: ∀e s,Q e s->Q' e s):bO P N c st Q':=
 fun ro n w0 S0 E a Ds hs hm=>wpIn_mono (h ro n w0 S0 E a Ds hs hm) fun _ _ _ q=>et.ext (Ext.refl _) Dn.refl hq q
theorem bO.low(hm:P.follows .mixedOrders=true){c:Code}{d:aV}(hl:bp P N X c=some d)(hns:d.cd=true)(hsc:bR c=true){Q:aG->St->Prop}(hw:wpC P d st Q):bO P N c st Q:=by
 intro ro n w0 S0 E a Ds hs hmk;refine wpIn_mono (rC hm hl hns hsc hs hw) ?_;have key: ∀{K:St->Prop} {a':Act} {w':World},bS N w0 S0 a.defers K a' w'->eV N w0 S0 ro Ds K a' w':=by
  rintro K a' w' ⟨E',st',rfl,hsr,hdf,hk⟩;exact ⟨S0,Ds,E',st',Ext.refl _,⟨hdf.trans hmk.eq,hmk.nodup,hmk.obj,hmk.ro⟩,Dn.refl,rfl,hsr,hk⟩
 intro e a' w' h;cases e with
 |normal=>exact key h
 |exit id=>exact key h
 |ret=>exact key h
 |goto l=>exact h
 |panic ch=>exact h
 |outgrown=>exact h
theorem bO.seq{x y:Code}{Q:aG->St->Prop}(h:bO P N x st fun e s=>match e with
  |.normal=>bO P N y s Q
  |.exit id=>Q (.exit id) s
  |.ret=>Q .ret s):bO P N (.seq x y) st Q:=by
 intro ro n w0 S0 E a Ds hs hm;refine wpIn_seq (wpIn_mono (h ro n w0 S0 E a Ds hs hm) ?_);intro e a' w' q;cases e with
 |normal=>
  obtain ⟨S1,D1,E1,s1,h1,h2,h3,rfl,h5,h6⟩:=q;exact wpIn_mono (h6 ro n w0 S1 E1 a' D1 h5 h2) fun _ _ _ q=>et.ext h1 h3 (fun _ _ h=>h) q
 |exit id=>exact q
 |ret=>exact q
 |goto l=>exact q
 |panic ch=>exact q
 |outgrown=>exact q
theorem bO.bQ{c:Code}{s:Wk}{Q:aG->St->Prop}(hw:bQ s st)(h:bO P N c s.mk' Q):bO P N c st Q:=by
 intro ro n w0 S0 E a Ds hs hm;obtain ⟨E',he,hsr⟩:=hs.bQ hw;rw [<- he];exact h ro n w0 S0 E' a Ds hsr hm
def CxD(cx:aa->World->Prop):Prop:= ∀S w D x y,S.objs D=some (.deferred x)->cx S w->cx {S with objs:=upd S.objs D (some y)} w
theorem iX{fn:Func}{tmps:Array Value}{R:Ending->World->Prop}(hcx:CxD st.cx): ∀(Ds:List Nat) {S0:aa} {E:Env},SR N w0 S0 E st tmps->Ds.Nodup->(∀ D∈Ds,S0.objs D=some (.deferred (some []))/\w0.heap.size<=D)->
  (∀ S1 E1,S1.S=S0.S->S1.vals=S0.vals->(∀ g, ¬g∈Ds->S1.objs g=S0.objs g)->SR N w0 S1 E1 st tmps-> ∃v,(results fn tmps).run P E1.w= .ok v E1.w/\R (.returned v) E1.w)->LeavesInM Fence.wide n P fn tmps R (Ds.map mkD) .returning E.w
 |[],S0,E,h,_,_,hf=>by
  obtain ⟨v,h1,h2⟩:=hf S0 E rfl rfl (fun _ _=>rfl) h;exact ⟨v,h1,h2⟩
 |D::Ds,S0,E,h,hn,ho,hf=>by
  obtain ⟨o1,o2⟩:=ho D (by simp);obtain ⟨_,hw⟩:=h.obj D _ o1;obtain ⟨n1,n2⟩:=List.nodup_cons.1 hn;refine ⟨by simp,.inl ⟨D,_,rfl,run_takeDeferred hw,?_⟩⟩;have h2:=h.putObj (x:=.deferred (some [])) (y:=.deferred none) o1 rfl o2 (hcx _ _ _ _ _ o1 h.cx);refine iX hcx Ds h2 n2 (fun D' hD'=>?_) (fun S1 E1 e1 e2 e3 k=>hf S1 E1 e1 e2 (fun g hg=>(e3 g (fun h=>hg (List.mem_cons_of_mem _ h))).trans ?_) k)
  ·refine ⟨?_,(ho D' (by simp [hD'])).2⟩;show upd S0.objs D _ D'=_
   rw [ae _ _ _ _ (fun e=>n1 (by first|(rw [e] at hD';exact hD')|(rw [<- e] at hD';exact hD')|(rw [e];exact hD')|(rw [<- e];exact hD')))];exact (ho D' (by simp [hD'])).1
  ·show upd S0.objs D _ g=_
   exact ae _ _ _ _ (fun e=>hg (by rw [e];simp))
theorem nU{f:FuncId}{fn:Func}{c:Code}(hf:P.funcs[f]? =some fn)(hb:fn.body=some c){vs:Array Value}(h:SR fn.ntmps w0 S0 E st (vs++Array.replicate (fn.ntmps - vs.size) undef)){Q:aG->St->Prop}(hr:bO P fn.ntmps c st Q){R:Ending->World->Prop}
  (hQ: ∀S1 E1 s1 (a1:Array Value),Ext S0 S1->SR fn.ntmps w0 S1 E1 s1 a1->Q .normal s1\/Q .ret s1-> ∃v,(results fn a1).run P E1.w= .ok v E1.w/\R (.returned v) E1.w)
  (hx: ∀id s, ¬Q (.exit id) s) (hcx: ∀e s,Q e s->CxD s.cx):CallsIn (fw ro) n P f vs E.w R:=by
 have key:CallsIn Fence.wide n P f vs E.w R:=by
  refine callsIn_of_wp_marks hf hb trivial (wpIn_mono (hr none n w0 S0 E {tmps:=vs++Array.replicate (fn.ntmps - vs.size) undef,defers:=[]} [] h ⟨rfl,by simp,by simp,fun l hl=>by cases hl⟩) ?_);have fin: ∀{K:St->Prop} {a':Act} {w':World},(∀ s,K s->(Q .normal s\/Q .ret s)/\CxD s.cx)->eV fn.ntmps w0 S0 none [] K a' w'->LeavesInM Fence.wide n P fn a'.tmps R a'.defers .returning w':=by
   rintro K a' w' hK ⟨S1,D1,E1,s1,h1,h2,h3,rfl,h5,h6⟩;rw [h2.eq];refine iX (hK s1 h6).2 D1 h5 h2.nodup h2.obj fun S2 E2 e1 e2 e3 k=>?_
   refine hQ S2 E2 s1 a'.tmps ⟨e1.trans h1.s,e2.trans h1.v,fun g o hg=>?_⟩ k (hK s1 h6).1;obtain ⟨o',k1,k2⟩:=h1.o g o hg;refine ⟨o',(e3 g fun hD=>?_).trans k1,k2⟩;rcases h3.n g hD with h|h
   ·simp at h
   ·rw [h] at hg;cases hg
  intro e a' w' q;cases e with
  |normal=>exact fin (fun s hs=>⟨Or.inl hs,hcx _ _ hs⟩) q
  |ret=>exact fin (fun s hs=>⟨Or.inr hs,hcx _ _ hs⟩) q
  |exit id=>
   obtain ⟨S1,D1,E1,s1,h1,h2,h3,h4,h5,h6⟩:=q;exact (hx _ _ h6).elim
  |goto l=>exact q.elim
  |panic ch=>exact q.elim
  |outgrown=>exact q.elim
 exact key
def rM(P:Program)(rs:List ResultVar)(r:List T)(e:aG)(s:St):Prop:=nq (cY P) rs r e s/\ ∀S w,s.cx S w
theorem rP{f:FuncId}{fn:Func}{c:Code}(hf:P.funcs[f]? =some fn)(hb:fn.body=some c)(hn:(fn.name== "runtime.NumGoroutine")=false)
  {args:List T} {r:List T} (ha:args.length<=fn.ntmps) (h:bO P fn.ntmps c (fX args) (rM P fn.results.toList r)):DCalls P f args (kx r):=by
 refine ⟨dX hf (by rw [hb];rfl) hn,fun S w vs hS hG hlen aq=>?_⟩;have hsr:=ko (N:=fn.ntmps) hS hG hlen aq ha;refine (callsIn_wide (n:=0)).1 (nU (ro:=none) hf hb hsr h (fun S1 E1 s1 a1 e1 hs hq=>?_) (fun id s hq=>hq.1.elim) (fun e s hq S w D x y _ _=>hq.2 _ _));have hk:iz (cY P) s1 fn.results.toList r:=by
  rcases hq with hq|hq
  ·exact hq.1
  ·exact hq.1
 obtain ⟨v,h1,h2⟩:=iZ (a:={tmps:=a1,defers:=[]}) hs hk;refine ⟨v,h1,v,rfl,hs.below,h2.mono (fun b o hs'=>?_) (fun _ _ _=>aB.rfl)⟩;rcases hs' with hs'|⟨n,hn,rfl⟩
 ·refine (hs.s1 b o hs').imp (fun h=>?_) fun hle=>⟨hle,hs.lt b o hs'⟩
  rw [e1.s] at h;exact h
 ·right;rw [hs.live] at hn;obtain ⟨b',hb'⟩:=Option.isSome_iff_exists.1 hn;have hB:=hs.bx n b' hb';obtain ⟨_,hg,_⟩:=hB.at_
  have:=hB.old
  rw [hs.base] at this;exact ⟨this,(Array.getElem?_eq_some_iff.1 hg).1⟩
end
end Go.DL
end
section
namespace Go.DL
open Go.RowKit
section
variable [Glb]{P:Program}{X:List FuncId}{N:Nat}{w0:World}{S0:aa}{E:Env}{st:St}{n:Nat}{ro:Option Nat}
def WCM(P:Program)(f:FuncId)(us:List V)(d:Option Nat)(st:St)(K:St->Prop):Prop:=
 bH P f/\ ∀(N:Nat) (w0:World) (S0:aa) (E:Env) (a vs:Array Value),SR N w0 S0 E st a->vs.size=us.length->
  (∀ (i:Nat) (v:Value) (u:V),vs[i]? =some v->us[i]? =some u->VR E v u)->(∀ n,d=some n->n<N)->
  Calls P f vs E.w fun e w'=> ∃v,e= .returned v/\ ∃(S1:aa) (E':Env) (st':St),Ext S0 S1/\E'.w=w'/\K st'/\SR N w0 S1 E' st' (ku a d v)
def YC(P:Program)(l:Nat)(us:List V)(d:Option Nat)(st:St)(K:St->Prop):Prop:=
 ∀(ro:Option Nat) (n N:Nat) (w0:World) (S0:aa) (E:Env) (a vs:Array Value),SR N w0 S0 E st a->vs.size=us.length->
  (∀ (i:Nat) (v:Value) (u:V),vs[i]? =some v->us[i]? =some u->VR E v u)->(∀ n,d=some n->n<N)->
  YieldAt (fw ro) n P l vs E.w fun e w'=> ∃v,e= .returned v/\ ∃(S1:aa) (E':Env) (st':St),Ext S0 S1/\E'.w=w'/\K st'/\SR N w0 S1 E' st' (ku a d v)
abbrev rH(l:Nat):V:=.raw (.func (.yield l) #[] #[])
def kh(P:Program)(u:V)(us:List V)(d:Option Nat)(st:St)(K:St->Prop):Prop:=
 match jl u with
 |some (f,caps)=>WCM P f (us++caps) d st K
 |none=> ∃l,u=rH l/\YC P l us d st K
end
section
variable {P:Program}{X:List FuncId}{N:Nat}{w0:World}{S0:aa}{E:Env}{st:St}{n:Nat}{ro:Option Nat}
theorem Mks.ext{S1:aa}{Ds:List Nat}{ds:List Deferred}(hx:Ext S0 S1)(h:Mks S0 w0 ro Ds ds):Mks S1 w0 ro Ds ds:=
 ⟨h.eq,h.nodup,fun D hD=>by
  obtain ⟨h1,h2⟩:=h.obj D hD;obtain ⟨o',k1,k2,_⟩:=hx.o D _ h1;rw [k2 _ rfl] at k1;exact ⟨k1,h2⟩,fun l hl=>by
  obtain ⟨r,hr⟩:=h.ro l hl;obtain ⟨o',k1,_,k2⟩:=hx.o l _ hr;obtain ⟨r',hr'⟩:=k2 r rfl;exact ⟨r',by rw [k1,hr']⟩⟩
end
section
variable [Glb]{P:Program}{X:List FuncId}{N:Nat}{w0:World}{S0:aa}{E:Env}{st:St}{n:Nat}{ro:Option Nat}
theorem qf{ops:Array Oper}{Q:Exit->Act->World->Prop}{rest:List Nat}{ds:List Deferred}{K:St->Prop}
  (hk: ∀(a:Act) (E:Env) (st:St),SR N w0 S0 E st a.tmps->a.defers=ds->K st->wpOpsIn (fw ro) n P ops Q rest a E.w):
  ∀(ks:List Nat) (is:List DI) (_:gK P N ops ks=some is) (_:is.all (fun i=> !i.op.bC)=true) {a:Act} {E:Env} {st:St} (_:SR N w0 S0 E st a.tmps) (_:a.defers=ds) (_:cR P is st K),wpOpsIn (fw ro) n P ops Q (ks++rest) a E.w
 |[],is,hl,_,a,E,st,h,hd,hw=>by
  cases hl;exact hk a E st h hd hw
 |k::ks,is,hl,hc,a,E,st,h,hd,hw=>by
  unfold gK at hl;split at hl
  ·rename_i o ho;split at hl
   ·rename_i i is' hi his;cases hl;simp only [List.all_cons,Bool.and_eq_true] at hc;rw [List.cons_append,wpOpsIn_cons];refine mI ?_ (rD (fun _=>trivial) h ho hi (by simpa using hc.1) hw);rintro a' w' ⟨st',hk',E',rfl,hsr,hdf⟩;exact qf hk ks is' his hc.2 hsr (hdf.trans hd) hk'
   ·cases hl
  ·cases hl
end
section
variable {P:Program}{X:List FuncId}{N:Nat}{w0:World}{S0:aa}{E:Env}{st:St}{n:Nat}{ro:Option Nat}
theorem nR{a:Act}{o:Oper}{l:Nat}{X:Operand}{az:Array Operand}{ats:Array TypeId}(ho:o.op= .call {callee:=.value X,args:=az,argTypes:=ats })(hX:a.eval X= .func (.yield l) #[] #[])(w:World):
  (execOp a.eval o).run P w=(Instr.yield l (az.map a.eval)).run P w:=by
 unfold execOp;simp [ho,resolve,hX,Deferred.ofValue,invoke]
end
section
variable [Glb]{P:Program}{X:List FuncId}{N:Nat}{w0:World}{S0:aa}{E:Env}{st:St}{n:Nat}{ro:Option Nat}
theorem oW{a:Act}{o:Oper}(h:SR N w0 S0 E st a.tmps){X:Operand}{y:O}{az:Array Operand}{ys:List O}{ats:Array TypeId}(ho:o.op= .call {callee:=.value X,args:=az,argTypes:=ats })(hX:ak X=some y)(has:dM az.toList=some ys)
  {d:Nat} (hd:o.dst=some d) (hdN:d<N) {K:St->Prop} (hw:kh P (ev st.sl y) (ys.map (ev st.sl)) (some d) st K) {Q:Exit->Act->World->Prop}:
  o.wpIn (fw ro) n P a E.w (fun a' w'=> ∃(S1:aa) (E':Env) (st':St),Ext S0 S1/\E'.w=w'/\K st'/\SR N w0 S1 E' st' a'.tmps/\a'.defers=a.defers) Q:=by
 refine ⟨fun _ _=>trivial,?_⟩;rw [Oper.semAt_eq _ _ _ (fun c hop=>by rw [ho] at hop;cases hop)];obtain ⟨h1,h2⟩:=fQ (E:=E) (st:=st) (a:=a) h.sl has;have hx:=af h.sl hX;have eW: ∀v,(a.put o.dst v).tmps=ku a.tmps (some d) v:=fun v=>by rw [hd];rfl
 have q7: ∀v,(a.put o.dst v).defers=a.defers:=fun v=>by rw [hd];rfl
 unfold kh at hw;cases hfn:jl (ev st.sl y) with
 |some q=>
  obtain ⟨f,caps⟩:=q;rw [hfn] at hw;dsimp only at hw;have key: ∃cv:Array Value,a.eval X= .func (.func f) #[] cv/\cv.size=caps.length/\ ∀(i:Nat) (v:Value) (u:V),cv[i]? =some v->caps[i]? =some u->VR E v u:=by
   unfold jl at hfn;split at hfn
   ·rename_i g cs hv;simp only [Option.some.injEq,Prod.mk.injEq] at hfn;obtain ⟨rfl,rfl⟩:=hfn;rw [hv] at hx;have aq:=hx.ax;generalize a.eval X=v at aq;cases aq with
    |clos _ cv _ hs hh=>
     refine ⟨cv,rfl,by simpa using hs,fun i v u hv hu=>?_⟩;simp only [List.getElem?_map,Option.map_eq_some_iff] at hu;obtain ⟨t,ht,rfl⟩:=hu;exact .t _ _ (hh i v t hv ht)
   ·rename_i g cs hv;simp only [Option.some.injEq,Prod.mk.injEq] at hfn;obtain ⟨rfl,rfl⟩:=hfn;rw [hv] at hx;generalize a.eval X=v at hx;cases hx with
    |fn _ cv _ hs hh=>exact ⟨cv,rfl,hs,hh⟩
   ·cases hfn
  obtain ⟨cv,hX',hsz,hcv⟩:=key;have hex:=e6 (E:=E) (a:=a) (o:=o) ho hX' hw.1;rw [hex];refine ⟨fun hh=>(by cases hh),CallsIn.mono (lF (hw.2 N w0 S0 E a.tmps (az.map a.eval++cv) h (by simp [h1,hsz]) (fun i v u hv hu=>?_) (fun k hk=>by cases hk;exact hdN))) ?_⟩
  ·by_cases hi:i<az.size
   ·rw [Array.getElem?_append_left (by simpa using hi)] at hv;rw [List.getElem?_append_left (by simp;omega)] at hu;exact h2 i v u hv hu
   ·rw [Array.getElem?_append_right (by simp;omega)] at hv;rw [List.getElem?_append_right (by simp;omega)] at hu;simp only [Array.size_map,List.length_map] at hv hu;rw [<- h1] at hu;exact hcv _ v u hv hu
  ·rintro e w' ⟨v,rfl,S1,E',st',g1,g2,g3,g4⟩;exact ⟨S1,E',st',g1,g2,g3,by rw [eW];exact g4,q7 v⟩
 |none=>
  rw [hfn] at hw;obtain ⟨l,hy,hY⟩:=hw;rw [hy] at hx;have hX':a.eval X= .func (.yield l) #[] #[]:=by
   generalize a.eval X=v at hx;cases hx;rfl
  rw [nR ho hX'];obtain ⟨fn,tmps,asg,body,e1,hR⟩:=hY ro (n - 1) N w0 S0 E a.tmps (az.map a.eval) h (by simp [h1]) h2 (fun k hk=>by cases hk;exact hdN);rw [e1];refine ⟨fun hh=>(by cases hh),RoundIn.mono hR ?_⟩;rintro e w' ⟨v,rfl,S1,E',st',g1,g2,g3,g4⟩;exact ⟨S1,E',st',g1,g2,g3,by rw [eW];exact g4,q7 v⟩
theorem bO.bV{id:Nat}{ops:Array Oper}{k1 k2:List Nat}{k:Nat}(hks:List.range ops.size=k1++(k::k2)){is1 is2:List DI}(h1:gK P N ops k1=some is1)(c1:is1.all (fun i=> !i.op.bC)=true)(h2:gK P N ops k2=some is2)(c2:is2.all (fun i=> !i.op.bC)=true)
  {o:Oper} (hok:ops[k]? =some o) (hg:o.guard=none) {X:Operand} {y:O} {az:Array Operand} {ys:List O} {ats:Array TypeId} (ho:o.op= .call {callee:=.value X,args:=az,argTypes:=ats }) (hX:ak X=some y) (has:dM az.toList=some ys)
  {d:Nat} (hd:o.dst=some d) (hdN:d<N) {Q:aG->St->Prop}
  (hw:cR P is1 st fun s0=>kh P (ev s0.sl y) (ys.map (ev s0.sl)) (some d) s0 fun s1=>cR P is2 s1 (Q .normal)):bO P N (.region id ops false) st Q:=by
 intro ro n w0 S0 E a Ds hs hm;refine wpIn_region ?_;rw [hks];refine qf (ds:=a.defers) ?_ k1 is1 h1 c1 hs rfl hw;rintro a1 E1 s0 hs0 hd1 hW;rw [wpOpsIn_cons];have eL:Region.wanted o (yielded ops a1.tmps)=true:=by unfold Region.wanted;rw [hg]
 unfold wpOpIn;simp only [hok,eL,if_true];refine Oper.wpIn_mono ?_ (oW (ro:=ro) (n:=n) hs0 ho hX has hd hdN hW);rintro a' w' ⟨S1,E',st',hx,rfl,hk',hsr,hdf⟩
 have:=qf (rest:=[]) (ro:=ro) (n:=n) (Q:=et N w0 S0 ro Ds Q) (ds:=a.defers) (K:=Q .normal) (fun a2 E2 s2 hs2 hd2 hq=>(by
  show et N w0 S0 ro Ds Q .normal a2 E2.w
  exact ⟨S1,Ds,E2,s2,hx,(by rw [hd2];exact hm.ext hx),Dn.refl,rfl,hs2,hq⟩)) k2 is2 h2 c2 hsr (hdf.trans hd1) hk'
 rwa [List.append_nil] at this
end
end Go.DL
end
section
end
section
end
section
namespace Go.DL
open Go.RowKit
section
variable [Glb]{P:Program}{X:List FuncId}{N:Nat}{w0:World}{S0:aa}{E:Env}{st:St}{n:Nat}{ro:Option Nat}
theorem WCM.mono{f:FuncId}{us:List V}{d:Option Nat}{K K':St->Prop}(h:WCM P f us d st K)(hk: ∀s,K s->K' s):WCM P f us d st K':=by
 refine ⟨h.1,fun N w0 S0 E a vs hs hlen hv hd=>(h.2 N w0 S0 E a vs hs hlen hv hd).mono ?_⟩;rintro e w' ⟨v,rfl,S1,E1,s1,h1,h2,h3,h4⟩;exact ⟨v,rfl,S1,E1,s1,h1,h2,hk _ h3,h4⟩
theorem YC.mono{l:Nat}{us:List V}{d:Option Nat}{K K':St->Prop}(h:YC P l us d st K)(hk: ∀s,K s->K' s):YC P l us d st K':=by
 intro ro n N w0 S0 E a vs hs hlen hv hd;obtain ⟨fn,tmps,asg,body,e1,hR⟩:=h ro n N w0 S0 E a vs hs hlen hv hd;refine ⟨fn,tmps,asg,body,e1,RoundIn.mono hR ?_⟩;rintro e w' ⟨v,rfl,S1,E1,s1,h1,h2,h3,h4⟩;exact ⟨v,rfl,S1,E1,s1,h1,h2,hk _ h3,h4⟩
theorem bO.qX{id:Nat}{ops:Array Oper}{k1 k2:List Nat}{k:Nat}(hks:List.range ops.size=k1++(k::k2)){is1 is2:List DI}(h1:gK P N ops k1=some is1)(c1:is1.all (fun i=> !i.op.bC)=true)(h2:gK P N ops k2=some is2)(c2:is2.all (fun i=> !i.op.bC)=true)
  {X:Operand} {y:O} {az:Array Operand} {ys:List O} {ats:Array TypeId} {d:Nat} (ho:(ops[k]?).map (fun o=>(o.guard,o.op,o.dst))=some (none,.call {callee:=.value X,args:=az,argTypes:=ats },some d)) (hX:ak X=some y) (has:dM az.toList=some ys)
  (hdN:d<N) {Q:aG->St->Prop}
  (hw:cR P is1 st fun s0=>kh P (ev s0.sl y) (ys.map (ev s0.sl)) (some d) s0 fun s1=>cR P is2 s1 (Q .normal)):bO P N (.region id ops false) st Q:=by
 obtain ⟨o,h3,h4⟩:=Option.map_eq_some_iff.1 ho;simp only [Prod.mk.injEq] at h4;exact bO.bV hks h1 c1 h2 c2 h3 h4.1 h4.2.1 hX has h4.2.2 hdN hw
end
section
variable {P:Program}{X:List FuncId}{N:Nat}{w0:World}{S0:aa}{E:Env}{st:St}{n:Nat}{ro:Option Nat}
theorem lu{is:List DI}(h:(is.map DI.bare).all (fun i=> !i.op.bC)=true):is.all (fun i=> !i.op.bC)=true:=by
 rw [List.all_map] at h;exact h
end
section
variable [Glb]{P:Program}{X:List FuncId}{N:Nat}{w0:World}{S0:aa}{E:Env}{st:St}{n:Nat}{ro:Option Nat}
theorem bO.sS{id:Nat}{ops:Array Oper}{k1 k2:List Nat}{k:Nat}(hks:List.range ops.size=k1++(k::k2)){is1 is2:List DI}(h1:(gK P N ops k1).map (List.map DI.bare)=some is1)(c1:is1.all (fun i=> !i.op.bC)=true)(h2:(gK P N ops k2).map (List.map DI.bare)=some is2)(c2:is2.all (fun i=> !i.op.bC)=true)
  {X:Operand} {y:O} {az:Array Operand} {ys:List O} {ats:Array TypeId} {d:Nat} (ho:(ops[k]?).map (fun o=>(o.guard,o.op,o.dst))=some (none,.call {callee:=.value X,args:=az,argTypes:=ats },some d)) (hX:ak X=some y) (has:dM az.toList=some ys)
  (hdN:d<N) {Q:aG->St->Prop}
  (hw:cR P is1 st fun s0=>kh P (ev s0.sl y) (ys.map (ev s0.sl)) (some d) s0 fun s1=>cR P is2 s1 (Q .normal)):bO P N (.region id ops false) st Q:=by
 obtain ⟨js1,g1,rfl⟩:=Option.map_eq_some_iff.1 h1;obtain ⟨js2,g2,rfl⟩:=Option.map_eq_some_iff.1 h2;refine bO.qX hks g1 (lu c1) g2 (lu c2) ho hX has hdN (kV ?_ (bY.1 hw));intro s0 h;unfold kh at h ⊢;split
 ·rename_i f caps he;rw [he] at h;exact WCM.mono h fun s hs=>bY.1 hs
 ·rename_i he;rw [he] at h;obtain ⟨l,h3,h4⟩:=h;exact ⟨l,h3,YC.mono h4 fun s hs=>bY.1 hs⟩
def iA:List Nat->Code->Code
 |[],c=>c
 |0::p,.seq a _=>iA p a
 |1::p,.seq _ b=>iA p b
 |0::p,.cond _ a _=>iA p a
 |1::p,.cond _ _ b=>iA p b
 |0::p,.block _ b=>iA p b
 |0::p,.loop b=>iA p b
 |0::p,.rangeFunc _ _ a _=>iA p a
 |1::p,.rangeFunc _ _ _ b=>iA p b
 |_,_=>.skip
def s9:Code->Array Oper
 |.region _ ops _=>ops
 |_=> #[]
end
end Go.DL
end
section
end
section
end
section
end
section
end
section
end
section
end
section
end
section
end
section
namespace Go.DL
open Go Go.Proofs
theorem wJ {p:Prop} (h:p:=by first|exact trivial|exact LeV.same _|exact LeB.same _|exact rfl|exact fun _ _ _=>trivial|exact lI|exact LeV.nil _ _ _|exact lB):p:=h
section
variable [Glb]
theorem dl2 {P:Program} {X:List FuncId} (hm:P.follows .mixedOrders=true) (rs:List ResultVar) (r:List T) {f:FuncId} {fn:Func} {d:aV} {N:Nat} {args:List T} (hf:P.funcs[f]? =some fn) (hl:(fn.body.bind (bp P N X))=some d)
  (h:wpC P d (fX args) (nq (cY P) rs r)) (hN:fn.ntmps=N:=by rfl) (hn:(fn.name== "runtime.NumGoroutine")=false:=by rfl) (hr:fn.results.toList=rs:=by rfl) (ha:args.length≤N:=by exact Nat.le_of_ble_eq_true rfl):DCalls P f args (kx r):=nC hm hf hl hN hn hr ha h
end
abbrev sr (is:List DI) (c:aV):aV:=.seq (.region is []) c
abbrev rg (is:List DI):aV:=.region is []
end Go.DL
end

