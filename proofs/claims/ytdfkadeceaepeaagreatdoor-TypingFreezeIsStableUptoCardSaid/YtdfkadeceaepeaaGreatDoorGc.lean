/- Joined by program: parts of a data level over the model, of the program's functions over it, and of the statement's proof. -/
import Derived.Test.YtdfkadeceaepeaaGreatDoorGb
import Derived.Laws.Sem
import Derived.RangeFuncLeaves
import Derived.RangeFuncRecord
import Derived.OrdersIn
import Derived.RangeFuncIn
import Derived.RangeFuncOwn
import Derived.DataReads
import Derived.Carry
import Derived.ProofKit
import Derived.OpenShut
import Derived.Below
import Derived.JoinedCond
import Derived.Deep.DeepHandedRow
import Derived.Lib.LaidTab
import Derived.Sort.LoopGhostIn
import Derived.RangeFuncNested
import Derived.Shelf.SlSortCmp.NoneTotal
import Derived.Shelf.Sort.Plain
import Derived.Shelf.Slices.In.SortNone
section
namespace Go.DL
open Go.RowKit
section
variable [Glb] {P:Program} {X:List FuncId} {N:Nat} {w0:World} {S0:aa} {a:Act} {E:Env} {st:St}
def lz:List T→T
 |[x]=>x
 |xs=>.tup xs
def dz (P:Program) (t:TypeId):Option (Nat×Bool):=
 match P.underlying t,P.info? t with
 |some _,some i=>cond (ar P t||Nat.beq i.size 1) (some (i.size,ar P t)) none
 |_,_=>none
theorem oh (h:SR N w0 S0 E st a.tmps) {t:TypeId} {d:TypeDesc} {i:TypeInfo} (hu:P.underlying t=some d) (hi:P.info? t=some i) {b off:Nat} {bx:BX} (hb:st.bx b=some bx) {x:T}
  (hx:match cX b bx off i.size (ar P t) with
   |.yes e=>asT e.val=some x
   |.eq c t _=>c∧t=x
   |_=>False): ∃v,(loadVar t ⟨E.κ b,off,none⟩).run P E.w= .ok v E.w∧Rep E.S E.w v x:=by
 have hB:=h.bx b bx hb
 cases hM:bx.isM with
 |true=>cases bx <;> first|exact hx.elim|cases hM
 |false=>
 obtain ⟨cs,e,hg,hc⟩:=hB.cells hM
 have cell: ∀j,E.w.cell? ⟨E.κ b,j,none⟩=cs[j]? :=fun j=>cell_of_row _ _ _ _ _ _ hg
 cases hc with
 |d m ts hl hs hrep=>
  unfold cX gC at hx
  cases hag:ar P t with
  |true=>
   rw [hag] at hx
   have big:off+i.size≤m→ ∃v,(loadVar t ⟨E.κ b,off,none⟩).run P E.w= .ok v E.w∧Rep E.S E.w v (.agg ((ts.drop off).take i.size)):=fun hle=>by
    have hl2:((cs.toList.drop off).take i.size).length=i.size:=by simp;omega
    refine ⟨_,bZ hu hi hag _ _ _ ((cs.toList.drop off).take i.size) hl2 fun j v hj=>?_,dS (fun j x u hx hu'=>?_) ?_⟩
    ·rw [aG] at hj
     split at hj
     ·rw [cell];simpa using hj
     ·cases hj
    ·rw [aG] at hx hu'
     split at hx
     ·rename_i hj
      rw [if_pos hj] at hu'
      exact hrep (off+j) x u (by simpa using hx) hu'
     ·cases hx
    ·rw [hl2];simp [hl];omega
   simp only at hx
   cases hz:(Nat.beq off 0&&Nat.beq m i.size) with
   |true=>
    rw [hz] at hx
    simp only [Bool.and_eq_true] at hz
    have ho0:off=0:=Nat.eq_of_beq_eq_true hz.1
    have hm:m=i.size:=Nat.eq_of_beq_eq_true hz.2
    have hx':x= .agg ts:=by
     have:asT (.t (.agg ts))=some x:=hx
     exact (Option.some.inj this).symm
    obtain ⟨v,h1,h2⟩:=big (by omega)
    refine ⟨v,h1,?_⟩
    rw [ho0,List.drop_zero,List.take_of_length_le (by omega)] at h2
    rw [hx'];exact h2
   |false=>
    rw [hz] at hx
    obtain ⟨hc,rfl⟩:=hx
    exact big hc
  |false=>
   rw [hag] at hx
   obtain ⟨hlt,rfl⟩:=hx
   have hone:off<cs.size:=by omega
   have hcell:E.w.cell? ⟨E.κ b,off,none⟩=some cs[off]:=by rw [cell];simp [hone]
   have ht:ts[off]? =some (ts[off]?.getD .nil):=by
    have:off<ts.length:=by omega
    simp [this]
   exact ⟨_,aZ hu hag _ _ _ hcell,(hrep off _ _ (by simp [hone]) ht).1⟩
 |v vs hs hrep=>
  unfold cX at hx
  cases hag:ar P t with
  |true=>
   rw [hag] at hx
   simp only at hx
   cases hT:eL ((vs.drop off).take i.size) with
   |none=>rw [hT] at hx;exact hx.elim
   |some ts=>
   rw [hT] at hx
   simp only at hx
   cases hz:Nat.beq ts.length i.size with
   |false=>rw [hz] at hx;exact hx.elim
   |true=>
   rw [hz] at hx
   have hx':x= .agg ts:=by
    have:asT (.t (.agg ts))=some x:=hx
    exact (Option.some.inj this).symm
   subst hx'
   have hz:=Nat.eq_of_beq_eq_true hz
   obtain ⟨q1,q2⟩:=jQ hT
   rw [List.length_take,List.length_drop,hz] at q1
   have hl2:((cs.toList.drop off).take i.size).length=i.size:=by simp;omega
   refine ⟨_,bZ hu hi hag _ _ _ ((cs.toList.drop off).take i.size) hl2 fun j v hj=>?_,dS (fun j x u hx hu'=>?_) ?_⟩
   ·rw [aG] at hj
    split at hj
    ·rw [cell];simpa using hj
    ·cases hj
   ·have hx':=hx
    rw [aG] at hx'
    split at hx'
    ·rename_i hj
     have hlt:off+j<vs.length:=by
      have:=(gsZ hu').1
      omega
     have hv':((vs.drop off).take i.size)[j]? =some vs[off+j]:=by rw [aG,if_pos hj];exact ggZ hlt
     have hr:=hrep (off+j) x _ (by simpa using hx') (ggZ hlt)
     have hR:=aC hr.1 (q2 j _ u hv' hu')
     exact ⟨hR,hR.jG hr.2⟩
    ·cases hx'
   ·rw [hl2,hz]
  |false=>
   rw [hag] at hx
   simp only at hx
   cases hv:vs[off]? with
   |none=>rw [hv] at hx;exact hx.elim
   |some u=>
    rw [hv] at hx
    have hlt:off<cs.size:=Nat.lt_of_lt_of_le (gsZ hv).1 hs
    have hcell:E.w.cell? ⟨E.κ b,off,none⟩=some cs[off]:=by rw [cell];simp [hlt]
    exact ⟨_,aZ hu hag _ _ _ hcell,aC (hrep off _ _ (by simp [hlt]) hv).1 hx⟩
end
section
variable {P:Program} {X:List FuncId} {N:Nat} {w0:World} {S0:aa} {a:Act} {E:Env} {st:St}
theorem gS {bx:Nat→Option BX} {n:Nat}: ∀{c a b:List V} {k:Nat},kN bx n c=some (a,k,b)→c=a++ .ptr k 0::b∧bx k=some (.v [.ptr n 0])
 |[],a,b,k,h=>by cases h
 |v::vs,a,b,k,h=>by
  unfold kN at h
  split at h
  ·rename_i k' hk
   simp only [Option.some.injEq,Prod.mk.injEq] at h
   obtain ⟨rfl,rfl,rfl⟩:=h
   split at hk
   ·rename_i k2
    split at hk
    ·rename_i m hb
     simp only [cond_eq_ite] at hk
     split at hk
     ·rename_i hc
      cases hk
      have:=Nat.eq_of_beq_eq_true hc
      subst this
      exact ⟨rfl,hb⟩
     ·cases hk
    ·cases hk
   ·cases hk
  ·split at h
   ·rename_i a' k' b' hr
    simp only [Option.some.injEq,Prod.mk.injEq] at h
    obtain ⟨rfl,rfl,rfl⟩:=h
    obtain ⟨h1,h2⟩:=gS hr
    exact ⟨by rw [h1];rfl,h2⟩
   ·cases h
theorem lR (hbx: ∀n b,st.bx n=some b→bw E (E.κ n) b) (hlv: ∀n,E.live n=(st.bx n).isSome) {v:Value} {u:V} (h:VR E v u) {t:T} {rd:List Nat} (hc:mD st.bx u=some (t,rd)):Rep (Sx E rd) E.w v t:=by
 unfold mD at hc
 split at hc
 ·rename_i n off
  split at hc
  ·rename_i r hw
   cases hc
   unfold oZ at hw
   split at hw
   ·rename_i f1 c1 f2 c2 hb
    split at hw
    ·rename_i a1 k1 b1 a2 k2 b2 h1 h2
     split at hw
     ·rename_i x1 r1 y1 s1 x2 r2 y2 s2 e1 e2 e3 e4
      simp only [cond_eq_ite] at hw
      split at hw
      ·rename_i hk
       simp only [Option.some.injEq,Prod.mk.injEq] at hw
       obtain ⟨rfl,rfl⟩:=hw
       have hk:=Nat.eq_of_beq_eq_true hk
       subst hk
       obtain ⟨q1,q2⟩:=gS h1
       obtain ⟨q3,_⟩:=gS h2
       obtain ⟨rfl,hln⟩:=h.bd
       obtain ⟨cs,e,hg,hcr⟩:=(hbx n _ hb).cells rfl
       obtain ⟨cw,ew,hgw,hcw⟩:=(hbx k1 _ q2).cells rfl
       have hlk:E.live k1=true:=by rw [hlv,q2];rfl
       cases hcr with
       |v _ hs hh=>
        have hs:2≤cs.size:=hs
        have g0:cs[0]? =some cs[0]:=Array.getElem?_eq_getElem (by omega)
        have g1:cs[1]? =some cs[1]:=Array.getElem?_eq_getElem (by omega)
        have v0:=(hh 0 _ _ g0 rfl).1
        have v1:=(hh 1 _ _ g1 rfl).1
        cases hcw with
        |v _ hsw hhw=>
         have hsw:1≤cw.size:=hsw
         have gw:cw[0]? =some cw[0]:=Array.getElem?_eq_getElem (by omega)
         have vw:=(hhw 0 _ _ gw rfl).1
         have ew':=vw.bd.1
         rw [ew'] at gw
         have rn:n∈(n::k1::(r1++s1++r2++s2)):=by simp
         have rk:k1∈(n::k1::(r1++s1++r2++s2)):=by simp
         generalize hc0:cs[0]=z0 at v0 g0
         generalize hc1:cs[1]=z1 at v1 g1
         cases v0 with
         |fn _ d1 _ hs1 hv1=>
          cases v1 with
          |fn _ d2 _ hs2 hv2=>
           rw [q1] at hs1 hv1
           rw [q3] at hs2 hv2
           obtain ⟨p1,p2,p3,rfl,p4,p5,p6,p7,p8⟩:=iQ hs1 hv1
           obtain ⟨o1,o2,o3,rfl,o4,o5,o6,o7,o8⟩:=iQ hs2 hv2
           have z1':=p4.bd.1
           have z2':=o4.bd.1
           subst z1';subst z2'
           obtain ⟨L1,M1⟩:=bN hbx e1
           obtain ⟨L2,M2⟩:=bN hbx e2
           obtain ⟨L3,M3⟩:=bN hbx e3
           obtain ⟨L4,M4⟩:=bN hbx e4
           have fin: ∀{c:Array Value} {A:List V} {X:List T} {r:List Nat},A.length=X.length→(∀ (i:Nat) (v:Value) (u:V) (t:T),VR E v u→A[i]? =some u→X[i]? =some t→Rep (Sx E r) E.w v t)→(∀ (i:Nat) (x:Value) (u:V),c[i]? =some x→A[i]? =some u→VR E x u)→(∀ m∈r,m∈(n::k1::(r1++s1++r2++s2)))→
             ∀(i:Nat) (x:Value) (t:T),c[i]? =some x→X[i]? =some t→Rep (Sx E (n::k1::(r1++s1++r2++s2))) E.w x t:=fun {c A X r} hL hM hV hr i x t hx ht=>by
            have hlt:i<A.length:=by rw [hL];exact (gsZ ht).1
            have hA:=ggZ hlt
            exact (hM i x _ t (hV i x _ hx hA) hA ht).mono (fG hr) (fun _ _ _=>aB.rfl)
           have cell: ∀i,E.w.cell? ⟨E.κ n,i,none⟩=cs[i]? :=fun i=>cell_of_row _ _ _ _ _ _ hg
           have:=Rep.wrld (S:=Sx E (n::k1::(r1++s1++r2++s2))) (w:=E.w) (E.κ n) 0 (E.κ k1) 0 off f1 f2 p1 p2 o1 o2 x1 y1 x2 y2 (by omega) (by omega) (by omega) (by omega)
            ⟨by rw [cell_of_row _ _ _ _ _ _ hgw];exact gw,.inr ⟨k1,rk,hlk,rfl⟩⟩ ⟨by rw [cell];exact g0,.inr ⟨n,rn,hln,rfl⟩⟩ ⟨by rw [cell];exact g1,.inr ⟨n,rn,hln,rfl⟩⟩
            (fin L1 M1 p7 (fun m hm=>by simp [hm])) (fin L2 M2 p8 (fun m hm=>by simp [hm])) (fin L3 M3 o7 (fun m hm=>by simp [hm])) (fin L4 M4 o8 (fun m hm=>by simp [hm]))
           rwa [Nat.zero_add] at this
      ·cases hw
     ·cases hw
    ·cases hw
   ·cases hw
  ·exact eB hbx h hc
 ·exact eB hbx h hc
end
section
variable [Glb] {P:Program} {X:List FuncId} {N:Nat} {w0:World} {S0:aa} {a:Act} {E:Env} {st:St}
def cq (tmps:Array Value):ResultVar→Sem Value
 |.tmp t=>pure (tmps.getD t undef)
 |.cell a t=>do loadVar t (← asAddr (tmps.getD a undef))
def nP (E:Env):aq:=fun b o=>E.S b o∨ ∃n,E.live n=true∧b=E.κ n
end
section
variable {P:Program} {X:List FuncId} {N:Nat} {w0:World} {S0:aa} {a:Act} {E:Env} {st:St}
theorem pS {E:Env} {rd:List Nat}: ∀b o,Sx E rd b o→nP E b o:=by
 rintro b o (h|⟨n,_,h⟩)
 ·exact .inl h
 ·exact .inr ⟨n,h⟩
end
section
variable [Glb] {P:Program} {X:List FuncId} {N:Nat} {w0:World} {S0:aa} {a:Act} {E:Env} {st:St}
theorem iZ (h:SR N w0 S0 E st a.tmps): ∀{rs:List ResultVar} {xs:List T},ia (dz P) st rs xs→ ∃vs:List Value,(rs.mapM (cq a.tmps)).run P E.w= .ok vs E.w∧vs.length=xs.length∧
  ∀(i:Nat) (v:Value) (x:T),vs[i]? =some v→xs[i]? =some x→Rep (nP E) E.w v x
 |[],[],_=>⟨[],by simp,rfl,fun i v x hv=>by simp at hv⟩
 |.tmp t::rs,x::xs,hp=>by
  obtain ⟨vs,h1,h2,h3⟩:=iZ h hp.2
  refine ⟨a.tmps.getD t undef::vs,?_,by simp [h2],fun i v y hv hy=>?_⟩
  ·rw [List.mapM_cons,Sem.run_bind]
   have:(cq a.tmps (.tmp t)).run P E.w= .ok (a.tmps.getD t undef) E.w:=rfl
   rw [this]
   simp [h1]
  ·cases i with
   |zero=>
    simp only [List.getElem?_cons_zero,Option.some.injEq] at hv hy
    subst hv;subst hy
    obtain ⟨⟨x',rd⟩,hc,rfl⟩:=Option.map_eq_some_iff.1 hp.1
    exact (lR h.bx h.live (h.sl t) hc).mono pS (fun _ _ _=>aB.rfl)
   |succ i=>simp at hv hy;exact h3 i v y hv hy
 |.cell c ty::rs,x::xs,hp=>by
  obtain ⟨hp1,hp2⟩:=hp
  obtain ⟨vs,h1,h2,h3⟩:=iZ h hp2
  have key: ∃v,(cq a.tmps (.cell c ty)).run P E.w= .ok v E.w∧Rep E.S E.w v x:=by
   have hs:=h.sl c
   split at hp1
   ·rename_i b off n agg hb hz
    rw [hb] at hs
    obtain ⟨hv,hl⟩:=hs.bd
    unfold dz at hz
    split at hz
    ·rename_i d i hu hi
     simp only [cond_eq_ite] at hz
     split at hz
     ·simp only [Option.some.injEq,Prod.mk.injEq] at hz
      obtain ⟨rfl,rfl⟩:=hz
      split at hp1
      ·rename_i cs hcs
       obtain ⟨v,k1,k2⟩:=oh h hu hi (off:=off) hcs (x:=x) hp1
       refine ⟨v,?_,k2⟩
       show (asAddr (a.tmps.getD c undef) >>= fun d=>loadVar ty d).run P E.w=_
       rw [hv]
       simp [asAddr,k1]
      ·exact hp1.elim
     ·cases hz
    ·cases hz
   ·exact hp1.elim
  obtain ⟨v0,k1,k2⟩:=key
  refine ⟨v0::vs,?_,by simp [h2],fun i v y hv hy=>?_⟩
  ·rw [List.mapM_cons,Sem.run_bind,k1]
   simp [h1]
  ·cases i with
   |zero=>simp only [List.getElem?_cons_zero,Option.some.injEq] at hv hy;subst hv;subst hy;exact k2.mono (fun b o hs=>.inl hs) (fun _ _ _=>aB.rfl)
   |succ i=>simp at hv hy;exact h3 i v y hv hy
 |[],_::_,hp=>hp.elim
 |.tmp _::_,[],hp=>hp.elim
 |.cell _ _::_,[],hp=>hp.elim
theorem iL (h:SR N w0 S0 E st a.tmps) {fn:Func} {xs:List T} (hp:ia (dz P) st fn.results.toList xs): ∃v,(results fn a.tmps).run P E.w= .ok v E.w∧Rep (nP E) E.w v (lz xs):=by
 obtain ⟨vs,h1,h2,h3⟩:=iZ h hp
 have hr:(results fn a.tmps).run P E.w= .ok (if h:vs.toArray.size=1 then vs.toArray[0] else .tuple vs.toArray) E.w:=by
  have:results fn a.tmps=(do let vs ←fn.results.mapM (cq a.tmps);pure (if h:vs.size=1 then vs[0] else .tuple vs)):=rfl
  rw [this,Array.mapM_eq_mapM_toList]
  rw [Sem.run_bind]
  have h2:(Functor.map List.toArray (fn.results.toList.mapM (cq a.tmps))).run P E.w= .ok vs.toArray E.w:=by
   rw [map_eq_pure_bind,Sem.run_bind,h1];rfl
  rw [h2];rfl
 refine ⟨_,hr,?_⟩
 match vs,xs,h2,h3 with
 |[v],[x],_,h3=>exact h3 0 v x rfl rfl
 |[],[],_,h3=>exact .tup _ _ rfl fun i x t hx ht=>by simp at ht
 |v::u::vs,x::y::xs,h2,h3=>
  have hne: ¬(v::u::vs).toArray.size=1:=by simp
  rw [dif_neg hne]
  exact .tup _ _ (by simpa using h2) fun i z t hz ht=>h3 i z t (by simpa using hz) ht
end
section
variable {P:Program} {X:List FuncId} {N:Nat} {w0:World} {S0:aa} {a:Act} {E:Env} {st:St}
theorem bM {f:FuncId} {fn:Func} (hf:P.funcs[f]? =some fn) (hb:fn.body.isSome=true) (hn:(fn.name== "runtime.NumGoroutine")=false):bD P f:=fun args w=>by
 have hb':fn.body.isNone=false:=by cases h:fn.body <;> simp_all
 have hp:(program:Sem Program).run P w= .ok P w:=rfl
 unfold callFunc
 rw [Sem.run_bind,hp]
 simp only [Result.andThen_ok,hf,hn,hb',Bool.false_eq_true,if_false]
 rfl
end
section
variable [Glb] {P:Program} {X:List FuncId} {N:Nat} {w0:World} {S0:aa} {a:Act} {E:Env} {st:St}
theorem fQ {S:aq} {w:World} {vs:List Value} {args:List T} (hS: ∀b o,S b o→b<w.heap.size) (hG:bI S w) (hlen:vs.length=args.length) (hrep: ∀(i:Nat) (v:Value) (t:T),vs[i]? =some v→args[i]? =some t→Rep S w v t) (ha:args.length≤N):
  SR N w {S:=S } {S:=S,w:=w,B:=w.heap.size,κ:=fun _=>0,ρ:=fun _=>none,live:=fun _=>false } (eO args) (vs.toArray++Array.replicate (N - vs.toArray.size) undef):=by
 refine ⟨by simp;omega,rfl,hG,fun m=>?_,fun k m=>.top _,fun n b hb=>(by cases hb),fun n=>rfl,fun n m hn=>(by cases hn),fun r g hr=>(by cases hr),fun r r' g hr=>(by cases hr),hS,Below.refl _ _,fun b o h=>h,fun b o h=>.inl h,fun g o hg=>(by cases hg),trivial⟩
 show VR _ _ (match args[m]? with|some t=>.t t|none=>.top)
 cases ht:args[m]? with
 |none=>exact .top _
 |some t=>
  have hlt:m<vs.length:=by rw [hlen];exact (gsZ ht).1
  have hv:=hrep m vs[m] t (ggZ hlt) ht
  have:(vs.toArray++Array.replicate (N - vs.toArray.size) undef).getD m undef=vs[m]:=by
   rw [Array.getD_eq_getD_getElem?,Array.getElem?_append_left (by simpa using hlt)]
   simp [hlt]
  rw [this]
  exact .t _ _ hv
theorem mZ (hm:P.follows .mixedOrders=true) {f:FuncId} {fn:Func} {c:Code} {d:aV} (hf:P.funcs[f]? =some fn) (hb:fn.body=some c) (hn:(fn.name== "runtime.NumGoroutine")=false)
  (hl:bz P fn.ntmps X c=some d) {args:List T} {r:List T} (ha:args.length≤fn.ntmps) (h:wpC P d (eO args) (nO (dz P) fn.results.toList r)):DCalls P f args (lz r):=by
 refine ⟨bM hf (by rw [hb];rfl) hn,fun S w vs hS hG hlen hrep=>calls_of_wp hf hb ?_⟩
 have hsr:=fQ (N:=fn.ntmps) hS hG hlen hrep ha
 refine wp_mono (jO hm hl (a:={tmps:=vs.toArray++Array.replicate (fn.ntmps - vs.toArray.size) undef,defers:=[]}) hsr h) ?_
 have fin: ∀{a':Act} {w':World},bo fn.ntmps w {S:=S } [] (fun st'=>ia (dz P) st' fn.results.toList r) a' w'→a'.defers=[]∧ ∃v,(results fn a'.tmps).run P w'= .ok v w'∧
   ∃v',Ending.returned v= .returned v'∧Below w.heap.size w w'∧Rep (fun b o=>S b o∨(w.heap.size≤b∧b<w'.heap.size)) w' v' (lz r):=by
  rintro a' w' ⟨E',st',rfl,hsr',hdf,hk⟩
  obtain ⟨v,h1,h2⟩:=iL hsr' hk
  refine ⟨hdf,v,h1,v,rfl,hsr'.below,h2.mono (fun b o hs=>?_) (fun _ _ _=>aB.rfl)⟩
  rcases hs with hs|⟨n,hn,rfl⟩
  ·exact (hsr'.s1 b o hs).imp id fun hle=>⟨hle,hsr'.lt b o hs⟩
  ·right
   rw [hsr'.live] at hn
   obtain ⟨b',hb'⟩:=Option.isSome_iff_exists.1 hn
   have hB:=hsr'.bx n b' hb'
   obtain ⟨_,hg,_⟩:=hB.at_
   have:=hB.old
   rw [hsr'.base] at this
   exact ⟨this,(Array.getElem?_eq_some_iff.1 hg).1⟩
 intro e a' w' hh
 cases e with
 |normal=>exact fin hh
 |ret=>exact fin hh
 |exit id=>
  obtain ⟨_,_,_,_,_,hk⟩:=hh
  exact hk.elim
 |goto l=>exact hh.elim
 |panic ch=>exact hh.elim
 |outgrown=>exact hh.elim
theorem qF (hm:P.follows .mixedOrders=true) {f:FuncId} {fn:Func} {d:aV} {N:Nat} {rs:List ResultVar} (hf:P.funcs[f]? =some fn) (hl:(fn.body.bind (bz P N X))=some d) (hN:fn.ntmps=N) (hn:(fn.name== "runtime.NumGoroutine")=false)
  (hr:fn.results.toList=rs) {args:List T} {r:List T} (ha:args.length≤N) (h:wpC P d (eO args) (nO (dz P) rs r)):DCalls P f args (lz r):=by
 cases hb:fn.body with
 |none=>rw [hb] at hl;cases hl
 |some c=>
  rw [hb] at hl
  subst hN;subst hr
  exact mZ hm hf hb hn hl ha h
end
end Go.DL
end
section
namespace Go.DL
open Go.RowKit
section
variable [Glb] {P:Program} {X:List FuncId} {N:Nat} {w0:World} {S0:aa} {a:Act} {E:Env} {st:St}
theorem cZ {a:Array Value} {d:Option Nat} {v:Value} {u:V} (h:SR N w0 S0 E st a) (hd: ∀n,d=some n→n<N) (hv:VR E v u):SR N w0 S0 E (st.set d u) (jW a d v):=by
 cases d with
 |none=>exact h
 |some n=>exact h.put (hd n rfl) hv
def dJ (st:St):List ResultVar→Option (List V)
 |[]=>some []
 |.tmp t::rs=>match dJ st rs with
  |some us=>some (st.sl t::us)
  |none=>none
 |.cell _ _::_=>none
def dR:List V→V
 |[u]=>u
 |us=>.tup us
theorem iY (h:SR N w0 S0 E st a.tmps): ∀{rs:List ResultVar} {us:List V},dJ st rs=some us→ ∃vs:List Value,(rs.mapM (cq a.tmps)).run P E.w= .ok vs E.w∧vs.length=us.length∧ ∀(i:Nat) (v:Value) (u:V),vs[i]? =some v→us[i]? =some u→VR E v u
 |[],us,hr=>by cases hr;exact ⟨[],by simp,rfl,fun i v x hv=>by simp at hv⟩
 |.cell _ _::_,us,hr=>by cases hr
 |.tmp t::rs,us,hr=>by
  unfold dJ at hr
  split at hr
  ·rename_i us' hr'
   cases hr
   obtain ⟨vs,h1,h2,h3⟩:=iY h hr'
   refine ⟨a.tmps.getD t undef::vs,?_,by simp [h2],fun i v y hv hy=>?_⟩
   ·rw [List.mapM_cons,Sem.run_bind]
    have:(cq a.tmps (.tmp t)).run P E.w= .ok (a.tmps.getD t undef) E.w:=rfl
    rw [this]
    simp [h1]
   ·cases i with
    |zero=>simp only [List.getElem?_cons_zero,Option.some.injEq] at hv hy;subst hv;subst hy;exact h.sl t
    |succ i=>simp at hv hy;exact h3 i v y hv hy
  ·cases hr
theorem ib (h:SR N w0 S0 E st a.tmps) {fn:Func} {us:List V} (hr:dJ st fn.results.toList=some us): ∃v,(results fn a.tmps).run P E.w= .ok v E.w∧VR E v (dR us):=by
 obtain ⟨vs,h1,h2,h3⟩:=iY (P:=P) h hr
 have hr:(results fn a.tmps).run P E.w= .ok (if h:vs.toArray.size=1 then vs.toArray[0] else .tuple vs.toArray) E.w:=by
  have:results fn a.tmps=(do let vs ←fn.results.mapM (cq a.tmps);pure (if h:vs.size=1 then vs[0] else .tuple vs)):=rfl
  rw [this,Array.mapM_eq_mapM_toList]
  rw [Sem.run_bind]
  have h2:(Functor.map List.toArray (fn.results.toList.mapM (cq a.tmps))).run P E.w= .ok vs.toArray E.w:=by
   rw [map_eq_pure_bind,Sem.run_bind,h1];rfl
  rw [h2];rfl
 refine ⟨_,hr,?_⟩
 match vs,us,h2,h3 with
 |[v],[x],_,h3=>exact h3 0 v x rfl rfl
 |[],[],_,h3=>exact .tup _ _ rfl fun i x t hx ht=>by simp at ht
 |v::u::vs,x::y::xs,h2,h3=>
  have hne: ¬(v::u::vs).toArray.size=1:=by simp
  rw [dif_neg hne]
  exact .tup _ _ (by simpa using h2) fun i z t hz ht=>h3 i z t (by simpa using hz) ht
def dI (s:Nat→V) (g:Nat→Nat→V):Nat→Nat→V
 |0=>s
 |k+1=>g k
def jH (s:Nat→Value) (g:Nat→Nat→Value):Nat→Nat→Value
 |0=>s
 |k+1=>g k
def St.back (st2 st:St):St:={sl:=st2.gh 0,bx:=st2.bx,gh:=fun k=>st2.gh (k+1),off:=st.off,cx:=st.cx }
def qS (w:World) (e:TypeId) (size:Nat) (xs rest:List T) (v:Value) (w':World):Prop:=
 ∃(v':Value) (us:List Value),Ending.returned v= .returned (jX v' us)∧Below w.heap.size w w'∧ez w w' v' e size xs∧
  us.length=rest.length∧ ∀(i:Nat) (u:Value) (t:T),us[i]? =some u→rest[i]? =some t→t.flat=true∧Rep (fun _ _=>False) w' u t
theorem kk {S0:aa} {E:Env} {st:St} {w:World} {a:Act} (h:SR N w S0 E st a.tmps) {fn:Func} {e:TypeId} {size:Nat} {xs rest:List T} (hfl: ∀t∈xs.flatMap T.cells,t.flat=true) (hrf: ∀t∈rest,t.flat=true) {u:V}
  (hres:dJ st fn.results.toList=some (u::rest.map .t)) (hu:(∃ q,u= .own q e size xs)∨(u= .t .nil∧xs=[])): ∃v,(results fn a.tmps).run P E.w= .ok v E.w∧qS w e size xs rest v E.w:=by
 obtain ⟨vals,h1,h2,h3⟩:=iY (P:=P) h hres
 match vals,h2,h3 with
 |[],h2,_=>simp at h2
 |v::us,h2,h3=>
  have hv:=h3 0 v u rfl rfl
  have hfr:ez w E.w v e size xs:=by
   have own: ∀q,VR E v (.own q e size xs)→ez w E.w v e size xs:=fun q ho=>by
    have ho:=ho.dO
    obtain ⟨cells,k1,k2,k3⟩:=ho.ex
    rw [h.base] at k1
    exact ⟨⟨cells,k1,k2,fun i x t hx ht=>(k3 i x t hx ht).of_flat (hfl t (List.mem_of_getElem? ht))⟩,ho.uni,ho.one,hfl⟩
   rcases hu with ⟨q,rfl⟩|⟨rfl,rfl⟩
   ·exact own q hv
   ·have hn:=hv.av
    cases hn
    exact own 0 (.own _ 0 e size [] (b9.nil 0 e size))
  have hr:(results fn a.tmps).run P E.w= .ok (if h:(v::us).toArray.size=1 then (v::us).toArray[0] else .tuple (v::us).toArray) E.w:=by
   have:results fn a.tmps=(do let vs ←fn.results.mapM (cq a.tmps);pure (if h:vs.size=1 then vs[0] else .tuple vs)):=rfl
   rw [this,Array.mapM_eq_mapM_toList]
   rw [Sem.run_bind]
   have h2:(Functor.map List.toArray (fn.results.toList.mapM (cq a.tmps))).run P E.w= .ok (v::us).toArray E.w:=by
    rw [map_eq_pure_bind,Sem.run_bind,h1];rfl
   rw [h2];rfl
  refine ⟨_,hr,v,us,?_,h.below,hfr,by simpa using h2,fun i x t hx ht=>?_⟩
  ·match us with
   |[]=>rfl
   |y::ys=>
    have hne: ¬(v::y::ys).toArray.size=1:=by simp
    rw [dif_neg hne]
    rfl
  ·have hft:=hrf t (List.mem_of_getElem? ht)
   exact ⟨hft,(h3 (i+1) x (.t t) (by simpa using hx) (by simpa using ht)).av.of_flat hft⟩
end
end Go.DL
end
section
namespace Go.DL
open Go.RowKit
section
variable [Glb] {P:Program} {N:Nat} {w0:World} {S0:aa} {o:Oper} {a:Act} {E:Env} {st:St} {F:Fence} {n:Nat}
theorem ov (hF: ∀f,F.fn f) (h:SR N w0 S0 E st a.tmps) (hd:ay N o.dst) {x:DOp} (hl:ai P o.op=some x) (hc:x.aN=false) {K:St→Prop} (hw:wpO P x o.dst st K) {Q:Exit→Act→World→Prop}:
  o.wpIn F n P a E.w (fun a' w'=> ∃st',K st'∧bq N w0 S0 a st' a' w') Q:=by
 obtain ⟨st',hk,nx,v,E',hr,hnx,hsr⟩:=mr h hd hl hc hw
 refine ⟨fun f _=>hF f,?_⟩
 rw [Oper.semAt_eq _ _ _ (fun c hop=>by rw [hop] at hl;cases hl),hr]
 rcases hnx with rfl|⟨rfl,rfl⟩
 ·exact ⟨st',hk,E',rfl,hsr,by cases o.dst <;> rfl⟩
 ·exact ⟨st',hk,E',rfl,hsr,by cases o.dst <;> rfl⟩
end
section
variable {P:Program} {N:Nat} {w0:World} {S0:aa} {o:Oper} {a:Act} {E:Env} {st:St} {F:Fence} {n:Nat}
theorem nj (d:Option Nat) (x:DOp):cY [] d x=x:=by
 have mx:e6 [] x=x:=by
  cases x with
  |append t e size bytes s x=>cases s <;> rfl
  |_=>rfl
 cases x with
 |buildS=>cases d <;> rfl
 |call=>cases d <;> rfl
 |offA k y=>cases k <;> cases d <;> rfl
 |_=>exact mx
end
section
variable [Glb] {P:Program} {N:Nat} {w0:World} {S0:aa} {o:Oper} {a:Act} {E:Env} {st:St} {F:Fence} {n:Nat}
theorem lM (hF: ∀f,F.fn f) (h:SR N w0 S0 E st a.tmps) {ops:Array Oper} {k:Nat} (ho:ops[k]? =some o) {i:DI} (hl:iW P N [] ops o=some i) (hc:i.op.aN=false) {K:St→Prop} (hw:wpI P i st K) {Q:Exit→Act→World→Prop}:
  wpOpIn F n P ops Q k (fun a' w'=> ∃st',K st'∧bq N w0 S0 a st' a' w') a E.w:=by
 obtain ⟨⟨x,h1,hx⟩,h2,h3,_,h4⟩:=eP hl
 rw [nj] at hx
 have run:wpO P i.op i.dst st K→Region.wanted o (yielded ops a.tmps)=true→wpOpIn F n P ops Q k (fun a' w'=> ∃st',K st'∧bq N w0 S0 a st' a' w') a E.w:=fun hw hwant=>by
  rw [h2,hx] at hw
  unfold wpOpIn
  simp only [ho,hwant,if_true]
  exact ov hF h h3 h1 (hx▸hc) hw
 have skip:K (st.set i.dst bK)→Region.wanted o (yielded ops a.tmps)=false→wpOpIn F n P ops Q k (fun a' w'=> ∃st',K st'∧bq N w0 S0 a st' a' w') a E.w:=fun hk hwant=>by
  unfold wpOpIn
  simp only [ho,hwant,Bool.false_eq_true,if_false]
  refine ⟨fun f _=>hF f,_,hk,?_⟩
  rw [h2]
  exact ⟨E,rfl,h.cC h3 (mj E),by cases o.dst <;> rfl⟩
 unfold wpI at hw
 rcases h4 with ⟨hg,hi⟩|⟨j,want,g,hg,hj,hi,hlt⟩
 ·rw [hi] at hw
  exact run hw (by unfold Region.wanted;rw [hg])
 ·rw [hi] at hw
  simp only at hw
  have yl: ∀b,st.sl g= .t (.bool b)→yielded ops a.tmps j=some b:=fun b hb=>by
   have hv:=h.sl g
   rw [hb] at hv
   have hv:=hv.aQ
   have hsz:g<a.tmps.size:=by rw [h.size];exact hlt
   have:a.tmps[g]? =some (.bool b):=by
    rw [Array.getElem?_eq_getElem hsz]
    simpa [hsz] using hv
   unfold yielded
   rw [hj]
   simp [this]
  have wn: ∀b,st.sl g= .t (.bool b)→Region.wanted o (yielded ops a.tmps)=(b==want):=fun b hb=>by
   unfold Region.wanted
   rw [hg]
   simp only [yl b hb]
   cases b <;> cases want <;> rfl
  split at hw
  ·rename_i b hb
   have hwn:=wn b hb
   cases b <;> cases want <;> simp only at hw
   ·exact run hw hwn
   ·exact skip hw hwn
   ·exact skip hw hwn
   ·exact run hw hwn
  ·rename_i hb
   refine skip hw ?_
   have hv:=lE (hb▸h.sl g)
   unfold Region.wanted
   rw [hg]
   have:yielded ops a.tmps j=none:=by
    have hsz:g<a.tmps.size:=by rw [h.size];exact hlt
    have:a.tmps[g]? =some (.tuple #[]):=by
     rw [Array.getElem?_eq_getElem hsz]
     simpa [hsz] using hv
    unfold yielded
    rw [hj]
    simp [this]
   simp only [this]
   rfl
  ·exact hw.elim
theorem mq (hF: ∀f,F.fn f) {ops:Array Oper} {is:List DI} (hl:bT P N [] ops ops.toList=some is) (hc:is.all (fun i=> !i.op.aN)=true) {Q:Exit→Act→World→Prop} {K:St→Prop} {ds:List Deferred} {rest:List Nat}
  (hQ: ∀a w,bo N w0 S0 ds K a w→wpOpsIn F n P ops Q rest a w):
  ∀(ks:List Nat) (_: ∀k∈ks,k<ops.size) {a:Act} {E:Env} {st:St} (_:SR N w0 S0 E st a.tmps) (_:a.defers=ds) (_:aw P (fc is ks) st K),wpOpsIn F n P ops Q (ks++rest) a E.w
 |[],_,a,E,st,h,hd,hw=>hQ a E.w ⟨E,st,rfl,h,hd,hw⟩
 |k::ks,hk,a,E,st,h,hd,hw=>by
  have hlt:=hk k (by simp)
  have ho:ops[k]? =some ops[k]:=Array.getElem?_eq_getElem hlt
  obtain ⟨i,hi,hli⟩:=(bh hl).2 k _ (Array.getElem?_toList.trans ho)
  have hw':wpI P i st fun st'=>aw P (fc is ks) st' K:=by
   have:=hw
   unfold fc at this
   rw [List.map_cons,hi] at this
   exact this
  have hci:i.op.aN=false:=by
   have:=List.all_eq_true.1 hc i (List.mem_of_getElem? hi)
   simpa using this
  rw [List.cons_append,wpOpsIn_cons]
  refine wpOpIn_mono ?_ (lM hF h ho hli hci hw' (Q:=Q))
  rintro a' w' ⟨st',hk',E',rfl,hsr,hdf⟩
  exact mq hF hl hc hQ ks (fun k hk'=>hk k (List.mem_cons_of_mem _ hk')) hsr (hdf.trans hd) hk'
theorem iK (hF: ∀f,F.fn f) (h:SR N w0 S0 E st a.tmps) {ops:Array Oper} {is:List DI} (hl:bT P N [] ops ops.toList=some is) (hc:is.all (fun i=> !i.op.aN)=true) {Q:Exit→Act→World→Prop} {K:St→Prop}
  (hQ: ∀a' w,bo N w0 S0 a.defers K a' w→Q .normal a' w) (hw:aw P is st K) {id:Nat}:(Code.region id ops false).wpIn F n P Q a E.w:=by
 refine wpIn_region ?_
 have:=mq (n:=n) hF hl hc (rest:=[]) (K:=K) (ds:=a.defers) (Q:=Q) (fun a w hh=>hQ a w hh) (List.range ops.size) (fun k hk=>by simpa using hk) h rfl (by
  have:ops.size=is.length:=by simpa using (bh hl).1
  rw [this,gD]
  exact hw)
 rwa [List.append_nil] at this
end
section
variable {P:Program} {N:Nat} {w0:World} {S0:aa} {o:Oper} {a:Act} {E:Env} {st:St} {F:Fence} {n:Nat}
theorem gQ {w:World} {l:Nat} {x:Obj} (h:w.heap[l]? =some x) (hx:bP x=true) (o:Nat):w.cell? ⟨l,o,none⟩=none:=by
 unfold World.cell?
 simp only [h]
 cases x <;> first|rfl|cases hx
end
section
variable [Glb] {P:Program} {N:Nat} {w0:World} {S0:aa} {o:Oper} {a:Act} {E:Env} {st:St} {F:Fence} {n:Nat}
def Env.put (E:Env) (l:Nat) (y:Obj):Env:={E with w:=E.w.putObj l y,ρ:=fun r=>if E.ρ r=some l then none else E.ρ r }
section put
variable {l:Nat} {x y:Obj}
end put
end
section
variable {P:Program} {N:Nat} {w0:World} {S0:aa} {o:Oper} {a:Act} {E:Env} {st:St} {F:Fence} {n:Nat}
variable {l:Nat} {x y:Obj}
theorem nt (hlx:E.w.heap[l]? =some x) (hnx:bP x=true) (hy:bP y=true) (b o:Nat):(E.w.putObj l y).cell? ⟨b,o,none⟩=E.w.cell? ⟨b,o,none⟩:=by
 by_cases hb:b=l
 ·subst hb
  rw [gQ hlx hnx,gQ (World.putObj_heap_same (Array.getElem?_eq_some_iff.1 hlx).1) hy]
 ·exact World.cell?_of_block (w:=E.w) (a:=⟨b,o,none⟩) (World.putObj_heap_other hb)
theorem du (hlx:E.w.heap[l]? =some x) (hnx:bP x=true) (hy:bP y=true) (b o:Nat):aB E.w (E.w.putObj l y) b o:=
 ⟨nt hlx hnx hy b o,fun arr c hg=>by
  have hb:b≠l:=fun e=>by rw [e,hlx] at hg;cases hg;cases hnx
  exact (World.putObj_heap_other hb).trans hg⟩
theorem VR.putObj (hlx:E.w.heap[l]? =some x) (hnx:bP x=true) (hy:bP y=true) {v:Value} {u:V} (h:VR E v u):VR (E.put l y) v u:=by
 have up: ∀{v:Value} {t:T},Rep E.S E.w v t→Rep (E.put l y).S (E.put l y).w v t:=fun h=>h.mono (fun b o h=>h) (fun b o _=>du hlx hnx hy b o)
 induction h with
 |top v=>exact .top v
 |t v x h=>exact .t v x (up h)
 |ptr n off hl=>exact VR.ptr (E:=E.put l y) n off hl
 |view n off len size cap hl hc=>exact VR.view (E:=E.put l y) n off len size cap hl hc
 |mp n hl=>exact VR.mp (E:=E.put l y) n hl
 |own v r e size xs h=>
  obtain ⟨cells,h1,h2,h3⟩:=h.ex
  refine .own v r e size xs ⟨⟨cells,e9 h1 fun g hg=>?_,h2,fun i x t hx ht=>up (h3 i x t hx ht)⟩,h.uni,h.one,fun g hg=>⟨?_,(h.row g hg).2⟩⟩
  ·refine World.putObj_heap_other fun e=>?_
   rcases h1.2 with ⟨rfl,_⟩|⟨g',cap,cur,rfl,_,hg',_⟩
   ·cases hg
   ·simp only [Value.ownBlock,Option.some.injEq] at hg
    rw [hg,e,hlx] at hg'
    cases hg';cases hnx
  ·show (if E.ρ r=some l then none else E.ρ r)=some g
   have hr:=(h.row g hg).1
   rw [if_neg]
   ·exact hr
   ·intro e
    rw [hr] at e
    have e:=Option.some.inj e
    rcases h1.2 with ⟨rfl,_⟩|⟨g',cap,cur,rfl,_,hg',_⟩
    ·cases hg
    ·simp only [Value.ownBlock,Option.some.injEq] at hg
     rw [hg,e,hlx] at hg'
     cases hg';cases hnx
 |full a len size xs h=>exact .full a len size xs (up h)
 |fn f cs vs hs _ ih=>exact .fn f cs vs hs ih
 |tup cs vs hs _ ih=>exact .tup cs vs hs ih
 |agv cs vs hs h1 _ ih=>exact .agv cs vs hs h1 ih
 |raw v h1=>exact .raw v h1
end
section
variable [Glb] {P:Program} {N:Nat} {w0:World} {S0:aa} {o:Oper} {a:Act} {E:Env} {st:St} {F:Fence} {n:Nat}
section put
variable {l:Nat} {x y:Obj}
theorem SR.putObj {b:Array Value} (h:SR N w0 S0 E st b) (hx:S0.objs l=some x) (hy:bP y=true) (hl:w0.heap.size≤l) (hcx:st.cx {S0 with objs:=upd S0.objs l (some y)} w0):
  SR N w0 {S0 with objs:=upd S0.objs l (some y)} (E.put l y) st b:=by
 obtain ⟨hnx,hlx⟩:=h.obj l x hx
 have hlt:l<E.w.heap.size:=(Array.getElem?_eq_some_iff.1 hlx).1
 have hsz:(E.w.putObj l y).heap.size=E.w.heap.size:=by simp [World.putObj]
 have hne: ∀r g,(if E.ρ r=some l then none else E.ρ r)=some g→E.ρ r=some g∧g≠l:=fun r g hr=>by
  split at hr
  ·cases hr
  ·rename_i hn
   exact ⟨hr,fun e=>hn (e▸hr)⟩
 refine ⟨h.size,h.base,h.glob,fun m=>(h.sl m).putObj hlx hnx hy,fun k m=>(h.gh k m).putObj hlx hnx hy,fun n b' hb=>?_,h.live,h.inj,fun r g hr=>?_,fun r r' g h1 h2=>h.rinj r r' g (hne r g h1).1 (hne r' g h2).1,fun b o hs=>?_,?_,h.s0,h.s1,fun g o hg=>?_,hcx⟩
 ·have hB:=h.bx n b' hb
  obtain ⟨ob,hg,hob⟩:=hB.at_
  have hnl:E.κ n≠l:=fun e=>by rw [e,hlx] at hg;cases hg;cases hob <;> cases hnx
  refine ⟨hB.old,hB.free,ob,(World.putObj_heap_other hnl).trans hg,?_⟩
  cases hob with
  |itd k arr c ag sh es ix hgk hS hR=>exact bJ.itd (E:=E.put l y) k arr c ag sh es ix ((du hlx hnx hy k 0).map _ _ hgk) hS ⟨hR.size,fun i x e hx he=>⟨(hR.at_ i x e hx he).1.mono (fun b o h=>h) (fun b o _=>du hlx hnx hy b o),(hR.at_ i x e hx he).2.1.mono (fun b o h=>h) (fun b o _=>du hlx hnx hy b o),(hR.at_ i x e hx he).2.2⟩,hR.lt,hR.apart,hR.mb⟩
  |it m bs c ix hl=>exact bJ.it (E:=E.put l y) m bs c ix hl
  |map arr clock ag sh es mb hm=>exact .map arr clock ag sh es mb ⟨hm.size,fun i x e hx he=>⟨(hm.at_ i x e hx he).1.mono (fun b o h=>h) (fun b o _=>du hlx hnx hy b o),(hm.at_ i x e hx he).2.1.mono (fun b o h=>h) (fun b o _=>du hlx hnx hy b o),(hm.at_ i x e hx he).2.2⟩,hm.lt,hm.apart,hm.mb⟩
  |cells cs e _ hc=>
  refine .cells cs e _ ?_
  cases hc with
  |d m ts h1 h2 h3=>exact .d m ts h1 h2 fun i z t hz ht=>⟨(h3 i z t hz ht).1.mono (fun b o h=>h) (fun b o _=>du hlx hnx hy b o),(h3 i z t hz ht).2⟩
  |v vs h1 h2=>exact .v vs h1 fun i z u hz hu=>⟨(h2 i z u hz hu).1.putObj hlx hnx hy,(h2 i z u hz hu).2⟩
 ·obtain ⟨k1,k2⟩:=hne r g hr
  obtain ⟨g1,g2,g3⟩:=h.rows r g k1
  exact ⟨g1,by show g<(E.w.putObj l y).heap.size;rw [hsz];exact g2,g3⟩
 ·show b<(E.w.putObj l y).heap.size
  rw [hsz];exact h.lt b o hs
 ·exact h.below.trans (.of rfl rfl rfl (by show _≤(E.w.putObj l y).heap.size;rw [hsz];exact Nat.le_refl _) (fun k hk=>World.putObj_heap_other (by omega)) (Nat.le_refl _))
 ·by_cases hgl:g=l
  ·subst hgl
   have:some y=some o:=by
    have hg':upd S0.objs g (some y) g=some o:=hg
    rwa [af] at hg'
   cases this
   exact ⟨hy,World.putObj_heap_same hlt⟩
  ·have hg':upd S0.objs l (some y) g=some o:=hg
   rw [ae _ _ _ _ hgl] at hg'
   exact ⟨(h.obj g o hg').1,(World.putObj_heap_other hgl).trans (h.obj g o hg').2⟩
end put
end
end Go.DL
end
section
namespace Go.DL
open Go.RowKit
section
variable [Glb] {P:Program} {N:Nat} {w0:World} {S0:aa} {o:Oper} {a:Act} {E:Env} {st:St} {n:Nat}
def St.round (st:St) (p:Nat) (u:V) (off:Nat):St:={sl:=upd (st.gh 0) p u,bx:=st.bx,gh:=dI st.sl st.gh,off:=off }
def cQ (fn:FuncId) (tmps:Array Value) (p:Nat) (assign body:Code) (d:Nat):Loop:={state:=.ready,pending:=none,fn:=fn,tmps:=tmps,params:= #[p],assign:=assign,body:=body,defers:=d }
end
section
variable {P:Program} {N:Nat} {w0:World} {S0:aa} {o:Oper} {a:Act} {E:Env} {st:St} {n:Nat}
theorem nL {l:Nat} {X Y:Operand} {ats:Array TypeId} (ho:o.op= .call {callee:=.value X,args:= #[Y],argTypes:=ats }) (hX:a.eval X= .func (.yield l) #[] #[]) (w:World):
  (execOp a.eval o).run P w=(Instr.yield l #[a.eval Y]).run P w:=by
 unfold execOp
 simp [ho,resolve,hX,Deferred.ofValue,invoke]
end
section
variable [Glb] {P:Program} {N:Nat} {w0:World} {S0:aa} {o:Oper} {a:Act} {E:Env} {st:St} {n:Nat}
theorem oV (h:SR N w0 S0 E st a.tmps) (hd: ∀n,o.dst=some n→n<N) {l:Nat} {X Y:Operand} {y:O} {ats:Array TypeId} (ho:o.op= .call {callee:=.value X,args:= #[Y],argTypes:=ats }) (hX:a.eval X= .func (.yield l) #[] #[]) (hY:ao Y=some y)
  {fn:FuncId} {tmps:Array Value} {p N' dd id1 id2 bl:Nat} {ops1 ops2:Array Oper} {is1 is2:List DI} (hobj:S0.objs l=some (.loop (cQ fn tmps p (.region id1 ops1 false) (.block bl (.region id2 ops2 false)) dd))) (hl:w0.heap.size≤l)
  (hframe: ∀m,S0.vals 0 m=tmps.getD m undef) (hN:tmps.size=N') (hp:p<N') (hl1:bT P N' [] ops1 ops1.toList=some is1) (hc1:is1.all (fun i=> !i.op.aN)=true) (hl2:bT P N' [] ops2 ops2.toList=some is2) (hc2:is2.all (fun i=> !i.op.aN)=true)
  (off:Nat) {K:St→Prop} (hw:aw P is1 (st.round p (ev st.sl y) off) fun s1=>(∀ S w,s1.cx S w)∧aw P is2 s1 fun s2=>(∀ S w,s2.cx S w)∧K ((s2.back st).set o.dst (.t (.bool true)))) {Q:Exit→Act→World→Prop}:
  o.wpIn Fence.wide n P a E.w (fun a' w'=> ∃st',K st'∧bq N w0 S0 a st' a' w') Q:=by
 have hF: ∀f,(Fence.wide.inRound l).fn f:=fun _=>trivial
 obtain ⟨_,hlw⟩:=h.obj l _ hobj
 refine ⟨fun f _=>trivial,?_⟩
 rw [Oper.semAt_eq _ _ _ (fun c hop=>by rw [ho] at hop;cases hop),nL ho hX,run_yield hlw rfl]
 refine ⟨fun hh=>(by cases hh),roundIn_of_wpIn trivial ?_⟩
 let tm':Array Value:=tmps.setIfInBounds p (a.eval Y)
 let S0r:aa:={S0 with vals:=jH (fun m=>a.tmps.getD m undef) S0.vals }
 have hv:=ah h.sl hY
 have hsr:SR N' w0 S0r E (st.round p (ev st.sl y) off) tm':=by
  refine ⟨by simp [tm',hN],h.base,h.glob,fun m=>?_,fun k m=>?_,h.bx,h.live,h.inj,h.rows,h.rinj,h.lt,h.below,h.s0,h.s1,h.obj,trivial⟩
  ·rw [eN (by rw [hN];exact hp)]
   show VR E _ (upd (st.gh 0) p (ev st.sl y) m)
   by_cases hm:m=p
   ·subst hm;rw [if_pos rfl,af];exact hv
   ·rw [if_neg hm,ae _ _ _ _ hm, ←hframe];exact h.gh 0 m
  ·cases k with
   |zero=>exact h.sl m
   |succ k=>exact h.gh k m
 have hasg:=iK (F:=Fence.wide.inRound l) (n:=n - 1) (a:={tmps:=tm',defers:=[]}) hF hsr hl1 hc1 (K:=fun s1=>(∀ S w,s1.cx S w)∧aw P is2 s1 fun s2=>(∀ S w,s2.cx S w)∧K ((s2.back st).set o.dst (.t (.bool true))))
  (Q:=fun e a' w'=>match e with
   |.normal=>bo N' w0 S0r [] (fun s1=>(∀ S w,s1.cx S w)∧aw P is2 s1 fun s2=>(∀ S w,s2.cx S w)∧K ((s2.back st).set o.dst (.t (.bool true)))) a' w'
   |_=>False) (fun a' w hh=>hh) hw (id:=id1)
 have hz:(((cQ fn tmps p (.region id1 ops1 false) (.block bl (.region id2 ops2 false)) dd).params.zip #[a.eval Y]).foldl (fun tmps (t,a)=>tmps.setIfInBounds t a) (cQ fn tmps p (.region id1 ops1 false) (.block bl (.region id2 ops2 false)) dd).tmps)=tm':=by
  simp [cQ,tm']
 rw [hz]
 refine wpIn_mono hasg ?_
 intro e a1 w1 hq
 cases e with
 |normal=>
  obtain ⟨E1,s1,rfl,hsr1,hdf1,hcx1,hw2⟩:=hq
  obtain ⟨_,hlw1⟩:=hsr1.obj l _ hobj
  refine ⟨_,run_beginRound hlw1 rfl,?_⟩
  let rc:Loop:=cQ fn tmps p (.region id1 ops1 false) (.block bl (.region id2 ops2 false)) dd
  have hsr2:=hsr1.putObj (x:=.loop rc) (y:=.loop {rc with state:=.busy }) hobj rfl hl (hcx1 _ _)
  refine wpIn_block ?_
  refine wpIn_mono (iK (F:=Fence.wide.inRound l) (n:=n - 1) hF hsr2 hl2 hc2 (K:=fun s2=>(∀ S w,s2.cx S w)∧K ((s2.back st).set o.dst (.t (.bool true))))
   (Q:=fun e a' w'=>match e with
    |.normal=>bo N' w0 {S0r with objs:=upd S0r.objs l (some (.loop {rc with state:=.busy }))} a1.defers (fun s2=>(∀ S w,s2.cx S w)∧K ((s2.back st).set o.dst (.t (.bool true)))) a' w'
    |_=>False) (fun a' w hh=>hh) hw2 (id:=id2)) ?_
  intro e a2 w2 hq
  cases e with
  |normal=>
   obtain ⟨E2,s2,rfl,hsr3,hdf2,hcx2,hk⟩:=hq
   have hb:(upd S0r.objs l (some (.loop {rc with state:=.busy }))) l=some (.loop {rc with state:=.busy }):=af _ _ _
   obtain ⟨_,hlw3⟩:=hsr3.obj l _ hb
   refine ⟨_,_,run_endRound none hlw3,?_⟩
   have hsr4:=hsr3.putObj (x:=.loop {rc with state:=.busy }) (y:=.loop rc) hb rfl hl (hcx2 _ _)
   have hobjs:upd (upd S0r.objs l (some (.loop {rc with state:=.busy }))) l (some (.loop rc))=S0.objs:=by
    funext k
    by_cases hk:k=l
    ·subst hk;rw [af];exact hobj.symm
    ·rw [ae _ _ _ _ hk,ae _ _ _ _ hk]
   have hback:SR N w0 S0 (E2.put l (.loop rc)) (s2.back st) a.tmps:=by
    refine ⟨h.size,hsr4.base,hsr4.glob,fun m=>hsr4.gh 0 m,fun k m=>hsr4.gh (k+1) m,hsr4.bx,hsr4.live,hsr4.inj,hsr4.rows,hsr4.rinj,hsr4.lt,hsr4.below,hsr4.s0,hsr4.s1,fun g x hg=>hsr4.obj g x (by show upd _ l _ g=_;rw [hobjs];exact hg),h.cx⟩
   refine ⟨_,hk,E2.put l (.loop rc),rfl,?_,by cases o.dst <;> rfl⟩
   exact hback.cC (d:=o.dst) (by cases hdst:o.dst with|none=>trivial|some d=>exact hd d hdst) (.t _ _ (.bool true))
  |_=>exact hq.elim
 |_=>exact hq.elim
end
end Go.DL
end
section
namespace Go.DL
open Go.RowKit
section
variable [Glb] {P:Program} {X:List FuncId} {N:Nat} {w0:World} {S0:aa} {a:Act} {E:Env} {st:St}
def nf (l:Nat) (r:Loop):aa→World→Prop:=fun S w=>S.objs l=some (.loop r)∧w.heap.size≤l∧ ∀m,S.vals 0 m=r.tmps.getD m undef
def St.iter (st:St) (l:Nat) (r:Loop) (caps:List V) (off:Nat):St:=
 {sl:=fun m=>match m with|0=>.raw (.func (.yield l) #[] #[])|k+1=>caps[k]?.getD .top,bx:=st.bx,gh:=dI st.sl st.gh,off:=off,cx:=nf l r }
def qB (st:St) (K:St→Prop):ax→St→Prop
 |.exit _,_=>False
 |_,st2=>K (st2.back st)
def gK (N:Nat) (w0:World) (S:aq) (vals:Nat→Nat→Value) (a:Act) (K:St→Prop) (a':Act) (w':World):Prop:=
 ∃(S0':aa) (E':Env) (st':St) (D:Nat),E'.w=w'∧SR N w0 S0' E' st' a'.tmps∧S0'.S=S∧S0'.vals=vals∧w0.heap.size≤D∧S0'.objs D=some (.deferred (some []))∧a'.defers={target:=.collected D,args:= #[]}::a.defers∧K st'
theorem qW (hm:P.follows .mixedOrders=true) (h:SR N w0 S0 E st a.tmps) (hcx: ∀S w,st.cx S w) {g:Operand} {y:O} {p id1 id2 bl:Nat} {ops1 ops2:Array Oper} (hg:ao g=some y) {gf:FuncId} {caps:List V} (hv:ev st.sl y= .fn gf caps)
  {fn:Func} {dc:aV} {N':Nat} (hf:P.funcs[gf]? =some fn) (hl:(fn.body.bind (bz P N' X))=some dc) (hN:fn.ntmps=N') (hn:(fn.name== "runtime.NumGoroutine")=false) (hr:fn.results= #[]) (ha:caps.length+1≤N') (off:Nat) {K:St→Prop}
  (hw: ∀(l d:Nat) (f:FuncId) (tmps:Array Value),tmps.size=N→wpC P dc (st.iter l (cQ f tmps p (.region id1 ops1 false) (.block bl (.region id2 ops2 false)) d) caps off) (qB st K))
  {Q:Exit→Act→World→Prop} (hQ: ∀a' w',gK N w0 S0.S S0.vals a K a' w'→Q .normal a' w'):(Code.rangeFunc g #[p] (.region id1 ops1 false) (.block bl (.region id2 ops2 false))).wp P Q a E.w:=by
 have hgv:=ah h.sl hg
 rw [hv] at hgv
 generalize hga:a.eval g=gv at hgv
 cases hgv with
 |fn _ lb _ hs hcaps=>
 refine (wpIn_wide (n:=0)).1 (wpIn_rangeFunc ?_)
 intro f _
 let L:=E.w.heap.size+1
 let D:=E.w.heap.size
 let rc:Loop:=cQ f a.tmps p (.region id1 ops1 false) (.block bl (.region id2 ops2 false)) D
 let W1:=(E.w.alloc (.deferred (some []))).alloc (.loop rc)
 have hL1:W1.heap[L]? =some (.loop rc):=by
  have:=World.alloc_heap_new (E.w.alloc (.deferred (some []))) (.loop rc);rwa [World.size_alloc] at this
 have hK1:W1.heap[D]? =some (.deferred (some [])):=(Below.heap_alloc _ _ _ (by simp [D])).trans (World.alloc_heap_new E.w _)
 have hb1:Below E.w.heap.size E.w W1:=((Below.refl _ E.w).alloc (Nat.le_refl _) _).alloc (by simp) _
 have hcallable:=bM hf (P:=P) (f:=gf) (by cases hb:fn.body with|none=>rw [hb] at hl;cases hl|some c=>rfl) hn
 refine ⟨L,[{target:=.collected D,args:= #[]}],W1,{target:=.fn (.func gf) lb,args:= #[.func (.yield L) #[] #[]]},W1,gf, #[.func (.yield L) #[] #[]]++lb,W1,run_enterLoop_outer _ _ _ _ _,?_,fun f' _=>trivial,?_,fun hh=>(by cases hh),?_⟩
 ·simp only [resolve,hga]
  simp [go_sem]
 ·simp [invoke,go_sem,hcallable _ _]
 ·refine callsIn_wide.2 ?_
  cases hb:fn.body with
  |none=>rw [hb] at hl;cases hl
  |some c=>
  rw [hb] at hl
  subst hN
  refine calls_of_wp hf hb ?_
  let S0i:aa:={S:=S0.S,vals:=jH (fun m=>a.tmps.getD m undef) S0.vals,objs:=upd (upd S0.objs D (some (.deferred (some [])))) L (some (.loop rc))}
  have h1:=h.world hb1 E.S (fun b o=>⟨.inl,fun hh=>hh.elim id fun k=>k.1⟩)
  have hDL:D≠L:=by show E.w.heap.size≠E.w.heap.size+1;omega
  have hobj: ∀(k:Nat) (o:Obj),S0i.objs k=some o→bP o=true∧W1.heap[k]? =some o:=fun k o hk=>by
   have hk:upd (upd S0.objs D (some (.deferred (some [])))) L (some (.loop rc)) k=some o:=hk
   by_cases e1:k=L
   ·subst e1;rw [af] at hk;cases hk;exact ⟨rfl,hL1⟩
   ·rw [ae _ _ _ _ e1] at hk
    by_cases e2:k=D
    ·subst e2;rw [af] at hk;cases hk;exact ⟨rfl,hK1⟩
    ·rw [ae _ _ _ _ e2] at hk;exact h1.obj k o hk
  have hsr:SR fn.ntmps w0 S0i {E with w:=W1 } (st.iter L rc caps off) ((#[.func (.yield L) #[] #[]]++lb)++Array.replicate (fn.ntmps - (#[Value.func (.yield L) #[] #[]]++lb).size) undef):=by
   refine ⟨by simp [hs];omega,h1.base,h1.glob,fun m=>?_,fun k m=>?_,h1.bx,h1.live,h1.inj,h1.rows,h1.rinj,h1.lt,h1.below,h1.s0,h1.s1,hobj,?_⟩
   ·cases m with
    |zero=>
     have:((#[Value.func (.yield L) #[] #[]]++lb)++Array.replicate (fn.ntmps - (#[Value.func (.yield L) #[] #[]]++lb).size) undef).getD 0 undef= .func (.yield L) #[] #[]:=by
      rw [Array.getD_eq_getD_getElem?,Array.getElem?_append_left (by simp;omega),Array.getElem?_append_left (by simp)]
      rfl
     rw [this]
     exact .raw _ rfl
    |succ m=>
     show VR _ _ (caps[m]?.getD .top)
     cases ht:caps[m]? with
     |none=>exact .top _
     |some u=>
      have hlt:m<lb.size:=by rw [hs];exact (gsZ ht).1
      have hvm:=hcaps m lb[m] u (Array.getElem?_eq_getElem hlt) ht
      have:((#[Value.func (.yield L) #[] #[]]++lb)++Array.replicate (fn.ntmps - (#[Value.func (.yield L) #[] #[]]++lb).size) undef).getD (m+1) undef=lb[m]:=by
       rw [Array.getD_eq_getD_getElem?,Array.getElem?_append_left (by simp;omega),Array.getElem?_append_right (by simp)]
       simp [hlt]
      rw [this]
      have gr:Grow E {E with w:=W1 }:=⟨rfl,fun _ hl=>⟨hl,rfl⟩,fun r k hr=>⟨hr,hb1.block k (h.rows r k hr).2.1,fun _=>Iff.rfl⟩,fun _ _ hs=>hs,fun b o hs=>aB.cB hb1 (h.lt b o hs)⟩
      exact hvm.grow gr
   ·cases k with
    |zero=>exact h1.sl m
    |succ k=>exact h1.gh k m
   ·exact ⟨af _ _ _,by have:=h.below.size;show _≤E.w.heap.size+1;omega,fun m=>rfl⟩
  refine wp_mono (jO hm hl (a:={tmps:=(#[.func (.yield L) #[] #[]]++lb)++Array.replicate (fn.ntmps - (#[Value.func (.yield L) #[] #[]]++lb).size) undef,defers:=[]}) hsr (hw L D f a.tmps h.size)) ?_
  have fin: ∀{a':Act} {w':World},bo fn.ntmps w0 S0i [] (fun st2=>K (st2.back st)) a' w'→a'.defers=[]∧ ∃v,(results fn a'.tmps).run P w'= .ok v w'∧
    rangePost Fence.wide 0 P L Q {a with defers:=[{target:=.collected D,args:= #[]}]++a.defers } (.returned v) w':=by
   rintro a' w' ⟨E',st2,rfl,hsr',hdf,hk⟩
   refine ⟨hdf,.tuple #[],results_none hr _ _ _,?_⟩
   have hLo:S0i.objs L=some (.loop rc):=af _ _ _
   obtain ⟨_,hlw⟩:=hsr'.obj L _ hLo
   refine ⟨none,_,run_endLoop hlw (by show LoopState.ready≠ .busy;simp),?_⟩
   have hback:SR N w0 {S0 with objs:=S0i.objs } E' (st2.back st) a.tmps:=
    ⟨h.size,hsr'.base,hsr'.glob,fun m=>hsr'.gh 0 m,fun k m=>hsr'.gh (k+1) m,hsr'.bx,hsr'.live,hsr'.inj,hsr'.rows,hsr'.rinj,hsr'.lt,hsr'.below,hsr'.s0,hsr'.s1,hsr'.obj,hcx _ _⟩
   have h2:=hback.putObj (x:=.loop rc) (y:=.loop {rc with state:=.exhausted }) hLo rfl (by have:=h.below.size;show _≤E.w.heap.size+1;omega) (hcx _ _)
   refine hQ _ _ ⟨_,_,_,D,rfl,h2,rfl,rfl,h.below.size,?_,rfl,hk⟩
   show upd (upd (upd S0.objs D (some (.deferred (some [])))) L (some (.loop rc))) L _ D=_
   rw [ae _ _ _ _ hDL,ae _ _ _ _ hDL,af]
  intro e a' w' hh
  cases e with
  |normal=>exact fin hh
  |ret=>exact fin hh
  |exit id=>
   obtain ⟨_,_,_,_,_,hk⟩:=hh
   exact hk.elim
  |goto l=>exact hh.elim
  |panic ch=>exact hh.elim
  |outgrown=>exact hh.elim
end
end Go.DL
end
section
namespace Go.DL
open Go.RowKit
section
variable [Glb] {P:Program}
def rg (id:Nat):Code→Option Code
 |.region i ops d=>cond (Nat.beq i id) (some (.region i ops d)) none
 |.seq a b=>match rg id a with|some c=>some c|none=>rg id b
 |.cond _ a b=>match rg id a with|some c=>some c|none=>rg id b
 |.block _ b=>rg id b
 |.loop b=>rg id b
 |.rangeFunc _ _ a b=>match rg id a with|some c=>some c|none=>rg id b
 |_=>none
def rg0 (id:Nat) (c:Option Code):Code:=((c.bind (rg id)).getD .skip)
end
end Go.DL
end
section
namespace Go.DL
open Go.RowKit
section
variable [Glb]
end
section
theorem r6 {c:Prop} {t:T} {K:T→Prop} (t0:T) (hc:c) (h:t=t0) (hk:K t0):c∧ ∀t',t=t'→K t':=⟨hc,fun t' e=>by rw [← e,h];exact hk⟩
theorem rK {c:Prop} {b:Bool} {K:Bool→Prop} (hc:c) (h1:b=true→K true) (h0:b=false→K false):c∧ ∀b',b=b'→K b':=⟨hc,fun b' e=>match b',e with|true,e=>h1 e|false,e=>h0 e⟩
theorem rL {c:Prop} {b:Bool} {K:Bool→Prop} (b0:Bool) (hc:c) (h:b=b0) (hk:K b0):c∧ ∀b',b=b'→K b':=⟨hc,fun b' e=>by rw [← e,h];exact hk⟩
end
section
variable [Glb]
theorem rp {P:Program} {f:FuncId} {ts:List T} {K:T→Prop} (r:T) (h:DCalls P f ts r) (hk:K r): ∃r,DCalls P f ts r∧K r:=⟨r,h,hk⟩
end
section
theorem leI {ks:List Nat} {bx:Nat→Option BX} {n m:Int} (h:n=m):LeV ks bx (.t (.int .i64 n)) (.t (.int .i64 m)):=by rw [h];exact .same _
theorem rM {ks:List Nat} {bx:Nat→Option BX} {r:Nat} {e:TypeId} {n:Nat} {xs ys:List T} (h:xs=ys):LeV ks bx (.own r e n xs) (.own r e n ys):=by rw [h];exact .same _
theorem r7 {ks:List Nat} {bx:Nat→Option BX} {n:Nat} {ts us:List T} (h:ts=us):LeB ks bx (.d n ts) (some (.d n us)):=by rw [h];exact .same _
theorem mG {bx:Nat→Option BX} {v:V} {vs:List V} {x:T} {r:List Nat} {xs:List T} {rs:List Nat} (h1:conv bx v=some (x,r)) (h2:bu bx vs=some (xs,rs)):bu bx (v::vs)=some (x::xs,r++rs):=by
 unfold bu
 rw [h1,h2]
end
section
variable [Glb]
theorem DCalls.less {P:Program} {f:FuncId} {ts us:List T} {r:T} (h:DCalls P f us r) (hlen:ts.length=us.length)
  (hle: ∀(S:aq) (w:World) (i:Nat) (v:Value) (t u:T),ts[i]? =some t→us[i]? =some u→Rep S w v t→Rep S w v u):DCalls P f ts r:=
 ⟨h.1,fun S w vs hS hG hl hr=>h.2 S w vs hS hG (hl.trans hlen) fun i v u hv hu=>by
  have hlt:i<ts.length:=by rw [hlen];exact (gsZ hu).1
  exact hle S w i v ts[i] u (ggZ hlt) hu (hr i v ts[i] hv (ggZ hlt))⟩
end
section
theorem Rep.kh {S:aq} {w:World} {v:Value} (n:Nat) (h:Rep S w v .nil):Rep S w v (.slice n []):=by
 cases h
 exact .slice none 0 0 0 0 n [] (fun _=>undef) rfl (Nat.le_refl _) (fun _ h=>by cases h) (fun _ h=>by cases h) (fun h=>absurd h (by simp)) (fun i h=>absurd h (by simp)) (fun i t h=>by simp at h)
end
section
variable [Glb]
theorem DCalls.res {P:Program} {f:FuncId} {ts:List T} {r r':T} (h:DCalls P f ts r) (hle: ∀(S:aq) (w:World) (v:Value),Rep S w v r→Rep S w v r'):DCalls P f ts r':=
 ⟨h.1,fun S w vs hS hG hl hr=>(h.2 S w vs hS hG hl hr).mono fun _ _ ⟨v,h1,h2,h3⟩=>⟨v,h1,h2,hle _ _ _ h3⟩⟩
end
section
theorem mu {n:Int} (h0: -9223372036854775808≤n) (h1:n<9223372036854775808):IntKind.wrap .i64 n=n:=by
 unfold IntKind.wrap
 simp [IntKind.bits,IntKind.signed]
 omega
end
section
variable [Glb]
theorem kq {P:Program} {K K':St→Prop} (hk: ∀s,K s→K' s): ∀{l:List DI} {st:St},aw P l st K→aw P l st K'
 |[],_,h=>hk _ h
 |_::_,_,h=>cS (fun _=>kq hk) h
end
end Go.DL
end
section
namespace Go.DL
open Go.RowKit
section
variable [Glb] {P:Program} {N:Nat} {st:St}
def dP (P:Program) (N:Nat) (ops:Array Oper):List Nat→Option (List DI)
 |[]=>some []
 |k::ks=>match ops[k]? with
  |some o=>match iW P N [] ops o,dP P N ops ks with
   |some i,some is=>some (i::is)
   |_,_=>none
  |none=>none
end
section
variable {P:Program} {N:Nat} {st:St}
theorem ij {F:Fence} {n:Nat} {ops:Array Oper} {Q:Exit→Act→World→Prop} {k:Nat} {a:Act} {w:World} {K K':Act→World→Prop} (h: ∀a w,K a w→K' a w) (hh:wpOpIn F n P ops Q k K a w):wpOpIn F n P ops Q k K' a w:=by
 unfold wpOpIn at *
 split
 ·exact h _ _ (by simpa [*] using hh)
 ·rename_i o ho
  simp only [ho] at hh
  split
  ·rename_i hw;simp only [hw,if_true] at hh;exact Oper.wpIn_mono h hh
  ·rename_i hw;simp only [hw] at hh;exact ⟨hh.1,h _ _ hh.2⟩
end
section
variable [Glb] {P:Program} {N:Nat} {st:St}
theorem wpK {n:Nat} {w0:World} {S0:aa} {ops:Array Oper} {Q:Exit→Act→World→Prop} {rest:List Nat} {ds:List Deferred} {K:St→Prop}
  (hk: ∀(a:Act) (E:Env) (st:St),SR N w0 S0 E st a.tmps→a.defers=ds→K st→wpOpsIn Fence.wide n P ops Q rest a E.w):
  ∀(ks:List Nat) (is:List DI) (_:dP P N ops ks=some is) (_:is.all (fun i=> !i.op.aN)=true) {a:Act} {E:Env} {st:St} (_:SR N w0 S0 E st a.tmps) (_:a.defers=ds) (_:aw P is st K),wpOpsIn Fence.wide n P ops Q (ks++rest) a E.w
 |[],is,hl,_,a,E,st,h,hd,hw=>by
  cases hl
  exact hk a E st h hd hw
 |k::ks,is,hl,hc,a,E,st,h,hd,hw=>by
  unfold dP at hl
  split at hl
  ·rename_i o ho
   split at hl
   ·rename_i i is' hi his
    cases hl
    simp only [List.all_cons,Bool.and_eq_true] at hc
    rw [List.cons_append,wpOpsIn_cons]
    refine ij ?_ (lM (fun _=>trivial) h ho hi (by simpa using hc.1) hw)
    rintro a' w' ⟨st',hk',E',rfl,hsr,hdf⟩
    exact wpK hk ks is' his hc.2 hsr (hdf.trans hd) hk'
   ·cases hl
  ·cases hl
theorem qR {ops:Array Oper} {k1 k2:List Nat} {k:Nat} (hks:List.range ops.size=k1++(k::k2)) {is1 is2:List DI} (h1:dP P N ops k1=some is1) (c1:is1.all (fun i=> !i.op.aN)=true) (h2:dP P N ops k2=some is2) (c2:is2.all (fun i=> !i.op.aN)=true)
  {o:Oper} (hok:ops[k]? =some o) (hg:o.guard=none) {x y d:Nat} {ats:Array TypeId} (ho:o.op= .call {callee:=.value (.tmp x),args:= #[.tmp y],argTypes:=ats }) (hd:o.dst=some d) (hdN:d<N)
  {fn:FuncId} {tmps:Array Value} {p N' dd id1 id2 bl l:Nat} {opsA opsB:Array Oper} {isA isB:List DI} (hN:tmps.size=N') (hp:p<N')
  (hlA:bT P N' [] opsA opsA.toList=some isA) (hcA:isA.all (fun i=> !i.op.aN)=true) (hlB:bT P N' [] opsB opsB.toList=some isB) (hcB:isB.all (fun i=> !i.op.aN)=true) (off:Nat) {id:Nat} {Q:ax→St→Prop}
  (hw:aw P is1 st fun s0=>(∀ S w,s0.cx S w→nf l (cQ fn tmps p (.region id1 opsA false) (.block bl (.region id2 opsB false)) dd) S w)∧s0.sl x= .raw (.func (.yield l) #[] #[])∧
   aw P isA (s0.round p (s0.sl y) off) fun s1=>(∀ S w,s1.cx S w)∧aw P isB s1 fun s2=>(∀ S w,s2.cx S w)∧aw P is2 ((s2.back s0).set (some d) (.t (.bool true))) (Q .normal)):pR P N (.region id ops false) st Q:=by
 intro w0 S0 E a h
 refine (wpIn_wide (n:=0)).1 (wpIn_region ?_)
 rw [hks]
 refine wpK (ds:=a.defers) (K:=_) ?_ k1 is1 h1 c1 h rfl hw
 rintro a1 E1 s0 hs hd1 ⟨hcx,hx,hA⟩
 rw [wpOpsIn_cons]
 have hwant:Region.wanted o (yielded ops a1.tmps)=true:=by unfold Region.wanted;rw [hg]
 unfold wpOpIn
 simp only [hok,hwant,if_true]
 obtain ⟨q1,q2,q3⟩:=hcx _ _ hs.cx
 have hX:a1.eval (.tmp x)= .func (.yield l) #[] #[]:=by
  have:=hs.sl x
  rw [hx] at this
  show a1.tmps.getD x undef=_
  generalize a1.tmps.getD x undef=v at this
  cases this
  rfl
 have:=oV (n:=0) (o:=o) hs (fun n hn=>by rw [hd] at hn;cases hn;exact hdN) ho hX (Y:=.tmp y) (y:=.tmp y) rfl q1 q2 q3 hN hp hlA hcA hlB hcB off (K:=fun s=>aw P is2 s (Q .normal)) (by rw [hd];exact hA) (Q:=bc N w0 S0 a.defers Q)
 refine Oper.wpIn_mono ?_ this
 rintro a' w' ⟨st',hk',E',rfl,hsr,hdf⟩
 have:=wpK (rest:=[]) (n:=0) (Q:=bc N w0 S0 a.defers Q) (ds:=a.defers) (K:=Q .normal) (fun a2 E2 s2 hs2 hd2 hq=>(by
  show bc N w0 S0 a.defers Q .normal a2 E2.w
  exact ⟨E2,s2,rfl,hs2,hd2,hq⟩)) k2 is2 h2 c2 hsr (hdf.trans hd1) hk'
 rwa [List.append_nil] at this
end
end Go.DL
end
section
namespace Go.DL
open Go
section
variable [Glb]
def mkT (P:Program) (e:TypeId) (us:List T):T:=
 match P.underlying e with
 |some (.struct _)|some (.array _ _)=>.agg us
 |_=>us.headD .nil
inductive ct (P:Program):TypeId→List T→Prop
 |bool {t:TypeId} (h:P.underlying t=some .bool) (b:Bool):ct P t [.bool b]
 |int {t:TypeId} {k:IntKind} (h:P.underlying t=some (.int k)) (n:Int) (hw:(Lit.int k n).wf=true):ct P t [.int k n]
 |str {t:TypeId} (h:P.underlying t=some .string) (s:ByteArray) (hs:s.size≤maxLen):ct P t [.str s]
 |nil {t e:TypeId} (h:P.underlying t=some (.slice e)):ct P t [.nil]
 |slice {t e:TypeId} (h:P.underlying t=some (.slice e)) (xs:List (List T)) (hx: ∀x∈xs,ct P e x) (hl:xs.length≤maxLen):ct P t [.slice (P.cellsOf e) (xs.map (mkT P e))]
 |struct {t:TypeId} {fs:Array Field} (h:P.underlying t=some (.struct fs)) (us:List T) (hl:us.length=P.cellsOf t) (hf: ∀f∈fs.toList,ct P f.type ((us.drop f.offset).take (P.cellsOf f.type))):ct P t us
 |array {t e:TypeId} {n:Nat} (h:P.underlying t=some (.array n e)) (us:List T) (hl:us.length=P.cellsOf t) (hf: ∀i,i<n→ct P e ((us.drop (i * P.cellsOf e)).take (P.cellsOf e))):ct P t us
def dF (P:Program):Nat→List Field→Nat
 |off,[]=>off
 |off,f::fs=>if f.offset=off then dF P (off+P.cellsOf f.type) fs else 0
def eJ (P:Program) (L:List TypeId):Bool:=L.all fun t=>match P.underlying t with
 |some .bool|some (.int _)|some .string=>Nat.beq (P.cellsOf t) 1
 |some (.slice e)=>Nat.beq (P.cellsOf t) 1&&L.contains e
 |some (.struct fs)=>(fs.toList.all fun f=>L.contains f.type)&&Nat.beq (dF P 0 fs.toList) (P.cellsOf t)&&Nat.ble 1 (P.cellsOf t)
 |some (.array n e)=>L.contains e&&Nat.beq (P.cellsOf t) (n * P.cellsOf e)&&Nat.ble 1 (P.cellsOf t)
 |_=>false
structure Weigh (H:Type) where
 B:DataW H→Nat
 BA:List (DataW H)→Nat
 lit: ∀l,1≤B (.lit l)
 str: ∀s,s.length+1≤B (.lit (.string s))
 nil:1≤B .nil
 slice: ∀e s,BA e+1≤B (.slice e s)
 agg: ∀p,BA p≤B (.agg p)
 allc: ∀d r,B d+BA r≤BA (d::r)
mutual
def T.bulk:T→Nat
 |.str s=>s.size+1
 |.slice _ xs=>aR xs+1
 |.agg cs=>aR cs
 |_=>1
def aR:List T→Nat
 |[]=>0
 |t::ts=>t.bulk+aR ts
end
end
section
theorem gM: ∀{a b:List T},aR (a++b)=aR a+aR b
 |[],b=>by simp [aR]
 |x::a,b=>by simp only [List.cons_append,aR,gM (a:=a)];omega
theorem Weigh.sum {H:Type} (K:Weigh H): ∀(l:List (DataW H)),(l.map K.B).sum≤K.BA l
 |[]=>by simp
 |d::l=>by
  have:=K.sum l
  have:=K.allc d l
  simp only [List.map_cons,List.sum_cons]
  omega
end
section
variable [Glb]
def Got (P:Program) (W:World) (t:TypeId) (cs:List Value) (us:List T):Prop:=
 us.length=cs.length∧cs.length=P.cellsOf t∧(∀ u∈us,u.one=true)∧(∀ (i:Nat) (v:Value) (u:T),cs[i]? =some v→us[i]? =some u→Rep (fun b _=>b<W.heap.size) W v u)∧ct P t us
end
section
theorem fP {P:Program} {W:World} {t:TypeId} {v:Value} {u:T} (hc:P.cellsOf t=1) (h1:u.one=true) (hr:Rep (fun b _=>b<W.heap.size) W v u) (hh:ct P t [u]):Got P W t [v] [u]:=by
 refine ⟨rfl,hc.symm,by simpa using h1,fun i x y hx hy=>?_,hh⟩
 cases i with
 |zero=>simp at hx hy;subst hx;subst hy;exact hr
 |succ i=>simp at hx
theorem nk {P:Program} {L:List TypeId} (_:eJ P L=true) {e:TypeId} {us:List T} (_:e∈L) (h:ct P e us) (h1: ∀u∈us,u.one=true):(mkT P e us).cells=us:=by
 unfold mkT
 cases h with
 |struct h us hl hf=>rw [h];rfl
 |array h us hl hf=>rw [h];rfl
 |bool h|int h|str h|nil h|slice h=>rw [h];exact T.cells_one (h1 _ (by simp))
theorem oj {P:Program} {e:TypeId} {us:List T} (h:ct P e us):(mkT P e us).bulk=aR us:=by
 unfold mkT
 cases h with
 |struct h us hl hf=>rw [h];rfl
 |array h us hl hf=>rw [h];rfl
 |bool h|int h|str h|nil h|slice h=>rw [h];simp [aR]
theorem jZ {P:Program} {e:TypeId} {f:Nat→List T}: ∀{n k:Nat} {bs:List Nat},bs.length=n→(∀ i,i<n→ct P e (f (k+i))∧aR (f (k+i))≤bs.getD i 0)→aR (((List.range' k n).map f).map (mkT P e))≤bs.sum
 |0,k,bs,hl,h=>by simp [aR]
 |n+1,k,b::bs,hl,h=>by
  rw [List.range'_succ,List.map_cons,List.map_cons]
  have h0:=h 0 (by omega)
  have ih:=jZ (P:=P) (e:=e) (f:=f) (n:=n) (k:=k+1) (bs:=bs) (by simpa using hl) fun i hi=>by
   have:=h (i+1) (by omega)
   have e:k+1+i=k+(i+1):=by omega
   rw [e]
   simpa using this
  simp only [aR,List.sum_cons]
  rw [oj (by simpa using h0.1)]
  have:=h0.2
  simp at this
  omega
theorem jl {w:World} {base:Nat} {a:Addr} {n:Nat} {cs:List Value} (h:w.cells? base a n=some cs):cs.length=n∧ ∀j,j<n→w.cell? (a.add j)=cs[j]? :=by
 unfold World.cells? at h
 split at h
 ·exact ⟨by simpa using mapM_some_length h,fun j hj=>mapM_some_get h j j (by simp [hj])⟩
 ·cases h
theorem oA {P:Program} {W:World} {L:List TypeId} (hL:eJ P L=true) {e:TypeId} (he:e∈L) {base:Nat} {a:Addr} {len cap:Nat} (hlc:len≤cap)
  {bs:List Nat} (hbs:bs.length=len) (hc: ∀i,i<len→ ∃cs us,W.cells? base (a.add (i * P.cellsOf e)) (P.cellsOf e)=some cs∧Got P W e cs us∧aR us≤bs.getD i 0):
  ∃xs:List (List T),xs.length=len∧(∀ x∈xs,ct P e x)∧aR (xs.map (mkT P e))≤bs.sum∧Rep (fun b _=>b<W.heap.size) W (.slice (some a) len cap) (.slice (P.cellsOf e) (xs.map (mkT P e))):=by
 have h0: ∀i, ∃us,i<len→ ∃cs,W.cells? base (a.add (i * P.cellsOf e)) (P.cellsOf e)=some cs∧Got P W e cs us∧aR us≤bs.getD i 0:=fun i=>by
  by_cases h:i<len
  ·obtain ⟨cs,us,h1,h2⟩:=hc i h
   exact ⟨us,fun _=>⟨cs,h1,h2⟩⟩
  ·exact ⟨[],fun h'=>absurd h' h⟩
 obtain ⟨f,hf⟩:=Classical.axiomOfChoice h0
 have hcl: ∀i,i<len→(mkT P e (f i)).cells=f i∧(f i).length=P.cellsOf e:=fun i hi=>by
  obtain ⟨cs,h1,⟨h2,h3,h4,h5,h6⟩,hb⟩:=hf i hi
  exact ⟨nk hL he h6 h4,h2.trans h3⟩
 have hu: ∀x∈((List.range len).map f).map (mkT P e),x.cells.length=P.cellsOf e:=fun x hx=>by
  simp only [List.mem_map,List.mem_range] at hx
  obtain ⟨us,⟨i,hi,rfl⟩,rfl⟩:=hx
  rw [(hcl i hi).1,(hcl i hi).2]
 have hlen:((((List.range len).map f).map (mkT P e)).flatMap T.cells).length=len * P.cellsOf e:=by rw [aI hu];simp
 have hget: ∀i j,i<len→j<P.cellsOf e→((((List.range len).map f).map (mkT P e)).flatMap T.cells)[i * P.cellsOf e+j]? =(f i)[j]? :=fun i j hi hj=>by
  rw [iU hu i (mkT P e (f i)) (by simp [hi]) j hj,(hcl i hi).1]
 have hcell: ∀k,k<len * P.cellsOf e→ ∃i j,i<len∧j<P.cellsOf e∧k=i * P.cellsOf e+j:=fun k hk=>by
  have hp:0<P.cellsOf e:=Nat.pos_of_ne_zero fun h=>by rw [h] at hk;simp at hk
  exact ⟨k / P.cellsOf e,k % P.cellsOf e,Nat.div_lt_of_lt_mul (by rwa [Nat.mul_comm]),Nat.mod_lt _ hp,by rw [Nat.mul_comm];exact (Nat.div_add_mod k _).symm⟩
 refine ⟨(List.range len).map f,by simp,fun x hx=>?_,?_,?_⟩
 ·simp only [List.mem_map,List.mem_range] at hx
  obtain ⟨i,hi,rfl⟩:=hx
  obtain ⟨cs,h1,⟨h2,h3,h4,h5,h6⟩,hb⟩:=hf i hi
  exact h6
 ·rw [List.range_eq_range']
  refine jZ hbs fun i hi=>?_
  obtain ⟨cs,h1,⟨h2,h3,h4,h5,h6⟩,hb⟩:=hf i hi
  rw [Nat.zero_add]
  exact ⟨h6,hb⟩
 have hval: ∀i j,i<len→j<P.cellsOf e→ ∃v,W.cell? ⟨a.block,a.off+(i * P.cellsOf e+j),none⟩=some v∧(a.spot=none)∧ ∃u,(f i)[j]? =some u∧u.one=true∧Rep (fun b _=>b<W.heap.size) W v u:=fun i j hi hj=>by
  obtain ⟨cs,h1,⟨h2,h3,h4,h5,h6⟩,hb⟩:=hf i hi
  obtain ⟨e1,e2⟩:=jl h1
  have hj':j<cs.length:=by omega
  have hju:j<(f i).length:=by omega
  have e3:=e2 j hj
  rw [ggZ hj'] at e3
  have sp:=World.cell?_spot e3
  have spa:a.spot=none:=by
   have h00:=e2 0 (by omega)
   have:=hf 0 (by omega)
   obtain ⟨cs0,g1,⟨g2,g3,_,_,_⟩,_⟩:=this
   obtain ⟨_,q2⟩:=jl g1
   have q3:=q2 0 (by omega)
   rw [ggZ (by omega)] at q3
   simpa [Addr.add] using World.cell?_spot q3
  have ea:((a.add (i * P.cellsOf e)).add j)=⟨a.block,a.off+(i * P.cellsOf e+j),none⟩:=by
   obtain ⟨b,o,sp⟩:=a
   dsimp only at spa
   subst spa
   unfold Addr.add
   split <;> split <;> simp_all <;> omega
  rw [ea] at e3
  exact ⟨_,e3,spa,(f i)[j],by simp [hju],h4 _ (List.getElem_mem hju),h5 j _ _ (ggZ hj') (ggZ hju)⟩
 refine .slice (some a) a.block a.off len cap (P.cellsOf e) _ (fun k=>(W.cell? ⟨a.block,a.off+k,none⟩).getD (.bool false)) (by simp) hlc hu (fun t ht=>?_) (fun h=>?_) (fun k hk=>?_) fun k t ht=>?_
 ·obtain ⟨k,hk⟩:=List.mem_iff_getElem?.1 ht
  obtain ⟨i,j,hi,hj,rfl⟩:=hcell k (by rw [← hlen];exact (gsZ hk).1)
  rw [hget i j hi hj] at hk
  obtain ⟨v,_,_,u,hu,h1,_⟩:=hval i j hi hj
  rw [hu] at hk
  cases hk
  exact h1
 ·rw [hlen] at h
  obtain ⟨i,j,hi,hj,_⟩:=hcell 0 h
  obtain ⟨v,_,sp,_⟩:=hval i j hi hj
  obtain ⟨b,o,s⟩:=a
  dsimp only at sp
  rw [sp]
 ·rw [hlen] at hk
  obtain ⟨i,j,hi,hj,rfl⟩:=hcell k hk
  obtain ⟨v,hv,_⟩:=hval i j hi hj
  refine ⟨by rw [hv];rfl,?_⟩
  exact World.block_lt_of_cell? W ⟨a.block,a.off+(i * P.cellsOf e+j),none⟩ hv
 ·obtain ⟨i,j,hi,hj,rfl⟩:=hcell k (by rw [← hlen];exact (gsZ ht).1)
  rw [hget i j hi hj] at ht
  obtain ⟨v,hv,_,u,hu,_,hr⟩:=hval i j hi hj
  rw [hu] at ht
  cases ht
  rw [hv]
  exact hr
end
section
variable [Glb]
def qT (P:Program) (W:World) (cs:List Value) (fs:List Field) (off:Nat) (us:List T):Prop:=
 off+us.length=cs.length∧(∀ u∈us,u.one=true)∧(∀ (i:Nat) (v:Value) (u:T),cs[off+i]? =some v→us[i]? =some u→Rep (fun b _=>b<W.heap.size) W v u)∧
  ∀f∈fs,off≤f.offset∧ct P f.type ((us.drop (f.offset - off)).take (P.cellsOf f.type))
end
section
theorem kQ {P:Program}: ∀{fs:List Field} {off n:Nat},dF P off fs=n→1≤n→off≤n
 |[],off,n,h,_=>by simp [dF] at h;omega
 |f::fs,off,n,h,h1=>by
  unfold dF at h
  split at h
  ·have:=kQ h h1;omega
  ·omega
theorem gj {P:Program} {W:World} {cs:List Value}: ∀{fs:List Field} {off:Nat} {bs:List Nat},bs.length=fs.length→dF P off fs=cs.length→1≤cs.length→
  (∀ (i:Nat) (f:Field),fs[i]? =some f→ ∃us,Got P W f.type ((cs.drop f.offset).take (P.cellsOf f.type)) us∧aR us≤bs.getD i 0)→ ∃us,qT P W cs fs off us∧aR us≤bs.sum
 |[],off,bs,hbs,h,h1,hg=>by
  simp only [dF] at h
  exact ⟨[],⟨by simpa using h,by simp,by simp,by simp⟩,by simp [aR]⟩
 |f::fs,off,b::bs,hbs,h,h1,hg=>by
  unfold dF at h
  split at h
  ·rename_i ho
   obtain ⟨us,⟨g1,g2,g3,g4,g5⟩,gb⟩:=hg 0 f rfl
   obtain ⟨vs,⟨k1,k2,k3,k4⟩,kb⟩:=gj (bs:=bs) (by simpa using hbs) h h1 fun i g hgm=>by simpa using hg (i+1) g (by simpa using hgm)
   have hle:=kQ h h1
   have hl:us.length=P.cellsOf f.type:=by rw [g1];exact g2
   refine ⟨us++vs,⟨by simp;omega,fun u hu=>(List.mem_append.1 hu).elim (g3 u) (k2 u),fun i v u hv hu=>?_,fun g hgm=>?_⟩,by
    rw [gM,List.sum_cons]
    simp at gb
    omega⟩
   ·rcases Nat.lt_or_ge i us.length with hi|hi
    ·rw [List.getElem?_append_left hi] at hu
     refine g4 i v u ?_ hu
     rw [List.getElem?_take_of_lt (by omega),List.getElem?_drop,ho]
     exact hv
    ·rw [List.getElem?_append_right hi] at hu
     refine k3 (i - us.length) v u ?_ hu
     rw [← hl]
     have:off+us.length+(i - us.length)=off+i:=by omega
     rw [this]
     exact hv
   ·rcases List.mem_cons.1 hgm with rfl|hm
    ·refine ⟨by omega,?_⟩
     rw [ho,Nat.sub_self,List.drop_zero, ←hl,List.take_left']
     ·exact g5
     ·rfl
    ·obtain ⟨q1,q2⟩:=k4 g hm
     refine ⟨by omega,?_⟩
     have e:(us++vs).drop (g.offset - off)=vs.drop (g.offset - (off+P.cellsOf f.type)):=by
      rw [List.drop_append,List.drop_eq_nil_of_le (by omega),List.nil_append]
      congr 1
      omega
     rw [e]
     exact q2
  ·omega
theorem jr {P:Program} {e:TypeId}: ∀(m k:Nat),dF P (k * P.cellsOf e) ((List.range' k m).map fun i=>{name:= "",type:=e,offset:=i * P.cellsOf e,embedded:=false,tag:= "",pkgPath:= "",byteOffset:=0 })=(k+m) * P.cellsOf e
 |0,k=>rfl
 |m+1,k=>by
  rw [List.range'_succ,List.map_cons]
  unfold dF
  rw [if_pos rfl]
  have:=jr (P:=P) (e:=e) m (k+1)
  dsimp only at this ⊢
  rw [Nat.succ_mul] at this
  rw [this]
  congr 1
  omega
theorem jI {P:Program} {W:World} {H:Type} (K:Weigh H) {enc:TypeId×Value→H} {base:Nat} {spare:Nat→Bool} {held:Bool} {L:List TypeId} (hL:eJ P L=true):
  ∀(fuel:Nat) (t:TypeId) (cs:List Value) (x:DataW H×List MemPlace),t∈L→DataW.trod enc P W base spare held fuel t cs=some x→ ∃us,Got P W t cs us∧aR us≤K.B x.1
 |0,t,cs,x,ht,h=>by simp [DataW.trod] at h
 |fuel+1,t,cs,x,ht,h=>by
  have ih:=jI (P:=P) (W:=W) K (enc:=enc) (base:=base) (spare:=spare) (held:=held) hL fuel
  have hc:=List.all_eq_true.1 hL t ht
  unfold DataW.trod at h
  cases hu:P.underlying t with
  |none=>rw [hu] at hc;cases hc
  |some d=>
   rw [hu] at hc h
   cases d <;> try (simp at hc;done)
   case bool=>
    have hc:P.cellsOf t=1:=by simpa using hc
    split at h <;> try (simp_all;done)
    rename_i b _
    cases h
    exact ⟨[.bool b],fP hc rfl (.bool b) (.bool hu b),by have:=K.lit (.bool b);simpa [aR,T.bulk] using this⟩
   case int k=>
    have hc1:P.cellsOf t=1:=by simpa using hc
    clear hc
    split at h <;> try (simp_all;done)
    rename_i k1 k2 n he
    cases he
    split at h
    ·rename_i hk
     obtain ⟨rfl,hw⟩:=hk
     cases h
     exact ⟨[.int _ n],fP hc1 rfl (.int _ n) (.int hu n hw),by have:=K.lit (.int k2 n);simpa [aR,T.bulk] using this⟩
    ·cases h
   case string=>
    have hc:P.cellsOf t=1:=by simpa using hc
    split at h <;> try (simp_all;done)
    rename_i s _
    split at h
    ·rename_i hk
     cases h
     exact ⟨[.str s],fP hc rfl (.str s) (.str hu s hk),by have:=K.str s.data.toList;simpa [aR,T.bulk] using this⟩
    ·cases h
   case slice e=>
    simp only [Bool.and_eq_true,List.contains_iff_mem] at hc
    have hc1:P.cellsOf t=1:=by simpa using hc.1
    have he:=hc.2
    clear hc
    split at h <;> try (simp_all;done)
    ·cases h
     exact ⟨[.nil],fP hc1 rfl .nil (.nil hu),by have:=K.nil;simpa [aR,T.bulk] using this⟩
    ·rename_i e1 a len cap h1
     cases h1
     dsimp only at h
     split at h
     ·rename_i hb
      obtain ⟨elems,h2,hrest⟩:=Option.bind_eq_some_iff.1 h
      obtain ⟨rest,_,hx⟩:=Option.map_eq_some_iff.1 hrest
      have h3:elems.length=len:=by simpa using mapM_some_length h2
      obtain ⟨xs,x1,x2,xb,x3⟩:=oA (W:=W) hL he (base:=base) (a:=a) hb.2.1 (bs:=(elems.map (·.1)).map K.B) (by simpa using h3) fun i hi=>by
       have h4:=mapM_some_get h2 i i (by simp [hi])
       rw [ggZ (by omega)] at h4
       obtain ⟨cs,h5,h6⟩:=Option.bind_eq_some_iff.1 h4
       obtain ⟨us,h7,h8⟩:=ih e cs _ he h6
       exact ⟨cs,us,h5,h7,by simp [ggZ (show i<elems.length by omega)];exact h8⟩
      refine ⟨_,fP hc1 rfl x3 (.slice hu xs x2 (by omega)),?_⟩
      have q1:=K.sum (elems.map (·.1))
      have q2:=K.slice (elems.map (·.1)) (rest.map (·.1))
      cases hx
      simp only [aR,T.bulk]
      omega
     ·cases h
   case struct fs=>
    simp only [Bool.and_eq_true,List.contains_iff_mem,List.all_eq_true] at hc
    have hd:dF P 0 fs.toList=P.cellsOf t:=by simpa using hc.1.2
    have hp:1≤P.cellsOf t:=by simpa using hc.2
    have hm:=hc.1.1
    clear hc
    split at h <;> try (simp_all;done)
    rename_i fs' h1
    cases h1
    split at h
    ·rename_i hl
     obtain ⟨ys,h2,hx⟩:=Option.map_eq_some_iff.1 h
     obtain ⟨us,⟨q1,q2,q3,q4⟩,qb⟩:=gj (P:=P) (W:=W) (fs:=fs.toList) (off:=0) (bs:=(ys.map (·.1)).map K.B) (by simpa using mapM_some_length h2) (by rw [hd];exact hl.symm) (by omega) fun i f hi=>by
      have h3:=mapM_some_get h2 i f hi
      have h4:i<ys.length:=by rw [mapM_some_length h2];exact (gsZ hi).1
      rw [ggZ h4] at h3
      obtain ⟨us,u1,u2⟩:=ih f.type _ _ (hm f (List.mem_of_getElem? hi)) h3
      exact ⟨us,u1,by simp [ggZ h4];exact u2⟩
     refine ⟨us,⟨by omega,hl,q2,fun i=>by simpa using q3 i,.struct hu us (by omega) fun f hf=>by simpa using (q4 f hf).2⟩,?_⟩
     have z1:=K.sum (ys.map (·.1))
     have z2:=K.agg (ys.map (·.1))
     cases hx
     dsimp only
     omega
    ·cases h
   case array n e=>
    simp only [Bool.and_eq_true,List.contains_iff_mem] at hc
    have hd:P.cellsOf t=n * P.cellsOf e:=by simpa using hc.1.2
    have hnz:1≤P.cellsOf t:=by simpa using hc.2
    have he:=hc.1.1
    clear hc
    split at h <;> try (simp_all;done)
    rename_i c0 n' e' h1
    cases h1
    rename_i c1 _
    split at h
    ·rename_i hl
     obtain ⟨ys,h2,hx⟩:=Option.map_eq_some_iff.1 h
     have hg: ∀i,i<n→ ∃us,Got P W e ((c1.drop (i * P.cellsOf e)).take (P.cellsOf e)) us∧aR us≤((ys.map (·.1)).map K.B).getD i 0:=fun i hi=>by
      have h3:=mapM_some_get h2 i i (by simp [hi])
      have h4:i<ys.length:=by rw [mapM_some_length h2];simpa using hi
      rw [ggZ h4] at h3
      obtain ⟨us,u1,u2⟩:=ih e _ _ he h3
      exact ⟨us,u1,by simp [ggZ h4];exact u2⟩
     have hdr:=jr (P:=P) (e:=e) n 0
     rw [Nat.zero_mul,Nat.zero_add, ←List.range_eq_range'] at hdr
     rcases Nat.eq_zero_or_pos (n * P.cellsOf e) with h0|h0
     ·have hz:P.cellsOf t=0:=by omega
      simp [hz] at hnz
     ·obtain ⟨us,⟨q1,q2,q3,q4⟩,qb⟩:=gj (P:=P) (W:=W) (cs:=c1) (fs:=(List.range n).map fun i=>{name:= "",type:=e,offset:=i * P.cellsOf e,embedded:=false,tag:= "",pkgPath:= "",byteOffset:=0 }) (off:=0) (bs:=(ys.map (·.1)).map K.B) (by simpa using mapM_some_length h2) (by rw [hdr];omega) (by omega) fun i f hf=>by
       rw [List.getElem?_map] at hf
       obtain ⟨j,hj,rfl⟩:=Option.map_eq_some_iff.1 hf
       obtain ⟨hi,rfl⟩:=gsZ hj
       have:=hg i (by simpa using hi)
       simpa using this
      refine ⟨us,⟨by omega,hl,q2,fun i=>by simpa using q3 i,.array hu us (by omega) fun i hi=>by simpa using (q4 _ (List.mem_map.2 ⟨i,List.mem_range.2 hi,rfl⟩)).2⟩,?_⟩
      have z1:=K.sum (ys.map (·.1))
      have z2:=K.agg (ys.map (·.1))
      cases hx
      dsimp only
      omega
    ·cases h
end
section
variable [Glb]
end
end Go.DL
end
section
namespace Go.DL
open Go Go.ChangeShapes Go.WideShapes Go.ChangeAt Go.RowKit
section
variable [Glb]
end
section
theorem ph {P:Program} {W:World} {H:Type} (K:Weigh H) {enc:TypeId×Value→H} {base:Nat} {spare:Nat→Bool} {held:Bool} {L:List TypeId} (hL:eJ P L=true) {r:Reach} {base':Nat}
  {t:TypeId} {v:Value} {d:DataW H} {p:List MemPlace} (ht:t∈L) (hok:Value.okWide P W r base' t v) (h:DataW.Trod enc P W base spare held t v d p):
  ∃us,ct P t us∧aR us≤K.B d∧Rep (fun b _=>b<W.heap.size) W v (mkT P t us):=by
 obtain ⟨fuel,hf⟩:=h
 obtain ⟨us,⟨g1,g2,g3,g4,g5⟩,gb⟩:=jI K hL fuel t _ _ ht hf
 refine ⟨us,g5,gb,?_⟩
 have hc:=List.all_eq_true.1 hL t ht
 unfold mkT
 unfold Value.okWide at hok
 cases hu:P.underlying t with
 |none=>rw [hu] at hc;cases hc
 |some d=>
  rw [hu] at hc hok
  have one:v.cells= #[v]→Rep (fun b _=>b<W.heap.size) W v (us.headD .nil):=fun hv=>by
   rw [hv] at g1 g4
   have h1:us.length=1:=g1
   match us,h1 with
   |[u],_=>exact g4 0 v u rfl rfl
  have agg:(∃ cs,v= .agg cs∧cs.size=P.cellsOf t∧Row.okWide P W r base' t cs)→Rep (fun b _=>b<W.heap.size) W v (.agg us):=fun ⟨cs,hv,_,_⟩=>by
   subst hv
   have e:(Value.agg cs).cells.toList=cs.toList:=rfl
   rw [e] at g1 g4
   exact .agg cs us (by simpa using g1.symm) g3 fun i x u hx hu=>g4 i x u (by simpa using hx) hu
  cases d <;> try (simp at hc;done)
  case bool=>exact one (by unfold Cell.okWide Cell.ok at hok;rw [hu] at hok;cases v <;> first|rfl|cases hok)
  case int k=>exact one (by unfold Cell.okWide Cell.ok at hok;rw [hu] at hok;cases v <;> first|rfl|cases hok)
  case string=>exact one (by unfold Cell.okWide Cell.ok at hok;rw [hu] at hok;cases v <;> first|rfl|cases hok)
  case slice e=>exact one (by unfold Cell.okWide Cell.ok at hok;rw [hu] at hok;cases v <;> first|rfl|cases hok)
  case struct fs=>exact agg hok
  case array n e=>exact agg hok
end
section
variable [Glb]
def HasAll (P:Program):List TypeId→List (List T)→Prop
 |[],[]=>True
 |t::ts,us::uss=>ct P t us∧HasAll P ts uss
 |_,_=>False
def mkAll (P:Program):List TypeId→List (List T)→List T
 |t::ts,us::uss=>mkT P t us::mkAll P ts uss
 |_,_=>[]
def bulkA:List (List T)→Nat
 |[]=>0
 |us::uss=>aR us+bulkA uss
end
section
theorem kH {P:Program} {W:World} {H:Type} (K:Weigh H) {enc:TypeId×Value→H} {spare:Nat→Bool} {held:Bool} {L:List TypeId} (hL:eJ P L=true) {base base':Nat} {r:Reach}:
  ∀{ts:List TypeId} {vs:List Value} {ds:List (DataW H)} {p:List MemPlace},(∀ t∈ts,t∈L)→(∀ (j:Nat) t v,ts[j]? =some t→vs[j]? =some v→Value.okWide P W r base' t v)→
   DataW.TrodAll enc P W base spare held ts vs ds p→ ∃uss,HasAll P ts uss∧bulkA uss≤K.BA ds∧vs.length=(mkAll P ts uss).length∧
    ∀(i:Nat) (v:Value) (t:T),vs[i]? =some v→(mkAll P ts uss)[i]? =some t→Rep (fun b _=>b<W.heap.size) W v t
 |[],vs,ds,p,_,_,h=>by
  obtain ⟨rfl,rfl,rfl⟩:=trodAll_nil h
  exact ⟨[],trivial,by simp [bulkA],rfl,by simp⟩
 |t::ts,vs,ds,p,hm,hok,h=>by
  obtain ⟨v,vs',d,ds',q,q',rfl,rfl,rfl,h1,h2⟩:=trodAll_cons h
  obtain ⟨us,a1,ab,a2⟩:=ph K hL (hm t (by simp)) (hok 0 t v rfl rfl) h1
  obtain ⟨uss,b1,bb,b2,b3⟩:=kH K hL (fun x hx=>hm x (by simp [hx])) (fun j t v ht hv=>hok (j+1) t v (by simpa using ht) (by simpa using hv)) h2
  refine ⟨us::uss,⟨a1,b1⟩,by have:=K.allc d ds';simp only [bulkA];omega,by simp [mkAll,b2],fun i x u hx hu=>?_⟩
  cases i with
  |zero=>simp [mkAll] at hx hu;subst hx;subst hu;exact a2
  |succ i=>exact b3 i x u (by simpa using hx) (by simpa [mkAll] using hu)
theorem gJ {P:Program} {W W':World} {H:Type} {enc:TypeId×Value→H} (hl:laidOutB P=true) (hb:Below W.heap.size W W'):
  ∀{ts:List TypeId} {vs:List Value} {ds:List (DataW H)} {p:List MemPlace},ts.all (fun t=>P.readableRec t&&Nat.blt t P.types.size)=true→DataW.TrodAll enc P W 0 (fun _=>true) true ts vs ds p→
   DataW.TrodAll enc P W' 0 (fun b=>decide (b<W.heap.size)) true ts vs ds p
 |[],vs,ds,p,_,h=>by
  obtain ⟨rfl,rfl,rfl⟩:=trodAll_nil h
  exact trodAll_mk0
 |t::ts,vs,ds,p,hr,h=>by
  simp only [List.all_cons,Bool.and_eq_true] at hr
  obtain ⟨v,vs',d,ds',q,q',rfl,rfl,rfl,h1,h2⟩:=trodAll_cons h
  have lt: ∀x∈q,x.block<W.heap.size:=by obtain ⟨m,hm⟩:=h1;exact DataW.trod_lt m _ _ _ hm
  exact trodAll_cons_mk (Go.RowKit.Below.trod hl hr.1.1 (nlZ hr.1.2) h1 hb.toBelow lt) (gJ hl hb hr.2 h2)
theorem iM {P:Program} {W:World} {H:Type} {enc:TypeId×Value→H} {base:Nat} {spare:Nat→Bool} {held:Bool}:
  ∀{ts:List TypeId} {vs:List Value} {ds:List (DataW H)} {p:List MemPlace},DataW.TrodAll enc P W base spare held ts vs ds p→ds.length=ts.length
 |[],vs,ds,p,h=>by
  obtain ⟨rfl,rfl,rfl⟩:=trodAll_nil h
  rfl
 |t::ts,vs,ds,p,h=>by
  obtain ⟨v,vs',d,ds',q,q',rfl,rfl,rfl,h1,h2⟩:=trodAll_cons h
  simp [iM h2]
end
section
variable [Glb]
structure LawFits (C:Checked) (f:Func) (s:ChangeSpec) (L:List TypeId) (tb:TypeId):Prop where
 laid:laidOutB C.prog=true
 closed:eJ C.prog L=true
 params:f.params.toList.all (fun t=>L.contains t)=true
 readable:f.params.toList.all (fun t=>C.prog.readableRec t&&Nat.blt t C.prog.types.size)=true
 res:f.resultTypes.toList=[tb]
 bool:C.prog.underlying tb=some .bool
 vars:s.vars=[]
 fn: ∀(H:Type) (ds:List (DataW H)),ds.length=f.params.toList.length→s.fn H (ds++[])={results:=[.lit (.bool true)],args:=ds }
theorem lQ {C:Checked} {F:FuncId} {f:Func} {H:Type} {enc:TypeId×Value→H} {s:ChangeSpec} {L:List TypeId} {tb:TypeId} (fit:LawFits C f s L tb) (K:Weigh H) {N:Nat}
  (law: ∀uss,HasAll C.prog f.params.toList uss→bulkA uss≤N→DCalls C.prog F (mkAll C.prog f.params.toList uss) (.bool true))
  {W:World} {base:Nat} {args:Array Value} {ds gs:List (DataW H)} {before:List MemPlace}
  (hval: ∀(j:Nat) t v,f.params[j]? =some t→args[j]? =some v→Value.okWide C.prog W .any base t v)
  (hW:DataW.Whole enc C.prog f.params.toList s.vars false W args.toList ds gs before) (hN:K.BA ds≤N) (hG:bI (fun b _=>b<W.heap.size) W):
  Calls C.prog F args W fun e W'=> ∃v,e= .returned v∧s.post enc C.prog f false true false false W args v W':=by
 have hW':=hW
 obtain ⟨p,q,hA,hV,rfl,hfz,hnd⟩:=hW
 rw [fit.vars] at hV
 obtain ⟨rfl,rfl⟩:=trodVars_none hV
 obtain ⟨uss,u1,ub,u2,u3⟩:=kH K fit.closed (fun t ht=>by simpa using List.all_eq_true.1 fit.params t ht) (fun j t v ht hx=>hval j t v (by simpa using ht) (by simpa using hx)) hA
 have hc:=(law uss u1 (Nat.le_trans ub hN)).2 (fun b _=>b<W.heap.size) W args.toList (fun b o h=>h) hG u2 u3
 have hs':=fit.fn H ds (iM hA)
 have e:args.toList.toArray=args:=by simp
 rw [e] at hc
 refine hc.mono fun ex W' ⟨v,he,bel,hrep⟩=>?_
 subst he
 have hv1:v= .bool true:=by cases hrep;rfl
 subst hv1
 refine ⟨_,rfl,_,_,_,[],p,[],hW',?_,?_,?_,bel.frame _,fun h=>by cases h⟩
 ·have h1:f.resultTypes.size=1:=by rw [← Array.length_toList,fit.res];rfl
  rw [fit.res,hs',h1]
  exact trodAll_mk1 (shut_bool fit.bool _)
 ·rw [hs'];exact gJ fit.laid bel fit.readable hA
 ·rw [fit.vars,hs'];exact rfl
theorem law_laid {C:Checked} {os:Os} {F:FuncId} {f:Func} {H:Type} {enc:TypeId×Value→H} {s:ChangeSpec} {S:OpenSpec} {k:(H:Type)→List (DataW H)→Bool} {conds:List PathCond} {laid:List (String×DataW Unit)} {L:List TypeId} {tb:TypeId} (fit:LawFits C f s L tb) (K:Weigh H) {N:Nat}
  (hS:S={OpenSpec.ofChange s with cond:=some k }) (hk: ∀ds,k H ds=true→K.BA ds≤N) {I:Stop.Interp}
  (own:ownKnob C.prog.godebug=none) (started:os.Started) (noInit:C.prog.inits.idxOf? F=none) (hfn:C.prog.funcs[F]? =some f)
  (witness: ∃(w:World) (tape:Tape) (i:Input),w.os=os∧(w.forCall tape i).Shaped C.prog∧i.vars=[]∧Input.okWide C.prog (w.forCall tape i) .any w.heap.size F i∧
   S.preRow enc C.prog f conds false laid (w.forCall tape i).memory i.args∧(({}:Assume)).holds C.prog (lone (Frame.enter C.prog F i.args .normal) [] (w.forCall tape i)))
  (hG: ∀W,laidMetH C.prog laid W→bI (fun b _=>b<W.heap.size) W)
  (law: ∀uss,HasAll C.prog f.params.toList uss→bulkA uss≤N→DCalls C.prog F (mkAll C.prog f.params.toList uss) (.bool true)):
  ReturnsInHanded {} C os F .any (S.preRow enc C.prog f conds false laid) ((S.at I).post enc C.prog f false true false false):=by
 subst hS
 refine returnsInHanded_of_row (s:={OpenSpec.ofChange s with cond:=some k }) own started noInit hfn witness ?_
 intro W base args ds gs before hval hW _ hkk _ hL _ _
 have hkk:=hkk k rfl
 have hg:gs=[]:=by
  obtain ⟨p,q,hA,hV,_,_,_⟩:=hW
  have hv:({OpenSpec.ofChange s with cond:=some k }:OpenSpec).vars=[]:=fit.vars
  rw [hv] at hV
  exact (trodVars_none hV).1
 subst hg
 rw [List.append_nil] at hkk
 exact lQ fit K law hval hW (hk ds hkk) (hG W hL)
end
end Go.DL
end
section
namespace Go.DL
open Go
section
variable [Glb]
end
section
theorem nT_ {t:T} {K:T→Prop} (hk:K t): ∀t',t=t'→K t':=fun _ e=>e▸hk
theorem nv_ {t:T} {K:T→Prop} (t0:T) (h:t=t0) (hk:K t0): ∀t',t=t'→K t':=fun _ e=>by rw [← e,h];exact hk
theorem nb_ {b:Bool} {K:Bool→Prop} (b0:Bool) (h:b=b0) (hk:K b0): ∀b',b=b'→K b':=fun _ e=>by rw [← e,h];exact hk
theorem nD_ {p:Prop} [Decidable p] {K:Bool→Prop} (h1:p→K true) (h0: ¬p→K false): ∀b',decide p=b'→K b':=fun b' e=>match b',e with|true,e=>h1 (of_decide_eq_true e)|false,e=>h0 (of_decide_eq_false e)
theorem qg {p:Prop} [Decidable p] {K:Bool→Prop} (h:p) (hk:K true): ∀b',decide p=b'→K b':=fun b' e=>by rw [← e,decide_eq_true h];exact hk
theorem qe {p:Prop} [Decidable p] {K:Bool→Prop} (h: ¬p) (hk:K false): ∀b',decide p=b'→K b':=fun b' e=>by rw [← e,decide_eq_false h];exact hk
theorem nE_ {x y:Int} {K:Bool→Prop} (h1:x=y→K true) (h0:x≠y→K false): ∀b',(x==y)=b'→K b':=fun b' e=>match b',e with|true,e=>h1 (eq_of_beq e)|false,e=>h0 (by simpa using e)
theorem qi {x y:Int} {K:Bool→Prop} (h:x=y) (hk:K true): ∀b',(x==y)=b'→K b':=fun b' e=>by rw [← e,h,beq_self_eq_true];exact hk
theorem qh {x y:Int} {K:Bool→Prop} (h:x≠y) (hk:K false): ∀b',(x==y)=b'→K b':=fun b' e=>by rw [← e,beq_false_of_ne h];exact hk
theorem nN_ {x y:Int} {K:Bool→Prop} (h1:x≠y→K true) (h0:x=y→K false): ∀b',(x !=y)=b'→K b':=fun b' e=>match b',e with|true,e=>h1 (by simpa using e)|false,e=>h0 (by simpa using e)
theorem qm {x y:Int} {K:Bool→Prop} (h:x≠y) (hk:K true): ∀b',(x !=y)=b'→K b':=fun b' e=>by rw [← e,show (x !=y)=true by simpa using h];exact hk
theorem qj {x y:Int} {K:Bool→Prop} (h:x=y) (hk:K false): ∀b',(x !=y)=b'→K b':=fun b' e=>by rw [← e,h,bne_self_eq_false];exact hk
theorem leB {ks:List Nat} {bx:Nat→Option BX} {x y:Bool} (h:x=y):LeV ks bx (.t (.bool x)) (.t (.bool y)):=by rw [h];exact .same _
theorem rb {x b:Bool} {c:Prop} (h:x=b) (hc:c):some (T.bool x)=some (T.bool b)∧c:=⟨congrArg _ (congrArg _ h),hc⟩
theorem ri {k:IntKind} {n m:Int} {c:Prop} (h:n=m) (hc:c):some (T.int k n)=some (T.int k m)∧c:=⟨congrArg _ (congrArg _ h),hc⟩
end
section
variable [Glb]
end
section
theorem aE1 {x y:Int} {K:Bool→Prop} (hk:K true) (h:x=y:=by first|omega|(simp;done)|(simp;omega)|fail): ∀b',(x==y)=b'→K b':=qi h hk
theorem aE0 {x y:Int} {K:Bool→Prop} (hk:K false) (h:x≠y:=by first|omega|(simp;done)|(simp;omega)|fail): ∀b',(x==y)=b'→K b':=qh h hk
theorem aN1 {x y:Int} {K:Bool→Prop} (hk:K true) (h:x≠y:=by first|omega|(simp;done)|(simp;omega)|fail): ∀b',(x !=y)=b'→K b':=qm h hk
theorem aN0 {x y:Int} {K:Bool→Prop} (hk:K false) (h:x=y:=by first|omega|(simp;done)|(simp;omega)|fail): ∀b',(x !=y)=b'→K b':=qj h hk
theorem aD1 {p:Prop} [Decidable p] {K:Bool→Prop} (hk:K true) (h:p:=by first|omega|(simp;done)|(simp;omega)|fail): ∀b',decide p=b'→K b':=qg h hk
theorem aD0 {p:Prop} [Decidable p] {K:Bool→Prop} (hk:K false) (h: ¬p:=by first|omega|(simp;done)|(simp;omega)|fail): ∀b',decide p=b'→K b':=qe h hk
theorem aS {c K:Prop} (hk:K) (hc:c:=by first|exact trivial|rfl|decide|exact nlZ rfl|assumption|exact ⟨rfl,nlZ rfl⟩|exact ⟨trivial,rfl⟩|exact ⟨⟨trivial,rfl⟩,rfl⟩|omega|(simp;done)|(simp;omega)|(simp [*];done)|fail):c∧K:=⟨hc,hk⟩
theorem rb1 {b:Bool} {c:Prop} (hc:c) (h:true=b:=by first|rfl|(simp;done)|(simp;omega)|(simp [*];done)|(simp [*];omega)|fail):some (T.bool true)=some (T.bool b)∧c:=rb h hc
theorem rb0 {b:Bool} {c:Prop} (hc:c) (h:false=b:=by first|rfl|(simp;done)|(simp;omega)|(simp [*];done)|(simp [*];omega)|fail):some (T.bool false)=some (T.bool b)∧c:=rb h hc
theorem rbx {x b:Bool} {c:Prop} (hc:c) (h:x=b:=by first|rfl|(simp;done)|(simp;omega)|(simp [*];done)|(simp [*];omega)|fail):some (T.bool x)=some (T.bool b)∧c:=rb h hc
theorem rix {k:IntKind} {n m:Int} {c:Prop} (hc:c) (h:n=m:=by first|rfl|omega|(rw [mu] <;> omega)|(simp;omega)|(simp [*];done)|fail):some (T.int k n)=some (T.int k m)∧c:=ri h hc
theorem lI {ks:List Nat} {bx:Nat→Option BX} {n m:Int} (h:n=m:=by first|omega|(rw [mu] <;> omega)|(simp;omega)|(simp [*];done)|fail):LeV ks bx (.t (.int .i64 n)) (.t (.int .i64 m)):=leI h
theorem lB {ks:List Nat} {bx:Nat→Option BX} {x y:Bool} (h:x=y:=by first|rfl|(simp;done)|(simp [*];done)|(simp [*];omega)|fail):LeV ks bx (.t (.bool x)) (.t (.bool y)):=leB h
end
section
variable [Glb]
end
end Go.DL
end
section
namespace Go.DL
open Go
section
variable [Glb]
def Les (t u:T):Prop:= ∀(S:aq) (w:World) (v:Value),Rep S w v t→Rep S w v u
end
section
theorem Les.refl (t:T):Les t t:=fun _ _ _ h=>h
end
section
variable [Glb]
structure df (ts us:List T):Prop where
 len:ts.length=us.length
 one: ∀u∈us,u.one=true
 le: ∀(i:Nat) (t u:T),ts[i]? =some t→us[i]? =some u→Les t u
end
section
theorem df.nil:df [] []:=⟨rfl,by simp,by simp⟩
theorem df.cons {t u:T} {ts us:List T} (h:Les t u) (h1:u.one=true) (k:df ts us):df (t::ts) (u::us):=by
 refine ⟨by simp [k.len],fun x hx=>?_,fun i a b ha hb=>?_⟩
 ·rcases List.mem_cons.1 hx with rfl|hx
  ·exact h1
  ·exact k.one x hx
 ·cases i with
  |zero=>simp at ha hb;subst ha;subst hb;exact h
  |succ i=>exact k.le i a b (by simpa using ha) (by simpa using hb)
theorem df.append {ts us ts' us':List T} (h:df ts us) (k:df ts' us'):df (ts++ts') (us++us'):=by
 refine ⟨by simp [h.len,k.len],fun x hx=>?_,fun i a b ha hb=>?_⟩
 ·rcases List.mem_append.1 hx with hx|hx
  ·exact h.one x hx
  ·exact k.one x hx
 ·rcases Nat.lt_or_ge i ts.length with hi|hi
  ·rw [List.getElem?_append_left hi] at ha
   rw [List.getElem?_append_left (by rw [← h.len];exact hi)] at hb
   exact h.le i a b ha hb
  ·rw [List.getElem?_append_right hi] at ha
   rw [List.getElem?_append_right (by rw [← h.len];exact hi), ←h.len] at hb
   exact k.le _ a b ha hb
theorem Les.nil (n:Nat):Les .nil (.slice n []):=fun _ _ _ h=>Rep.kh n h
theorem Les.agg {ts us:List T} (h:df ts us):Les (.agg ts) (.agg us):=fun S w v r=>by
 cases r with
 |agg cs _ hs h1 hc=>
  refine .agg cs us (hs.trans h.len) h.one fun i x u hx hu=>?_
  have hlt:i<ts.length:=by rw [h.len];exact (gsZ hu).1
  exact h.le i ts[i] u (by simp [hlt]) hu S w x (hc i x ts[i] hx (by simp [hlt]))
theorem df.flat {n:Nat}: ∀{xs ys:List T},xs.length=ys.length→(∀ (i:Nat) (x y:T),xs[i]? =some x→ys[i]? =some y→df x.cells y.cells∧y.cells.length=n)→df (xs.flatMap T.cells) (ys.flatMap T.cells)
 |[],[],_,_=>.nil
 |x::xs,y::ys,hl,h=>by
  simp only [List.flatMap_cons]
  exact (h 0 x y rfl rfl).1.append (df.flat (n:=n) (by simpa using hl) fun i a b ha hb=>h (i+1) a b (by simpa using ha) (by simpa using hb))
 |[],_::_,hl,_=>by simp at hl
 |_::_,[],hl,_=>by simp at hl
theorem Les.slice {n:Nat} {xs ys:List T} (hl:xs.length=ys.length) (h: ∀(i:Nat) (x y:T),xs[i]? =some x→ys[i]? =some y→df x.cells y.cells∧y.cells.length=n):Les (.slice n xs) (.slice n ys):=fun S w v r=>by
 have hf:=df.flat hl h
 cases r with
 |slice a b o len cap _ _ g hl2 hc hu h1 ha hg hr=>
  refine .slice a b o len cap n ys g (by omega) hc (fun y hy=>?_) hf.one (fun h0=>ha (by rw [hf.len];exact h0)) (fun i hi=>hg i (by rw [hf.len];exact hi)) fun i u hu=>?_
  ·obtain ⟨i,hi,rfl⟩:=List.getElem_of_mem hy
   exact (h i xs[i] ys[i] (by simp [show i<xs.length by omega]) (by simp [hi])).2
  ·have hlt:i<(xs.flatMap T.cells).length:=by rw [hf.len];exact (gsZ hu).1
   exact hf.le i _ u (ggZ hlt) hu S w (g i) (hr i _ (ggZ hlt))
end
section
variable [Glb]
theorem DCalls.les {P:Program} {f:FuncId} {ts us:List T} {r:T} (hl:ts.length=us.length) (hle: ∀(i:Nat) (t u:T),ts[i]? =some t→us[i]? =some u→Les t u) (h:DCalls P f us r):DCalls P f ts r:=
 h.less hl fun S w i v t u ht hu hr=>hle i t u ht hu S w v hr
def lesAll:List T→List T→Prop
 |[],[]=>True
 |t::ts,u::us=>Les t u∧lesAll ts us
 |_,_=>False
end
section
theorem jA: ∀{ts us:List T},lesAll ts us→ts.length=us.length
 |[],[],_=>rfl
 |t::ts,u::us,h=>by simp [jA h.2]
theorem jz: ∀{ts us:List T},lesAll ts us→ ∀(i:Nat) (t u:T),ts[i]? =some t→us[i]? =some u→Les t u
 |[],[],_,i,t,u,h,_=>by simp at h
 |a::ts,b::us,h,i,t,u,ht,hu=>by
  cases i with
  |zero=>simp at ht hu;subst ht;subst hu;exact h.1
  |succ i=>exact jz h.2 i t u (by simpa using ht) (by simpa using hu)
end
section
variable [Glb]
theorem DCalls.lesAll {P:Program} {f:FuncId} {ts us:List T} {r:T} (h:DCalls P f us r) (hle:lesAll ts us):DCalls P f ts r:=
 DCalls.les (jA hle) (jz hle) h
end
end Go.DL
end
section
namespace Go.DL
open Go.RowKit
section
variable [Glb] {P:Program} {X:List FuncId} {N:Nat} {w0:World} {S0:aa} {E:Env} {st:St} {n:Nat} {ro:Option Nat}
abbrev fw (ro:Option Nat):Fence:={Fence.wide with round:=ro }
end
section
variable {P:Program} {X:List FuncId} {N:Nat} {w0:World} {S0:aa} {E:Env} {st:St} {n:Nat} {ro:Option Nat}
theorem kL {f:FuncId} {args:Array Value} {w:World} {R:Ending→World→Prop} (h:Calls P f args w R):CallsIn (fw ro) n P f args w R:=(callsIn_wide (n:=n)).2 h
theorem pA {row:String} {args:Array Value} {w:World} {R:Value→World→Prop} (h:Rows P row args w R):RowsIn (fw ro) n P row args w R:=
 fun c cs _=>let ⟨v,w',r,s⟩:=h c cs;⟨v,w',r,stepsIn_wide.2 s⟩
theorem qK {o:Oper} (hd: ∀c,o.op≠ .defer c) {a:Act} {w:World} {K:Act→World→Prop} {Q:Exit→Act→World→Prop} (h:o.wp P a w K Q):o.wpIn (fw ro) n P a w K Q:=by
 refine ⟨fun _ _=>trivial,?_⟩
 rw [Oper.semAt_eq _ _ _ hd]
 unfold Oper.wp at h
 generalize (execOp a.eval o).run P w=r at h ⊢
 cases r with
 |ok x w'=>
  cases x with
  |value v=>exact h
  |skip=>exact h
  |defer d=>exact h
  |enter f args=>exact ⟨fun hh=>(by cases hh),kL h⟩
  |row r args=>exact ⟨fun hh=>(by cases hh),pA h⟩
  |_=>exact h.elim
 |halt x w'=>cases x <;> first|exact h|exact h.elim
theorem np {ops:Array Oper} (hd: ∀(k:Nat) (o:Oper),ops[k]? =some o→ ∀c,o.op≠ .defer c) {Q:Exit→Act→World→Prop} (hQ: ¬LetsOut Q) {i:Nat} {K:Act→World→Prop} {a:Act} {w:World} (h:wpOp P ops Q i K a w):wpOpIn (fw ro) n P ops Q i K a w:=by
 unfold wpOp at h
 unfold wpOpIn
 cases ho:ops[i]? with
 |none=>rw [ho] at h;exact h
 |some o=>
  rw [ho] at h
  dsimp only at h ⊢
  split
  ·rename_i hw
   rw [if_pos hw] at h
   rcases h with h|h
   ·exact qK (hd i o ho) h
   ·exact absurd h.2 hQ
  ·rename_i hw
   rw [if_neg hw] at h
   exact ⟨fun _ _=>trivial,h⟩
theorem nq {ops:Array Oper} (hd: ∀(k:Nat) (o:Oper),ops[k]? =some o→ ∀c,o.op≠ .defer c) {Q:Exit→Act→World→Prop} (hQ: ¬LetsOut Q): ∀{l:List Nat} {a:Act} {w:World},wpOps P ops Q l a w→wpOpsIn (fw ro) n P ops Q l a w
 |[],_,_,h=>h
 |i::l,a,w,h=>by
  rw [wpOps_cons] at h
  rw [wpOpsIn_cons]
  exact wpOpIn_mono (fun a w=>nq hd hQ) (np hd hQ h)
theorem mS {ops:Array Oper} {md:Region.Mode} (hd: ∀(k:Nat) (o:Oper),ops[k]? =some o→ ∀c,o.op≠ .defer c) {Q:Exit→Act→World→Prop} (hQ: ¬LetsOut Q): ∀{fuel:Nat} {listed:Array Bool} {a:Act} {w:World},wpAny P md ops Q fuel listed a w→wpAnyIn (fw ro) n P md ops Q fuel listed a w
 |0,_,_,_,h=>h
 |_+1,_,_,_,h=>⟨h.1,fun i hi=>wpOpIn_mono (fun _ _=>mS hd hQ) (np hd hQ (h.2 i hi))⟩
theorem lW {op:Op} {x:DOp} (hl:ai P op=some x): ∀c,op≠ .defer c:=fun c e=>by subst e;cases hl
theorem gG {ops:Array Oper} {is:List DI} (hl:bT P N X ops ops.toList=some is): ∀(k:Nat) (o:Oper),ops[k]? =some o→ ∀c,o.op≠ .defer c:=fun k o ho=>by
 obtain ⟨i,hi,hli⟩:=(bh hl).2 k o (Array.getElem?_toList.trans ho)
 obtain ⟨⟨x,h1,_⟩,_⟩:=eP hli
 exact lW h1
end
section
variable [Glb] {P:Program} {X:List FuncId} {N:Nat} {w0:World} {S0:aa} {E:Env} {st:St} {n:Nat} {ro:Option Nat}
theorem kV {ds:List Deferred} {K:ax→St→Prop}: ¬LetsOut (bc N w0 S0 ds K):=fun ⟨_,_,h⟩=>h
theorem nu {a:Act} (h:SR N w0 S0 E st a.tmps) {ops:Array Oper} {is:List DI} (hl:bT P N X ops ops.toList=some is) {K:ax→St→Prop}
  (hw:aw P is st (K .normal)) {id:Nat}:(Code.region id ops false).wpIn (fw ro) n P (bc N w0 S0 a.defers K) a E.w:=by
 refine wpIn_region (nq (gG hl) kV (jY hl (K:=K .normal) (fun a w hh=>hh) _ (fun k hk=>by simpa using hk) h rfl ?_))
 have:ops.size=is.length:=by simpa using (bh hl).1
 rw [this,gD]
 exact hw
theorem lr {a:Act} (hm:P.follows .mixedOrders=true) (h:SR N w0 S0 E st a.tmps) {ops:Array Oper} {is:List DI} (hl:bT P N X ops ops.toList=some is) (hok:gU is=true) {K:ax→St→Prop}
  (hw:bU P (er is) (fun _=>[]) (eu 0 is) st (K .normal)) {id:Nat}:(Code.region id ops true).wpIn (fw ro) n P (bc N w0 S0 a.defers K) a E.w:=by
 refine wpIn_region_any hm (mS (gG hl) kV (lK (E:={E with w:=E.w.drew }) hl hok (mc is) (K:=K .normal) (fun a w hh=>hh) _ _ _ h.drew rfl (by simp) rfl ?_ ?_ ?_))
 ·rw [List.filter_eq_self.2]
  ·simp
  ·intro k hk
   rw [List.mem_range] at hk
   simp [hk]
 ·intro k hk
  exfalso
  by_cases hlt:k<ops.size
  ·simp [hlt] at hk
  ·simp [hlt] at hk
 ·rw [List.filter_eq_self.2]
  ·have:ops.size=is.length:=by simpa using (bh hl).1
   rw [this]
   rw [hZ (is:=is) is 0 (fun m=>by simp)] at hw
   rw [← List.range_eq_range'] at hw
   exact hw
  ·intro k hk
   rw [List.mem_range] at hk
   simp [hk]
def aV.cg:aV→Bool
 |.seq a b=>a.cg&&b.cg
 |.cond _ a b=>a.cg&&b.cg
 |.block _ b=>b.cg
 |.loop b=>b.cg
 |.cut b=>b.cg
 |.sem _ _=>false
 |_=>true
def bV:Code→Bool
 |.seq a b=>bV a&&bV b
 |.cond _ a b=>bV a&&bV b
 |.block _ b=>bV b
 |.loop b=>bV b
 |.scope _=>false
 |_=>true
end
section
variable {P:Program} {X:List FuncId} {N:Nat} {w0:World} {S0:aa} {E:Env} {st:St} {n:Nat} {ro:Option Nat}
theorem ki {b:Bool} {d:aV} (h:(cond b (.cut d) d).cg=true):d.cg=true:=by cases b <;> exact h
end
section
variable [Glb] {P:Program} {X:List FuncId} {N:Nat} {w0:World} {S0:aa} {E:Env} {st:St} {n:Nat} {ro:Option Nat}
theorem kO {c:Code} {b:Bool} {d:aV} {a:Act} {E:Env} {st:St} {K:ax→St→Prop} (_:SR N w0 S0 E st a.tmps) (hw:wpC P (cond b (.cut d) d) st K)
  (hh: ∀K,wpC P d st K→c.wpIn (fw ro) n P (bc N w0 S0 a.defers K) a E.w):c.wpIn (fw ro) n P (bc N w0 S0 a.defers K) a E.w:=by
 cases b with
 |false=>exact hh K hw
 |true=>
  have hw:fZ (wpC P d) st K:=hw
  unfold fZ at hw
  obtain ⟨R,hR,hend⟩:=hw
  exact wpIn_mono (hh R hR) fun e a' w' h=>bc.less (bc.mono hend h)
theorem qt (hm:P.follows .mixedOrders=true): ∀{c:Code} {d:aV} (_:bz P N X c=some d) (_:d.cg=true) (_:bV c=true) {a:Act} {E:Env} {st:St} {K:ax→St→Prop} (_:SR N w0 S0 E st a.tmps) (_:wpC P d st K),
  c.wpIn (fw ro) n P (bc N w0 S0 a.defers K) a E.w:=by
 intro c
 induction c with
 |skip=>
  intro d hl hns hsc a E st K h hw
  cases hl
  exact wpIn_skip ⟨E,st,rfl,h,rfl,hw⟩
 |ret=>
  intro d hl hns hsc a E st K h hw
  cases hl
  exact wpIn_ret ⟨E,st,rfl,h,rfl,hw⟩
 |exit id=>
  intro d hl hns hsc a E st K h hw
  cases hl
  exact wpIn_exit ⟨E,st,rfl,h,rfl,hw⟩
 |region id ops draw=>
  intro d hl hns hsc a E st K h hw
  unfold bz at hl
  cases hX:X.contains (1000000+id) with
  |true=>
   rw [hX] at hl
   cases hl
   cases hns
  |false=>
  rw [hX] at hl
  simp only [cond_false] at hl
  split at hl
  ·rename_i is his
   rw [cond_eq_ite] at hl
   split at hl
   ·rename_i hc
    obtain rfl:=(Option.some.inj hl).symm
    refine kO h (c:=.region id ops draw) hw fun K hw=>?_
    cases draw with
    |false=>exact nu h his (b7.1 hw)
    |true=>
     have hw:wpC P (.region (is.map DI.bare) (er is)) st K:=hw
     have hw':bU P (er is) (fun _=>[]) (eu 0 is) st (K .normal):=by
      revert hw
      cases er is with
      |nil=>
       intro hw
       refine jc ?_
       have: ∀(l:List DI) (k:Nat),(eu k l).map (·.2)=l:=fun l=>by
        induction l with
        |nil=>exact fun _=>rfl
        |cons i l ih=>exact fun k=>congrArg (i:: ·) (ih (k+1))
       rw [this]
       exact b7.1 hw
      |cons p r=>exact fun hw=>eH.1 hw
     exact lr hm h his (by simpa using hc) hw'
   ·cases hl
  ·cases hl
 |seq x y ih1 ih2=>
  intro d hl hns hsc a E st K h hw
  unfold bz at hl
  split at hl
  ·rename_i dx dy hx hy
   obtain rfl:=(Option.some.inj hl).symm
   obtain ⟨cb,hcb⟩:=kM (X:=X) (a:=x) (d:=.seq dx dy)
   rw [hcb] at hw hns
   have hn2:dx.cg=true∧dy.cg=true:=(Bool.and_eq_true _ _).mp (ki hns)
   have hs2:bV x=true∧bV y=true:=(Bool.and_eq_true _ _).mp hsc
   refine kO h (c:=.seq x y) hw fun K hw=>?_
   refine wpIn_seq (wpIn_mono (ih1 hx hn2.1 hs2.1 h hw) ?_)
   intro e a' w' hh
   cases e with
   |normal=>
    obtain ⟨E',st',rfl,hsr,hdf,hk⟩:=hh
    rw [← hdf]
    exact ih2 hy hn2.2 hs2.2 hsr hk
   |exit id=>exact hh
   |ret=>exact hh
   |goto l=>exact hh
   |panic ch=>exact hh
   |outgrown=>exact hh
  ·cases hl
 |cond c x y ih1 ih2=>
  intro d hl hns hsc a E st K h hw
  unfold bz at hl
  split at hl
  ·rename_i z dx dy hz hx hy
   cases hl
   have hv:=ah h.sl hz
   have hn2:dx.cg=true∧dy.cg=true:=(Bool.and_eq_true _ _).mp hns
   have hs2:bV x=true∧bV y=true:=(Bool.and_eq_true _ _).mp hsc
   have hw:eA z (wpC P dx) (wpC P dy) st K:=hw
   unfold eA at hw
   split at hw
   ·rename_i hb
    rw [hb] at hv
    exact wpIn_cond_true hv.aQ (ih1 hx hn2.1 hs2.1 h hw)
   ·rename_i hb
    rw [hb] at hv
    exact wpIn_cond_false hv.aQ (ih2 hy hn2.2 hs2.2 h hw)
   ·exact hw.elim
  ·cases hl
 |block id b ih=>
  intro d hl hns hsc a E st K h hw
  unfold bz at hl
  split at hl
  ·rename_i db hb
   obtain rfl:=(Option.some.inj hl).symm
   refine kO h (c:=.block id b) hw fun K hw=>?_
   refine wpIn_block (wpIn_mono (ih hb (show db.cg=true from ki (d:=.block id db) hns) hsc h hw) ?_)
   intro e a' w' hh
   cases e with
   |normal=>exact hh
   |exit k=>
    have hh:bo N w0 S0 a.defers (fun st'=>bif Nat.beq k id then K .normal st' else K (.exit k) st') a' w':=hh
    show if k=id then _ else _
    by_cases hk:k=id
    ·rw [if_pos hk]
     obtain ⟨E',st',e1,e2,e3,e4⟩:=hh
     rw [hk,bE] at e4
     exact ⟨E',st',e1,e2,e3,e4⟩
    ·rw [if_neg hk]
     obtain ⟨E',st',e1,e2,e3,e4⟩:=hh
     rw [eM hk] at e4
     exact ⟨E',st',e1,e2,e3,e4⟩
   |ret=>exact hh
   |goto l=>exact hh
   |panic ch=>exact hh
   |outgrown=>exact hh
  ·cases hl
 |loop b ih=>
  intro d hl hns hsc a E st K h hw
  unfold bz at hl
  split at hl
  ·rename_i db hb
   cases hl
   have hw:ed (wpC P db) st K:=hw
   unfold ed at hw
   obtain ⟨I,n0,s0,hs0,hi0,round⟩:=hw
   refine wpIn_loop_ghost (fun n a' w'=>a'.defers=a.defers∧ ∃(E':Env) (s:Wk),E'.w=w'∧SR N w0 S0 E' s.mk' a'.tmps∧I n s) n0 ?_ ?_
   ·obtain ⟨E',he,hsr⟩:=h.bL hs0
    exact ⟨rfl,E',s0,he,hsr,hi0⟩
   ·rintro n a1 w1 ⟨hdf,E1,s,rfl,hsr,hi⟩
    obtain ⟨R,hR,hend⟩:=round n s hi
    refine wpIn_mono (ih hb hns hsc hsr hR) ?_
    intro e a' w' hh
    have hh:=bc.mono hend hh
    rw [hdf] at hh
    cases e with
    |normal=>
     obtain ⟨E',st',rfl,hsr',hdf',m,s',hlt,hs',hi'⟩:=hh
     obtain ⟨E'',he,hsr''⟩:=hsr'.bL hs'
     exact ⟨m,hlt,hdf',E'',s',he,hsr'',hi'⟩
    |exit id=>
     obtain ⟨E',st',rfl,hsr',hdf',hq|⟨s',hs',hq⟩⟩:=hh
     ·exact ⟨E',st',rfl,hsr',hdf',hq⟩
     ·obtain ⟨E'',he,hsr''⟩:=hsr'.bL hs'
      exact ⟨E'',s'.mk',he,hsr'',hdf',hq⟩
    |ret=>exact hh
    |goto l=>exact hh
    |panic ch=>exact hh
    |outgrown=>exact hh
  ·cases hl
 |label l=>
  intro d hl hns hsc a E st K h hw
  cases hl
  exact wpIn_label ⟨E,st,rfl,h,rfl,hw⟩
 |scope b ih=>intro d hl hns hsc;cases hsc
 |_=>intro d hl;cases hl
end
end Go.DL
end
section
namespace Go.DL
open Go.RowKit
section
variable [Glb] {P:Program} {X:List FuncId} {N:Nat} {w0:World} {S0:aa} {E:Env} {st:St} {n:Nat} {ro:Option Nat}
abbrev mkD (D:Nat):Deferred:={target:=.collected D,args:= #[]}
structure Ext (A B:aa):Prop where
 s:B.S=A.S
 v:B.vals=A.vals
 o: ∀g o,A.objs g=some o→ ∃o',B.objs g=some o'∧(∀ x,o= .deferred x→o'=o)∧ ∀r,o= .loop r→ ∃r',o'= .loop r'
end
section
variable {P:Program} {X:List FuncId} {N:Nat} {w0:World} {S0:aa} {E:Env} {st:St} {n:Nat} {ro:Option Nat}
theorem Ext.refl (S:aa):Ext S S:=⟨rfl,rfl,fun _ o h=>⟨o,h,fun _ _=>rfl,fun r hr=>⟨r,hr⟩⟩⟩
theorem Ext.trans {A B C:aa} (h:Ext A B) (k:Ext B C):Ext A C:=⟨k.s.trans h.s,k.v.trans h.v,fun g o hg=>by
 obtain ⟨o1,h1,h2,h3⟩:=h.o g o hg
 obtain ⟨o2,k1,k2,k3⟩:=k.o g o1 h1
 refine ⟨o2,k1,fun x hx=>?_,fun r hr=>?_⟩
 ·have e:=h2 x hx
  rw [k2 x (e.trans hx),e]
 ·obtain ⟨r',hr'⟩:=h3 r hr
  exact k3 r' hr'⟩
end
section
variable [Glb] {P:Program} {X:List FuncId} {N:Nat} {w0:World} {S0:aa} {E:Env} {st:St} {n:Nat} {ro:Option Nat}
structure Mks (S0:aa) (w0:World) (ro:Option Nat) (Ds:List Nat) (ds:List Deferred):Prop where
 eq:ds=Ds.map mkD
 nodup:Ds.Nodup
 obj: ∀D∈Ds,S0.objs D=some (.deferred (some []))∧w0.heap.size≤D
 ro: ∀l,ro=some l→ ∃r,S0.objs l=some (.loop r)
structure Dn (S0:aa) (ro:Option Nat) (Ds Ds':List Nat):Prop where
 r:ro≠none→Ds'=Ds
 n: ∀D∈Ds',D∈Ds∨S0.objs D=none
end
section
variable {P:Program} {X:List FuncId} {N:Nat} {w0:World} {S0:aa} {E:Env} {st:St} {n:Nat} {ro:Option Nat}
theorem Dn.refl {Ds:List Nat}:Dn S0 ro Ds Ds:=⟨fun _=>rfl,fun _ h=>Or.inl h⟩
theorem Dn.trans {S1:aa} {A B C:List Nat} (hx:Ext S0 S1) (h:Dn S0 ro A B) (k:Dn S1 ro B C):Dn S0 ro A C:=⟨fun hr=>(k.r hr).trans (h.r hr),fun D hD=>by
 rcases k.n D hD with h1|h1
 ·exact h.n D h1
 ·refine Or.inr ?_
  cases ho:S0.objs D with
  |none=>rfl
  |some o=>
   obtain ⟨o',h2,_⟩:=hx.o D o ho
   rw [h1] at h2;cases h2⟩
end
section
variable [Glb] {P:Program} {X:List FuncId} {N:Nat} {w0:World} {S0:aa} {E:Env} {st:St} {n:Nat} {ro:Option Nat}
def cO (N:Nat) (w0:World) (S0:aa) (ro:Option Nat) (Ds:List Nat) (K:St→Prop) (a':Act) (w':World):Prop:=
 ∃(S0':aa) (Ds':List Nat) (E':Env) (st':St),Ext S0 S0'∧Mks S0' w0 ro Ds' a'.defers∧Dn S0 ro Ds Ds'∧E'.w=w'∧SR N w0 S0' E' st' a'.tmps∧K st'
def dC (N:Nat) (w0:World) (S0:aa) (ro:Option Nat) (Ds:List Nat) (K:ax→St→Prop):Exit→Act→World→Prop
 |.normal,a,w=>cO N w0 S0 ro Ds (K .normal) a w
 |.exit id,a,w=>cO N w0 S0 ro Ds (K (.exit id)) a w
 |.ret,a,w=>cO N w0 S0 ro Ds (K .ret) a w
 |_,_,_=>False
def aF (P:Program) (N:Nat) (c:Code) (st:St) (Q:ax→St→Prop):Prop:=
 ∀(ro:Option Nat) (n:Nat) (w0:World) (S0:aa) (E:Env) (a:Act) (Ds:List Nat),SR N w0 S0 E st a.tmps→Mks S0 w0 ro Ds a.defers→c.wpIn (fw ro) n P (dC N w0 S0 ro Ds Q) a E.w
theorem cO.ext {S0':aa} {Ds Ds':List Nat} {K K':St→Prop} {a':Act} {w':World} (hx:Ext S0 S0') (hd:Dn S0 ro Ds Ds') (hk: ∀s,K s→K' s) (h:cO N w0 S0' ro Ds' K a' w'):cO N w0 S0 ro Ds K' a' w':=by
 obtain ⟨S1,D1,E1,s1,h1,h2,h3,h4,h5,h6⟩:=h
 exact ⟨S1,D1,E1,s1,hx.trans h1,h2,hd.trans hx h3,h4,h5,hk _ h6⟩
theorem dC.ext {S0':aa} {Ds Ds':List Nat} {K K':ax→St→Prop} (hx:Ext S0 S0') (hd:Dn S0 ro Ds Ds') (hk: ∀e s,K e s→K' e s): ∀{e:Exit} {a':Act} {w':World},dC N w0 S0' ro Ds' K e a' w'→dC N w0 S0 ro Ds K' e a' w':=by
 intro e a' w' h
 cases e with
 |normal=>exact cO.ext hx hd (hk _) h
 |exit id=>exact cO.ext hx hd (hk _) h
 |ret=>exact cO.ext hx hd (hk _) h
 |goto l=>exact h
 |panic ch=>exact h
 |outgrown=>exact h
theorem aF.mono {c:Code} {Q Q':ax→St→Prop} (h:aF P N c st Q) (hq: ∀e s,Q e s→Q' e s):aF P N c st Q':=
 fun ro n w0 S0 E a Ds hs hm=>wpIn_mono (h ro n w0 S0 E a Ds hs hm) fun _ _ _ q=>dC.ext (Ext.refl _) Dn.refl hq q
theorem aF.low (hm:P.follows .mixedOrders=true) {c:Code} {d:aV} (hl:bz P N X c=some d) (hns:d.cg=true) (hsc:bV c=true) {Q:ax→St→Prop} (hw:wpC P d st Q):aF P N c st Q:=by
 intro ro n w0 S0 E a Ds hs hmk
 refine wpIn_mono (qt hm hl hns hsc hs hw) ?_
 have key: ∀{K:St→Prop} {a':Act} {w':World},bo N w0 S0 a.defers K a' w'→cO N w0 S0 ro Ds K a' w':=by
  rintro K a' w' ⟨E',st',rfl,hsr,hdf,hk⟩
  exact ⟨S0,Ds,E',st',Ext.refl _,⟨hdf.trans hmk.eq,hmk.nodup,hmk.obj,hmk.ro⟩,Dn.refl,rfl,hsr,hk⟩
 intro e a' w' h
 cases e with
 |normal=>exact key h
 |exit id=>exact key h
 |ret=>exact key h
 |goto l=>exact h
 |panic ch=>exact h
 |outgrown=>exact h
theorem aF.seq {x y:Code} {Q:ax→St→Prop} (h:aF P N x st fun e s=>match e with
  |.normal=>aF P N y s Q
  |.exit id=>Q (.exit id) s
  |.ret=>Q .ret s):aF P N (.seq x y) st Q:=by
 intro ro n w0 S0 E a Ds hs hm
 refine wpIn_seq (wpIn_mono (h ro n w0 S0 E a Ds hs hm) ?_)
 intro e a' w' q
 cases e with
 |normal=>
  obtain ⟨S1,D1,E1,s1,h1,h2,h3,rfl,h5,h6⟩:=q
  exact wpIn_mono (h6 ro n w0 S1 E1 a' D1 h5 h2) fun _ _ _ q=>dC.ext h1 h3 (fun _ _ h=>h) q
 |exit id=>exact q
 |ret=>exact q
 |goto l=>exact q
 |panic ch=>exact q
 |outgrown=>exact q
theorem aF.block {id:Nat} {x:Code} {Q:ax→St→Prop} (h:aF P N x st fun e s=>match e with
  |.normal=>Q .normal s
  |.exit k=>_root_.cond (Nat.beq k id) (Q .normal s) (Q (.exit k) s)
  |.ret=>Q .ret s):aF P N (.block id x) st Q:=by
 intro ro n w0 S0 E a Ds hs hm
 refine wpIn_block (wpIn_mono (h ro n w0 S0 E a Ds hs hm) ?_)
 intro e a' w' q
 cases e with
 |normal=>exact q
 |exit k=>
  show if k=id then _ else _
  by_cases hk:k=id
  ·rw [if_pos hk]
   obtain ⟨S1,D1,E1,s1,h1,h2,h3,h4,h5,h6⟩:=q
   dsimp only at h6
   rw [hk,bE] at h6
   exact ⟨S1,D1,E1,s1,h1,h2,h3,h4,h5,h6⟩
  ·rw [if_neg hk]
   obtain ⟨S1,D1,E1,s1,h1,h2,h3,h4,h5,h6⟩:=q
   dsimp only at h6
   rw [eM hk] at h6
   exact ⟨S1,D1,E1,s1,h1,h2,h3,h4,h5,h6⟩
 |ret=>exact q
 |goto l=>exact q
 |panic ch=>exact q
 |outgrown=>exact q
theorem aF.bL {c:Code} {s:Wk} {Q:ax→St→Prop} (hw:bL s st) (h:aF P N c s.mk' Q):aF P N c st Q:=by
 intro ro n w0 S0 E a Ds hs hm
 obtain ⟨E',he,hsr⟩:=hs.bL hw
 rw [← he]
 exact h ro n w0 S0 E' a Ds hsr hm
theorem aF.loop {c:Code} {Q:ax→St→Prop} (I:Nat→St→Prop) (m:Nat) (hi:I m st) (hr: ∀m s,I m s→aF P N c s fun e s'=>match e with
  |.normal=> ∃k s2,k<m∧DL.bL s2 s'∧I k s2.mk'
  |.exit id=>Q (.exit id) s'
  |.ret=>Q .ret s'):aF P N (.loop c) st Q:=by
 intro ro n w0 S0 E a Ds hs hm
 refine wpIn_loop_ghost (fun k a' w'=> ∃(S1:aa) (D1:List Nat) (E1:Env) (s1:St),Ext S0 S1∧Mks S1 w0 ro D1 a'.defers∧Dn S0 ro Ds D1∧E1.w=w'∧SR N w0 S1 E1 s1 a'.tmps∧I k s1) m ⟨S0,Ds,E,st,Ext.refl _,hm,Dn.refl,rfl,hs,hi⟩ ?_
 rintro k a1 w1 ⟨S1,D1,E1,s1,h1,h2,h3,rfl,h5,h6⟩
 refine wpIn_mono (hr k s1 h6 ro n w0 S1 E1 a1 D1 h5 h2) ?_
 intro e a' w' q
 cases e with
 |normal=>
  obtain ⟨S2,D2,E2,s2,g1,g2,g3,rfl,g5,j,s3,hj,hs3,hi3⟩:=q
  obtain ⟨E3,he,hsr⟩:=g5.bL hs3
  exact ⟨j,hj,S2,D2,E3,s3.mk',h1.trans g1,g2,h3.trans h1 g3,he,hsr,hi3⟩
 |exit id=>exact cO.ext h1 h3 (fun _ h=>h) q
 |ret=>exact cO.ext h1 h3 (fun _ h=>h) q
 |goto l=>exact q
 |panic ch=>exact q
 |outgrown=>exact q
def CxD (cx:aa→World→Prop):Prop:= ∀S w D x y,S.objs D=some (.deferred x)→cx S w→cx {S with objs:=upd S.objs D (some y)} w
theorem iI {fn:Func} {tmps:Array Value} {R:Ending→World→Prop} (hcx:CxD st.cx): ∀(Ds:List Nat) {S0:aa} {E:Env},SR N w0 S0 E st tmps→Ds.Nodup→(∀ D∈Ds,S0.objs D=some (.deferred (some []))∧w0.heap.size≤D)→
  (∀ S1 E1,S1.S=S0.S→S1.vals=S0.vals→(∀ g, ¬g∈Ds→S1.objs g=S0.objs g)→SR N w0 S1 E1 st tmps→ ∃v,(results fn tmps).run P E1.w= .ok v E1.w∧R (.returned v) E1.w)→LeavesInM Fence.wide n P fn tmps R (Ds.map mkD) .returning E.w
 |[],S0,E,h,_,_,hf=>by
  obtain ⟨v,h1,h2⟩:=hf S0 E rfl rfl (fun _ _=>rfl) h
  exact ⟨v,h1,h2⟩
 |D::Ds,S0,E,h,hn,ho,hf=>by
  obtain ⟨o1,o2⟩:=ho D (by simp)
  obtain ⟨_,hw⟩:=h.obj D _ o1
  obtain ⟨n1,n2⟩:=List.nodup_cons.1 hn
  refine ⟨by simp,.inl ⟨D,_,rfl,run_takeDeferred hw,?_⟩⟩
  have h2:=h.putObj (x:=.deferred (some [])) (y:=.deferred none) o1 rfl o2 (hcx _ _ _ _ _ o1 h.cx)
  refine iI hcx Ds h2 n2 (fun D' hD'=>?_) (fun S1 E1 e1 e2 e3 k=>hf S1 E1 e1 e2 (fun g hg=>(e3 g (fun h=>hg (List.mem_cons_of_mem _ h))).trans ?_) k)
  ·refine ⟨?_,(ho D' (by simp [hD'])).2⟩
   show upd S0.objs D _ D'=_
   rw [ae _ _ _ _ (fun e=>n1 (by first|(rw [e] at hD';exact hD')|(rw [← e] at hD';exact hD')|(rw [e];exact hD')|(rw [← e];exact hD')))]
   exact (ho D' (by simp [hD'])).1
  ·show upd S0.objs D _ g=_
   exact ae _ _ _ _ (fun e=>hg (by rw [e];simp))
theorem gP {f:FuncId} {fn:Func} {c:Code} (hf:P.funcs[f]? =some fn) (hb:fn.body=some c) {vs:Array Value} (h:SR fn.ntmps w0 S0 E st (vs++Array.replicate (fn.ntmps - vs.size) undef)) {Q:ax→St→Prop} (hr:aF P fn.ntmps c st Q) {R:Ending→World→Prop}
  (hQ: ∀S1 E1 s1 (a1:Array Value),Ext S0 S1→SR fn.ntmps w0 S1 E1 s1 a1→Q .normal s1∨Q .ret s1→ ∃v,(results fn a1).run P E1.w= .ok v E1.w∧R (.returned v) E1.w)
  (hx: ∀id s, ¬Q (.exit id) s) (hcx: ∀e s,Q e s→CxD s.cx):CallsIn (fw ro) n P f vs E.w R:=by
 have key:CallsIn Fence.wide n P f vs E.w R:=by
  refine callsIn_of_wp_marks hf hb trivial (wpIn_mono (hr none n w0 S0 E {tmps:=vs++Array.replicate (fn.ntmps - vs.size) undef,defers:=[]} [] h ⟨rfl,by simp,by simp,fun l hl=>by cases hl⟩) ?_)
  have fin: ∀{K:St→Prop} {a':Act} {w':World},(∀ s,K s→(Q .normal s∨Q .ret s)∧CxD s.cx)→cO fn.ntmps w0 S0 none [] K a' w'→LeavesInM Fence.wide n P fn a'.tmps R a'.defers .returning w':=by
   rintro K a' w' hK ⟨S1,D1,E1,s1,h1,h2,h3,rfl,h5,h6⟩
   rw [h2.eq]
   refine iI (hK s1 h6).2 D1 h5 h2.nodup h2.obj fun S2 E2 e1 e2 e3 k=>?_
   refine hQ S2 E2 s1 a'.tmps ⟨e1.trans h1.s,e2.trans h1.v,fun g o hg=>?_⟩ k (hK s1 h6).1
   obtain ⟨o',k1,k2⟩:=h1.o g o hg
   refine ⟨o',(e3 g fun hD=>?_).trans k1,k2⟩
   rcases h3.n g hD with h|h
   ·simp at h
   ·rw [h] at hg;cases hg
  intro e a' w' q
  cases e with
  |normal=>exact fin (fun s hs=>⟨Or.inl hs,hcx _ _ hs⟩) q
  |ret=>exact fin (fun s hs=>⟨Or.inr hs,hcx _ _ hs⟩) q
  |exit id=>
   obtain ⟨S1,D1,E1,s1,h1,h2,h3,h4,h5,h6⟩:=q
   exact (hx _ _ h6).elim
  |goto l=>exact q.elim
  |panic ch=>exact q.elim
  |outgrown=>exact q.elim
 exact key
def qC (P:Program) (rs:List ResultVar) (r:List T) (e:ax) (s:St):Prop:=nO (dz P) rs r e s∧ ∀S w,s.cx S w
theorem qG {f:FuncId} {fn:Func} {c:Code} (hf:P.funcs[f]? =some fn) (hb:fn.body=some c) (hn:(fn.name== "runtime.NumGoroutine")=false)
  {args:List T} {r:List T} (ha:args.length≤fn.ntmps) (h:aF P fn.ntmps c (eO args) (qC P fn.results.toList r)):DCalls P f args (lz r):=by
 refine ⟨bM hf (by rw [hb];rfl) hn,fun S w vs hS hG hlen hrep=>?_⟩
 have hsr:=fQ (N:=fn.ntmps) hS hG hlen hrep ha
 refine (callsIn_wide (n:=0)).1 (gP (ro:=none) hf hb hsr h (fun S1 E1 s1 a1 e1 hs hq=>?_) (fun id s hq=>hq.1.elim) (fun e s hq S w D x y _ _=>hq.2 _ _))
 have hk:ia (dz P) s1 fn.results.toList r:=by
  rcases hq with hq|hq
  ·exact hq.1
  ·exact hq.1
 obtain ⟨v,h1,h2⟩:=iL (a:={tmps:=a1,defers:=[]}) hs hk
 refine ⟨v,h1,v,rfl,hs.below,h2.mono (fun b o hs'=>?_) (fun _ _ _=>aB.rfl)⟩
 rcases hs' with hs'|⟨n,hn,rfl⟩
 ·refine (hs.s1 b o hs').imp (fun h=>?_) fun hle=>⟨hle,hs.lt b o hs'⟩
  rw [e1.s] at h;exact h
 ·right
  rw [hs.live] at hn
  obtain ⟨b',hb'⟩:=Option.isSome_iff_exists.1 hn
  have hB:=hs.bx n b' hb'
  obtain ⟨_,hg,_⟩:=hB.at_
  have:=hB.old
  rw [hs.base] at this
  exact ⟨this,(Array.getElem?_eq_some_iff.1 hg).1⟩
end
end Go.DL
end
section
namespace Go.DL
open Go.RowKit
section
variable [Glb] {P:Program} {X:List FuncId} {N:Nat} {w0:World} {S0:aa} {E:Env} {st:St} {n:Nat} {ro:Option Nat}
def WCM (P:Program) (f:FuncId) (us:List V) (d:Option Nat) (st:St) (K:St→Prop):Prop:=
 bD P f∧ ∀(N:Nat) (w0:World) (S0:aa) (E:Env) (a vs:Array Value),SR N w0 S0 E st a→vs.size=us.length→
  (∀ (i:Nat) (v:Value) (u:V),vs[i]? =some v→us[i]? =some u→VR E v u)→(∀ n,d=some n→n<N)→
  Calls P f vs E.w fun e w'=> ∃v,e= .returned v∧ ∃(S1:aa) (E':Env) (st':St),Ext S0 S1∧E'.w=w'∧K st'∧SR N w0 S1 E' st' (jW a d v)
def YC (P:Program) (l:Nat) (us:List V) (d:Option Nat) (st:St) (K:St→Prop):Prop:=
 ∀(ro:Option Nat) (n N:Nat) (w0:World) (S0:aa) (E:Env) (a vs:Array Value),SR N w0 S0 E st a→vs.size=us.length→
  (∀ (i:Nat) (v:Value) (u:V),vs[i]? =some v→us[i]? =some u→VR E v u)→(∀ n,d=some n→n<N)→
  YieldAt (fw ro) n P l vs E.w fun e w'=> ∃v,e= .returned v∧ ∃(S1:aa) (E':Env) (st':St),Ext S0 S1∧E'.w=w'∧K st'∧SR N w0 S1 E' st' (jW a d v)
abbrev lP (l:Nat):V:=.raw (.func (.yield l) #[] #[])
def gL (P:Program) (u:V) (us:List V) (d:Option Nat) (st:St) (K:St→Prop):Prop:=
 match gm u with
 |some (f,caps)=>WCM P f (us++caps) d st K
 |none=> ∃l,u=lP l∧YC P l us d st K
end
section
variable {P:Program} {X:List FuncId} {N:Nat} {w0:World} {S0:aa} {E:Env} {st:St} {n:Nat} {ro:Option Nat}
theorem Mks.ext {S1:aa} {Ds:List Nat} {ds:List Deferred} (hx:Ext S0 S1) (h:Mks S0 w0 ro Ds ds):Mks S1 w0 ro Ds ds:=
 ⟨h.eq,h.nodup,fun D hD=>by
  obtain ⟨h1,h2⟩:=h.obj D hD
  obtain ⟨o',k1,k2,_⟩:=hx.o D _ h1
  rw [k2 _ rfl] at k1
  exact ⟨k1,h2⟩,fun l hl=>by
  obtain ⟨r,hr⟩:=h.ro l hl
  obtain ⟨o',k1,_,k2⟩:=hx.o l _ hr
  obtain ⟨r',hr'⟩:=k2 r rfl
  exact ⟨r',by rw [k1,hr']⟩⟩
end
section
variable [Glb] {P:Program} {X:List FuncId} {N:Nat} {w0:World} {S0:aa} {E:Env} {st:St} {n:Nat} {ro:Option Nat}
theorem oS {ops:Array Oper} {Q:Exit→Act→World→Prop} {rest:List Nat} {ds:List Deferred} {K:St→Prop}
  (hk: ∀(a:Act) (E:Env) (st:St),SR N w0 S0 E st a.tmps→a.defers=ds→K st→wpOpsIn (fw ro) n P ops Q rest a E.w):
  ∀(ks:List Nat) (is:List DI) (_:dP P N ops ks=some is) (_:is.all (fun i=> !i.op.aN)=true) {a:Act} {E:Env} {st:St} (_:SR N w0 S0 E st a.tmps) (_:a.defers=ds) (_:aw P is st K),wpOpsIn (fw ro) n P ops Q (ks++rest) a E.w
 |[],is,hl,_,a,E,st,h,hd,hw=>by
  cases hl
  exact hk a E st h hd hw
 |k::ks,is,hl,hc,a,E,st,h,hd,hw=>by
  unfold dP at hl
  split at hl
  ·rename_i o ho
   split at hl
   ·rename_i i is' hi his
    cases hl
    simp only [List.all_cons,Bool.and_eq_true] at hc
    rw [List.cons_append,wpOpsIn_cons]
    refine ij ?_ (lM (fun _=>trivial) h ho hi (by simpa using hc.1) hw)
    rintro a' w' ⟨st',hk',E',rfl,hsr,hdf⟩
    exact oS hk ks is' his hc.2 hsr (hdf.trans hd) hk'
   ·cases hl
  ·cases hl
end
section
variable {P:Program} {X:List FuncId} {N:Nat} {w0:World} {S0:aa} {E:Env} {st:St} {n:Nat} {ro:Option Nat}
theorem mR {a:Act} {o:Oper} {l:Nat} {X:Operand} {az:Array Operand} {ats:Array TypeId} (ho:o.op= .call {callee:=.value X,args:=az,argTypes:=ats }) (hX:a.eval X= .func (.yield l) #[] #[]) (w:World):
  (execOp a.eval o).run P w=(Instr.yield l (az.map a.eval)).run P w:=by
 unfold execOp
 simp [ho,resolve,hX,Deferred.ofValue,invoke]
end
section
variable [Glb] {P:Program} {X:List FuncId} {N:Nat} {w0:World} {S0:aa} {E:Env} {st:St} {n:Nat} {ro:Option Nat}
theorem nU {a:Act} {o:Oper} (h:SR N w0 S0 E st a.tmps) {X:Operand} {y:O} {az:Array Operand} {ys:List O} {ats:Array TypeId} (ho:o.op= .call {callee:=.value X,args:=az,argTypes:=ats }) (hX:ao X=some y) (has:dH az.toList=some ys)
  {d:Nat} (hd:o.dst=some d) (hdN:d<N) {K:St→Prop} (hw:gL P (ev st.sl y) (ys.map (ev st.sl)) (some d) st K) {Q:Exit→Act→World→Prop}:
  o.wpIn (fw ro) n P a E.w (fun a' w'=> ∃(S1:aa) (E':Env) (st':St),Ext S0 S1∧E'.w=w'∧K st'∧SR N w0 S1 E' st' a'.tmps∧a'.defers=a.defers) Q:=by
 refine ⟨fun _ _=>trivial,?_⟩
 rw [Oper.semAt_eq _ _ _ (fun c hop=>by rw [ho] at hop;cases hop)]
 obtain ⟨h1,h2⟩:=fK (E:=E) (st:=st) (a:=a) h.sl has
 have hx:=ah h.sl hX
 have hput: ∀v,(a.put o.dst v).tmps=jW a.tmps (some d) v:=fun v=>by rw [hd];rfl
 have hdef: ∀v,(a.put o.dst v).defers=a.defers:=fun v=>by rw [hd];rfl
 unfold gL at hw
 cases hfn:gm (ev st.sl y) with
 |some q=>
  obtain ⟨f,caps⟩:=q
  rw [hfn] at hw
  dsimp only at hw
  have key: ∃cv:Array Value,a.eval X= .func (.func f) #[] cv∧cv.size=caps.length∧ ∀(i:Nat) (v:Value) (u:V),cv[i]? =some v→caps[i]? =some u→VR E v u:=by
   unfold gm at hfn
   split at hfn
   ·rename_i g cs hv
    simp only [Option.some.injEq,Prod.mk.injEq] at hfn
    obtain ⟨rfl,rfl⟩:=hfn
    rw [hv] at hx
    have hrep:=hx.av
    generalize a.eval X=v at hrep
    cases hrep with
    |clos _ cv _ hs hh=>
     refine ⟨cv,rfl,by simpa using hs,fun i v u hv hu=>?_⟩
     simp only [List.getElem?_map,Option.map_eq_some_iff] at hu
     obtain ⟨t,ht,rfl⟩:=hu
     exact .t _ _ (hh i v t hv ht)
   ·rename_i g cs hv
    simp only [Option.some.injEq,Prod.mk.injEq] at hfn
    obtain ⟨rfl,rfl⟩:=hfn
    rw [hv] at hx
    generalize a.eval X=v at hx
    cases hx with
    |fn _ cv _ hs hh=>exact ⟨cv,rfl,hs,hh⟩
   ·cases hfn
  obtain ⟨cv,hX',hsz,hcv⟩:=key
  have hex:=eS (E:=E) (a:=a) (o:=o) ho hX' hw.1
  rw [hex]
  refine ⟨fun hh=>(by cases hh),CallsIn.mono (kL (hw.2 N w0 S0 E a.tmps (az.map a.eval++cv) h (by simp [h1,hsz]) (fun i v u hv hu=>?_) (fun k hk=>by cases hk;exact hdN))) ?_⟩
  ·by_cases hi:i<az.size
   ·rw [Array.getElem?_append_left (by simpa using hi)] at hv
    rw [List.getElem?_append_left (by simp;omega)] at hu
    exact h2 i v u hv hu
   ·rw [Array.getElem?_append_right (by simp;omega)] at hv
    rw [List.getElem?_append_right (by simp;omega)] at hu
    simp only [Array.size_map,List.length_map] at hv hu
    rw [← h1] at hu
    exact hcv _ v u hv hu
  ·rintro e w' ⟨v,rfl,S1,E',st',g1,g2,g3,g4⟩
   exact ⟨S1,E',st',g1,g2,g3,by rw [hput];exact g4,hdef v⟩
 |none=>
  rw [hfn] at hw
  obtain ⟨l,hy,hY⟩:=hw
  rw [hy] at hx
  have hX':a.eval X= .func (.yield l) #[] #[]:=by
   generalize a.eval X=v at hx
   cases hx
   rfl
  rw [mR ho hX']
  obtain ⟨fn,tmps,asg,body,e1,hR⟩:=hY ro (n - 1) N w0 S0 E a.tmps (az.map a.eval) h (by simp [h1]) h2 (fun k hk=>by cases hk;exact hdN)
  rw [e1]
  refine ⟨fun hh=>(by cases hh),RoundIn.mono hR ?_⟩
  rintro e w' ⟨v,rfl,S1,E',st',g1,g2,g3,g4⟩
  exact ⟨S1,E',st',g1,g2,g3,by rw [hput];exact g4,hdef v⟩
theorem aF.bX {id:Nat} {ops:Array Oper} {k1 k2:List Nat} {k:Nat} (hks:List.range ops.size=k1++(k::k2)) {is1 is2:List DI} (h1:dP P N ops k1=some is1) (c1:is1.all (fun i=> !i.op.aN)=true) (h2:dP P N ops k2=some is2) (c2:is2.all (fun i=> !i.op.aN)=true)
  {o:Oper} (hok:ops[k]? =some o) (hg:o.guard=none) {X:Operand} {y:O} {az:Array Operand} {ys:List O} {ats:Array TypeId} (ho:o.op= .call {callee:=.value X,args:=az,argTypes:=ats }) (hX:ao X=some y) (has:dH az.toList=some ys)
  {d:Nat} (hd:o.dst=some d) (hdN:d<N) {Q:ax→St→Prop}
  (hw:aw P is1 st fun s0=>gL P (ev s0.sl y) (ys.map (ev s0.sl)) (some d) s0 fun s1=>aw P is2 s1 (Q .normal)):aF P N (.region id ops false) st Q:=by
 intro ro n w0 S0 E a Ds hs hm
 refine wpIn_region ?_
 rw [hks]
 refine oS (ds:=a.defers) ?_ k1 is1 h1 c1 hs rfl hw
 rintro a1 E1 s0 hs0 hd1 hW
 rw [wpOpsIn_cons]
 have hwant:Region.wanted o (yielded ops a1.tmps)=true:=by unfold Region.wanted;rw [hg]
 unfold wpOpIn
 simp only [hok,hwant,if_true]
 refine Oper.wpIn_mono ?_ (nU (ro:=ro) (n:=n) hs0 ho hX has hd hdN hW)
 rintro a' w' ⟨S1,E',st',hx,rfl,hk',hsr,hdf⟩
 have:=oS (rest:=[]) (ro:=ro) (n:=n) (Q:=dC N w0 S0 ro Ds Q) (ds:=a.defers) (K:=Q .normal) (fun a2 E2 s2 hs2 hd2 hq=>(by
  show dC N w0 S0 ro Ds Q .normal a2 E2.w
  exact ⟨S1,Ds,E2,s2,hx,(by rw [hd2];exact hm.ext hx),Dn.refl,rfl,hs2,hq⟩)) k2 is2 h2 c2 hsr (hdf.trans hd1) hk'
 rwa [List.append_nil] at this
def ca (cx:aa→World→Prop):aa→World→Prop:=fun S w=>cx {S with vals:=fun k=>S.vals (k+1)} w
def St.kS (st:St) (us:List V) (off:Nat):St:={sl:=fun m=>us[m]?.getD .top,bx:=st.bx,gh:=dI st.sl st.gh,off:=off,cx:=ca st.cx }
def St.bA (s2:St) (off:Nat) (cx:aa→World→Prop):St:={sl:=s2.gh 0,bx:=s2.bx,gh:=fun k=>s2.gh (k+1),off:=off,cx:=cx }
def qA (rs:List ResultVar) (off:Nat) (d:Option Nat) (K:St→Prop):ax→St→Prop
 |.exit _,_=>False
 |_,s2=> ∃us cx,dJ s2 rs=some us∧s2.cx=ca cx∧CxD cx∧K ((s2.bA off cx).set d (dR us))
theorem WCM.run {f:FuncId} {fn:Func} {c:Code} (hf:P.funcs[f]? =some fn) (hb:fn.body=some c) (hn:(fn.name== "runtime.NumGoroutine")=false) {us:List V} (off:Nat) (ha:us.length≤fn.ntmps) {d:Option Nat} {K:St→Prop}
  (h:aF P fn.ntmps c (st.kS us off) (qA fn.results.toList st.off d K)):WCM P f us d st K:=by
 refine ⟨bM hf (by rw [hb];rfl) hn,fun N w0 S0 E a vs hs hlen hv hd=>?_⟩
 have hsr:SR fn.ntmps w0 {S0 with vals:=jH (fun m=>a.getD m undef) S0.vals } E (st.kS us off) (vs++Array.replicate (fn.ntmps - vs.size) undef):=by
  refine ⟨by simp;omega,hs.base,hs.glob,fun m=>?_,fun k m=>?_,hs.bx,hs.live,hs.inj,hs.rows,hs.rinj,hs.lt,hs.below,hs.s0,hs.s1,hs.obj,hs.cx⟩
  ·show VR _ _ (us[m]?.getD .top)
   cases ht:us[m]? with
   |none=>exact .top _
   |some t=>
    have hlt:m<vs.size:=by rw [hlen];exact (gsZ ht).1
    have hv:=hv m vs[m] t (Array.getElem?_eq_getElem hlt) ht
    have:(vs++Array.replicate (fn.ntmps - vs.size) undef).getD m undef=vs[m]:=by
     rw [Array.getD_eq_getD_getElem?,Array.getElem?_append_left hlt]
     simp [hlt]
    rw [this]
    exact hv
  ·cases k with
   |zero=>exact hs.sl m
   |succ k=>exact hs.gh k m
 refine (callsIn_wide (n:=0)).1 (gP (ro:=none) hf hb hsr h (fun S1 E1 s1 a1 hx hs1 hq=>?_) (fun id s hq=>hq.elim) (fun e s hq=>?_))
 ·have hq': ∃us cx,dJ s1 fn.results.toList=some us∧s1.cx=ca cx∧CxD cx∧K ((s1.bA st.off cx).set d (dR us)):=by
   rcases hq with hq|hq
   ·exact hq
   ·exact hq
  obtain ⟨us',cx,h1,h2,h3,h4⟩:=hq'
  obtain ⟨v,k1,k2⟩:=ib (P:=P) (a:={tmps:=a1,defers:=[]}) hs1 (fn:=fn) h1
  refine ⟨v,k1,v,rfl,{S1 with vals:=S0.vals },E1,_,⟨hx.s,rfl,hx.o⟩,rfl,h4,?_⟩
  have hvl:=hx.v
  have hcx:=hs1.cx
  rw [h2] at hcx
  have hback:SR N w0 {S1 with vals:=S0.vals } E1 (s1.bA st.off cx) a:=by
   refine ⟨hs.size,hs1.base,hs1.glob,fun m=>?_,fun k m=>?_,hs1.bx,hs1.live,hs1.inj,hs1.rows,hs1.rinj,hs1.lt,hs1.below,hs1.s0,hs1.s1,hs1.obj,?_⟩
   ·have:=hs1.gh 0 m
    rw [hvl] at this
    exact this
   ·have:=hs1.gh (k+1) m
    rw [hvl] at this
    exact this
   ·have:cx {S1 with vals:=fun k=>S1.vals (k+1)} w0:=hcx
    rw [hvl] at this
    exact this
  exact cZ hback hd k2
 ·have hq': ∃us cx,dJ s fn.results.toList=some us∧s.cx=ca cx∧CxD cx∧K ((s.bA st.off cx).set d (dR us)):=by
   cases e with
   |normal=>exact hq
   |ret=>exact hq
   |exit id=>exact hq.elim
  obtain ⟨us',cx,h1,h2,h3,h4⟩:=hq'
  rw [h2]
  intro S w D x y hD hc
  exact h3 {S with vals:=fun k=>S.vals (k+1)} w D x y hD hc
end
end Go.DL
end
section
namespace Go.DL
open Go.RowKit
section
variable [Glb] {P:Program} {X:List FuncId} {N:Nat} {w0:World} {S0:aa} {E:Env} {st:St} {n:Nat} {ro:Option Nat}
def dt (l:Nat) (rc:Loop) (cxo:aa→World→Prop) (m:Nat):aa→World→Prop:=fun S w=>
 S.objs l=some (.loop rc)∧w.heap.size≤l∧(∀ j,S.vals m j=rc.tmps.getD j undef)∧cxo {S with objs:=upd S.objs l none,vals:=fun k=>S.vals (k+m+1)} w
end
section
variable {P:Program} {X:List FuncId} {N:Nat} {w0:World} {S0:aa} {E:Env} {st:St} {n:Nat} {ro:Option Nat}
theorem fX {α:Type} (f:Nat→α) (n:Nat) (x y:α):upd (upd f n x) n y=upd f n y:=by
 funext k
 by_cases h:k=n
 ·subst h;rw [af,af]
 ·rw [ae _ _ _ _ h,ae _ _ _ _ h,ae _ _ _ _ h]
end
section
variable [Glb] {P:Program} {X:List FuncId} {N:Nat} {w0:World} {S0:aa} {E:Env} {st:St} {n:Nat} {ro:Option Nat}
def dh (l:Nat) (rc:Loop) (cxo:aa→World→Prop) (m:Nat):aa→World→Prop:=fun S w=>
 S.objs l=some (.loop rc)∧cxo {S with objs:=upd S.objs l none,vals:=fun k=>S.vals (k+m+1)} w
structure Wr (W:(aa→World→Prop)→aa→World→Prop) where
 F:(Nat→Option Obj)→Prop
 era:(Nat→Option Obj)→Nat→Option Obj
 j:Nat
 iff_: ∀cx S w,W cx S w↔F S.objs∧cx {S with objs:=era S.objs,vals:=fun k=>S.vals (k+j)} w
 sub: ∀O l x,era O l=some x→O l=some x
 F_: ∀O l x y,era O l=some x→F O→F (upd O l y)
 era_: ∀O l x y,era O l=some x→era (upd O l y)=upd (era O) l y
 n_: ∀O D y,O D=none→F O→F (upd O D (some y))∧era (upd O D (some y))=upd (era O) D (some y)
 d_: ∀O D x y,O D=some (.deferred x)→F O→F (upd O D (some y))∧era (upd O D (some y))=upd (era O) D (some y)∧era O D=some (.deferred x)
def qw:Wr (fun cx=>cx) where
 F:=fun _=>True
 era:=fun O=>O
 j:=0
 iff_:=fun _ _ _=>⟨fun h=>⟨trivial,h⟩,fun h=>h.2⟩
 sub:=fun _ _ _ h=>h
 F_:=fun _ _ _ _ _ h=>h
 era_:=fun _ _ _ _ _=>rfl
 n_:=fun _ _ _ _ _=>⟨trivial,rfl⟩
 d_:=fun _ _ _ _ h _=>⟨trivial,rfl,h⟩
theorem SR.mM {a:Array Value} {cx':aa→World→Prop} (h:SR N w0 S0 E st a) (hc:cx' S0 w0):SR N w0 S0 E {st with cx:=cx' } a:=
 ⟨h.size,h.base,h.glob,h.sl,h.gh,h.bx,h.live,h.inj,h.rows,h.rinj,h.lt,h.below,h.s0,h.s1,h.obj,hc⟩
abbrev rdy (fn:FuncId) (tmps:Array Value) (p:Nat) (asg body:Code) (D:Nat):Loop:={state:=.ready,pending:=none,fn:=fn,tmps:=tmps,params:= #[p],assign:=asg,body:=body,defers:=D }
abbrev bsy (fn:FuncId) (tmps:Array Value) (p:Nat) (asg body:Code) (D:Nat):Loop:={state:=.busy,pending:=none,fn:=fn,tmps:=tmps,params:= #[p],assign:=asg,body:=body,defers:=D }
abbrev dnd (fn:FuncId) (tmps:Array Value) (p:Nat) (asg body:Code) (D:Nat) (c:Code):Loop:={state:=.done,pending:=some c,fn:=fn,tmps:=tmps,params:= #[p],assign:=asg,body:=body,defers:=D }
def rcE (fn:FuncId) (tmps:Array Value) (p:Nat) (asg body:Code) (D:Nat):Option Code→Loop
 |none=>rdy fn tmps p asg body D
 |some c=>dnd fn tmps p asg body D c
def St.rnd (st:St) (m p:Nat) (u:V) (off:Nat) (cx:aa→World→Prop):St:={sl:=upd (st.gh m) p u,bx:=st.bx,gh:=dI st.sl st.gh,off:=off,cx:=cx }
def qE (W:(aa→World→Prop)→aa→World→Prop) (l:Nat) (rb:Loop) (m:Nat) (off:Nat) (d:Option Nat) (rc:Option Code→Loop) (K:St→Prop):ax→St→Prop:=fun e s2=> ∃cxo,s2.cx=ca (W (dh l rb cxo m))∧match e with
 |.normal=>K ((s2.bA off (W (dt l (rc none) cxo m))).set d (.t (.bool true)))
 |.ret=>K ((s2.bA off (W (dt l (rc (some .ret)) cxo m))).set d (.t (.bool false)))
 |.exit id=>K ((s2.bA off (W (dt l (rc (some (.exit id))) cxo m))).set d (.t (.bool false)))
theorem YC.round {W:(aa→World→Prop)→aa→World→Prop} (R:Wr W) {l m p D:Nat} {fn:FuncId} {tmps:Array Value} {asg body:Code} {cxo:aa→World→Prop} (hcx:st.cx=W (dt l (rdy fn tmps p asg body D) cxo m)) {N':Nat} (hN:tmps.size=N') (hp:p<N') {u:V} {d:Option Nat} {K:St→Prop} (off:Nat)
  (h:aF P N' asg (st.rnd (m+R.j) p u off (ca (W (dh l (rdy fn tmps p asg body D) cxo m)))) fun e s1=>e= .normal∧ ∃cx1,s1.cx=ca (W (dh l (rdy fn tmps p asg body D) cx1 m))∧
   aF P N' body {s1 with cx:=ca (W (dh l (bsy fn tmps p asg body D) cx1 m))} (qE W l (bsy fn tmps p asg body D) m st.off d (rcE fn tmps p asg body D) K)):YC P l [u] d st K:=by
 intro ro n N w0 S0 E a vs hs hlen hv hd
 have hc:=hs.cx
 rw [hcx] at hc
 obtain ⟨hF,q1e,q2,q3,q4⟩:=(R.iff_ _ _ _).1 hc
 have q1:=R.sub _ _ _ q1e
 obtain ⟨_,hlw⟩:=hs.obj l _ q1
 obtain ⟨v,rfl⟩: ∃v,vs= #[v]:=by
  have:vs.size=1:=hlen
  exact ⟨vs[0],by apply Array.ext (by simp [this]);intro i h1 h2;simp at h2;subst h2;rfl⟩
 have hvu:VR E v u:=hv 0 v u (by simp) rfl
 refine ⟨fn,_,asg,body,run_yield hlw rfl,roundIn_of_wpIn trivial ?_⟩
 let tm':Array Value:=tmps.setIfInBounds p v
 have hz:(((rdy fn tmps p asg body D).params.zip #[v]).foldl (fun tmps (t,a)=>tmps.setIfInBounds t a) (rdy fn tmps p asg body D).tmps)=tm':=by simp [tm']
 rw [hz]
 let S0r:aa:={S0 with vals:=jH (fun j=>a.getD j undef) S0.vals }
 have hsr:SR N' w0 S0r E (st.rnd (m+R.j) p u off (ca (W (dh l (rdy fn tmps p asg body D) cxo m)))) tm':=by
  refine ⟨by simp [tm',hN],hs.base,hs.glob,fun j=>?_,fun k j=>?_,hs.bx,hs.live,hs.inj,hs.rows,hs.rinj,hs.lt,hs.below,hs.s0,hs.s1,hs.obj,(R.iff_ _ _ _).2 ⟨hF,q1e,q4⟩⟩
  ·rw [eN (by rw [hN];exact hp)]
   show VR E _ (upd (st.gh (m+R.j)) p u j)
   by_cases hj:j=p
   ·subst hj;rw [if_pos rfl,af];exact hvu
   ·rw [if_neg hj,ae _ _ _ _ hj]
    have:=hs.gh (m+R.j) j
    have e:S0.vals (m+R.j) j=tmps.getD j undef:=q3 j
    rw [e] at this;exact this
  ·cases k with
   |zero=>exact hs.sl j
   |succ k=>exact hs.gh k j
 have hmk:Mks S0r w0 (some l) [] ({tmps:=tm',defers:=[]}:Act).defers:=⟨rfl,by simp,by simp,fun l' hl'=>by cases hl';exact ⟨_,q1⟩⟩
 refine wpIn_mono (h (some l) n w0 S0r E {tmps:=tm',defers:=[]} [] hsr hmk) ?_
 intro e a1 w1 hq
 have fin: ∀(oc:Option Code) {S2:aa} {E2:Env} {s2:St} {a2:Array Value} {cx2:aa→World→Prop},Ext S0r S2→s2.cx=ca (W (dh l (bsy fn tmps p asg body D) cx2 m))→SR N' w0 S2 E2 s2 a2→
   K ((s2.bA st.off (W (dt l (rcE fn tmps p asg body D oc) cx2 m))).set d (.t (.bool oc.isNone)))→
   ∃v w',(Instr.endRound l oc).run P E2.w= .ok v w'∧ ∃x,Ending.returned v= .returned x∧ ∃(S1:aa) (E':Env) (st':St),Ext S0 S1∧E'.w=w'∧K st'∧SR N w0 S1 E' st' (jW a d x):=by
  intro oc S2 E2 s2 a2 cx2 hx hcx2 hs2 hk
  have hc2:=hs2.cx
  rw [hcx2] at hc2
  obtain ⟨rF,r1e,r2⟩:=(R.iff_ _ _ _).1 hc2
  have r1:S2.objs l=some (.loop (bsy fn tmps p asg body D)):=R.sub _ _ _ r1e
  obtain ⟨_,hlw2⟩:=hs2.obj l _ r1
  let rn:Loop:=rcE fn tmps p asg body D oc
  have hrn:({bsy fn tmps p asg body D with state:=if oc.isNone then LoopState.ready else LoopState.done,pending:=oc }:Loop)=rn:=by cases oc <;> rfl
  refine ⟨_,_,run_endRound oc hlw2,_,rfl,{S2 with objs:=upd S2.objs l (some (.loop rn)),vals:=S0.vals },E2.put l (.loop rn),_,?_,?_,hk,?_⟩
  ·refine ⟨hx.s,rfl,fun g o hg=>?_⟩
   obtain ⟨o',k1,k2,k3⟩:=hx.o g o hg
   by_cases hgl:g=l
   ·subst hgl
    have hg':o= .loop (rdy fn tmps p asg body D):=by rw [q1] at hg;exact (Option.some.inj hg).symm
    refine ⟨.loop rn,af _ _ _,fun x hx=>(by rw [hg'] at hx;cases hx),fun r hr=>⟨rn,rfl⟩⟩
   ·exact ⟨o',(ae _ _ _ _ hgl).trans k1,k2,k3⟩
  ·show E2.w.putObj l (.loop rn)=_
   rw [hrn]
  ·have h4:=(hs2.mM (cx':=fun _ _=>True) trivial).putObj (x:=.loop (bsy fn tmps p asg body D)) (y:=.loop rn) r1 rfl q2 trivial
   have hvl:=hx.v
   have hback:SR N w0 {S2 with objs:=upd S2.objs l (some (.loop rn)),vals:=S0.vals } (E2.put l (.loop rn)) (s2.bA st.off (W (dt l rn cx2 m))) a:=by
    refine ⟨hs.size,h4.base,h4.glob,fun j=>?_,fun k j=>?_,h4.bx,h4.live,h4.inj,h4.rows,h4.rinj,h4.lt,h4.below,h4.s0,h4.s1,h4.obj,(R.iff_ _ _ _).2 ⟨R.F_ _ _ _ _ r1e rF,?_,q2,fun j=>?_,?_⟩⟩
    ·have:=h4.gh 0 j
     dsimp only at this
     rw [hvl] at this
     exact this
    ·have:=h4.gh (k+1) j
     dsimp only at this
     rw [hvl] at this
     exact this
    ·show R.era (upd S2.objs l _) l=_
     rw [R.era_ _ _ _ _ r1e];exact af _ _ _
    ·show S0.vals (m+R.j) j=rn.tmps.getD j undef
     have:rn.tmps=tmps:=by cases oc <;> rfl
     rw [this];exact q3 j
    ·show cx2 {S2 with objs:=upd (R.era (upd S2.objs l _)) l none,vals:=_ } w0
     rw [R.era_ _ _ _ _ r1e,fX]
     have:=r2
     rw [hvl] at this
     exact this
   exact cZ hback hd (.t _ _ (.bool _))
 cases e with
 |normal=>
  obtain ⟨S1,D1,E1,s1,h1,h2,h3,rfl,h5, -,cx1,h6,h7⟩:=hq
  have hc1:=h5.cx
  rw [h6] at hc1
  obtain ⟨rF,r1e,r2⟩:=(R.iff_ _ _ _).1 hc1
  have r1:S1.objs l=some (.loop (rdy fn tmps p asg body D)):=R.sub _ _ _ r1e
  obtain ⟨_,hlw1⟩:=h5.obj l _ r1
  refine ⟨_,run_beginRound hlw1 rfl,?_⟩
  have hD1:D1=[]:=h3.r (by simp)
  subst hD1
  have h8:=(h5.mM (cx':=fun _ _=>True) trivial).putObj (x:=.loop (rdy fn tmps p asg body D)) (y:=.loop (bsy fn tmps p asg body D)) r1 rfl q2 trivial
  have h9:=h8.mM (cx':=ca (W (dh l (bsy fn tmps p asg body D) cx1 m))) ((R.iff_ _ _ _).2 ⟨R.F_ _ _ _ _ r1e rF,by
   show R.era (upd S1.objs l _) l=_
   rw [R.era_ _ _ _ _ r1e];exact af _ _ _,by
   show cx1 {S1 with objs:=upd (R.era (upd S1.objs l _)) l none,vals:=_ } w0
   rw [R.era_ _ _ _ _ r1e,fX];exact r2⟩)
  have hxb:Ext S1 {S1 with objs:=upd S1.objs l (some (.loop (bsy fn tmps p asg body D)))}:=⟨rfl,rfl,fun g o hg=>by
   by_cases hgl:g=l
   ·subst hgl
    rw [r1] at hg
    cases hg
    exact ⟨_,af _ _ _,fun x hx=>(by cases hx),fun r hr=>⟨_,rfl⟩⟩
   ·exact ⟨o,(ae _ _ _ _ hgl).trans hg,fun _ _=>rfl,fun r hr=>⟨r,hr⟩⟩⟩
  refine wpIn_mono (h7 (some l) n w0 _ (E1.put l (.loop (bsy fn tmps p asg body D))) a1 [] h9 (h2.ext hxb)) ?_
  intro e2 a2 w2 hq2
  cases e2 with
  |normal=>
   obtain ⟨S2,D2,E2,s2,g1,g2,g3,rfl,g5,cx2,g6,g7⟩:=hq2
   exact fin none ((h1.trans hxb).trans g1) g6 g5 g7
  |ret=>
   obtain ⟨S2,D2,E2,s2,g1,g2,g3,rfl,g5,cx2,g6,g7⟩:=hq2
   exact fin (some .ret) ((h1.trans hxb).trans g1) g6 g5 g7
  |exit id=>
   obtain ⟨S2,D2,E2,s2,g1,g2,g3,rfl,g5,cx2,g6,g7⟩:=hq2
   exact fin (some (.exit id)) ((h1.trans hxb).trans g1) g6 g5 g7
  |goto t=>exact hq2.elim
  |panic ch=>exact hq2.elim
  |outgrown=>exact hq2.elim
 |exit id=>
  obtain ⟨_,_,_,_,_,_,_,_,_,h,_⟩:=hq
  cases h
 |ret=>
  obtain ⟨_,_,_,_,_,_,_,_,_,h,_⟩:=hq
  cases h
 |goto l=>exact hq.elim
 |panic ch=>exact hq.elim
 |outgrown=>exact hq.elim
end
end Go.DL
end
section
namespace Go.DL
open Go.RowKit
section
variable [Glb] {P:Program} {X:List FuncId} {N:Nat} {w0:World} {S0:aa} {E:Env} {st:St} {n:Nat} {ro:Option Nat}
def CxN (cx:aa→World→Prop):Prop:= ∀S w D y,S.objs D=none→cx S w→cx {S with objs:=upd S.objs D (some y)} w
end
section
variable {P:Program} {X:List FuncId} {N:Nat} {w0:World} {S0:aa} {E:Env} {st:St} {n:Nat} {ro:Option Nat}
theorem ep {α:Type} (f:Nat→α) {n m:Nat} (h:n≠m) (x y:α):upd (upd f n x) m y=upd (upd f m y) n x:=by
 funext k
 by_cases h1:k=n
 ·subst h1;rw [ae _ _ _ _ h,af,af]
 ·by_cases h2:k=m
  ·subst h2;rw [af,ae _ _ _ _ h1,af]
  ·rw [ae _ _ _ _ h2,ae _ _ _ _ h1,ae _ _ _ _ h1,ae _ _ _ _ h2]
theorem pZ {l m:Nat} {rc:Loop} {cxo:aa→World→Prop} (h:CxD cxo):CxD (dt l rc cxo m):=fun S w D x y hD hc=>by
 obtain ⟨h1,h2,h3,h4⟩:=hc
 have hne:D≠l:=fun e=>by rw [e,h1] at hD;cases hD
 refine ⟨(ae _ _ _ _ (fun e=>hne e.symm)).trans h1,h2,h3,?_⟩
 show cxo {S with objs:=upd (upd S.objs D (some y)) l none,vals:=_ } w
 rw [ep _ hne]
 exact h _ w D x y ((ae _ _ _ _ hne).trans hD) h4
theorem rl {l m:Nat} {rc:Loop} {cxo:aa→World→Prop} (h:CxN cxo):CxN (dt l rc cxo m):=fun S w D y hD hc=>by
 obtain ⟨h1,h2,h3,h4⟩:=hc
 have hne:D≠l:=fun e=>by rw [e,h1] at hD;cases hD
 refine ⟨(ae _ _ _ _ (fun e=>hne e.symm)).trans h1,h2,h3,?_⟩
 show cxo {S with objs:=upd (upd S.objs D (some y)) l none,vals:=_ } w
 rw [ep _ hne]
 exact h _ w D y ((ae _ _ _ _ hne).trans hD) h4
theorem rI:CxD (fun _ _=>True):=fun _ _ _ _ _ _ _=>trivial
theorem rJ:CxN (fun _ _=>True):=fun _ _ _ _ _ _=>trivial
end
section
variable [Glb] {P:Program} {X:List FuncId} {N:Nat} {w0:World} {S0:aa} {E:Env} {st:St} {n:Nat} {ro:Option Nat}
def St.itr (st:St) (l:Nat) (caps:List V) (off:Nat) (rc:Loop):St:=
 {sl:=fun m=>match m with|0=>lP l|k+1=>caps[k]?.getD .top,bx:=st.bx,gh:=dI st.sl st.gh,off:=off,cx:=dt l rc st.cx 0 }
def pO (l:Nat) (rc:Option Code→Loop) (off:Nat) (Q:ax→St→Prop):ax→St→Prop
 |.exit _,_=>False
 |_,s2=> ∃oc cxo,s2.cx=dt l (rc oc) cxo 0∧CxD cxo∧match oc with
  |none=>Q .normal (s2.bA off cxo)
  |some .ret=>Q .ret (s2.bA off cxo)
  |some (.exit id)=>Q (.exit id) (s2.bA off cxo)
  |some _=>False
theorem aF.range {g:Operand} {y:O} {p:Nat} {asg body:Code} (hg:ao g=some y) {gf:FuncId} {caps:List V} (hv:gm (ev st.sl y)=some (gf,caps))
  {fnI:Func} {cI:Code} (hf:P.funcs[gf]? =some fnI) (hb:fnI.body=some cI) (hn:(fnI.name== "runtime.NumGoroutine")=false) (hr:fnI.results= #[]) (ha:caps.length+1≤fnI.ntmps) (off:Nat) (hcn:CxN st.cx) {Q:ax→St→Prop}
  (h: ∀(l D:Nat) (fn:FuncId) (tmps:Array Value),tmps.size=N→aF P fnI.ntmps cI (st.itr l caps off (rdy fn tmps p asg body D)) (pO l (rcE fn tmps p asg body D) st.off Q)):
  aF P N (.rangeFunc g #[p] asg body) st Q:=by
 intro ro n w0 S0 E a Ds hs hm
 have hgv:=ah hs.sl hg
 have key: ∃lb:Array Value,a.eval g= .func (.func gf) #[] lb∧lb.size=caps.length∧ ∀(i:Nat) (v:Value) (u:V),lb[i]? =some v→caps[i]? =some u→VR E v u:=by
  unfold gm at hv
  split at hv
  ·rename_i f cs he
   simp only [Option.some.injEq,Prod.mk.injEq] at hv
   obtain ⟨rfl,rfl⟩:=hv
   rw [he] at hgv
   have hrep:=hgv.av
   generalize a.eval g=v at hrep
   cases hrep with
   |clos _ cv _ hs hh=>
    refine ⟨cv,rfl,by simpa using hs,fun i v u hv hu=>?_⟩
    simp only [List.getElem?_map,Option.map_eq_some_iff] at hu
    obtain ⟨t,ht,rfl⟩:=hu
    exact .t _ _ (hh i v t hv ht)
  ·rename_i f cs he
   simp only [Option.some.injEq,Prod.mk.injEq] at hv
   obtain ⟨rfl,rfl⟩:=hv
   rw [he] at hgv
   generalize a.eval g=v at hgv
   cases hgv with
   |fn _ cv _ hs hh=>exact ⟨cv,rfl,hs,hh⟩
  ·cases hv
 obtain ⟨lb,hga,hsz,hcaps⟩:=key
 have hcallable:=bM hf (P:=P) (f:=gf) (by rw [hb];rfl) hn
 have fresh: ∀g,E.w.heap.size≤g→S0.objs g=none:=fun g hge=>by
  cases ho:S0.objs g with
  |none=>rfl
  |some o=>
   have:=(Array.getElem?_eq_some_iff.1 (hs.obj g o ho).2).1
   omega
 have core: ∀(fn:FuncId) (l Dd:Nat) (mark:List Nat) (W1:World) (O:Nat→Option Obj),Below E.w.heap.size E.w W1→E.w.heap.size≤l→W1.heap[l]? =some (.loop (rdy fn a.tmps p asg body Dd))→O l=none→
   (∀ g o,S0.objs g=some o→O g=some o)→(∀ g o,O g=some o→S0.objs g=some o∨g∈mark)→(∀ D∈mark,O D=some (.deferred (some []))∧W1.heap[D]? =some (.deferred (some []))∧E.w.heap.size≤D∧D≠l)→mark.Nodup→(ro≠none→mark=[])→st.cx {S0 with objs:=O } w0→
   CallsIn (fw ro) (n - 1) P gf (#[.func (.yield l) #[] #[]]++lb) W1 (rangePost (fw ro) n P l (dC N w0 S0 ro Ds Q) {a with defers:=mark.map mkD++a.defers }):=by
  intro fn l Dd mark W1 O hb1 hle hL1 hOl hO1 hO2 hmk hmn hmr hcx
  have h1:=hs.world hb1 E.S (fun b o=>⟨.inl,fun hh=>hh.elim id fun k=>k.1⟩)
  let rc:=rdy fn a.tmps p asg body Dd
  let S0i:aa:={S:=S0.S,vals:=jH (fun m=>a.tmps.getD m undef) S0.vals,objs:=upd O l (some (.loop rc))}
  have hwl:w0.heap.size≤E.w.heap.size:=hs.below.size
  have hobj: ∀(k:Nat) (o:Obj),S0i.objs k=some o→bP o=true∧W1.heap[k]? =some o:=fun k o hk=>by
   have hk:upd O l (some (.loop rc)) k=some o:=hk
   by_cases e1:k=l
   ·subst e1;rw [af] at hk;cases hk;exact ⟨rfl,hL1⟩
   ·rw [ae _ _ _ _ e1] at hk
    rcases hO2 k o hk with h|h
    ·exact h1.obj k o h
    ·obtain ⟨k1,k2,_⟩:=hmk k h
     rw [k1] at hk;cases hk
     exact ⟨rfl,k2⟩
  have hsr:SR fnI.ntmps w0 S0i {E with w:=W1 } (st.itr l caps off rc) ((#[.func (.yield l) #[] #[]]++lb)++Array.replicate (fnI.ntmps - (#[Value.func (.yield l) #[] #[]]++lb).size) undef):=by
   refine ⟨by simp [hsz];omega,h1.base,h1.glob,fun m=>?_,fun k m=>?_,h1.bx,h1.live,h1.inj,h1.rows,h1.rinj,h1.lt,h1.below,h1.s0,h1.s1,hobj,af _ _ _,by omega,fun j=>rfl,?_⟩
   ·cases m with
    |zero=>
     have:((#[Value.func (.yield l) #[] #[]]++lb)++Array.replicate (fnI.ntmps - (#[Value.func (.yield l) #[] #[]]++lb).size) undef).getD 0 undef= .func (.yield l) #[] #[]:=by
      rw [Array.getD_eq_getD_getElem?,Array.getElem?_append_left (by simp;omega),Array.getElem?_append_left (by simp)]
      rfl
     rw [this]
     exact .raw _ rfl
    |succ m=>
     show VR _ _ (caps[m]?.getD .top)
     cases ht:caps[m]? with
     |none=>exact .top _
     |some u=>
      have hlt:m<lb.size:=by rw [hsz];exact (gsZ ht).1
      have hvm:=hcaps m lb[m] u (Array.getElem?_eq_getElem hlt) ht
      have:((#[Value.func (.yield l) #[] #[]]++lb)++Array.replicate (fnI.ntmps - (#[Value.func (.yield l) #[] #[]]++lb).size) undef).getD (m+1) undef=lb[m]:=by
       rw [Array.getD_eq_getD_getElem?,Array.getElem?_append_left (by simp;omega),Array.getElem?_append_right (by simp)]
       simp [hlt]
      rw [this]
      have gr:Grow E {E with w:=W1 }:=⟨rfl,fun _ hl=>⟨hl,rfl⟩,fun r k hr=>⟨hr,hb1.block k (hs.rows r k hr).2.1,fun _=>Iff.rfl⟩,fun _ _ hs=>hs,fun b o hs'=>aB.cB hb1 (hs.lt b o hs')⟩
      exact hvm.grow gr
   ·cases k with
    |zero=>exact h1.sl m
    |succ k=>exact h1.gh k m
   ·show st.cx {S0i with objs:=upd (upd O l _) l none,vals:=_ } w0
    rw [fX]
    have:upd O l none=O:=by
     funext k
     by_cases e:k=l
     ·subst e;rw [af,hOl]
     ·rw [ae _ _ _ _ e]
    rw [this]
    exact hcx
  refine gP (ro:=ro) hf hb hsr (h l Dd fn a.tmps hs.size) (fun S1 E1 s1 a1 hx hs1 hq=>?_) (fun id s hq=>hq.elim) (fun e s hq=>?_)
  ·have hq': ∃oc cxo,s1.cx=dt l (rcE fn a.tmps p asg body Dd oc) cxo 0∧CxD cxo∧(match oc with
     |none=>Q .normal (s1.bA st.off cxo)
     |some .ret=>Q .ret (s1.bA st.off cxo)
     |some (.exit id)=>Q (.exit id) (s1.bA st.off cxo)
     |some _=>False):=by
    rcases hq with hq|hq
    ·exact hq
    ·exact hq
   obtain ⟨oc,cxo,e1,e2,e3⟩:=hq'
   have hc:=hs1.cx
   rw [e1] at hc
   obtain ⟨r1,r2,r3,r4⟩:=hc
   obtain ⟨_,hlw⟩:=hs1.obj l _ r1
   refine ⟨.tuple #[],results_none hr _ _ _,(rcE fn a.tmps p asg body Dd oc).pending,_,run_endLoop hlw (by cases oc <;> simp [rcE]),?_⟩
   obtain ⟨ex,hexd⟩: ∃ex:Obj,ex= .loop {rcE fn a.tmps p asg body Dd oc with state:=.exhausted }:=⟨_,rfl⟩
   have h4:=(hs1.mM (cx':=fun S w=>cxo {S with objs:=upd S.objs l none,vals:=fun k=>S.vals (k+0+1)} w) r4).putObj (x:=.loop (rcE fn a.tmps p asg body Dd oc)) (y:=ex) r1 (by rw [hexd];rfl) (by omega) (by
    show cxo {S1 with objs:=upd (upd S1.objs l _) l none,vals:=_ } w0
    rw [fX];exact r4)
   have hvl:=hx.v
   have hback:SR N w0 {S1 with objs:=upd S1.objs l none,vals:=S0.vals } (E1.put l ex) (s1.bA st.off cxo) a.tmps:=by
    refine ⟨hs.size,h4.base,h4.glob,fun j=>?_,fun k j=>?_,h4.bx,h4.live,h4.inj,h4.rows,h4.rinj,h4.lt,h4.below,h4.s0,h4.s1,fun g o hg=>?_,?_⟩
    ·have:=h4.gh 0 j
     dsimp only at this
     rw [hvl] at this
     exact this
    ·have:=h4.gh (k+1) j
     dsimp only at this
     rw [hvl] at this
     exact this
    ·have hg:upd S1.objs l none g=some o:=hg
     have hgl:g≠l:=fun e=>by subst e;rw [af] at hg;cases hg
     rw [ae _ _ _ _ hgl] at hg
     exact h4.obj g o ((ae _ _ _ _ hgl).trans hg)
    ·have:=r4
     rw [hvl] at this
     exact this
   have hnl: ∀g o,S0.objs g=some o→g≠l:=fun g o hg e=>by rw [e,fresh l hle] at hg;cases hg
   have hext:Ext S0 {S1 with objs:=upd S1.objs l none,vals:=S0.vals }:=⟨hx.s,rfl,fun g o hg=>by
    have hgl:=hnl g o hg
    obtain ⟨o',k1,k2⟩:=hx.o g o ((ae _ _ _ _ hgl).trans (hO1 g o hg))
    exact ⟨o',(ae _ _ _ _ hgl).trans k1,k2⟩⟩
   have hmks:Mks {S1 with objs:=upd S1.objs l none,vals:=S0.vals } w0 ro (mark++Ds) (mark.map mkD++a.defers):=by
    have hm2:=hm.ext hext
    refine ⟨by rw [List.map_append,hm.eq],?_,fun D hD=>?_,hm2.ro⟩
    ·refine List.nodup_append.2 ⟨hmn,hm.nodup,fun x hx' y hy e=>?_⟩
     subst e
     obtain ⟨_,_,k3,_⟩:=hmk x hx'
     have:=(hm.obj x hy).1
     rw [fresh x k3] at this;cases this
    ·rcases List.mem_append.1 hD with hD|hD
     ·obtain ⟨k1,k2,k3,k4⟩:=hmk D hD
      obtain ⟨o',j1,j2,_⟩:=hx.o D _ ((ae _ _ _ _ k4).trans k1)
      rw [j2 _ rfl] at j1
      exact ⟨(ae _ _ _ _ k4).trans j1,by omega⟩
     ·exact hm2.obj D hD
   have hdn:Dn S0 ro Ds (mark++Ds):=⟨fun hr'=>by rw [hmr hr'];rfl,fun D hD=>by
    rcases List.mem_append.1 hD with hD|hD
    ·obtain ⟨_,_,k3,_⟩:=hmk D hD
     exact Or.inr (fresh D k3)
    ·exact Or.inl hD⟩
   have hw:(E1.put l ex).w=E1.w.putObj l (.loop {rcE fn a.tmps p asg body Dd oc with state:=.exhausted }):=by rw [← hexd];rfl
   clear hexd
   match oc,e3,hw with
   |none,e3,hw=>exact ⟨_,mark++Ds,_,_,hext,hmks,hdn,hw,hback,e3⟩
   |some .ret,e3,hw=>exact wpIn_ret ⟨_,mark++Ds,_,_,hext,hmks,hdn,hw,hback,e3⟩
   |some (.exit id),e3,hw=>exact wpIn_exit ⟨_,mark++Ds,_,_,hext,hmks,hdn,hw,hback,e3⟩
  ·have hq': ∃oc cxo,s.cx=dt l (rcE fn a.tmps p asg body Dd oc) cxo 0∧CxD cxo:=by
    cases e with
    |normal=>obtain ⟨oc,cxo,e1,e2,_⟩:=hq;exact ⟨oc,cxo,e1,e2⟩
    |ret=>obtain ⟨oc,cxo,e1,e2,_⟩:=hq;exact ⟨oc,cxo,e1,e2⟩
    |exit id=>exact hq.elim
   obtain ⟨oc,cxo,e1,e2⟩:=hq'
   rw [e1]
   exact pZ e2
 refine wpIn_rangeFunc ?_
 intro fn _
 cases ro with
 |none=>
  let D:=E.w.heap.size
  let l:=E.w.heap.size+1
  let W1:=(E.w.alloc (.deferred (some []))).alloc (.loop (rdy fn a.tmps p asg body D))
  have hL1:W1.heap[l]? =some (.loop (rdy fn a.tmps p asg body D)):=by
   have:=World.alloc_heap_new (E.w.alloc (.deferred (some []))) (.loop (rdy fn a.tmps p asg body D));rwa [World.size_alloc] at this
  have hK1:W1.heap[D]? =some (.deferred (some [])):=(Below.heap_alloc _ _ _ (by simp [D])).trans (World.alloc_heap_new E.w _)
  have hb1:Below E.w.heap.size E.w W1:=((Below.refl _ E.w).alloc (Nat.le_refl _) _).alloc (by simp) _
  have hDl:l≠D:=by show E.w.heap.size+1≠E.w.heap.size;omega
  refine ⟨l,[mkD D],W1,{target:=.fn (.func gf) lb,args:= #[.func (.yield l) #[] #[]]},W1,gf, #[.func (.yield l) #[] #[]]++lb,W1,run_enterLoop_outer _ _ _ _ _,?_,fun f' _=>trivial,?_,fun hh=>(by cases hh),?_⟩
  ·simp only [resolve,hga]
   simp [go_sem]
  ·simp [invoke,go_sem,hcallable _ _]
  ·refine core fn l D [D] W1 (upd S0.objs D (some (.deferred (some [])))) hb1 (by show _≤E.w.heap.size+1;omega) hL1 ?_ (fun g o hg=>?_) (fun g o hg=>?_) (fun D' hD'=>?_) (by simp) (fun h=>absurd rfl h) (hcn _ _ _ _ (fresh D (Nat.le_refl _)) hs.cx)
   ·rw [ae _ _ _ _ hDl];exact fresh l (by show _≤E.w.heap.size+1;omega)
   ·have:g≠D:=fun e=>by rw [e,fresh D (Nat.le_refl _)] at hg;cases hg
    exact (ae _ _ _ _ this).trans hg
   ·by_cases e:g=D
    ·exact Or.inr (by rw [e];simp)
    ·rw [ae _ _ _ _ e] at hg;exact Or.inl hg
   ·rw [List.mem_singleton.1 hD']
    exact ⟨af _ _ _,hK1,Nat.le_refl _,fun e=>hDl e.symm⟩
 |some l0=>
  obtain ⟨r0,hr0⟩:=hm.ro l0 rfl
  obtain ⟨_,hlw0⟩:=hs.obj l0 _ hr0
  let l:=E.w.heap.size
  let W1:=E.w.alloc (.loop (rdy fn a.tmps p asg body r0.defers))
  have hL1:W1.heap[l]? =some (.loop (rdy fn a.tmps p asg body r0.defers)):=World.alloc_heap_new E.w _
  have hb1:Below E.w.heap.size E.w W1:=(Below.refl _ E.w).alloc (Nat.le_refl _) _
  refine ⟨l,[],W1,{target:=.fn (.func gf) lb,args:= #[.func (.yield l) #[] #[]]},W1,gf, #[.func (.yield l) #[] #[]]++lb,W1,run_enterLoop_inner hlw0 _ _ _ _ _,?_,fun f' _=>trivial,?_,fun hh=>(by cases hh),?_⟩
  ·simp only [resolve,hga]
   simp [go_sem]
  ·simp [invoke,go_sem,hcallable _ _]
  ·exact core fn l r0.defers [] W1 S0.objs hb1 (Nat.le_refl _) hL1 (fresh l (Nat.le_refl _)) (fun g o hg=>hg) (fun g o hg=>Or.inl hg) (fun D' hD'=>by simp at hD') (by simp) (fun _=>rfl) hs.cx
end
end Go.DL
end
section
namespace Go.DL
open Go.RowKit
section
variable [Glb] {P:Program} {X:List FuncId} {N:Nat} {w0:World} {S0:aa} {a:Act} {E:Env} {st:St}
abbrev cd (w:World):aq:=fun b _=>b<w.heap.size
def iR (f:V→Option T):List V→Option (List T)
 |[]=>some []
 |v::vs=>match f v,iR f vs with
  |some x,some xs=>some (x::xs)
  |_,_=>none
def cvM (bx:Nat→Option BX):Nat→V→Option T
 |0,_=>none
 |k+1,v=>match v with
  |.fn f caps=>match iR (cvM bx k) caps with
   |some ts=>some (.clos f ts)
   |none=>none
  |.ptr n off=>match bx n with
   |some (.v vs)=>match iR (cvM bx k) vs with
    |some ts=>some (.cptr ts off)
    |none=>none
   |_=>match aT bx (.ptr n off) with
    |some (t,_)=>some t
    |none=>none
  |v=>match aT bx v with
   |some (t,_)=>some t
   |none=>none
end
section
variable {P:Program} {X:List FuncId} {N:Nat} {w0:World} {S0:aa} {a:Act} {E:Env} {st:St}
theorem gd {f:V→Option T}: ∀{vs:List V} {ts:List T},iR f vs=some ts→vs.length=ts.length∧ ∀(i:Nat) (v:V) (t:T),vs[i]? =some v→ts[i]? =some t→f v=some t
 |[],ts,h=>by simp [iR] at h;subst h;exact ⟨rfl,fun i v t hv=>by simp at hv⟩
 |v::vs,ts,h=>by
  unfold iR at h
  split at h
  ·rename_i x xs hx hxs
   cases h
   obtain ⟨h1,h2⟩:=gd hxs
   refine ⟨by simp [h1],fun i v t hv ht=>?_⟩
   cases i with
   |zero=>simp at hv ht;subst hv;subst ht;exact hx
   |succ i=>simp at hv ht;exact h2 i v t hv ht
  ·cases h
end
section
variable [Glb] {P:Program} {X:List FuncId} {N:Nat} {w0:World} {S0:aa} {a:Act} {E:Env} {st:St}
theorem gT (h:SR N w0 S0 E st a.tmps): ∀{k:Nat} {u:V} {v:Value} {t:T},VR E v u→cvM st.bx k u=some t→Rep (cd E.w) E.w v t
 |0,u,v,t,_,hc=>by cases hc
 |k+1,u,v,t,hv,hc=>by
  have all: ∀{rd:List Nat} (b o:Nat),Sx E rd b o→cd E.w b o:=by
   rintro rd b o (h1|⟨n,_,hl,rfl⟩)
   ·exact h.lt b o h1
   ·exact jy h hl
  have one: ∀{t':T} {rd:List Nat},aT st.bx u=some (t',rd)→Rep (cd E.w) E.w v t':=fun h1=>(dj h.bx hv h1).mono all (fun _ _ _=>aB.rfl)
  have fall:(match aT st.bx u with|some (t,_)=>some t|none=>none)=some t→Rep (cd E.w) E.w v t:=fun hc=>by
   split at hc
   ·rename_i t' rd h1;cases hc;exact one h1
   ·cases hc
  unfold cvM at hc
  split at hc
  ·rename_i f caps
   split at hc
   ·rename_i ts hts
    cases hc
    cases hv with
    |fn _ cs _ hs hcaps=>
     obtain ⟨g1,g2⟩:=gd hts
     refine .clos f cs ts (by omega) fun i x t hx ht=>?_
     have hi:i<caps.length:=by rw [g1];exact (gsZ ht).1
     have hci:=ggZ hi
     exact gT h (hcaps i x _ hx hci) (g2 i _ t hci ht)
   ·cases hc
  ·rename_i n off
   split at hc
   ·rename_i vs hb
    split at hc
    ·rename_i ts hts
     cases hc
     cases hv with
     |ptr _ _ hl=>
      obtain ⟨cs,e,hg,hcr⟩:=(h.bx n _ hb).cells rfl
      cases hcr with
      |v _ h1 h2=>
      obtain ⟨g1,g2⟩:=gd hts
      have key: ∀(i:Nat) (x:Value) (t:T),cs[i]? =some x→ts[i]? =some t→Rep (cd E.w) E.w x t∧t.one=true:=fun i x t hx ht=>by
       have hi:i<vs.length:=by rw [g1];exact (gsZ ht).1
       have hvi:=ggZ hi
       obtain ⟨k1,k2⟩:=h2 i x _ hx hvi
       have:=gT h k1 (g2 i _ t hvi ht)
       exact ⟨this,this.jG k2⟩
      have hlt: ∀i,i<ts.length→i<cs.size:=fun i hi=>by omega
      have:=Rep.cptr (S:=cd E.w) (w:=E.w) (E.κ n) 0 off ts (fun i=>cs[i]?.getD undef)
       (fun t ht=>by
        obtain ⟨i,hi⟩:=List.mem_iff_getElem?.1 ht
        have hl:=hlt i (gsZ hi).1
        exact (key i cs[i] t (by simp [hl]) hi).2)
       (fun i hi=>by
        have hl:=hlt i hi
        rw [Nat.zero_add,cell_of_row _ _ _ _ _ _ hg]
        exact ⟨by simp [hl],(h.bx n _ hb).lt⟩)
       (fun i t ht=>by
        have hl:=hlt i (gsZ ht).1
        have:=(key i cs[i] t (by simp [hl]) ht).1
        simpa only [hl,getElem?_pos,Option.getD_some] using this)
      rwa [Nat.zero_add] at this
    ·cases hc
   ·exact fall hc
  ·exact fall hc
abbrev cvA (st:St) (us:List V):Option (List T):=iR (cvM st.bx 6) us
theorem mY (h:SR N w0 S0 E st a.tmps) {us:List V} {ts:List T} (hc:cvA st us=some ts) {vs:Array Value} (hlen:vs.size=us.length) (hv: ∀(i:Nat) (v:Value) (u:V),vs[i]? =some v→us[i]? =some u→VR E v u):
  vs.toList.length=ts.length∧ ∀(i:Nat) (v:Value) (t:T),vs.toList[i]? =some v→ts[i]? =some t→Rep (cd E.w) E.w v t:=by
 obtain ⟨g1,g2⟩:=gd hc
 refine ⟨by simp;omega,fun i v t hvi ht=>?_⟩
 have hi:i<us.length:=by rw [g1];exact (gsZ ht).1
 have hui:=ggZ hi
 exact gT h (hv i v _ (by simpa using hvi) hui) (g2 i _ t hui ht)
theorem SR.qI {b:Array Value} (h:SR N w0 S0 E st b):bI (cd E.w) E.w:=h.jw.up (fun b o hs=>h.lt b o hs) (Below.refl _ _)
abbrev mw (w w':World):aq:=fun b _=>w.heap.size≤b∧b<w'.heap.size
def kB (P:Program) (f:FuncId) (ts:List T) (r:T):Prop:=
 bD P f∧ ∀(w:World) (vs:List Value),bI (cd w) w→vs.length=ts.length→(∀ (i:Nat) (v:Value) (t:T),vs[i]? =some v→ts[i]? =some t→Rep (cd w) w v t)→
  Calls P f vs.toArray w fun e w'=> ∃v,e= .returned v∧Below w.heap.size w w'∧Rep (mw w w') w' v r
inductive eX (bx:Nat→Option BX):V→T→Prop
 |flat (t:T) (h:t.flat=true):eX bx (.t t) t
 |nil (n:Nat):eX bx (.t .nil) (.slice n [])
 |own (q:Nat) (e:TypeId) (n:Nat) (xs:List T) (h: ∀t∈xs.flatMap T.cells,t.flat=true):eX bx (.own q e n xs) (.slice n xs)
 |view (n off len size m:Nat) (ts:List T) (r:T) (rd:List Nat) (hb:bx n=some (.d m ts)) (h: ∀t∈ts,t.flat=true) (hc:aT bx (.view n off len size)=some (r,rd)):eX bx (.view n off len size) r
end
section
variable {P:Program} {X:List FuncId} {N:Nat} {w0:World} {S0:aa} {a:Act} {E:Env} {st:St}
theorem mW {size:Nat}: ∀(n:Nat) (cs:List T) (t:T),(∀ u∈cs,u.one=true)→0<size→n * size≤cs.length→t∈(chunk size n cs).flatMap T.cells→t∈cs:=fun n cs t h1 h0 hl ht=>by
 rw [(cT h0 n cs hl h1).1] at ht
 exact List.mem_of_mem_take ht
theorem Rep.kj {S S':aq} {w:World} {g off len cap n:Nat} {xs:List T} (h:Rep S w (.slice (some ⟨g,off,none⟩) len cap) (.slice n xs)) (hS: ∀o,S' g o) (hf: ∀t∈xs.flatMap T.cells,t.flat=true):Rep S' w (.slice (some ⟨g,off,none⟩) len cap) (.slice n xs):=by
 cases h with
 |slice a b o _ _ _ _ gv hl hc hu h1 ha hg h=>
  refine .slice _ b o len cap n xs gv hl hc hu h1 ha (fun i hi=>⟨(hg i hi).1,?_⟩) (fun i t ht=>(h i t ht).of_flat (hf t (List.mem_of_getElem? ht)))
  have:=ha (by omega)
  simp only [Option.some.injEq,Addr.mk.injEq] at this
  rw [← this.1]
  exact hS _
end
section
variable [Glb] {P:Program} {X:List FuncId} {N:Nat} {w0:World} {S0:aa} {a:Act} {E:Env} {st:St}
theorem eX.sound (h:SR N w0 S0 E st a.tmps) {u:V} {v:Value} {t:T} (hn:eX st.bx u t) (hv:VR E v u):Rep (mw w0 E.w) E.w v t:=by
 cases hn with
 |flat _ hf=>exact hv.av.of_flat hf
 |nil n=>exact (hv.av.kh n).of_flat rfl
 |own q e n xs hf=>
  have ho:=hv.dO
  have hr:=ho.rep
  obtain ⟨cells,k1,k2,k3⟩:=ho.ex
  rcases k1.2 with ⟨rfl,hx⟩|⟨g,cap,cur,rfl,hbg,hg,_⟩
  ·have hx:xs=[]:=List.eq_nil_of_length_eq_zero hx
   subst hx
   exact hr.of_flat rfl
  ·have hlt:g<E.w.heap.size:=(Array.getElem?_eq_some_iff.1 hg).1
   refine hr.kj (fun o=>⟨?_,hlt⟩) hf
   rw [← h.base];exact hbg
 |view n off len size m ts _ rd hb hf hc=>
  have hr:=dj h.bx hv hc
  have hcw:=hc
  simp only [aT,hb] at hc
  cases hcd:(Nat.blt 0 size&&Nat.ble (off+len * size) m) with
  |false=>rw [hcd] at hc;cases hc
  |true=>
  rw [hcd] at hc
  simp only [cond_true,Option.some.injEq,Prod.mk.injEq] at hc
  obtain ⟨rfl,rfl⟩:=hc
  rw [Bool.and_eq_true] at hcd
  have hle:off+len * size≤m:=nlZ hcd.2
  have hpos:0<size:=Nat.lt_of_lt_of_le (Nat.lt_succ_self 0) (nlZ hcd.1)
  obtain ⟨cs,e,hg,hcr⟩:=(h.bx n _ hb).cells rfl
  have hB:=h.bx n _ hb
  cases hcr with
  |d _ _ h1 h2 h3=>
  have ones: ∀t∈ts.drop off,t.one=true:=fun t ht=>by
   have ht:=List.mem_of_mem_drop ht
   obtain ⟨i,hi⟩:=List.mem_iff_getElem?.1 ht
   have hlt:i<cs.size:=by have:=(gsZ hi).1;omega
   exact (h3 i cs[i] t (by simp [hlt]) hi).2
  cases hv with
  |view _ _ _ _ cap hl hcap=>
  refine hr.kj (fun o=>⟨?_,hB.lt⟩) fun t ht=>hf t ?_
  ·rw [← h.base];exact hB.old
  ·exact List.mem_of_mem_drop (mW len (ts.drop off) t ones hpos (by simp;omega) ht)
def qD (rs:List ResultVar) (r:T):ax→St→Prop
 |.exit _,_=>False
 |_,st=> ∃u,dJ st rs=some [u]∧eX st.bx u r
theorem qJ (hm:P.follows .mixedOrders=true) {f:FuncId} {fn:Func} {d:aV} {N:Nat} {rs:List ResultVar} (hf:P.funcs[f]? =some fn) (hl:(fn.body.bind (bz P N X))=some d) (hN:fn.ntmps=N) (hn:(fn.name== "runtime.NumGoroutine")=false)
  (hr:fn.results.toList=rs) {args:List T} {r:T} (ha:args.length≤N) (h:wpC P d (eO args) (qD rs r)):kB P f args r:=by
 cases hb:fn.body with
 |none=>rw [hb] at hl;cases hl
 |some c=>
  rw [hb] at hl
  subst hN;subst hr
  refine ⟨bM hf (by rw [hb];rfl) hn,fun w vs hG hlen hrep=>calls_of_wp hf hb ?_⟩
  have hsr:=fQ (N:=fn.ntmps) (fun b o hs=>hs) hG hlen hrep ha
  refine wp_mono (jO hm hl (a:={tmps:=vs.toArray++Array.replicate (fn.ntmps - vs.toArray.size) undef,defers:=[]}) hsr h) ?_
  have fin: ∀{a':Act} {w':World},bo fn.ntmps w {S:=cd w } [] (fun st=> ∃u,dJ st fn.results.toList=some [u]∧eX st.bx u r) a' w'→
    a'.defers=[]∧ ∃v,(results fn a'.tmps).run P w'= .ok v w'∧ ∃v',Ending.returned v= .returned v'∧Below w.heap.size w w'∧Rep (mw w w') w' v' r:=by
   rintro a' w' ⟨E',st',rfl,hsr',hdf,u,hres,hu⟩
   obtain ⟨v,h1,h2⟩:=ib (P:=P) hsr' hres
   exact ⟨hdf,v,h1,v,rfl,hsr'.below,hu.sound hsr' h2⟩
  intro en a' w' hh
  cases en with
  |normal=>exact fin hh
  |ret=>exact fin hh
  |exit id=>
   obtain ⟨_,_,_,_,_,hk⟩:=hh
   exact hk.elim
  |goto l=>exact hh.elim
  |panic ch=>exact hh.elim
  |outgrown=>exact hh.elim
def fE (P:Program) (f:FuncId) (ts:List T) (e:TypeId) (size:Nat) (R:List T→Prop):Prop:=
 bD P f∧ ∀(w:World) (vs:List Value),bI (cd w) w→vs.length=ts.length→(∀ (i:Nat) (v:Value) (t:T),vs[i]? =some v→ts[i]? =some t→Rep (cd w) w v t)→
  Calls P f vs.toArray w fun en w'=> ∃(v:Value) (xs:List T),R xs∧en= .returned v∧Below w.heap.size w w'∧ez w w' v e size xs
def pN (rs:List ResultVar) (e:TypeId) (size:Nat) (R:List T→Prop):ax→St→Prop
 |.exit _,_=>False
 |_,st=> ∃xs u,R xs∧(∀ t∈xs.flatMap T.cells,t.flat=true)∧dJ st rs=some [u]∧((∃ q,u= .own q e size xs)∨(u= .t .nil∧xs=[]))
theorem qx (hm:P.follows .mixedOrders=true) {f:FuncId} {fn:Func} {d:aV} {N:Nat} {rs:List ResultVar} (hf:P.funcs[f]? =some fn) (hl:(fn.body.bind (bz P N X))=some d) (hN:fn.ntmps=N) (hn:(fn.name== "runtime.NumGoroutine")=false)
  (hr:fn.results.toList=rs) {args:List T} {e:TypeId} {size:Nat} {R:List T→Prop} (ha:args.length≤N) (h:wpC P d (eO args) (pN rs e size R)):fE P f args e size R:=by
 cases hb:fn.body with
 |none=>rw [hb] at hl;cases hl
 |some c=>
  rw [hb] at hl
  subst hN;subst hr
  refine ⟨bM hf (by rw [hb];rfl) hn,fun w vs hG hlen hrep=>calls_of_wp hf hb ?_⟩
  have hsr:=fQ (N:=fn.ntmps) (fun b o hs=>hs) hG hlen hrep ha
  refine wp_mono (jO hm hl (a:={tmps:=vs.toArray++Array.replicate (fn.ntmps - vs.toArray.size) undef,defers:=[]}) hsr h) ?_
  have fin: ∀{a':Act} {w':World},bo fn.ntmps w {S:=cd w } [] (fun st=> ∃xs u,R xs∧(∀ t∈xs.flatMap T.cells,t.flat=true)∧dJ st fn.results.toList=some [u]∧((∃ q,u= .own q e size xs)∨(u= .t .nil∧xs=[]))) a' w'→
    a'.defers=[]∧ ∃v,(results fn a'.tmps).run P w'= .ok v w'∧ ∃(v':Value) (xs:List T),R xs∧Ending.returned v= .returned v'∧Below w.heap.size w w'∧ez w w' v' e size xs:=by
   rintro a' w' ⟨E',st',rfl,hsr',hdf,xs,u,hR,hfl,hres,hu⟩
   obtain ⟨v,h1,v',us',h2,h3,h4,h5,_⟩:=kk (P:=P) (rest:=[]) hsr' hfl (fun t ht=>by simp at ht) (by simpa using hres) hu
   have:us'=[]:=List.eq_nil_of_length_eq_zero h5
   subst this
   exact ⟨hdf,v,h1,v',xs,hR,h2,h3,h4⟩
  intro en a' w' hh
  cases en with
  |normal=>exact fin hh
  |ret=>exact fin hh
  |exit id=>
   obtain ⟨_,_,_,_,_,hk⟩:=hh
   exact hk.elim
  |goto l=>exact hh.elim
  |panic ch=>exact hh.elim
  |outgrown=>exact hh.elim
theorem gV {f:FuncId} {us:List V} {ts:List T} {e:TypeId} {size:Nat} {R:List T→Prop} (hc:cvA st us=some ts) (hr:fE P f ts e size R)
  (h:SR N w0 S0 E st a.tmps) {vs:Array Value} (hlen:vs.size=us.length) (hv: ∀(i:Nat) (v:Value) (u:V),vs[i]? =some v→us[i]? =some u→VR E v u):
  Calls P f vs E.w fun en w'=> ∃(v:Value) (xs:List T),R xs∧en= .returned v∧Below E.w.heap.size E.w w'∧ez E.w w' v e size xs∧SR N w0 S0 {E with w:=w' } st a.tmps:=by
 obtain ⟨c1,c2⟩:=mY h hc hlen hv
 refine Calls.mono (by simpa using hr.2 E.w vs.toList h.qI c1 c2) ?_
 rintro en w' ⟨v,xs,hR,rfl,hb,hfr⟩
 exact ⟨v,xs,hR,rfl,hb,hfr,h.world hb E.S (fun b o=>⟨.inl,fun hh=>hh.elim id fun k=>k.1⟩)⟩
theorem q9 {f:FuncId} {us:List V} {d:Nat} {K:St→Prop} {ts:List T} {e:TypeId} {size:Nat} {R:List T→Prop} (hc:cvA st us=some ts) (hr:fE P f ts e size R)
  (hk: ∀xs,R xs→K ((st.dg (d+st.off) (d+st.off)).set (some d) (.own (d+st.off) e size xs))):WC P f us (some d) st K:=by
 refine ⟨hr.1,fun N w0 S0 E a vs h hlen hv hd=>Calls.mono (gV (a:=⟨a,[]⟩) hc hr h hlen hv) ?_⟩
 rintro en w' ⟨v,xs,hR,rfl,hb,hfr,h'⟩
 refine ⟨_,rfl,?_⟩
 have h1:=h'.dg (d+st.off) (d+st.off)
 have klt: ∀m,E.live m=true→E.κ m<E.w.heap.size:=fun m hm=>jy (a:=⟨a,[]⟩) h hm
 obtain ⟨cells,k1,k2,k3⟩:=hfr.ex
 rcases k1.2 with ⟨rfl,hn⟩|⟨g,cap,cur,rfl,hbg,hg,hcap,hm,hs,htk⟩
 ·have hx:xs=[]:=List.eq_nil_of_length_eq_zero hn
  subst hx
  exact ⟨_,_,rfl,hk _ hR,cZ h1 hd (.own _ _ _ _ _ (b9.nil _ _ _))⟩
 ·have hlt:g<w'.heap.size:=(Array.getElem?_eq_some_iff.1 hg).1
  have h2:=h1.kD (q:=d+st.off) (g:=g) (k:=(xs.flatMap T.cells).length) (by simp) (fun m hm=>by have:=klt m hm;show E.κ m≠g;omega) (fun r hr=>by
   dsimp only at hr
   split at hr
   ·cases hr
   ·have:=(h.rows r g hr).2.1;omega) hlt (by show E.B≤g;rw [h.base];have:=h.below.size;omega)
  refine ⟨_,_,rfl,hk _ hR,cZ h2 hd (.own _ _ _ _ _ ⟨⟨cells,⟨k1.1,.inr ⟨g,cap,cur,rfl,?_,hg,hcap,hm,hs,htk⟩⟩,k2,fun i x t hx ht=>(k3 i x t hx ht).of_flat (hfr.flat t (List.mem_of_getElem? ht))⟩,hfr.uni,hfr.one,fun g' hg'=>?_⟩)⟩
  ·show E.B≤g;rw [h.base];have:=h.below.size;omega
  ·simp only [Value.ownBlock,Option.some.injEq] at hg'
   subst hg'
   refine ⟨af _ _ _,fun o=>?_⟩
   show (E.S g o∨(g=g∧o<_))↔_
   exact ⟨fun hh=>hh.elim (fun hs=>absurd (h.lt g o hs) (by omega)) (·.2),fun hh=>.inr ⟨rfl,hh⟩⟩
theorem qV {f:FuncId} {us:List V} {d:Nat} {K:St→Prop} {ts:List T} {e:TypeId} {size:Nat} {R:List T→Prop} (hc:cvA st us=some ts) (hr:fE P f ts e size R) (hq:st.bx (d+st.off)=none)
  (hnil:R []→K (st.set (some d) (.t .nil))) (hk: ∀xs,R xs→(∀ x∈xs,x.cells.length=size)→K ({st with bx:=upd st.bx (d+st.off) (some (.d (xs.length * size) (xs.flatMap T.cells)))}.set (some d) (.view (d+st.off) 0 xs.length size))):WC P f us (some d) st K:=by
 refine ⟨hr.1,fun N w0 S0 E a vs h hlen hv hd=>Calls.mono (gV (a:=⟨a,[]⟩) hc hr h hlen hv) ?_⟩
 rintro en w' ⟨v,xs,hR,rfl,hb,hfr,h'⟩
 refine ⟨_,rfl,?_⟩
 have klt: ∀m,E.live m=true→E.κ m<E.w.heap.size:=fun m hm=>jy (a:=⟨a,[]⟩) h hm
 obtain ⟨cells,k1,k2,k3⟩:=hfr.ex
 rcases k1.2 with ⟨rfl,hn⟩|⟨g,cap,cur,rfl,hbg,hg,hcap,hm,hs,htk⟩
 ·have hx:xs=[]:=List.eq_nil_of_length_eq_zero hn
  subst hx
  exact ⟨_,_,rfl,hnil hR,cZ h' hd (.t _ _ .nil)⟩
 ·have hfl:=aI hfr.uni
  have hle:xs.length * size≤cur.size:=by rw [hs];exact Nat.mul_le_mul_right _ hcap
  have h2:=h'.kC (q:=d+st.off) (g:=g) hq (fun m hm=>by have:=klt m hm;show E.κ m≠g;omega) (fun r hr=>by have:=(h.rows r g hr).2.1;omega)
   (bx:=.d (xs.length * size) (xs.flatMap T.cells)) ⟨by show E.B≤g;rw [h.base];have:=h.below.size;omega,fun o hs=>absurd (h.lt g o hs) (by omega),_,hg,.cells cur e _ <| .d _ _ hfl hle fun i x t hx ht=>by
    have hi:i<xs.length * size:=by rw [← hfl];exact (gsZ ht).1
    refine ⟨(k3 i x t ?_ ht).of_flat (hfr.flat t (List.mem_of_getElem? ht)),hfr.one t (List.mem_of_getElem? ht)⟩
    rw [← htk,List.getElem?_take,if_pos hi]
    simpa using hx⟩
  refine ⟨_,_,rfl,hk _ hR hfr.uni,cZ h2 hd ?_⟩
  have:=VR.view (E:={E with w:=w',κ:=upd E.κ (d+st.off) g,live:=upd E.live (d+st.off) true }) (d+st.off) 0 xs.length size cap (by show upd E.live _ true _=true;exact af _ _ _) hcap
  have hκ:upd E.κ (d+st.off) g (d+st.off)=g:=af _ _ _
  simp only [hκ] at this
  exact this
theorem p0 {f:FuncId} {fn:Func} {c:Code} (hf:P.funcs[f]? =some fn) (hb:fn.body=some c) (hn:(fn.name== "runtime.NumGoroutine")=false) {args:List T} {e:TypeId} {size:Nat} {R:List T→Prop} (ha:args.length≤fn.ntmps)
  (h: ∀(S:aq) (w:World) (a:Act),SR fn.ntmps w {S:=S } {S:=S,w:=w,B:=w.heap.size,κ:=fun _=>0,ρ:=fun _=>none,live:=fun _=>false } (eO args) a.tmps→a.defers=[]→
   c.wp P (fun x a' w'=>(x= .normal∨x= .ret)∧gK fn.ntmps w S (fun _ _=>undef) {tmps:= #[],defers:=[]} (fun st=>(∀ S w,st.cx S w)∧ ∃xs u,R xs∧(∀ t∈xs.flatMap T.cells,t.flat=true)∧dJ st fn.results.toList=some [u]∧((∃ q,u= .own q e size xs)∨(u= .t .nil∧xs=[]))) a' w') a w):fE P f args e size R:=by
 refine ⟨bM hf (by rw [hb];rfl) hn,fun w vs hG hlen hrep=>?_⟩
 have hsr:=fQ (N:=fn.ntmps) (fun b o hs=>hs) hG hlen hrep ha
 refine (callsIn_wide (n:=0)).1 (callsIn_of_wp_marks hf hb trivial ((wpIn_wide (n:=0)).2 (wp_mono (h (cd w) w {tmps:=vs.toArray++Array.replicate (fn.ntmps - vs.toArray.size) undef,defers:=[]} hsr rfl) ?_)))
 have fin: ∀{a':Act} {w':World},gK fn.ntmps w (cd w) (fun _ _=>undef) {tmps:= #[],defers:=[]} (fun st=>(∀ S w,st.cx S w)∧ ∃xs u,R xs∧(∀ t∈xs.flatMap T.cells,t.flat=true)∧dJ st fn.results.toList=some [u]∧((∃ q,u= .own q e size xs)∨(u= .t .nil∧xs=[]))) a' w'→
   LeavesInM Fence.wide 0 P fn a'.tmps (fun en w'=> ∃(v:Value) (xs:List T),R xs∧en= .returned v∧Below w.heap.size w w'∧ez w w' v e size xs) a'.defers .returning w':=by
  rintro a' w' ⟨S0',E',st',D,rfl,hsr',_,_,hD,hobj,hdf,hcx,xs,u,hR,hfl,hres,hu⟩
  rw [hdf]
  obtain ⟨_,hw⟩:=hsr'.obj D _ hobj
  refine ⟨by simp,.inl ⟨D,_,rfl,run_takeDeferred hw,?_⟩⟩
  have h2:=hsr'.putObj (x:=.deferred (some [])) (y:=.deferred none) hobj rfl hD (hcx _ _)
  obtain ⟨v,h3,v',us',h4,h5,h6,h7,_⟩:=kk (P:=P) (rest:=[]) h2 hfl (fun t ht=>by simp at ht) (by simpa using hres) hu
  have:us'=[]:=List.eq_nil_of_length_eq_zero h7
  subst this
  cases h4
  exact ⟨_,h3,_,xs,hR,rfl,h5,h6⟩
 intro x a' w' hq
 obtain ⟨hx,hq⟩:=hq
 rcases hx with rfl|rfl
 ·exact fin hq
 ·exact fin hq
end
section
variable {P:Program} {X:List FuncId} {N:Nat} {w0:World} {S0:aa} {a:Act} {E:Env} {st:St}
theorem VR.re {v:Value} {f:FuncId} {ts:List T} (h:VR E v (.t (.clos f ts))):VR E v (.fn f (ts.map .t)):=by
 have hr:=h.av
 cases hr with
 |clos _ cs _ hs hc=>
  refine .fn f cs _ (by simpa using hs) fun i x u hx hu=>?_
  rw [List.getElem?_map,Option.map_eq_some_iff] at hu
  obtain ⟨t,ht,rfl⟩:=hu
  exact .t _ _ (hc i x t hx ht)
end
section
variable [Glb] {P:Program} {X:List FuncId} {N:Nat} {w0:World} {S0:aa} {a:Act} {E:Env} {st:St}
theorem SR.rq {b:Array Value} (h:SR N w0 S0 E st b) {k:Nat} {u:V} (hu:VR E (b.getD k undef) u):SR N w0 S0 E {st with sl:=upd st.sl k u } b:=
 ⟨h.size,h.base,h.glob,fun m=>by
  show VR E _ (upd st.sl k u m)
  by_cases hm:m=k
  ·subst hm;rw [af];exact hu
  ·rw [ae _ _ _ _ hm];exact h.sl m,h.gh,h.bx,h.live,h.inj,h.rows,h.rinj,h.lt,h.below,h.s0,h.s1,h.obj,h.cx⟩
end
end Go.DL
end
section
namespace Go.DL
open Go.RowKit
section
variable [Glb] {P:Program} {X:List FuncId} {N:Nat} {w0:World} {S0:aa} {E:Env} {st:St}
inductive Names (p:Nat→Prop):V→Prop
 |top:Names p .top
 |t (x:T):Names p (.t x)
 |ptr (n off:Nat) (h:p n):Names p (.ptr n off)
 |view (n off len size:Nat) (h:p n):Names p (.view n off len size)
 |own (r:Nat) (e:TypeId) (size:Nat) (xs:List T):Names p (.own r e size xs)
 |full (size:Nat) (xs:List T):Names p (.full size xs)
 |fn (f:FuncId) (caps:List V) (h: ∀c∈caps,Names p c):Names p (.fn f caps)
 |tup (vs:List V) (h: ∀c∈vs,Names p c):Names p (.tup vs)
 |agv (vs:List V) (h: ∀c∈vs,Names p c):Names p (.agv vs)
 |raw (v:Value):Names p (.raw v)
 |mp (n:Nat) (h:p n):Names p (.mp n)
end
section
variable {P:Program} {X:List FuncId} {N:Nat} {w0:World} {S0:aa} {E:Env} {st:St}
theorem Names.imp {p q:Nat→Prop} (hpq: ∀n,p n→q n) {u:V} (h:Names p u):Names q u:=by
 induction h with
 |top=>exact .top
 |t x=>exact .t x
 |ptr n off h=>exact .ptr n off (hpq n h)
 |view n off len size h=>exact .view n off len size (hpq n h)
 |own r e size xs=>exact .own r e size xs
 |full size xs=>exact .full size xs
 |fn f caps _ ih=>exact .fn f caps ih
 |tup vs _ ih=>exact .tup vs ih
 |agv vs _ ih=>exact .agv vs ih
 |raw v=>exact .raw v
 |mp n h=>exact .mp n (hpq n h)
end
section
variable [Glb] {P:Program} {X:List FuncId} {N:Nat} {w0:World} {S0:aa} {E:Env} {st:St}
def bp (p:Nat→Prop):BX→Prop
 |.v vs=> ∀c∈vs,Names p c
 |.it m _ _ _=>p m
 |_=>True
end
section
variable {P:Program} {X:List FuncId} {N:Nat} {w0:World} {S0:aa} {E:Env} {st:St}
theorem bp.imp {p q:Nat→Prop} (hpq: ∀n,p n→q n) {b:BX} (h:bp p b):bp q b:=by
 cases b with
 |v vs=>exact fun c hc=>(h c hc).imp hpq
 |it m bs c ix=>exact hpq m h
 |d n ts=>trivial
 |m ag sh es mb=>trivial
 |itd es ix=>trivial
theorem VR.names {v:Value} {u:V} (h:VR E v u):Names (fun n=>E.live n=true) u:=by
 induction h with
 |top v=>exact .top
 |t v x h=>exact .t x
 |ptr n off h=>exact .ptr n off h
 |view n off len size cap h hc=>exact .view n off len size h
 |own v r e size xs h=>exact .own r e size xs
 |full a len size xs h=>exact .full size xs
 |fn f cs vs hs _ ih=>
  refine .fn f vs fun c hc=>?_
  obtain ⟨i,hi⟩:=List.mem_iff_getElem?.1 hc
  have hlt:i<cs.size:=by rw [hs];exact (gsZ hi).1
  exact ih i _ c (Array.getElem?_eq_getElem hlt) hi
 |raw v h1=>exact .raw v
 |mp n h=>exact .mp n h
 |agv cs vs hs _ _ ih=>
  refine .agv vs fun c hc=>?_
  obtain ⟨i,hi⟩:=List.mem_iff_getElem?.1 hc
  have hlt:i<cs.size:=by rw [hs];exact (gsZ hi).1
  exact ih i _ c (Array.getElem?_eq_getElem hlt) hi
 |tup cs vs hs _ ih=>
  refine .tup vs fun c hc=>?_
  obtain ⟨i,hi⟩:=List.mem_iff_getElem?.1 hc
  have hlt:i<cs.size:=by rw [hs];exact (gsZ hi).1
  exact ih i _ c (Array.getElem?_eq_getElem hlt) hi
theorem bw.names {g:Nat} {b:BX} (h:bw E g b):bp (fun n=>E.live n=true) b:=by
 obtain ⟨o,_,ho⟩:=h.at_
 cases ho with
 |cells cs e _ hc=>
  cases hc with
  |d=>trivial
  |v vs hs hh=>
   intro c hc
   obtain ⟨i,hi⟩:=List.mem_iff_getElem?.1 hc
   have hlt:i<cs.size:=by have:=(gsZ hi).1;omega
   exact (hh i _ c (Array.getElem?_eq_getElem hlt) hi).1.names
 |map=>trivial
 |it m bs c ix hl=>exact hl
 |itd=>trivial
theorem VR.sub {v:Value} {u:V} (h:VR E v u) {lv:Nat→Bool} (hn:Names (fun n=>lv n=true) u):VR {E with live:=lv } v u:=by
 induction h with
 |top v=>exact .top v
 |t v x h=>exact .t v x h
 |ptr n off h=>cases hn with|ptr _ _ hl=>exact VR.ptr (E:={E with live:=lv }) n off hl
 |view n off len size cap h hc=>cases hn with|view _ _ _ _ hl=>exact VR.view (E:={E with live:=lv }) n off len size cap hl hc
 |own v r e size xs h=>exact .own v r e size xs ⟨h.ex,h.uni,h.one,h.row⟩
 |full a len size xs h=>exact .full a len size xs h
 |fn f cs vs hs _ ih=>cases hn with|fn _ _ hc=>exact .fn f cs vs hs fun i x u hx hu=>ih i x u hx hu (hc u (List.mem_of_getElem? hu))
 |raw v h1=>exact .raw v h1
 |mp n h=>cases hn with|mp _ hl=>exact VR.mp (E:={E with live:=lv }) n hl
 |agv cs vs hs h1 _ ih=>cases hn with|agv _ hc=>exact .agv cs vs hs h1 fun i x u hx hu=>ih i x u hx hu (hc u (List.mem_of_getElem? hu))
 |tup cs vs hs _ ih=>cases hn with|tup _ hc=>exact .tup cs vs hs fun i x u hx hu=>ih i x u hx hu (hc u (List.mem_of_getElem? hu))
end
section
variable [Glb] {P:Program} {X:List FuncId} {N:Nat} {w0:World} {S0:aa} {E:Env} {st:St}
theorem SR.drop {a:Array Value} (h:SR N w0 S0 E st a) (fr:List Nat) {lv:Nat→Bool} (hlv: ∀n,lv n=(E.live n&& !fr.contains n)) (hsl: ∀m,Names (fun n=>lv n=true) (st.sl m)) (hgh: ∀k m,Names (fun n=>lv n=true) (st.gh k m))
  (hbx: ∀n b,lv n=true→st.bx n=some b→bp (fun n=>lv n=true) b):SR N w0 S0 {E with live:=lv } {st with bx:=fun n=>if fr.contains n then none else st.bx n } a:=by
 have le: ∀n,lv n=true→E.live n=true∧fr.contains n=false:=fun n hn=>by
  rw [hlv,Bool.and_eq_true] at hn
  exact ⟨hn.1,by simpa using hn.2⟩
 refine ⟨h.size,h.base,h.glob,fun m=>(h.sl m).sub (hsl m),fun k m=>(h.gh k m).sub (hgh k m),fun n b hb=>?_,fun n=>?_,fun n m hn hm he=>h.inj n m (le n hn).1 (le m hm).1 he,fun r g hr=>?_,h.rinj,h.lt,h.below,h.s0,h.s1,h.obj,h.cx⟩
 ·have hb:(if fr.contains n then none else st.bx n)=some b:=hb
  split at hb
  ·cases hb
  ·rename_i hc
   have hln:lv n=true:=by
    rw [hlv,h.live,hb]
    simpa using hc
   have hB:=h.bx n b hb
   obtain ⟨o,h1,h2⟩:=hB.at_
   refine ⟨hB.old,hB.free,o,h1,?_⟩
   have hN:=hbx n b hln hb
   cases h2 with
   |cells cs e _ hcr=>
    refine .cells cs e _ ?_
    cases hcr with
    |d n ts hl hs hh=>exact .d n ts hl hs hh
    |v vs hs hh=>exact .v vs hs fun i x u hx hu=>⟨(hh i x u hx hu).1.sub (hN u (List.mem_of_getElem? hu)),(hh i x u hx hu).2⟩
   |map arr clock ag sh es mb hm=>exact .map arr clock ag sh es mb ⟨hm.size,hm.at_,hm.lt,hm.apart,hm.mb⟩
   |it m bs c ix hl=>exact bJ.it (E:={E with live:=lv }) m bs c ix hN
   |itd g arr c ag sh es ix hg hS hR=>exact bJ.itd (E:={E with live:=lv }) g arr c ag sh es ix hg hS ⟨hR.size,hR.at_,hR.lt,hR.apart,hR.mb⟩
 ·show lv n=(if fr.contains n then none else st.bx n).isSome
  rw [hlv,h.live]
  cases fr.contains n <;> simp
 ·obtain ⟨k1,k2,k3⟩:=h.rows r g hr
  exact ⟨k1,k2,fun n hn=>k3 n (le n hn).1⟩
end
end Go.DL
end
section
namespace Go.DL
open Go.RowKit
section
variable [Glb] {P:Program} {X:List FuncId} {N:Nat} {w0:World} {S0:aa} {E:Env} {st:St} {n:Nat} {ro:Option Nat}
def aH (b:Nat→Option BX):List (Nat×BX)→Nat→Option BX
 |[]=>b
 |p::r=>upd (aH b r) p.1 (some p.2)
end
section
variable {P:Program} {X:List FuncId} {N:Nat} {w0:World} {S0:aa} {E:Env} {st:St} {n:Nat} {ro:Option Nat}
theorem eV {b:Nat→Option BX}: ∀{l:List (Nat×BX)} {n:Nat},(∀ p∈l,p.1≠n)→aH b l n=b n
 |[],_,_=>rfl
 |p::r,n,h=>by
  show upd (aH b r) p.1 (some p.2) n=_
  rw [ae _ _ _ _ (fun e=>h p (by simp) e.symm)]
  exact eV fun q hq=>h q (by simp [hq])
theorem qP {b:Nat→Option BX} {l:List (Nat×BX)}: ∀{l':List (Nat×BX)},(∀ p∈l, ∃q∈l',q.1=p.1)→aH (aH b l) l'=aH b l':=by
 intro l' h
 funext n
 have key: ∀(l':List (Nat×BX)),(∃ q∈l',q.1=n)→ ∀b1 b2:Nat→Option BX,aH b1 l' n=aH b2 l' n:=by
  intro l'
  induction l' with
  |nil=>rintro ⟨q,hq,_⟩;simp at hq
  |cons q r ih=>
   rintro ⟨x,hx,e⟩ b1 b2
   show upd (aH b1 r) q.1 (some q.2) n=upd (aH b2 r) q.1 (some q.2) n
   by_cases hn:n=q.1
   ·subst hn;rw [af,af]
   ·rw [ae _ _ _ _ hn,ae _ _ _ _ hn]
    refine ih ⟨x,?_,e⟩ b1 b2
    rcases List.mem_cons.1 hx with rfl|hx
    ·exact absurd e.symm hn
    ·exact hx
 by_cases hn: ∃q∈l',q.1=n
 ·exact key l' hn _ _
 ·have h1: ∀p∈l',p.1≠n:=fun p hp e=>hn ⟨p,hp,e⟩
  rw [eV h1,eV h1]
  exact eV fun p hp e=>by
   obtain ⟨q,hq,e2⟩:=h p hp
   exact h1 q hq (e2.trans e)
theorem kn {b:Nat→Option BX}: ∀{l:List (Nat×BX)},(∀ p∈l,b p.1=some p.2)→aH b l=b
 |[],_=>rfl
 |p::r,h=>by
  show upd (aH b r) p.1 (some p.2)=b
  rw [kn fun q hq=>h q (by simp [hq])]
  funext k
  by_cases hk:k=p.1
  ·subst hk;rw [af];exact (h p (by simp)).symm
  ·rw [ae _ _ _ _ hk]
end
section
variable [Glb] {P:Program} {X:List FuncId} {N:Nat} {w0:World} {S0:aa} {E:Env} {st:St} {n:Nat} {ro:Option Nat}
structure Clean (st:St) (fr:List Nat) (s s':St):Prop where
 sl: ∀n,s'.sl n= .top∨(s'.sl n=s.sl n∧(s'.sl n=st.sl n∨Names (fun n=>(st.bx n).isSome=true) (s'.sl n)))
 gh:s'.gh=st.gh∧s.gh=st.gh
 off:s'.off=s.off
 cx:s'.cx=s.cx
 bx: ∀n,s'.bx n=if fr.contains n then none else s.bx n
 at_: ∀n, ¬n∈fr→s.bx n=st.bx n∨ ∃b,s.bx n=some b∧bp (fun n=>(st.bx n).isSome=true) b
 live: ∀n,(st.bx n).isSome=true→(s.bx n).isSome=true
 fr: ∀n∈fr,st.bx n=none
def fF (st:St):Prop:=(∀ m,Names (fun n=>(st.bx n).isSome=true) (st.sl m))∧(∀ k m,Names (fun n=>(st.bx n).isSome=true) (st.gh k m))∧ ∀n b,st.bx n=some b→bp (fun n=>(st.bx n).isSome=true) b
theorem SR.named {a:Array Value} (h:SR N w0 S0 E st a):fF st:=by
 have up: ∀n,E.live n=true→(st.bx n).isSome=true:=fun n hn=>by rw [← h.live];exact hn
 exact ⟨fun m=>(h.sl m).names.imp up,fun k m=>(h.gh k m).names.imp up,fun n b hb=>(h.bx n b hb).names.imp up⟩
theorem SR.qL {a:Array Value} (h:SR N w0 S0 E st a) {sl':Nat→V} (hs: ∀n,sl' n= .top∨sl' n=st.sl n):SR N w0 S0 E {st with sl:=sl' } a:=
 ⟨h.size,h.base,h.glob,fun m=>by
  rcases hs m with e|e
  ·show VR _ _ (sl' m);rw [e];exact .top _
  ·show VR _ _ (sl' m);rw [e];exact h.sl m,h.gh,h.bx,h.live,h.inj,h.rows,h.rinj,h.lt,h.below,h.s0,h.s1,h.obj,h.cx⟩
theorem SR.clean {S1:aa} {E1:Env} {a1:Array Value} {s s':St} {fr:List Nat} (hn:fF st) (h:SR N w0 S1 E1 s a1) (hc:Clean st fr s s'): ∃E2,E2.w=E1.w∧SR N w0 S1 E2 s' a1:=by
 have hl: ∀n,E1.live n=(s.bx n).isSome:=h.live
 have up: ∀n,(st.bx n).isSome=true→(E1.live n&& !fr.contains n)=true:=fun n hn'=>by
  have hnf: ¬n∈fr:=fun hh=>by rw [hc.fr n hh] at hn';cases hn'
  rw [hl,hc.live n hn']
  simpa using hnf
 have h1:=h.qL (sl':=s'.sl) (fun n=>(hc.sl n).imp id And.left)
 have h2:=h1.drop fr (lv:=fun n=>E1.live n&& !fr.contains n) (fun n=>rfl) (fun k=>by
   show Names _ (s'.sl k)
   rcases hc.sl k with e|⟨_,e|e⟩
   ·rw [e];exact .top
   ·rw [e];exact (hn.1 k).imp up
   ·exact e.imp up) (fun k q=>by
   show Names _ (s.gh k q)
   rw [hc.gh.2];exact (hn.2.1 k q).imp up) (fun n b hln hb=>by
   have hb:s.bx n=some b:=hb
   simp only [Bool.and_eq_true,Bool.not_eq_true'] at hln
   rcases hc.at_ n (by simpa using hln.2) with e|⟨b',e,hb'⟩
   ·rw [e] at hb;exact (hn.2.2 n b hb).imp up
   ·rw [e] at hb;cases hb;exact hb'.imp up)
 refine ⟨{E1 with live:=fun n=>E1.live n&& !fr.contains n },rfl,?_⟩
 have e:s'={s with sl:=s'.sl,bx:=fun n=>if fr.contains n then none else s.bx n }:=by
  refine St.ext' rfl (funext hc.bx) (hc.gh.1.trans hc.gh.2.symm) hc.off hc.cx
 rw [e]
 exact h2
theorem aF.clean {c:Code} {Q:ax→St→Prop} (h:fF st→aF P N c st fun e s=> ∃fr s',Q e s'∧Clean st fr s s'):aF P N c st Q:=by
 intro ro n w0 S0 E a Ds hs hm
 refine wpIn_mono (h hs.named ro n w0 S0 E a Ds hs hm) ?_
 have key: ∀{K:St→Prop} {a':Act} {w':World},cO N w0 S0 ro Ds (fun s=> ∃fr s',K s'∧Clean st fr s s') a' w'→cO N w0 S0 ro Ds K a' w':=by
  rintro K a' w' ⟨S1,D1,E1,s1,h1,h2,h3,rfl,h5,fr,s',h6,h7⟩
  obtain ⟨E2,e2,h8⟩:=h5.clean hs.named h7
  exact ⟨S1,D1,E2,s',h1,h2,h3,e2,h8,h6⟩
 intro e a' w' q
 cases e with
 |normal=>exact key q
 |exit id=>exact key q
 |ret=>exact key q
 |goto l=>exact q
 |panic ch=>exact q
 |outgrown=>exact q
theorem WCM.clean {f:FuncId} {us:List V} {d:Option Nat} {K:St→Prop} (h:fF st→WCM P f us d st fun s=> ∃fr s',K s'∧Clean st fr s s') (hc:bD P f):WCM P f us d st K:=by
 refine ⟨hc,fun N w0 S0 E a vs hs hlen hv hd=>((h hs.named).2 N w0 S0 E a vs hs hlen hv hd).mono ?_⟩
 rintro e w' ⟨v,rfl,S1,E1,s1,h1,rfl,⟨fr,s',h6,h7⟩,h5⟩
 obtain ⟨E2,e2,h8⟩:=h5.clean hs.named h7
 exact ⟨v,rfl,S1,E2,s',h1,e2,h6,h8⟩
theorem WCM.mono {f:FuncId} {us:List V} {d:Option Nat} {K K':St→Prop} (h:WCM P f us d st K) (hk: ∀s,K s→K' s):WCM P f us d st K':=by
 refine ⟨h.1,fun N w0 S0 E a vs hs hlen hv hd=>(h.2 N w0 S0 E a vs hs hlen hv hd).mono ?_⟩
 rintro e w' ⟨v,rfl,S1,E1,s1,h1,h2,h3,h4⟩
 exact ⟨v,rfl,S1,E1,s1,h1,h2,hk _ h3,h4⟩
theorem YC.mono {l:Nat} {us:List V} {d:Option Nat} {K K':St→Prop} (h:YC P l us d st K) (hk: ∀s,K s→K' s):YC P l us d st K':=by
 intro ro n N w0 S0 E a vs hs hlen hv hd
 obtain ⟨fn,tmps,asg,body,e1,hR⟩:=h ro n N w0 S0 E a vs hs hlen hv hd
 refine ⟨fn,tmps,asg,body,e1,RoundIn.mono hR ?_⟩
 rintro e w' ⟨v,rfl,S1,E1,s1,h1,h2,h3,h4⟩
 exact ⟨v,rfl,S1,E1,s1,h1,h2,hk _ h3,h4⟩
theorem YC.clean {l:Nat} {us:List V} {d:Option Nat} {K:St→Prop} (h:fF st→YC P l us d st fun s=> ∃fr s',K s'∧Clean st fr s s'):YC P l us d st K:=by
 intro ro n N w0 S0 E a vs hs hlen hv hd
 obtain ⟨fn,tmps,asg,body,e1,hR⟩:=h hs.named ro n N w0 S0 E a vs hs hlen hv hd
 refine ⟨fn,tmps,asg,body,e1,RoundIn.mono hR ?_⟩
 rintro e w' ⟨v,rfl,S1,E1,s1,h1,rfl,⟨fr,s',h6,h7⟩,h5⟩
 obtain ⟨E2,e2,h8⟩:=h5.clean hs.named h7
 exact ⟨v,rfl,S1,E2,s',h1,e2,h6,h8⟩
theorem aF.rN {c:Code} {Q:ax→St→Prop} (I:Nat→St→Prop) (m:Nat) (hi:I m st) (hr: ∀m s,I m s→aF P N c s fun e s'=>match e with
  |.normal=> ∃k,k<m∧I k s'
  |.exit id=>Q (.exit id) s'
  |.ret=>Q .ret s'):aF P N (.loop c) st Q:=by
 intro ro n w0 S0 E a Ds hs hm
 refine wpIn_loop_ghost (fun k a' w'=> ∃(S1:aa) (D1:List Nat) (E1:Env) (s1:St),Ext S0 S1∧Mks S1 w0 ro D1 a'.defers∧Dn S0 ro Ds D1∧E1.w=w'∧SR N w0 S1 E1 s1 a'.tmps∧I k s1) m ⟨S0,Ds,E,st,Ext.refl _,hm,Dn.refl,rfl,hs,hi⟩ ?_
 rintro k a1 w1 ⟨S1,D1,E1,s1,h1,h2,h3,rfl,h5,h6⟩
 refine wpIn_mono (hr k s1 h6 ro n w0 S1 E1 a1 D1 h5 h2) ?_
 intro e a' w' q
 cases e with
 |normal=>
  obtain ⟨S2,D2,E2,s2,g1,g2,g3,rfl,g5,j,hj,hi3⟩:=q
  exact ⟨j,hj,S2,D2,E2,s2,h1.trans g1,g2,h3.trans h1 g3,rfl,g5,hi3⟩
 |exit id=>exact cO.ext h1 h3 (fun _ h=>h) q
 |ret=>exact cO.ext h1 h3 (fun _ h=>h) q
 |goto l=>exact q
 |panic ch=>exact q
 |outgrown=>exact q
theorem aF.pY {id:Nat} {ops:Array Oper} {k1 k2:List Nat} {k:Nat} (hks:List.range ops.size=k1++(k::k2)) {is1 is2:List DI} (h1:dP P N ops k1=some is1) (c1:is1.all (fun i=> !i.op.aN)=true) (h2:dP P N ops k2=some is2) (c2:is2.all (fun i=> !i.op.aN)=true)
  {X:Operand} {y:O} {az:Array Operand} {ys:List O} {ats:Array TypeId} {d:Nat} (ho:(ops[k]?).map (fun o=>(o.guard,o.op,o.dst))=some (none,.call {callee:=.value X,args:=az,argTypes:=ats },some d)) (hX:ao X=some y) (has:dH az.toList=some ys)
  (hdN:d<N) {Q:ax→St→Prop}
  (hw:aw P is1 st fun s0=>gL P (ev s0.sl y) (ys.map (ev s0.sl)) (some d) s0 fun s1=>aw P is2 s1 (Q .normal)):aF P N (.region id ops false) st Q:=by
 obtain ⟨o,h3,h4⟩:=Option.map_eq_some_iff.1 ho
 simp only [Prod.mk.injEq] at h4
 exact aF.bX hks h1 c1 h2 c2 h3 h4.1 h4.2.1 hX has h4.2.2 hdN hw
end
section
variable {P:Program} {X:List FuncId} {N:Nat} {w0:World} {S0:aa} {E:Env} {st:St} {n:Nat} {ro:Option Nat}
theorem kG {is:List DI} (h:(is.map DI.bare).all (fun i=> !i.op.aN)=true):is.all (fun i=> !i.op.aN)=true:=by
 rw [List.all_map] at h;exact h
end
section
variable [Glb] {P:Program} {X:List FuncId} {N:Nat} {w0:World} {S0:aa} {E:Env} {st:St} {n:Nat} {ro:Option Nat}
theorem aF.rj {id:Nat} {ops:Array Oper} {k1 k2:List Nat} {k:Nat} (hks:List.range ops.size=k1++(k::k2)) {is1 is2:List DI} (h1:(dP P N ops k1).map (List.map DI.bare)=some is1) (c1:is1.all (fun i=> !i.op.aN)=true) (h2:(dP P N ops k2).map (List.map DI.bare)=some is2) (c2:is2.all (fun i=> !i.op.aN)=true)
  {X:Operand} {y:O} {az:Array Operand} {ys:List O} {ats:Array TypeId} {d:Nat} (ho:(ops[k]?).map (fun o=>(o.guard,o.op,o.dst))=some (none,.call {callee:=.value X,args:=az,argTypes:=ats },some d)) (hX:ao X=some y) (has:dH az.toList=some ys)
  (hdN:d<N) {Q:ax→St→Prop}
  (hw:aw P is1 st fun s0=>gL P (ev s0.sl y) (ys.map (ev s0.sl)) (some d) s0 fun s1=>aw P is2 s1 (Q .normal)):aF P N (.region id ops false) st Q:=by
 obtain ⟨js1,g1,rfl⟩:=Option.map_eq_some_iff.1 h1
 obtain ⟨js2,g2,rfl⟩:=Option.map_eq_some_iff.1 h2
 refine aF.pY hks g1 (kG c1) g2 (kG c2) ho hX has hdN (kq ?_ (b7.1 hw))
 intro s0 h
 unfold gL at h ⊢
 split
 ·rename_i f caps he
  rw [he] at h
  exact WCM.mono h fun s hs=>b7.1 hs
 ·rename_i he
  rw [he] at h
  obtain ⟨l,h3,h4⟩:=h
  exact ⟨l,h3,YC.mono h4 fun s hs=>b7.1 hs⟩
def ic:List Nat→Code→Code
 |[],c=>c
 |0::p,.seq a _=>ic p a
 |1::p,.seq _ b=>ic p b
 |0::p,.cond _ a _=>ic p a
 |1::p,.cond _ _ b=>ic p b
 |0::p,.block _ b=>ic p b
 |0::p,.loop b=>ic p b
 |0::p,.rangeFunc _ _ a _=>ic p a
 |1::p,.rangeFunc _ _ _ b=>ic p b
 |_,_=>.skip
def r8:Code→Array Oper
 |.region _ ops _=>ops
 |_=> #[]
end
end Go.DL
end
section
namespace Go.DL
open Go.RowKit
section
variable [Glb] {P:Program} {X:List FuncId} {N:Nat} {w0:World} {S0:aa} {E:Env} {st:St} {n:Nat} {ro:Option Nat}
end
section
variable {P:Program} {X:List FuncId} {N:Nat} {w0:World} {S0:aa} {E:Env} {st:St} {n:Nat} {ro:Option Nat}
theorem gF {b:Nat→Option BX}: ∀(l:List (Nat×BX)) (n:Nat),(∃ p∈l,p.1=n∧aH b l n=some p.2)∨(aH b l n=b n∧ ∀p∈l,p.1≠n)
 |[],n=>Or.inr ⟨rfl,by simp⟩
 |p::r,n=>by
  by_cases h:p.1=n
  ·exact Or.inl ⟨p,by simp,h,by show upd _ p.1 _ n=_;rw [h,af]⟩
  ·have e:aH b (p::r) n=aH b r n:=ae _ _ _ _ (fun e=>h e.symm)
   rcases gF (b:=b) r n with ⟨q,hq,h1,h2⟩|⟨h1,h2⟩
   ·exact Or.inl ⟨q,by simp [hq],h1,e.trans h2⟩
   ·refine Or.inr ⟨e.trans h1,fun q hq=>?_⟩
    rcases List.mem_cons.1 hq with rfl|hq
    ·exact h
    ·exact h2 q hq
theorem mo {b:Nat→Option BX}: ∀{l:List (Nat×BX)} {p:Nat×BX},(l.map (·.1)).Nodup→p∈l→aH b l p.1=some p.2
 |[],p,_,h=>by simp at h
 |q::r,p,hn,h=>by
  obtain ⟨n1,n2⟩:=List.nodup_cons.1 hn
  show upd (aH b r) q.1 (some q.2) p.1=_
  rcases List.mem_cons.1 h with rfl|h
  ·rw [af]
  ·rw [ae _ _ _ _ (fun e=>n1 (by show q.1∈_;rw [← e];exact List.mem_map_of_mem (f:=(·.1)) h))]
   exact mo n2 h
theorem mX {s:St} {fr:List Nat} {o:List (Nat×BX)} {sl':Nat→V} (hsl: ∀n,sl' n= .top∨(sl' n=s.sl n∧(sl' n=st.sl n∨Names (fun n=>(st.bx n).isSome=true) (sl' n)))) (hgh:s.gh=st.gh) (hbx: ∀n, ¬n∈fr→s.bx n=aH st.bx o n)
  (hfr: ∀n∈fr,st.bx n=none∧ ∀p∈o,p.1≠n) (safe: ∀p∈o,bp (fun n=>(st.bx n).isSome=true) p.2):Clean st fr s {sl:=sl',bx:=aH st.bx o,gh:=st.gh,off:=s.off,cx:=s.cx } where
 sl:=hsl
 gh:=⟨rfl,hgh⟩
 off:=rfl
 cx:=rfl
 bx:=fun n=>by
  show aH st.bx o n=_
  by_cases h:n∈fr
  ·rw [if_pos (by simpa using h),eV (hfr n h).2,(hfr n h).1]
  ·rw [if_neg (by simpa using h),hbx n h]
 at_:=fun n h=>by
  rw [hbx n h]
  rcases gF (b:=st.bx) o n with ⟨p,hp,_,h2⟩|⟨h1,_⟩
  ·exact Or.inr ⟨p.2,h2,safe p hp⟩
  ·exact Or.inl h1
 live:=fun n h=>by
  have hn: ¬n∈fr:=fun hh=>by rw [(hfr n hh).1] at h;cases h
  rw [hbx n hn]
  rcases gF (b:=st.bx) o n with ⟨p,hp,_,h2⟩|⟨h1,_⟩
  ·rw [h2];rfl
  ·rw [h1];exact h
 fr:=fun n h=>(hfr n h).1
end
section
variable [Glb] {P:Program} {X:List FuncId} {N:Nat} {w0:World} {S0:aa} {E:Env} {st:St} {n:Nat} {ro:Option Nat}
structure AtI {W:(aa→World→Prop)→aa→World→Prop} (R:Wr W) (l:Nat) (rc:Loop) (cxo:aa→World→Prop) (own:St) (F:Nat→Prop) (o:List (Nat×BX)) (m:Nat) (st:St):Prop where
 cx:st.cx=W (dt l rc cxo m)
 g0:st.gh (m+R.j)=own.sl
 gs: ∀i,st.gh (m+R.j+1+i)=own.gh i
 at_: ∀p∈o,st.bx p.1=some p.2
 fr: ∀n,F n→st.bx n=none
 top: ∃B, ∀n,B≤n→st.bx n=none
def LvO (o:List (Nat×BX)) (b:Nat→Option BX):Prop:= ∀p∈o,(b p.1).isSome=true
end
section
variable {P:Program} {X:List FuncId} {N:Nat} {w0:World} {S0:aa} {E:Env} {st:St} {n:Nat} {ro:Option Nat}
theorem jK {o0 o:List (Nat×BX)} {b:Nat→Option BX} (h:LvO o0 b) (hs: ∀p∈o,bp (fun n=> ∃q∈o0,q.1=n) p.2): ∀p∈o,bp (fun n=>(b n).isSome=true) p.2:=fun p hp=>
 (hs p hp).imp fun n ⟨q,hq,e⟩=>by rw [← e];exact h q hq
theorem jB {o0 o:List (Nat×BX)} {b:Nat→Option BX} (cov: ∀p∈o0, ∃q∈o,q.1=p.1) (h: ∀p∈o,b p.1=some p.2):LvO o0 b:=fun p hp=>by
 obtain ⟨q,hq,e⟩:=cov p hp
 rw [← e,h q hq];rfl
theorem qd {o0 o:List (Nat×BX)} {b:Nat→Option BX} (cov: ∀p∈o0, ∃q∈o,q.1=p.1) (nd:(o.map (·.1)).Nodup):LvO o0 (aH b o):=fun p hp=>by
 obtain ⟨q,hq,e⟩:=cov p hp
 rw [← e,mo nd hq];rfl
end
section
variable [Glb] {P:Program} {X:List FuncId} {N:Nat} {w0:World} {S0:aa} {E:Env} {st:St} {n:Nat} {ro:Option Nat}
structure dL (P:Program) (l:Nat) (rc:Option Code→Loop) (cxo:aa→World→Prop) (own:St) (F:Nat→Prop) (hi:Nat) (xs:List T) (outs:Nat→List (Nat×BX)) (stop:Code→(aa→World→Prop)→List (Nat×BX)→Prop):Prop where
 yld: ∀{W:(aa→World→Prop)→aa→World→Prop} (R:Wr W) (k:Nat) (x:T) (m:Nat) (st:St) (d:Option Nat) (K:St→Prop),xs[k]? =some x→AtI R l (rc none) cxo own F (outs k) m st→
  K (({st with bx:=aH st.bx (outs (k+1))}:St).set d (.t (.bool true)))→
  (∀ c cx' o',stop c cx' o'→K (({st with bx:=aH st.bx o',cx:=W (dt l (rc (some c)) cx' m)}:St).set d (.t (.bool false))))→YC P l [.t x] d st K
 fh: ∀n,F n→n<hi
 nm: ∀k, ∀p∈outs k,p.1<hi∧ ¬F p.1
 nms: ∀c cx o,stop c cx o→ ∀p∈o,p.1<hi∧ ¬F p.1
 cov: ∀k k', ∀p∈outs k, ∃q∈outs k',q.1=p.1
 covs: ∀c cx o,stop c cx o→ ∀k, ∀p∈outs k, ∃q∈o,q.1=p.1
 safe: ∀k, ∀p∈outs k,bp (fun n=> ∃q∈outs 0,q.1=n) p.2
 safes: ∀c cx o,stop c cx o→ ∀p∈o,bp (fun n=> ∃q∈outs 0,q.1=n) p.2
 cxd: ∀c cx o,stop c cx o→CxD cx
 cxo_:CxD cxo
 nd: ∀k,((outs k).map (·.1)).Nodup
section
variable {l hi:Nat} {rc:Option Code→Loop} {cxo:aa→World→Prop} {own:St} {F:Nat→Prop} {xs:List T} {outs:Nat→List (Nat×BX)} {stop:Code→(aa→World→Prop)→List (Nat×BX)→Prop}
theorem dL.sf (G:dL P l rc cxo own F hi xs outs stop) {b:Nat→Option BX} (h:LvO (outs 0) b) (k:Nat): ∀p∈outs k,bp (fun n=>(b n).isSome=true) p.2:=jK h (G.safe k)
theorem dL.sfs (G:dL P l rc cxo own F hi xs outs stop) {b:Nat→Option BX} (h:LvO (outs 0) b) (c:Code) (cx:aa→World→Prop) (o:List (Nat×BX)) (hs:stop c cx o): ∀p∈o,bp (fun n=>(b n).isSome=true) p.2:=jK h (G.safes c cx o hs)
theorem dL.lvA (G:dL P l rc cxo own F hi xs outs stop) {b:Nat→Option BX} {k:Nat} (h: ∀p∈outs k,b p.1=some p.2):LvO (outs 0) b:=jB (G.cov 0 k) h
theorem dL.lvU (G:dL P l rc cxo own F hi xs outs stop) (b:Nat→Option BX) (k:Nat):LvO (outs 0) (aH b (outs k)):=qd (G.cov 0 k) (G.nd k)
end
end
section
variable {P:Program} {X:List FuncId} {N:Nat} {w0:World} {S0:aa} {E:Env} {st:St} {n:Nat} {ro:Option Nat}
theorem AtI.enter {l:Nat} {rc:Loop} {cxo:aa→World→Prop} {own:St} {F:Nat→Prop} {m:Nat} {o:List (Nat×BX)} (h:AtI qw l rc cxo own F o m st) (us:List V) (off:Nat):AtI qw l rc cxo own F o (m+1) (st.kS us off):=
 ⟨by show ca st.cx=_;rw [h.cx];rfl,h.g0,fun j=>by
  show dI st.sl st.gh (m+1+0+1+j)=_
  rw [show m+1+0+1+j=(m+0+1+j)+1 by omega]
  exact h.gs j,h.at_,h.fr,h.top⟩
end
section
variable [Glb] {P:Program} {X:List FuncId} {N:Nat} {w0:World} {S0:aa} {E:Env} {st:St} {n:Nat} {ro:Option Nat}
end
end Go.DL
end
section
namespace Go.DL
section
variable [Glb] {P:Program} {st:St} {K:St→Prop} {is:List DI}
abbrev op1 (d:Nat) (p:DOp):DI:=⟨some d,p,none,[]⟩
abbrev op0 (p:DOp):DI:=⟨none,p,none,[]⟩
theorem qN (h:K st):aw P [] st K:=h
theorem wR {p:DOp} {d:Option Nat} {r:b8} (hp: ∀s K,wpO P p d s K=wpR (eff p (s.nm d) s.sl s.bx) d s K) (he:eff p (st.nm d) st.sl st.bx=r) (h:wpR r d st fun s=>aw P is s K):aw P (⟨d,p,none,[]⟩::is) st K:=by
 show wpO P p d st fun s=>aw P is s K
 rw [hp,he];exact h
theorem rX {d:Nat} {x:O} {v:V} (hx:ev st.sl x=v) (hk:aw P is {st with sl:=upd st.sl d v } K):aw P (op1 d (.mov x)::is) st K:=
 wR (r:=.yes {val:=v }) (fun _ _=>rfl) (by show val (ev st.sl x)=_;rw [hx];rfl) hk
theorem rZ {d:Nat} {x:O} {b:Bool} (hx:ev st.sl x= .t (.bool b)) (hk:aw P is {st with sl:=upd st.sl d (.t (.bool (!b)))} K):aw P (op1 d (.not x)::is) st K:=
 wR (r:=.yes {val:=.t (.bool (!b))}) (fun _ _=>rfl) (by simp only [eff,hx] <;> rfl) hk
theorem rV {d:Nat} {x:O} {n:Nat} {xs:List T} (hx:ev st.sl x= .t (.slice n xs)) (hk:aw P is {st with sl:=upd st.sl d (.t (.int .i64 xs.length))} K):aw P (op1 d (.len x)::is) st K:=
 wR (r:=.yes {val:=.t (.int .i64 xs.length)}) (fun _ _=>rfl) (by simp only [eff,hx] <;> rfl) hk
theorem rz {d k b off:Nat} {x:O} (hx:ev st.sl x= .ptr b off) (hk:aw P is {st with sl:=upd st.sl d (.ptr b (off+k))} K):aw P (op1 d (.offA k x)::is) st K:=
 wR (r:=.yes {val:=.ptr b (off+k)}) (fun _ _=>rfl) (by simp only [eff,hx] <;> rfl) hk
theorem rP {d n:Nat} {x:O} {cs:List T} (hx:ev st.sl x= .t (.agg cs)) (hl:cs.length=n) (hn:st.bx (d+st.off)=none) (hk:aw P is {st with sl:=upd st.sl d (.ptr (d+st.off) 0),bx:=upd st.bx (d+st.off) (some (.d n cs))} K):aw P (op1 d (.box n x)::is) st K:=
 wR (r:=.need (cs.length=n) {val:=.ptr (d+st.off) 0,wr:=some (d+st.off,.d n cs),rd:=[d+st.off]}) (fun _ _=>rfl) (by simp only [eff,hx,St.nm,hn,ji] <;> rfl) ⟨hl,hk⟩
theorem rr {d:Nat} {x:O} {v:Value} (hx:ev st.sl x= .raw v) (hn:st.bx (d+st.off)=none) (hk:aw P is {st with sl:=upd st.sl d (.ptr (d+st.off) 0),bx:=upd st.bx (d+st.off) (some (.v [.raw v]))} K):aw P (op1 d (.box 1 x)::is) st K:=
 wR (r:=.need True {val:=.ptr (d+st.off) 0,wr:=some (d+st.off,.v [.raw v]),rd:=[d+st.off]}) (fun _ _=>rfl) (by simp only [eff,hx,St.nm,hn,ji] <;> rfl) ⟨trivial,hk⟩
theorem pL {d:Nat} {zs:List T} (hn:st.bx (d+st.off)=none) (hk:aw P is {st with sl:=upd st.sl d (.ptr (d+st.off) 0),bx:=upd st.bx (d+st.off) (some (.d zs.length zs))} K):aw P (op1 d (.alloc zs)::is) st K:=
 wR (r:=.yes {val:=.ptr (d+st.off) 0,wr:=some (d+st.off,.d zs.length zs),rd:=[d+st.off]}) (fun _ _=>rfl) (by simp only [eff,St.nm,hn] <;> rfl) hk
theorem rQ {d b off:Nat} {x:O} {vs:List V} {v:V} (hx:ev st.sl x= .ptr b off) (hb:st.bx b=some (.v vs)) (hv:vs[off]? =some v) (hk:aw P is {st with sl:=upd st.sl d v } K):aw P (op1 d (.load 1 false x)::is) st K:=
 wR (r:=.yes {val:=v,rd:=[b]}) (fun _ _=>rfl) (by simp only [eff,hx,hb,cX,hv] <;> rfl) hk
theorem rR {d b n:Nat} {x:O} {cs:List T} (hx:ev st.sl x= .ptr b 0) (hb:st.bx b=some (.d n cs)) (hk:aw P is {st with sl:=upd st.sl d (.t (.agg cs))} K):aw P (op1 d (.load n true x)::is) st K:=
 wR (r:=.yes (aO [b] (.agg cs))) (fun _ _=>rfl) (by simp only [eff,hx,hb,cX,gC,bE] <;> rfl) hk
theorem rT {d b off m:Nat} {x:O} {cs:List T} {t:T} (hx:ev st.sl x= .ptr b off) (hb:st.bx b=some (.d m cs)) (hlt:off<m) (hv:cs[off]?.getD .nil=t) (hk:aw P is {st with sl:=upd st.sl d (.t t)} K):aw P (op1 d (.load 1 false x)::is) st K:=
 wR (r:=.eq (off<m) (cs[off]?.getD .nil) (aO [b])) (fun _ _=>rfl) (by simp only [eff,hx,hb,cX,gC] <;> rfl) ⟨hlt,fun t' e=>by rw [← e,hv];exact hk⟩
theorem q0 {b n m off:Nat} {x y:O} {zs cs:List T} (hx:ev st.sl x= .ptr b off) (hb:st.bx b=some (.d m zs)) (hy:ev st.sl y= .t (.agg cs)) (hl:cs.length=n∧off+n≤m) (hk:aw P is {st with bx:=upd st.bx b (some (.d m (aK zs off n cs)))} K):aw P (op0 (.store n x y)::is) st K:=
 wR (r:=.need (cs.length=n∧off+n≤m) {val:=.top,wr:=some (b,.d m (aK zs off n cs)),rd:=[b]}) (fun _ _=>rfl) (by simp only [eff,hx,hy,hb,eo] <;> rfl) ⟨hl,hk⟩
theorem r5 {b:Nat} {x y:O} {z:T} {f:FuncId} {caps:List V} (hx:ev st.sl x= .ptr b 0) (hb:st.bx b=some (.d 1 [z])) (hy:ev st.sl y= .fn f caps) (hk:aw P is {st with bx:=upd st.bx b (some (.v [.fn f caps]))} K):aw P (op0 (.store 1 x y)::is) st K:=
 wR (r:=.need (0<1) {val:=.top,wr:=some (b,.v [.fn f caps]),rd:=[b]}) (fun _ _=>rfl) (by simp only [eff,hx,hy,hb,eo] <;> rfl) ⟨by decide,hk⟩
theorem ry {d:Nat} {f:FuncId} {xs:List O} {vs:List V} (hx:xs.map (ev st.sl)=vs) (hk:aw P is {st with sl:=upd st.sl d (.fn f vs)} K):aw P (op1 d (.mkfn f xs)::is) st K:=
 wR (r:=.yes {val:=.fn f vs }) (fun _ _=>rfl) (by rw [← hx];rfl) hk
theorem rv {d n:Nat} {x i:O} {xs:List T} {k:Int} {t:T} (hx:ev st.sl x= .t (.slice n xs)) (hi:ev st.sl i= .t (.int .i64 k)) (hb:0≤k∧k<xs.length) (hv:xs[k.toNat]?.getD .nil=t) (hk:aw P is {st with sl:=upd st.sl d (.t (.cptr t.cells 0))} K):aw P (op1 d (.idxL n x i)::is) st K:=
 wR (r:=.eq (0≤k∧k<xs.length) (xs[k.toNat]?.getD .nil) fun t=>{val:=.t (.cptr t.cells 0)}) (fun _ _=>rfl) (by simp only [eff,hx,hi,asT,bE] <;> rfl) ⟨hb,fun t' e=>by rw [← e,hv];exact hk⟩
theorem rS {d n:Nat} {x:O} {cs:List T} (hx:ev st.sl x= .t (.cptr cs 0)) (hl:cs.length=n) (hk:aw P is {st with sl:=upd st.sl d (.t (.agg cs))} K):aw P (op1 d (.load n true x)::is) st K:=
 wR (r:=.eq (cs.length=n) (.agg cs) (aO [])) (fun _ _=>rfl) (by simp only [eff,hx] <;> rfl) ⟨hl,fun t' e=>by rw [← e];exact hk⟩
theorem rW {d:Nat} {x y:O} {a b:Int} (hx:ev st.sl x= .t (.int .i64 a)) (hy:ev st.sl y= .t (.int .i64 b)) (hk:aw P is {st with sl:=upd st.sl d (.t (.bool (decide (a<b))))} K):aw P (op1 d (.bin .lss x y)::is) st K:=by
 refine wR (r:=iP .lss .i64 .i64 a b) (fun _ _=>rfl) (by simp only [eff,hx,hy]) ?_
 show wpR (iP .lss .i64 .i64 a b) _ _ _
 exact ⟨trivial,fun b' e=>by subst e;exact hk⟩
theorem rO {d:Nat} {x y:O} {a b c:Int} (hx:ev st.sl x= .t (.int .i64 a)) (hy:ev st.sl y= .t (.int .i64 b)) (hc:IntKind.i64.wrap (a+b)=c) (hk:aw P is {st with sl:=upd st.sl d (.t (.int .i64 c))} K):aw P (op1 d (.bin .add x y)::is) st K:=by
 refine wR (r:=.yes {val:=.t (.int .i64 (IntKind.i64.wrap (a+b)))}) (fun _ _=>rfl) (by simp only [eff,hx,hy] <;> rfl) ?_
 rw [hc];exact hk
theorem pM {Q:ax→St→Prop} (h:aw P is st (Q .normal)):wpC P (.region is []) st Q:=h
theorem rB {z:O} {a b:aV} {Q:ax→St→Prop} (hz:ev st.sl z= .t (.bool true)) (h:wpC P a st Q):wpC P (.cond z a b) st Q:=by
 show eA z (wpC P a) (wpC P b) st Q
 unfold eA;rw [hz];exact h
theorem rA {z:O} {a b:aV} {Q:ax→St→Prop} (hz:ev st.sl z= .t (.bool false)) (h:wpC P b st Q):wpC P (.cond z a b) st Q:=by
 show eA z (wpC P a) (wpC P b) st Q
 unfold eA;rw [hz];exact h
theorem q8 {a:aV} {Q:ax→St→Prop} (h:aw P is st fun s=>wpC P a s Q):wpC P (.seq (.region is []) a) st Q:=h
theorem rD {Q:ax→St→Prop} (h:Q .ret st):wpC P .ret st Q:=h
theorem rE {Q:ax→St→Prop} (h:Q .normal st):wpC P .skip st Q:=h
theorem rC {id:Nat} {Q:ax→St→Prop} (h:Q (.exit id) st):wpC P (.exit id) st Q:=h
end
end Go.DL
end
section
namespace Go.DL
section
variable [Glb] {P:Program} {st:St} {K:St→Prop} {is:List DI}
end
section
variable {P:Program} {st:St} {K:St→Prop} {is:List DI}
theorem mC {s2:St} {fr:List Nat} {o:List (Nat×BX)} {d:Option Nat} {v:T} (hg0:s2.gh 0=st.sl) (hgs: ∀k,s2.gh (k+1)=st.gh k) (hbx: ∀n, ¬n∈fr→s2.bx n=aH st.bx o n)
  (hfr: ∀n∈fr,st.bx n=none∧ ∀p∈o,p.1≠n) (safe: ∀p∈o,bp (fun n=>(st.bx n).isSome=true) p.2) {cx:aa→World→Prop}:Clean st fr ((s2.bA st.off cx).set d (.t v)) (({st with bx:=aH st.bx o,cx:=cx }:St).set d (.t v)):=by
 have hsl: ∀n,((({st with bx:=aH st.bx o,cx:=cx }:St).set d (.t v)).sl n= .top)∨((({st with bx:=aH st.bx o,cx:=cx }:St).set d (.t v)).sl n=((s2.bA st.off cx).set d (.t v)).sl n∧((({st with bx:=aH st.bx o,cx:=cx }:St).set d (.t v)).sl n=st.sl n∨Names (fun n=>(st.bx n).isSome=true) ((({st with bx:=aH st.bx o,cx:=cx }:St).set d (.t v)).sl n))):=fun n=>by
  refine Or.inr ?_
  cases d with
  |none=>exact ⟨(congrFun hg0 n).symm,Or.inl rfl⟩
  |some q=>
   refine ⟨?_,?_⟩
   ·show upd st.sl q _ n=upd (s2.gh 0) q _ n
    rw [hg0]
   ·by_cases h:n=q
    ·refine Or.inr ?_
     show Names _ (upd st.sl q (.t v) n)
     rw [h,af];exact .t v
    ·exact Or.inl (ae _ _ _ _ h)
 have:=mX (st:=st) (s:=(s2.bA st.off cx).set d (.t v)) (fr:=fr) (o:=o) hsl (by cases d <;> exact funext hgs) (fun n hn=>by cases d <;> exact hbx n hn) hfr safe
 cases d <;> exact this
theorem oQ {b1 b2:Nat→Option BX} {q:Nat} (h:b1 q=b2 q): ∀(o:List (Nat×BX)),aH b1 o q=aH b2 o q
 |[]=>h
 |p::r=>by
  show upd (aH b1 r) p.1 (some p.2) q=upd (aH b2 r) p.1 (some p.2) q
  by_cases hq:q=p.1
  ·subst hq;rw [af,af]
  ·rw [ae _ _ _ _ hq,ae _ _ _ _ hq];exact oQ h r
theorem mL {cs vs:List T} {n:Nat} (h:cs.length=n):aK cs 0 n vs=vs:=by
 unfold aK
 rw [List.take_zero,List.nil_append,Nat.zero_add,List.drop_eq_nil_of_le (by omega),List.append_nil]
theorem AtI.of {W:(aa→World→Prop)→aa→World→Prop} {R:Wr W} {l:Nat} {rc:Loop} {cxo:aa→World→Prop} {own:St} {F:Nat→Prop} {m:Nat} {o o':List (Nat×BX)} {s:St} (h:AtI R l rc cxo own F o m st) (hcx:s.cx=st.cx) (hgh:s.gh=st.gh) (hfr: ∀n,F n→s.bx n=st.bx n) (ho: ∀p∈o',s.bx p.1=some p.2) (ht: ∃B, ∀n,B≤n→s.bx n=none):AtI R l rc cxo own F o' m s:=
 ⟨hcx.trans h.cx,by rw [hgh];exact h.g0,by rw [hgh];exact h.gs,ho,fun n h1=>by rw [hfr n h1];exact h.fr n h1,ht⟩
end
section
variable [Glb] {P:Program} {st:St} {K:St→Prop} {is:List DI}
theorem rH {l:Nat} {u:V} {us us':List V} {d:Option Nat} (hu:u=lP l) (hs:us=us') (h:YC P l us' d st K):gL P u us d st K:=by
 subst hu;subst hs
 exact ⟨l,rfl,h⟩
theorem rG {u:V} {f:FuncId} {caps us us':List V} {d:Option Nat} (hu:u= .fn f caps) (hs:us++caps=us') (h:WCM P f us' d st K):gL P u us d st K:=by
 subst hu;subst hs
 exact h
end
end Go.DL
end
section
namespace Go.DL
section
variable [Glb] {P:Program}
end
section
variable {P:Program}
theorem qq {f:Nat→Option BX} {n:Nat} {v:Option BX} (h:f n=v):upd f n v=f:=by
 funext k
 by_cases e:k=n
 ·subst e;rw [af,h]
 ·exact ae _ _ _ _ e
end
section
variable [Glb] {P:Program}
def qz (W:(aa→World→Prop)→aa→World→Prop) (l:Nat) (rb:Loop) (cxo:aa→World→Prop) (m:Nat) (st':St) (lo hi:Nat) (o1:List (Nat×BX)) (stop:Code→(aa→World→Prop)→List (Nat×BX)→Prop):ax→St→Prop:=fun e s2=>
 s2.gh=dI st'.sl st'.gh∧ ∃cx' o',s2.cx=ca (W (dh l rb cx' m))∧(∀ q, ¬(lo≤q∧q<hi)→s2.bx q=aH st'.bx o' q)∧match e with
  |.normal=>cx'=cxo∧o'=o1
  |.ret=>stop .ret cx' o'
  |.exit id=>stop (.exit id) cx' o'
structure oW (F:Nat→Prop) (hi:Nat) (cxo:aa→World→Prop) (outs:Nat→List (Nat×BX)) (stop:Code→(aa→World→Prop)→List (Nat×BX)→Prop):Prop where
 fh: ∀n,F n→n<hi
 nm: ∀k, ∀p∈outs k,p.1<hi∧ ¬F p.1
 nms: ∀c cx o,stop c cx o→ ∀p∈o,p.1<hi∧ ¬F p.1
 cov: ∀k k', ∀p∈outs k, ∃q∈outs k',q.1=p.1
 covs: ∀c cx o,stop c cx o→ ∀k, ∀p∈outs k, ∃q∈o,q.1=p.1
 safe: ∀k, ∀p∈outs k,bp (fun n=> ∃q∈outs 0,q.1=n) p.2
 safes: ∀c cx o,stop c cx o→ ∀p∈o,bp (fun n=> ∃q∈outs 0,q.1=n) p.2
 cxd: ∀c cx o,stop c cx o→CxD cx
 cxo_:CxD cxo
 nd: ∀k,((outs k).map (·.1)).Nodup
theorem dL.of {l D N p:Nat} {fn:FuncId} {tmps:Array Value} {asg body:Code} {cxo:aa→World→Prop} {own:St} {F:Nat→Prop} {lo hi top:Nat} {xs:List T} {outs:Nat→List (Nat×BX)} {stop:Code→(aa→World→Prop)→List (Nat×BX)→Prop} (S:oW F top cxo outs stop) (hsub: ∀n,lo≤n→n<hi→F n) (hN:tmps.size=N) (hp:p<N)
  (h: ∀{W:(aa→World→Prop)→aa→World→Prop} (R:Wr W) (k:Nat) (x:T) (m:Nat) (st':St),xs[k]? =some x→AtI R l (rdy fn tmps p asg body D) cxo own F (outs k) m st'→
   aF P N asg (st'.rnd (m+R.j) p (.t x) lo (ca (W (dh l (rdy fn tmps p asg body D) cxo m)))) fun e s1=>e= .normal∧ ∃cx1,s1.cx=ca (W (dh l (rdy fn tmps p asg body D) cx1 m))∧
    aF P N body {s1 with cx:=ca (W (dh l (bsy fn tmps p asg body D) cx1 m))} (qz W l (bsy fn tmps p asg body D) cxo m st' lo hi (outs (k+1)) stop)):
  dL P l (rcE fn tmps p asg body D) cxo own F top xs outs stop where
 fh:=S.fh
 nm:=S.nm
 nms:=S.nms
 cov:=S.cov
 covs:=S.covs
 safe:=S.safe
 safes:=S.safes
 cxd:=S.cxd
 cxo_:=S.cxo_
 nd:=S.nd
 yld:=fun {W} R k x m st d K hx hA hK hS=>by
  refine YC.clean (fun _=>?_)
  have hfr: ∀q∈List.range' lo (hi - lo),st.bx q=none:=fun q hq=>by
   rw [List.mem_range'_1] at hq
   exact hA.fr q (hsub q hq.1 (by omega))
  have hni: ∀q, ¬q∈List.range' lo (hi - lo)→ ¬(lo≤q∧q<hi):=fun q hq h=>hq (by rw [List.mem_range'_1];omega)
  have hF: ∀q∈List.range' lo (hi - lo),F q:=fun q hq=>by rw [List.mem_range'_1] at hq;exact hsub q hq.1 (by omega)
  refine YC.round R (st:=st) hA.cx hN hp lo ?_
  refine aF.mono (h R k x m st hx hA) ?_
  rintro e s1 ⟨he,cx1,h1,h2⟩
  refine ⟨he,cx1,h1,aF.mono h2 ?_⟩
  rintro e2 s2 ⟨hg,cx',o',h3,h4,h5⟩
  refine ⟨cx',h3,?_⟩
  have cl: ∀{v:T} {o:List (Nat×BX)} {cx:aa→World→Prop},(∀ q, ¬(lo≤q∧q<hi)→s2.bx q=aH st.bx o q)→(∀ p∈o,p.1<top∧ ¬F p.1)→(∀ p∈o,bp (fun n=>(st.bx n).isSome=true) p.2)→Clean st (List.range' lo (hi - lo)) ((s2.bA st.off cx).set d (.t v)) (({st with bx:=aH st.bx o,cx:=cx }:St).set d (.t v)):=fun j1 j2 j3=>
   mC (by rw [hg];rfl) (fun j=>by rw [hg];rfl) (fun q hq=>j1 q (hni q hq)) (fun q hq=>⟨hfr q hq,fun p hp e=>(j2 p hp).2 (by rw [e];exact hF q hq)⟩) j3
  cases e2 with
  |normal=>
   obtain ⟨rfl,rfl⟩:=h5
   refine ⟨List.range' lo (hi - lo),_,?_,cl h4 (S.nm _) (jK (jB (S.cov 0 k) hA.at_) (S.safe _))⟩
   have e:({st with bx:=aH st.bx (outs (k+1)),cx:=W (dt l (rcE fn tmps p asg body D none) cx' m)}:St)={st with bx:=aH st.bx (outs (k+1))}:=St.ext' rfl rfl rfl rfl hA.cx.symm
   rw [e]
   exact hK
  |ret=>exact ⟨List.range' lo (hi - lo),_,hS _ _ _ h5,cl h4 (S.nms _ _ _ h5) (jK (jB (S.cov 0 k) hA.at_) (S.safes _ _ _ h5))⟩
  |exit id=>exact ⟨List.range' lo (hi - lo),_,hS _ _ _ h5,cl h4 (S.nms _ _ _ h5) (jK (jB (S.cov 0 k) hA.at_) (S.safes _ _ _ h5))⟩
end
end Go.DL
end
section
namespace Go.DL
section
variable [Glb]
def Wr.pop {W:(aa→World→Prop)→aa→World→Prop} (R:Wr W):Wr (fun cx=>ca (W cx)) where
 F:=R.F
 era:=R.era
 j:=R.j+1
 iff_:=fun cx S w=>R.iff_ cx {S with vals:=fun k=>S.vals (k+1)} w
 sub:=R.sub
 F_:=R.F_
 era_:=R.era_
 n_:=R.n_
 d_:=R.d_
def Wr.r0 (l:Nat) (rb:Loop) (m:Nat):Wr (fun cx=>dh l rb cx m) where
 F:=fun O=>O l=some (.loop rb)
 era:=fun O=>upd O l none
 j:=m+1
 iff_:=fun cx S w=>Iff.rfl
 sub:=fun O l' x h=>by
  by_cases e:l'=l
  ·subst e;rw [af] at h;cases h
  ·rw [ae _ _ _ _ e] at h;exact h
 F_:=fun O l' x y h k=>by
  have e:l≠l':=fun e=>by subst e;rw [af] at h;cases h
  exact (ae _ _ _ _ e).trans k
 era_:=fun O l' x y h=>by
  have e:l'≠l:=fun e=>by subst e;rw [af] at h;cases h
  exact ep _ e _ _
 n_:=fun O D y h k=>by
  have e:D≠l:=fun e=>by rw [e,k] at h;cases h
  exact ⟨(ae _ _ _ _ (fun e'=>e e'.symm)).trans k,ep _ e _ _⟩
 d_:=fun O D x y h k=>by
  have e:D≠l:=fun e=>by rw [e,k] at h;cases h
  exact ⟨(ae _ _ _ _ (fun e'=>e e'.symm)).trans k,ep _ e _ _,(ae _ _ _ _ e).trans h⟩
def Wr.comp {W1 W2:(aa→World→Prop)→aa→World→Prop} (R1:Wr W1) (R2:Wr W2):Wr (fun cx=>W1 (W2 cx)) where
 F:=fun O=>R1.F O∧R2.F (R1.era O)
 era:=fun O=>R2.era (R1.era O)
 j:=R2.j+R1.j
 iff_:=fun cx S w=>by
  have h2:=R2.iff_ cx {S with objs:=R1.era S.objs,vals:=fun k=>S.vals (k+R1.j)} w
  have h1:=R1.iff_ (W2 cx) S w
  rw [h1,h2,and_assoc]
  simp only [Nat.add_assoc]
 sub:=fun O l x h=>R1.sub _ _ _ (R2.sub _ _ _ h)
 F_:=fun O l x y h k=>⟨R1.F_ _ _ _ _ (R2.sub _ _ _ h) k.1,by rw [R1.era_ _ _ _ _ (R2.sub _ _ _ h)];exact R2.F_ _ _ _ _ h k.2⟩
 era_:=fun O l x y h=>by rw [R1.era_ _ _ _ _ (R2.sub _ _ _ h)];exact R2.era_ _ _ _ _ h
 n_:=fun O D y h k=>by
  obtain ⟨h1,h2⟩:=R1.n_ O D y h k.1
  have h3:R1.era O D=none:=by
   cases e:R1.era O D with
   |none=>rfl
   |some x=>have:=R1.sub _ _ _ e;rw [h] at this;cases this
  obtain ⟨h4,h5⟩:=R2.n_ _ D y h3 k.2
  exact ⟨⟨h1,by rw [h2];exact h4⟩,by rw [h2];exact h5⟩
 d_:=fun O D x y h k=>by
  obtain ⟨h1,h2,h3⟩:=R1.d_ O D x y h k.1
  obtain ⟨h4,h5,h6⟩:=R2.d_ _ D x y h3 k.2
  exact ⟨⟨h1,by rw [h2];exact h4⟩,by rw [h2];exact h5,h6⟩
end
section
theorem Wr.cxN {W:(aa→World→Prop)→aa→World→Prop} (R:Wr W) {cx:aa→World→Prop} (h:CxN cx):CxN (W cx):=fun S w D y hD hc=>by
 obtain ⟨h1,h2⟩:=(R.iff_ _ _ _).1 hc
 obtain ⟨k1,k2⟩:=R.n_ _ D y hD h1
 have h3:R.era S.objs D=none:=by
  cases e:R.era S.objs D with
  |none=>rfl
  |some x=>have:=R.sub _ _ _ e;rw [hD] at this;cases this
 refine (R.iff_ _ _ _).2 ⟨k1,?_⟩
 show cx {S with objs:=R.era (upd S.objs D (some y)),vals:=_ } w
 rw [k2]
 exact h _ w D y h3 h2
theorem Wr.cxD {W:(aa→World→Prop)→aa→World→Prop} (R:Wr W) {cx:aa→World→Prop} (h:CxD cx):CxD (W cx):=fun S w D x y hD hc=>by
 obtain ⟨h1,h2⟩:=(R.iff_ _ _ _).1 hc
 obtain ⟨k1,k2,k3⟩:=R.d_ _ D x y hD h1
 refine (R.iff_ _ _ _).2 ⟨k1,?_⟩
 show cx {S with objs:=R.era (upd S.objs D (some y)),vals:=_ } w
 rw [k2]
 exact h _ w D x y k3 h2
end
section
variable [Glb]
variable {P:Program} {st:St} {K:St→Prop} {is:List DI}
theorem rY {d:Nat} {x y:O} {a b:Int} (hx:ev st.sl x= .t (.int .i64 a)) (hy:ev st.sl y= .t (.int .i64 b)) (hk:aw P is {st with sl:=upd st.sl d (.t (.bool (a !=b)))} K):aw P (op1 d (.bin .neq x y)::is) st K:=by
 refine wR (r:=iP .neq .i64 .i64 a b) (fun _ _=>rfl) (by simp only [eff,hx,hy]) ?_
 exact ⟨trivial,fun b' e=>by subst e;exact hk⟩
theorem rU {d b off m n:Nat} {x:O} {cs:List T} {t:T} (hx:ev st.sl x= .ptr b (off+1)) (hb:st.bx b=some (.d m cs)) (hlt:off+1+n≤m) (hv:T.agg ((cs.drop (off+1)).take n)=t) (hk:aw P is {st with sl:=upd st.sl d (.t t)} K):aw P (op1 d (.load n true x)::is) st K:=
 wR (r:=.eq (off+1+n≤m) (.agg ((cs.drop (off+1)).take n)) (aO [b])) (fun _ _=>rfl) (by
  simp only [eff,hx,hb,cX,gC]
  rw [eM (show off+1≠0 by omega)];rfl) ⟨hlt,fun t' e=>by rw [← e,hv];exact hk⟩
theorem ru {d:Nat} {f:FuncId} {xs:List O} {ts:List T} {r:T} (hx:xs.map (ev st.sl)=ts.map .t) (h:DCalls P f ts r) (hk:aw P is {st with sl:=upd st.sl d (.t r)} K):aw P (op1 d (.call f xs)::is) st K:=by
 show wpO P (.call f xs) (some d) st fun s=>aw P is s K
 show cF P f (xs.map (ev st.sl)) (some d) st fun s=>aw P is s K
 have hc: ∀(ts:List T),bu st.bx (ts.map .t)=some (ts,[]):=fun ts=>by
  induction ts with
  |nil=>rfl
  |cons t ts ih=>exact mG (r:=[]) (rs:=[]) rfl ih
 unfold cF
 rw [hx,hc]
 exact ⟨r,h,hk⟩
end
end Go.DL
end
section
namespace Go.DL
section
variable [Glb] {P:Program}
def gy (lo hi:Nat) (b:Nat→Option BX):Nat→Option BX:=fun n=>cond (Nat.ble lo n&&Nat.ble (n+1) hi) none (b n)
end
section
variable {P:Program}
theorem oi {lo hi:Nat} {b:Nat→Option BX} (h: ∀n,lo≤n→n<hi→b n=none):gy lo hi b=b:=by
 funext n
 unfold gy
 cases e:(Nat.ble lo n&&Nat.ble (n+1) hi) with
 |false=>rfl
 |true=>
  simp only [Bool.and_eq_true,Nat.ble_eq] at e
  exact (h n e.1 e.2).symm
theorem qO {lo hi:Nat} {b:Nat→Option BX} {q:Nat} (h: ¬(lo≤q∧q<hi)):gy lo hi b q=b q:=by
 unfold gy
 cases e:(Nat.ble lo q&&Nat.ble (q+1) hi) with
 |false=>rfl
 |true=>
  simp only [Bool.and_eq_true,Nat.ble_eq] at e
  exact absurd ⟨e.1,e.2⟩ h
end
section
variable [Glb] {P:Program}
structure RB (b:Nat→Option BX) (G:Nat→Nat→V) (C:aa→World→Prop) (lo hi:Nat) (o1:List (Nat×BX)) (stop:Code→List (Nat×BX)→Prop) (e:ax) (s:St):Prop where
 gh:s.gh=G
 cx:s.cx=C
 ex: ∃o',(∀ q, ¬(lo≤q∧q<hi)→s.bx q=aH b o' q)∧match e with
  |.normal=>o'=o1
  |.ret=>stop .ret o'
  |.exit id=>stop (.exit id) o'
theorem dL.top {l D N p d n:Nat} {fn:FuncId} {tmps:Array Value} {asg body:Code} {cxo:aa→World→Prop} {own:St} {F:Nat→Prop} {lo hi top:Nat} {zs xs:List T} {outs:Nat→List (Nat×BX)} {stop:Code→List (Nat×BX)→Prop}
  (S:oW F top cxo outs (fun c cx o=>cx=cxo∧stop c o)) (hsub: ∀n,lo≤n→n<hi→F n) (hN:tmps.size=N) (hp:p<N)
  (hasg: ∀{st:St} {Q:ax→St→Prop},wpC P (.region [op1 d (.alloc zs),op0 (.store n (.tmp d) (.tmp p))] []) st Q→aF P N asg st Q) (hz:zs.length=n) (hdp:d≠p) (hd:d+lo<hi)
  (hx: ∀x∈xs, ∃cs,x= .agg cs∧cs.length=n)
  (h: ∀(k:Nat) (cs:List T) (b:Nat→Option BX) (G:Nat→Nat→V) (C:aa→World→Prop),xs[k]? =some (.agg cs)→cs.length=n→
   aF P N body {sl:=upd (upd own.sl p (.t (.agg cs))) d (.ptr (d+lo) 0),bx:=upd (aH (gy lo hi b) (outs k)) (d+lo) (some (.d n cs)),gh:=G,off:=lo,cx:=C } (RB b G C lo hi (outs (k+1)) stop)):
  dL P l (rcE fn tmps p asg body D) cxo own F top xs outs (fun c cx o=>cx=cxo∧stop c o):=by
 refine dL.of S hsub hN hp (fun {W} R k x m st' hxk hA=>?_)
 obtain ⟨cs,rfl,hcs⟩:=hx x (List.mem_of_getElem? hxk)
 have hfr: ∀q,lo≤q→q<hi→st'.bx q=none:=fun q h1 h2=>hA.fr q (hsub q h1 h2)
 have hb:st'.bx=aH (gy lo hi st'.bx) (outs k):=by rw [oi hfr,kn hA.at_]
 refine hasg (pM (pL (hfr (d+lo) (by omega) hd) (q0 (b:=d+lo) (off:=0) (m:=zs.length) (zs:=zs) (cs:=cs) (af _ _ _) (af _ _ _) ?_ ⟨hcs,by omega⟩ (qN ⟨rfl,_,rfl,?_⟩))))
 ·show upd (upd (st'.gh (m+R.j)) p _) d _ p=_
  rw [ae _ _ _ _ (fun e=>hdp e.symm),af]
 refine aF.mono (Q:=RB st'.bx (dI st'.sl st'.gh) (ca (W (dh l (bsy fn tmps p asg body D) cxo m))) lo hi (outs (k+1)) stop) ?_ ?_
 ·have e:=h k cs st'.bx (dI st'.sl st'.gh) (ca (W (dh l (bsy fn tmps p asg body D) cxo m))) hxk hcs
  have e2:({sl:=upd (upd own.sl p (.t (.agg cs))) d (.ptr (d+lo) 0),bx:=upd (aH (gy lo hi st'.bx) (outs k)) (d+lo) (some (.d n cs)),gh:=dI st'.sl st'.gh,off:=lo,cx:=ca (W (dh l (bsy fn tmps p asg body D) cxo m))}:St)={sl:=upd (upd (st'.gh (m+R.j)) p (.t (.agg cs))) d (.ptr (d+lo) 0),bx:=upd (upd st'.bx (d+lo) (some (.d zs.length zs))) (d+lo) (some (.d zs.length (aK zs 0 n cs))),gh:=dI st'.sl st'.gh,off:=lo,cx:=ca (W (dh l (bsy fn tmps p asg body D) cxo m))}:=
   St.ext' (by rw [← hA.g0]) (by rw [← hb,fX,hz,mL hz]) rfl rfl rfl
  rw [e2] at e
  exact e
 ·rintro e s2 ⟨h1,h2,o',h3,h4⟩
  refine ⟨h1,cxo,o',h2,h3,?_⟩
  cases e with
  |normal=>exact ⟨rfl,h4⟩
  |ret=>exact ⟨rfl,h4⟩
  |exit id=>exact ⟨rfl,h4⟩
end
end Go.DL
end
section
namespace Go.DL
section
variable [Glb] {P:Program} {N:Nat} {st:St} {Q:ax→St→Prop}
theorem aF.absurd {c:Code} {n m:Nat} {ts:List T} (hb:st.bx n=some (.d m ts)) (hl:ts.length≠m):aF P N c st Q:=by
 intro ro n' w0 S0 E a Ds hs hm
 obtain ⟨o,_,h2⟩:=(hs.bx n _ hb).at_
 cases h2 with
 |cells cs e _ h=>
  cases h with
  |d _ _ hl' _ _=>exact (hl hl').elim
end
section
variable {P:Program} {N:Nat} {st:St} {Q:ax→St→Prop}
theorem rf {s:Wk} {n:Nat} (h: ∀p∈s.bx,p.1≠n):s.mk'.bx n=none:=by
 show lk none (s.bx.map fun p=>(p.1,some p.2)) n=none
 rcases fR (d:=(none:Option BX)) (l:=s.bx.map fun p=>(p.1,some p.2)) (n:=n) with h1|h1
 ·exact h1
 ·obtain ⟨p,hp,e⟩:=List.mem_map.1 h1
  simp only [Prod.mk.injEq] at e
  exact absurd e.1 (h p hp)
end
section
variable [Glb] {P:Program} {N:Nat} {st:St} {Q:ax→St→Prop}
theorem kB.rm {f:FuncId} {ts:List T} {r:T} (h:kB P f ts r):DCalls P f ts r:=⟨h.1,fun S w vs hS hG hl hr=>
 (h.2 w vs (hG.up (fun b o hs=>hS b o hs) (Below.refl _ _)) hl (fun i v t hv ht=>(hr i v t hv ht).mono (fun b o hs=>hS b o hs) (fun _ _ _=>aB.rfl))).mono (by
  rintro e w' ⟨v,rfl,hb,hrep⟩
  exact ⟨v,rfl,hb,hrep.mono (fun b o hh=>Or.inr hh) (fun _ _ _=>aB.rfl)⟩)⟩
end
end Go.DL
end
section
namespace Go.DL
open Go.RowKit Go.Shelf Go.Proofs Go.Sort
section
variable [Glb] {P:Program} {N:Nat} {w0:World} {S0:aa} {a:Act} {E:Env} {st:St}
end
end Go.DL
end
section
namespace Go.DL
open Go.RowKit Go.Shelf Go.Proofs Go.Sort
section
variable [Glb] {P:Program} {N:Nat} {w0:World} {S0:aa} {a:Act} {E:Env} {st:St}
structure iq (P:Program) (f:FuncId) {α:Type} [Inhabited α] (enc:α→Value) (le:α→α→Bool):Prop where
 callable:bD P f
 some_: ∀(blk off cap:Nat) (ss:List α) (w:World),Holds enc w blk off ss.toArray→blk<w.heap.size→ss.length<4611686018427387904→
  Calls P f #[.slice (some ⟨blk,off,none⟩) ss.length cap] w fun e w'=>e= .returned (.tuple #[])∧ ∃n os,w'=grow (putRow enc (Sort.ahead w n) blk off (ss.mergeSort le).toArray) os
 none_: ∀(p:Option Addr) (cap:Nat) (w:World),Calls P f #[.slice p 0 cap] w fun e w'=>e= .returned (.tuple #[])∧w'=w
theorem qU {f:FuncId} {n off len m:Nat} {ts:List T} {α:Type} [Inhabited α] {enc:α→Value} {le:α→α→Bool} {encT:α→T} {d:Option Nat} {K:St→Prop} (hs:iq P f enc le) (hb:st.bx n=some (.d m ts)) (ss:List α) (hss:(ts.drop off).take len=ss.map encT) (hlen:ss.length=len) (hlt:len<4611686018427387904)
  (hv1: ∀(a:α) (S:aq) (w:World) (v:Value),Rep S w v (encT a)→v=enc a) (hv2: ∀(a:α) (S:aq) (w:World),Rep S w (enc a) (encT a)) (ho: ∀a,(encT a).one=true)
  (hk:K ({st with bx:=upd st.bx n (some (.d m (aK ts off len ((ss.mergeSort le).map encT))))}.set d (.t (.tup [])))):WC P f [.view n off len 1] d st K:=by
 refine ⟨hs.callable,fun N w0 S0 E a vs h hvl hv hd=>?_⟩
 have hsz:vs.size=1:=hvl
 have hv0:=hv 0 vs[0] _ (by simp [hsz]) rfl
 have hvs:vs= #[vs[0]]:=by
  apply Array.ext
  ·simp [hsz]
  ·intro i h1 h2
   match i,h1 with
   |0,_=>rfl
   |i+1,h1=>omega
 obtain ⟨cap,hsl,hcap,hlive⟩:=hv0.bR
 obtain ⟨cs,e,hgo,hcr'⟩:=(h.bx n _ hb).cells rfl
 have hB:=h.bx n _ hb
 cases hcr' with
 |d _ _ hl hszc hh=>
 by_cases hl0:len=0
 ·subst hl0
  have hx0:ss=[]:=List.eq_nil_of_length_eq_zero hlen
  subst hx0
  have hcall:=hs.none_ (some ⟨E.κ n,off,none⟩) cap E.w
  rw [← hsl, ←hvs] at hcall
  refine hcall.mono ?_
  rintro e' w' ⟨rfl,rfl⟩
  refine ⟨_,rfl,_,_,rfl,hk,cZ ?_ hd (.t _ _ (.tup #[] [] rfl fun i x t hx=>by simp at hx))⟩
  have hsame:aK ts off 0 ((([]:List α).mergeSort le).map encT)=ts:=by simp [aK]
  rw [hsame]
  have:upd st.bx n (some (.d m ts))=st.bx:=by
   funext i
   by_cases hi:i=n
   ·subst hi;rw [af,hb]
   ·rw [ae _ _ _ _ hi]
  show SR N w0 S0 E {st with bx:=upd st.bx n (some (.d m ts))} a
  rw [this]
  exact h
 have hle:off+len≤m:=by
  have h1:=congrArg List.length hss
  rw [List.length_take,List.length_drop,List.length_map,hlen] at h1
  omega
 have hget: ∀(j:Nat) (hj:j<ss.length),ts[off+j]? =some (encT ss[j]):=fun j hj=>by
  have h1:((ts.drop off).take len)[j]? =some (encT ss[j]):=by rw [hss,List.getElem?_map,ggZ hj];rfl
  rw [List.getElem?_take,if_pos (by omega),List.getElem?_drop] at h1
  exact h1
 have hcell: ∀(j:Nat) (hj:j<ss.length),cs[off+j]? =some (enc ss[j]):=fun j hj=>by
  have hlt2:off+j<cs.size:=by omega
  have:=hh (off+j) cs[off+j] (encT ss[j]) (Array.getElem?_eq_getElem hlt2) (hget j hj)
  rw [Array.getElem?_eq_getElem hlt2,hv1 _ _ _ _ this.1]
 have hH:Holds enc E.w (E.κ n) off ss.toArray:=by
  intro j hj
  have hj:j<ss.length:=by simpa using hj
  refine ⟨?_,?_⟩
  ·rw [cell_of_row _ _ _ _ _ _ hgo,hcell j hj]
   simp [hj]
  ·unfold World.frozen?
   simp only [hgo]
   simp
 have hcall:=hs.some_ (E.κ n) off cap ss E.w hH hB.lt (by omega)
 rw [hlen, ←hsl, ←hvs] at hcall
 refine hcall.mono ?_
 rintro e' w' ⟨rfl,q,os,rfl⟩
 generalize hzz:ss.mergeSort le=zs at hk ⊢
 have hzl:zs.length=len:=by rw [← hzz,List.length_mergeSort,hlen]
 let cs':Array Value:=Sort.putCells enc off zs.toArray cs
 have hcs':cs'.size=cs.size:=by simp [cs',Sort.putCells]
 have hw1:(grow (putRow enc (Sort.ahead E.w q) (E.κ n) off zs.toArray) os).heap[E.κ n]? =some (.cells cs' e (0,0)):=by
  unfold Sort.grow Sort.putRow Sort.mapBlock Sort.ahead
  simp only
  rw [Array.getElem?_append_left (by simpa using hB.lt),Array.getElem?_modify,if_pos rfl,hgo]
  rfl
 have hother: ∀(i:Nat),i≠E.κ n→i<E.w.heap.size→(grow (putRow enc (Sort.ahead E.w q) (E.κ n) off zs.toArray) os).heap[i]? =E.w.heap[i]? :=fun i hi hil=>by
  unfold Sort.grow Sort.putRow Sort.mapBlock Sort.ahead
  simp only
  rw [Array.getElem?_append_left (by simpa using hil),Array.getElem?_modify,if_neg (fun e=>hi e.symm)]
 have hsize:E.w.heap.size≤(grow (putRow enc (Sort.ahead E.w q) (E.κ n) off zs.toArray) os).heap.size:=by
  unfold Sort.grow Sort.putRow Sort.mapBlock Sort.ahead
  simp
 have hzm:(zs.map encT).length=len:=by rw [List.length_map,hzl]
 have hwrite:=h.write hb rfl cs' (.d m (aK ts off len (zs.map encT))) fun E' gr=>by
  refine .d m _ (by rw [bS _ _ _ _ hzm (by omega)];exact hl) (by rw [hcs'];exact hszc) (fun j v w hv' hw=>?_)
  rw [bH _ _ _ _ hzm (by omega)] at hw
  have hjc:j<cs.size:=by rw [← hcs'];exact (Array.getElem?_eq_some_iff.1 hv').1
  have hcj:cs'[j]? =some (if off≤j∧j<off+zs.toArray.size then enc zs.toArray[j - off]! else cs[j]):=by
   simp only [cs',Sort.putCells,Array.getElem?_mapIdx,Array.getElem?_eq_getElem hjc,Option.map_some]
  have hzs:zs.toArray.size=len:=by simp [hzl]
  rw [hcj,hzs] at hv'
  by_cases g1:j<off
  ·rw [if_pos g1] at hw
   rw [if_neg (by omega)] at hv'
   have:=hh j v w (by rw [Array.getElem?_eq_getElem hjc];exact hv') hw
   exact ⟨gr.rep this.1,this.2⟩
  ·rw [if_neg g1] at hw
   by_cases g2:j<off+len
   ·rw [if_pos g2] at hw
    rw [if_pos (by omega)] at hv'
    have hjz:j - off<zs.length:=by omega
    rw [List.getElem?_map,ggZ hjz] at hw
    rw [getElem!_pos zs.toArray (j - off) (by simpa using hjz)] at hv'
    simp only [List.getElem_toArray,Option.some.injEq,Option.map_some] at hv' hw
    subst hv';subst hw
    exact ⟨hv2 _ _ _,ho _⟩
   ·rw [if_neg g2] at hw
    rw [if_neg (by omega)] at hv'
    have:=hh j v w (by rw [Array.getElem?_eq_getElem hjc];exact hv') hw
    exact ⟨gr.rep this.1,this.2⟩
 have hsetw:(E.w.setRow (E.κ n) cs').heap.size=E.w.heap.size:=by simp [World.setRow]
 have hbel:Below ({E with w:=E.w.setRow (E.κ n) cs' }:Env).w.heap.size ({E with w:=E.w.setRow (E.κ n) cs' }:Env).w (grow (putRow enc (Sort.ahead E.w q) (E.κ n) off zs.toArray) os):=by
  refine Below.of rfl rfl rfl (by rw [hsetw];exact hsize) (fun i hi=>?_) ?_
  ·have hi:i<E.w.heap.size:=by rw [← hsetw];exact hi
   by_cases hin:i=E.κ n
   ·subst hin
    rw [hw1]
    exact (setRow_heap E.w (E.κ n) cs cs' e (0,0) hgo).symm
   ·rw [hother i hin hi]
    show _=(E.w.heap.modify (E.κ n) _)[i]?
    rw [Array.getElem?_modify,if_neg (fun e=>hin e.symm)]
  ·show E.w.drawn≤E.w.drawn+q
   omega
 have h':=hwrite.world hbel E.S (fun b o=>⟨.inl,fun hh=>hh.elim id fun k=>k.1⟩)
 exact ⟨_,rfl,_,_,rfl,hk,cZ h' hd (.t _ _ (.tup #[] [] rfl fun i x t hx=>by simp at hx))⟩
end
section
variable {P:Program} {N:Nat} {w0:World} {S0:aa} {a:Act} {E:Env} {st:St}
theorem iq.str {ρ:Ren} (L:Lays.n190 P ρ) {f:FuncId} (hf:ρ.f 190=f) (hc:bD P f):iq P f encStr (fun x y:List UInt8=>decide (x≤y)):=
 ⟨hc,fun blk off cap ss w hH hb hs=>hf▸Any.slices_Sort_string L blk off cap ss w hH hb hs,fun p cap w=>hf▸Any.slices_Sort_string_none L p cap w⟩
theorem iq.int {ρ:Ren} (L:Lays.n189 P ρ) {f:FuncId} (hf:ρ.f 189=f) (hc:bD P f):iq P f (Value.int .i64) (fun x y:Int=>decide (x≤y)):=
 ⟨hc,fun blk off cap ss w hH hb hs=>hf▸Any.slices_Sort_int L blk off cap ss w hH hb hs,fun p cap w=>hf▸Any.slices_Sort_int_none L p cap w⟩
end
section
variable [Glb] {P:Program} {N:Nat} {w0:World} {S0:aa} {a:Act} {E:Env} {st:St}
theorem pT {f:FuncId} {α:Type} [Inhabited α] {enc:α→Value} {le:α→α→Bool} {d:Option Nat} {K:St→Prop} (hs:iq P f enc le) (hk:K (st.set d (.t (.tup [])))):WC P f [.t .nil] d st K:=by
 refine ⟨hs.callable,fun N w0 S0 E a vs h hvl hv hd=>?_⟩
 have hsz:vs.size=1:=hvl
 have hv0:=(hv 0 vs[0] _ (by simp [hsz]) rfl).av
 have hvs:vs= #[vs[0]]:=by
  apply Array.ext
  ·simp [hsz]
  ·intro i h1 h2
   match i,h1 with
   |0,_=>rfl
   |i+1,h1=>omega
 have hsl:vs[0]= .slice none 0 0:=by
  generalize vs[0]=v at hv0
  cases hv0;rfl
 have hcall:=hs.none_ none 0 E.w
 rw [← hsl, ←hvs] at hcall
 refine hcall.mono ?_
 rintro e' w' ⟨rfl,rfl⟩
 exact ⟨_,rfl,_,_,rfl,hk,cZ h hd (.t _ _ (.tup #[] [] rfl fun i x t hx=>by simp at hx))⟩
end
end Go.DL
end
