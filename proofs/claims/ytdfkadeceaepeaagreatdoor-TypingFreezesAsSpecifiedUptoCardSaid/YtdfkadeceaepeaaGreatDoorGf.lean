/- Joined by program: parts of a data level over the model, of the program's functions over it, and of the statement's proof. -/
import Derived.Test.YtdfkadeceaepeaaGreatDoorGe
import Derived.Test.YtdfkadeceaepeaaGreatDoorGc
import Derived.Test.YtdfkadeceaepeaaGreatDoorProg
import Derived.KernelRfl
import Derived.Test.YtdfkadeceaepeaaGreatDoorGd
set_option maxRecDepth 100000
set_option maxHeartbeats 8000000
section
namespace Go.TY
open Go Go.DL Go.MM Go.Proofs
attribute [local irreducible] aI gR WCM YC
def bounds (gs:List RG):List Int:=gs.flatMap fun g=>wK g.pol
def uj (gs:List RG):List Int:=tu ltI (bounds gs)
theorem yK {α:Type} [DecidableEq α]: ∀{a acc b:List α},once acc (a++b)=once (once acc a) b
 |[],_,_=>rfl
 |x::a,acc,b=>by
  rw [List.cons_append]
  exact yK (a:=a)
def wm (pre:List Int) (r:RO) (k:Nat):List Int:=once (once [] pre) (s4 tG (td r) k)
def vM (pre:List Int) (r:RO) (k:Nat):List (Nat×BX):=[(3,.v [.mp 7]),(7,.m false [.int .i64] (esI (wm pre r k)) none)]
theorem HK (pre:List Int) (r:RO):ph (fun n=>10≤n∧n<100) 100 (fun _ _=>True) (vM pre r) (fun _ cx _=>cx=(fun _ _=>True)∧False) where
 fh:=fun n h=>h.2
 nm:=fun k p hp=>by
  simp only [vM,List.mem_cons,List.not_mem_nil,or_false] at hp
  rcases hp with rfl|rfl <;> exact ⟨by dsimp only;omega,by dsimp only;omega⟩
 nms:=fun c cx o ho=>ho.2.elim
 cov:=fun k k' p hp=>by
  simp only [vM,List.mem_cons,List.not_mem_nil,or_false] at hp ⊢
  rcases hp with rfl|rfl
  ·exact ⟨_,Or.inl rfl,rfl⟩
  ·exact ⟨_,Or.inr rfl,rfl⟩
 covs:=fun c cx o ho=>ho.2.elim
 safe:=fun k p hp=>by
  simp only [vM,List.mem_cons,List.not_mem_nil,or_false] at hp
  rcases hp with rfl|rfl
  ·intro c hc
   rw [List.mem_singleton.1 hc]
   exact .mp 7 ⟨(7,_),List.mem_cons_of_mem _ (List.mem_singleton.2 rfl),rfl⟩
  ·exact trivial
 safes:=fun c cx o ho=>ho.2.elim
 cxd:=fun c cx o ho=>ho.2.elim
 cxo_:=rT
 nd:=fun k=>by show ([3,7]:List Nat).Nodup;decide
abbrev SB (gs:List RG) (i:Nat):Wk:={sl:=[(3,.ptr 3 0),(8,.t (.slice 15 (gs.map sF))),(9,.t (I gs.length)),(10,.t (I i))],bx:=[(3,.v [.mp 7]),(7,.m false [.int .i64] (esI (once [] (bounds (gs.take i)))) none)]}
theorem x5 (gs:List RG) (hl:gs.length<2^39) (hg: ∀g∈gs,g.pol.wt<2^39) (hb:(bounds gs).length<2^40):DCalls Tryz.prog 57 [.slice 15 (gs.map sF)] (.slice 1 ((uj gs).map I)):=by
 refine qP Tryz.func57 Lp rfl (r:=[.slice 1 ((uj gs).map I)]) (nlZ rfl) ?_
 rw [show Tryz.f57.ntmps=31 from rfl,show Tryz.f57.results.toList=[.tmp 2] from rfl,k57]
 have hgl:((gs.map sF).length:Int)=(gs.length:Int):=by rw [List.length_map]
 refine aI.seq (IW ?_)
 skip
 refine aI.seq (I2 ?_)
 repeat' ((conv=>whnf);first|refine aS ?_|fail)
 refine aI.seq (aI.seq (I8 ?_))
 skip
 refine aI.bP (s:=SB gs 0) (by repeat' (first|(exact leI (by simp))|exact trivial|exact LeV.same _|exact LeB.same _|exact rfl|exact fun _ _ _=>trivial|refine And.intro ?_ ?_)) ?_
 refine aI.block (aI.loop (fun m s=> ∃i,i≤gs.length∧m=gs.length - i∧s=(SB gs i).mk') gs.length ⟨0,by omega,by omega,rfl⟩ ?_)
 rintro m s ⟨i,hi,rfl,rfl⟩
 refine aI.seq (Je ?_)
 rcases Nat.lt_or_ge i gs.length with h|h
 case inr=>
  have:i=gs.length:=by omega
  subst this
  have e:SB gs gs.length=({sl:=[(3,.ptr 3 0),(8,.t (.slice 15 (gs.map sF))),(9,.t (I gs.length)),(10,.t (I gs.length))],bx:=[(3,.v [.mp 7]),(7,.m false [.int .i64] (esI (once [] (bounds gs))) none)]}:Wk):=by unfold SB;rw [List.take_length]
  rw [e]
  clear e
  have hol:=vB (l:=bounds gs) (acc:=[])
  have hnd:=uK (l:=bounds gs) (acc:=[]) List.nodup_nil
  have hfin:yN (once [] (bounds gs))=uj gs:=by
   unfold yN uj
   refine wO Ch fun x=>?_
   rw [vA]
   simp only [List.not_mem_nil,false_or]
  simp only [List.length_nil,Nat.zero_add] at hol
  generalize once [] (bounds gs)=ks at *
  have hk1:=BR ks (ks.map fun _=>T.bool true)
  have hk2:=(zM ks (ks.map fun _=>T.bool true) (by simp) (by omega) hnd).rD
  rw [hfin] at hk2
  repeat' ((conv=>whnf);first|refine aD0 ?_|refine aS ?_|fail)
  refine aI.seq (EY ?_)
  skip
  refine aI.bP (s:={sl:=[(3,.ptr 3 0)],bx:=[(3,.v [.t (mpi ks (ks.map fun _=>T.bool true))])]}) ⟨⟨.same _,trivial⟩,⟨.v _ _ ⟨.conv _ _ [7] ?_ (by simp [Wk.keys]),trivial⟩,trivial⟩,trivial,rfl,fun _ _ _=>trivial,rfl⟩ ?_
  ·show some (T.mapd false [.int .i64] ((esI ks).map (·.1)) ((esI ks).map (·.2)),[7])=_
   unfold esI
   rw [List.map_map,List.map_map];rfl
  refine GQ ?_
  repeat' ((conv=>whnf);first|refine rE _ (hk1) ?_|refine rE _ (hk2) ?_|fail)
  exact ⟨⟨rfl,trivial⟩,fun _ _=>trivial⟩
 obtain ⟨pre,hpre0⟩: ∃pre,pre=bounds (gs.take i):=⟨_,rfl⟩
 have e:SB gs i=({sl:=[(3,.ptr 3 0),(8,.t (.slice 15 (gs.map sF))),(9,.t (I gs.length)),(10,.t (I i))],bx:=[(3,.v [.mp 7]),(7,.m false [.int .i64] (esI (once [] pre)) none)]}:Wk):=by rw [hpre0]
 rw [e]
 clear e
 repeat' ((conv=>whnf);first|refine aD1 ?_|refine aS ?_|fail)
 refine aI.seq (EY ?_)
 skip
 have hgi:=hg gs[i] (List.getElem_mem h)
 have hpol:=ug gs[i]
 have hG:sF gs[i]= .agg (sD gs[i]):=rfl
 have hpre:bounds (gs.take (i+1))=bounds (gs.take i)++wK gs[i].pol:=by
  unfold bounds
  rw [List.take_succ_eq_append_getElem h,List.flatMap_append];simp
 rw [← hpre0] at hpre
 clear hpre0
 refine aI.seq (aI.block (aI.seq (Jp ?_)))
 repeat' ((conv=>whnf);first|(refine nv_ (.agg (sD gs[i])) (by first|((simp [h];rfl);done)|fail) ?_)|(refine And.intro (by first|exact ⟨sI _,nlZ rfl⟩|exact sI _|fail) ?_)|refine aS ?_|fail)
 have ht:=BU gs[i].pol
 rw [sQ,uE] at ht
 refine aI.seq (Jq ?_)
 repeat' ((conv=>whnf);first|(refine nv_ (.agg (sA gs[i].pol)) (by first|exact congrArg T.agg hpol|fail) ?_)|refine rE _ (ht) ?_|refine aS ?_|fail)
 generalize gs[i].pol=r at *
 rw [← uE]
 refine aI.bP (s:={sl:=[(3,.ptr 3 0),(8,.t (.slice 15 (gs.map sF))),(9,.t (I gs.length)),(10,.t (I i)),(16,.t (.clos 130 [.cptr (sW r) 0]))],bx:=[(3,.v [.mp 7]),(7,.m false [.int .i64] (esI (once [] pre)) none)]}) (by repeat' (first|exact trivial|exact LeV.same _|exact LeB.same _|exact rfl|exact fun _ _ _=>trivial|refine And.intro ?_ ?_)) ?_
 have hlen:(sH r).length≤r.wt:=by rw [s9,uf];exact r.vV
 have hwt: ∀o∈sH r,o.wt≤r.wt:=by rw [s9];exact uG r
 refine aI.block (yx (N:=31) rfl r rfl 100 (fun n=>10≤n∧n<100) 100 (Nat.le_refl _) (by omega) (fun o ho=>by have h1:=hwt o ho;rw [uv,uL];obtain ⟨k,p,f,n,a⟩:=o;simp only [RO.wt] at h1;show p.nodes<_;omega) (fun n h=>rz fun p hp=>?_) (fun n h=>rz fun p hp=>?_) (by exact rU) (outs:=vM pre r) (stop:=fun _ cx _=>cx=(fun _ _=>True)∧False) ?_ (fun l0 D fn tmps hN=>?_) ?_ (fun c cx o h=>h.2.elim))
 ·simp only [List.mem_cons,List.not_mem_nil,or_false] at hp
  rcases hp with rfl|rfl <;> (dsimp only;omega)
 ·simp only [List.mem_cons,List.not_mem_nil,or_false] at hp
  rcases hp with rfl|rfl <;> (dsimp only;omega)
 ·intro q hq
  simp only [vM,List.mem_cons,List.not_mem_nil,or_false] at hq
  rcases hq with rfl|rfl <;> rfl
 ·refine dR.top (d:=6) (n:=5) (lo:=10) (hi:=100) (stop:=fun _ _=>False) (HK pre r) (fun n h1 h2=>⟨h1,h2⟩) hN (by decide) (fun hw=>Jr hw) rfl (by decide) (by decide) (fun x hx=>?_) (fun k cs b G C hk hcs=>?_)
  ·obtain ⟨t,_,rfl⟩:=List.mem_map.1 hx
   exact ⟨_,sG t,sJ t⟩
  rw [List.getElem?_map,Option.map_eq_some_iff] at hk
  obtain ⟨t,htk,hte⟩:=hk
  rw [sG] at hte
  obtain rfl:sB t=cs:=T.agg.inj hte
  have hfs:=vK (g:=tG) htk
  have hos:vM pre r k=[(3,.v [.mp 7]),(7,.m false [.int .i64] (esI (wm pre r k)) none)]:=rfl
  rw [hos]
  have hks:wm pre r (k+1)=once (wm pre r k) (tG t):=by unfold wm;rw [hfs,yK]
  have endN: ∀s:St,s.gh=G→s.cx=C→(∀ q, ¬(10≤q∧q<100)→s.bx q=aK b [(3,.v [.mp 7]),(7,.m false [.int .i64] (esI (wm pre r (k+1))) none)] q)→RB b G C 10 100 (vM pre r (k+1)) (fun _ _=>False) .normal s:=fun s h1 h2 h3=>⟨h1,h2,_,h3,rfl⟩
  generalize wm pre r (k+1)=ks' at *
  generalize wm pre r k=ks at *
  clear hte hos hfs
  refine Js ?_
  obtain ⟨kd,f,n,m,args⟩:=t
  by_cases k9:kd=9
  ·have hmr:ks'=once ks [n,m]:=by rw [hks];unfold tG;exact congrArg (once ks) (if_pos k9)
   repeat' ((conv=>whnf);first|refine qx k9 ?_|refine nT_ ?_|(refine And.intro (by first|exact ⟨rfl,rfl,trivial⟩|fail) ?_)|refine aS ?_|fail)
   (conv=>whnf)
   refine endN _ rfl rfl fun q hq=>?_
   have hm:=qX (b:=b) hq
   by_cases h5:q=7
   ·subst h5
    show some (BX.m false [.int .i64] (bK (T.int .i64 m) (T.bool true) (bK (T.int .i64 n) (T.bool true) _)) none)=some (BX.m false [.int .i64] _ none)
    rw [yU,yU,hmr]
    rfl
   show cond (Nat.beq q 7) _ (cond (Nat.beq q 7) _ (cond (Nat.beq q 16) _ (cond (Nat.beq q 3) _ (cond (Nat.beq q 7) _ (gE 10 100 b q)))))=cond (Nat.beq q 3) _ (cond (Nat.beq q 7) _ (b q))
   rw [eS h5,eS (show q≠16 by omega),hm];rfl
  ·have hmr:ks'=ks:=by rw [hks];unfold tG;exact congrArg (once ks) (if_neg k9)
   subst hmr
   repeat' ((conv=>whnf);first|refine qw k9 ?_|refine nT_ ?_|refine aS ?_|fail)
   (conv=>whnf)
   refine endN _ rfl rfl fun q hq=>?_
   have hm:=qX (b:=b) hq
   show cond (Nat.beq q 16) _ (cond (Nat.beq q 3) _ (cond (Nat.beq q 7) _ (gE 10 100 b q)))=cond (Nat.beq q 3) _ (cond (Nat.beq q 7) _ (b q))
   rw [eS (show q≠16 by omega),hm];rfl
 ·have hes:vM pre r (td r).length=[(3,.v [.mp 7]),(7,.m false [.int .i64] (esI (once [] (bounds (gs.take (i+1))))) none)]:=by
   unfold vM wm
   rw [wh,hpre,yK]
   unfold wK
   rw [yL]
  rw [hes]
  refine Jt ?_
  skip
  exact ⟨gs.length - (i+1),SB gs (i+1),by omega,by (repeat' (first|exact trivial|exact LeV.same _|exact LeB.same _|exact rfl|exact fun _ _ _=>trivial|exact lI|refine And.intro ?_ ?_)),i+1,by omega,rfl,rfl⟩
end Go.TY
end
section
namespace Go.TY
open Go Go.DL Go.MM
mutual
theorem xz (t:Int): ∀r:RP,(tY t r).nodes≤r.nodes
 |.mk k f n m a=>by
  have h:=yr t a
  rw [tY]
  split
  ·split <;> (simp only [RP.nodes,sN];omega)
  ·simp only [RP.nodes];omega
theorem yr (t:Int): ∀l:List RP,sN (xA t l)≤sN l
 |[]=>Nat.le_refl _
 |r::rs=>by
  have h1:=xz t r
  have h2:=yr t rs
  simp only [xA,sN];omega
end
mutual
theorem Cc (t:Int): ∀r:RO,tE (tf t r)=(tE r).map (tf t)
 |.mk k p f n a=>by
  have h:=yt t a
  rw [tf,tE,tE,h,List.map_cons,tf]
theorem yt (t:Int): ∀l:List RO,tl (vb t l)=(tl l).map (tf t)
 |[]=>rfl
 |r::rs=>by rw [vb,tl,tl,Cc t r,yt t rs,List.map_append]
end
mutual
theorem zu (t:Int): ∀r:RO,(tf t r).wt≤r.wt
 |.mk k p f n a=>by
  have h:=Aq t a
  have hp:=xz t p
  rw [tf]
  simp only [RO.wt]
  omega
theorem Aq (t:Int): ∀l:List RO,ti (vb t l)≤ti l
 |[]=>Nat.le_refl _
 |r::rs=>by
  have h1:=zu t r
  have h2:=Aq t rs
  simp only [vb,ti];omega
end
end Go.TY
end
section
namespace Go.TY
open Go Go.DL Go.MM Go.Proofs
theorem yM (r:RO):(w8 r).length≤r.wt:=by rw [← yL];exact wH r
theorem DX (r:RO):(tE r).length≤r.wt:=by rw [uf];exact r.vV
theorem xM {α β:Type} {f:α→List β} {l:List α} {i:Nat} (h:i<l.length):(l.take (i+1)).flatMap f=(l.take i).flatMap f++f l[i]:=by
 rw [List.take_succ_eq_append_getElem h,List.flatMap_append];simp
theorem v8 {α β:Type} {f:α→List β} {l:List α} {i:Nat}:((l.take i).flatMap f).length≤(l.flatMap f).length:=by
 have:l.flatMap f=(l.take i).flatMap f++(l.drop i).flatMap f:=by rw [← List.flatMap_append,List.take_append_drop]
 rw [this,List.length_append];omega
theorem F8 (r:RO) (hr:r.wt<2^40):DCalls Tryz.prog 89 [.agg (sA r)] (.slice 5 ((w8 r).map sM)):=by
 refine qO (rs:=[.tmp 2]) mixed Tryz.func89 l89 rfl rfl rfl (r:=[.slice 5 ((w8 r).map sM)]) (nlZ rfl) ?_
 have h1:=t64 _ r (Nat.le_refl _) hr
 have hpl:=yM r
 have hwt:=uG r
 have hpa:=DX r
 have hcl:=sE r
 unfold w8 at hpl ⊢
 generalize tE r=ps at *
 have hlen:((ps.map sP).length:Int)=(ps.length:Int):=by rw [List.length_map]
 repeat' ((conv=>whnf);first|refine rE _ (h1) ?_|refine aS ?_|fail)
 refine rq (α:=Nat) (fun i=>{sl:=[(3,.own 27 25 5 (((ps.take i).flatMap wG).map sM)),(4,.t (.slice 9 (ps.map sP))),(5,.t (I i))],bx:=[]})
  (fun i=>i≤ps.length) (fun i=>ps.length - i) 0 (by simp) ?_ ?_
 ·repeat' (first|exact trivial|exact LeV.same _|exact rfl|exact fun _ _ _=>trivial|exact LeV.nil _ _ _|refine And.intro ?_ ?_)
 rintro i hi
 rcases Nat.lt_or_ge i ps.length with h|h
 ·have hlt:(i:Int)<((ps.map sP).length:Int):=by omega
  have hx:(ps.map sP)[i]?.getD .nil= .agg (sA ps[i]):=by simp [h,sL]
  have ht:=xM (f:=wG) h
  have htl:=v8 (f:=wG) (l:=ps) (i:=i+1)
  have hw:=hwt ps[i] (List.getElem_mem h)
  generalize ps[i]=x at *
  obtain ⟨k,⟨pk,pf,pn,pm,pa⟩,f,n,a⟩:=x
  simp only [RO.wt] at hw
  by_cases hk:k=1
  ·have e:wG (.mk k (.mk pk pf pn pm pa) f n a)=uy (.mk pk pf pn pm pa):=by unfold wG;exact if_pos hk
   rw [e] at ht
   rw [ht,List.length_append] at htl
   have h2:=t91 _ (RP.mk pk pf pn pm pa) (Nat.le_refl _) (by omega)
   have e2:((ps.take (i+1)).flatMap wG).map sM=((ps.take i).flatMap wG).map sM++(uy (.mk pk pf pn pm pa)).map sM:=by rw [ht,List.map_append]
   repeat' ((conv=>whnf);first|refine qv hlt ?_|(refine nv_ (.agg (sA (.mk k (.mk pk pf pn pm pa) f n a))) (by first|exact hx|fail) ?_)|refine qx hk ?_|refine rE _ (h2) ?_|refine nT_ ?_|(refine And.intro (by first|((simp only [List.length_map];omega);done)|fail) ?_)|refine aS ?_|fail)
   refine ⟨i+1,h,by omega,?_⟩
   repeat' (first|(exact rX e2)|exact trivial|exact LeV.same _|exact rfl|exact fun _ _ _=>trivial|exact lI|refine And.intro ?_ ?_)
  ·have e:wG (.mk k (.mk pk pf pn pm pa) f n a)=[]:=by unfold wG;exact if_neg hk
   rw [e,List.append_nil] at ht
   repeat' ((conv=>whnf);first|refine qv hlt ?_|(refine nv_ (.agg (sA (.mk k (.mk pk pf pn pm pa) f n a))) (by first|exact hx|fail) ?_)|refine qw hk ?_|refine nT_ ?_|refine aS ?_|fail)
   refine ⟨i+1,h,by omega,?_⟩
   repeat' (first|(exact rX (by rw [ht]))|exact trivial|exact LeV.same _|exact rfl|exact fun _ _ _=>trivial|exact lI|refine And.intro ?_ ?_)
 ·have hlt: ¬(i:Int)<((ps.map sP).length:Int):=by omega
  have:i=ps.length:=by omega
  subst this
  rw [List.take_length]
  repeat' ((conv=>whnf);first|exact trivial|refine qu hlt ?_|refine aS ?_|fail)
end Go.TY
end
section
namespace Go.TY
open Go Go.DL Go.MM Go.Proofs
theorem Br {gs:List RG} {i:Nat} (h:i<gs.length):bounds (gs.take (i+1))=bounds (gs.take i)++wK gs[i].pol:=xM h
theorem zo (gs:List RG) (i:Nat):(bounds (gs.take i)).length≤(bounds gs).length:=v8
theorem AB (gs:List RG) (hl:gs.length<2^39) (hg: ∀g∈gs,g.pol.wt<2^39) (hb:(bounds gs).length<2^39):DCalls Tryz.prog 58 [.slice 15 (gs.map sF)] (.slice 1 ((uj gs).map I)):=by
 refine qO (rs:=[.tmp 2]) mixed Tryz.func58 l58 rfl rfl rfl (r:=[.slice 1 ((uj gs).map I)]) (nlZ rfl) ?_
 have hlen:((gs.map sF).length:Int)=(gs.length:Int):=by rw [List.length_map]
 skip
 refine rq (α:=Nat) (fun i=>{sl:=[(0,.t (.slice 15 (gs.map sF))),(3,.t (.slice 1 ((tu ltI (bounds (gs.take i))).map I))),(4,.t (I i))],bx:=[]})
  (fun i=>i≤gs.length) (fun i=>gs.length - i) 0 (by simp) ?_ ?_
 ·repeat' (first|(exact LeV.empty _)|exact trivial|exact LeV.same _|exact rfl|exact fun _ _ _=>trivial|refine And.intro ?_ ?_)
 rintro i hi
 rcases Nat.lt_or_ge i gs.length with h|h
 ·have hlt:(i:Int)<((gs.map sF).length:Int):=by omega
  have hx:(gs.map sF)[i]?.getD .nil= .agg (sD gs[i]):=by simp [h];rfl
  have hc1:=uY gs[i]
  have h1:=F8 gs[i].pol (by have:=hg gs[i] (List.getElem_mem h);omega)
  have ht:=Br h
  have htl:=zo gs (i+1)
  have hpl:=yM gs[i].pol
  have hwt:=hg gs[i] (List.getElem_mem h)
  rw [ht,List.length_append] at htl
  unfold wK at ht htl
  repeat' ((conv=>whnf);first|refine qv hlt ?_|(refine nv_ (.agg (sD gs[i])) (by first|exact hx|fail) ?_)|(refine nv_ (.agg (sA gs[i].pol)) (by first|exact congrArg T.agg hc1|fail) ?_)|refine rE _ (h1) ?_|(refine And.intro (by first|exact vh _|exact wE _|fail) ?_)|refine aS ?_|fail)
  generalize w8 gs[i].pol=ps at *
  generalize bounds (gs.take i)=pre at *
  have hlen2:((ps.map sM).length:Int)=(ps.length:Int):=by rw [List.length_map]
  refine qZ 2 (α:=Nat) (β:=Unit) (fun k=>{sl:=[(0,.t (.slice 15 (gs.map sF))),(3,.t (.slice 1 ((tu ltI (pre++(ps.take k).flatMap tG)).map I))),(4,.t (I i)),(5,.t (.slice 5 (ps.map sM))),(6,.t (I k))],bx:=[]})
   (fun k=>k≤ps.length) (fun k=>ps.length - k) (fun _=>{sl:=[(0,.t (.slice 15 (gs.map sF))),(3,.t (.slice 1 ((tu ltI (pre++ps.flatMap tG)).map I))),(4,.t (I i))],bx:=[]}) (fun _=>True) 0 (by simp) ?_ ?_ ?_
  ·repeat' (first|(exact leT (by rw [List.take_zero,List.flatMap_nil,List.append_nil]))|exact trivial|exact LeV.same _|exact rfl|exact fun _ _ _=>trivial|refine And.intro ?_ ?_)
  ·rintro k hk
   rcases Nat.lt_or_ge k ps.length with h2|h2
   ·have hlt2:(k:Int)<((ps.map sM).length:Int):=by omega
    have hy:(ps.map sM)[k]?.getD .nil= .agg (sB ps[k]):=by simp [h2,sG]
    have e:=xM (f:=tG) h2
    have el:=v8 (f:=tG) (l:=ps) (i:=k+1)
    have hp1:=xE (lt:=ltI) (l:=pre++(ps.take k).flatMap tG)
    rw [e,List.length_append] at el
    rw [List.length_append] at hp1
    have e3:tu ltI (pre++(ps.take (k+1)).flatMap tG)=(tG ps[k]).foldl (put ltI) (tu ltI (pre++(ps.take k).flatMap tG)):=by rw [e, ←List.append_assoc,zT]
    generalize ps[k]=x at *
    generalize tu ltI (pre++(ps.take k).flatMap tG)=out at *
    obtain ⟨xk,f,n,m,a⟩:=x
    by_cases c:xk=9
    ·have et:tG (.mk xk f n m a)=[n,m]:=if_pos c
     rw [et] at e3
     have e3:_=put ltI (put ltI out n) m:=e3
     have hq:=yi (lt:=ltI) (x:=n) (l:=out)
     have p1:=AG out n (by omega)
     have p2:=AG (put ltI out n) m (by omega)
     repeat' ((conv=>whnf);first|refine qv hlt2 ?_|(refine nv_ (.agg (sB (.mk xk f n m a))) (by first|exact hy|fail) ?_)|refine qx c ?_|refine rE _ (p1) ?_|refine rE _ (p2) ?_|refine nT_ ?_|refine aS ?_|fail)
     refine ⟨k+1,h2,by omega,?_⟩
     repeat' (first|(exact leT (by rw [e3]))|exact trivial|exact LeV.same _|exact rfl|exact fun _ _ _=>trivial|exact lI|refine And.intro ?_ ?_)
    ·have et:tG (.mk xk f n m a)=[]:=if_neg c
     rw [et] at e3
     have e3:_=out:=e3
     repeat' ((conv=>whnf);first|refine qv hlt2 ?_|(refine nv_ (.agg (sB (.mk xk f n m a))) (by first|exact hy|fail) ?_)|refine qw c ?_|refine nT_ ?_|refine aS ?_|fail)
     refine ⟨k+1,h2,by omega,?_⟩
     repeat' (first|(exact leT (by rw [e3]))|exact trivial|exact LeV.same _|exact rfl|exact fun _ _ _=>trivial|exact lI|refine And.intro ?_ ?_)
   ·have hlt2: ¬(k:Int)<((ps.map sM).length:Int):=by omega
    have:k=ps.length:=by omega
    subst this
    rw [List.take_length]
    repeat' ((conv=>whnf);first|refine qu hlt2 ?_|(exact ⟨(),trivial,by (repeat' (first|exact trivial|exact LeV.same _|exact rfl|exact fun _ _ _=>trivial|refine And.intro ?_ ?_));done⟩)|refine aS ?_|fail)
  ·rintro _ _
   skip
   refine ⟨i+1,h,by omega,?_⟩
   repeat' (first|(exact leT (by rw [ht]))|exact trivial|exact LeV.same _|exact rfl|exact fun _ _ _=>trivial|exact lI|refine And.intro ?_ ?_)
 ·have hlt: ¬(i:Int)<((gs.map sF).length:Int):=by omega
  have:i=gs.length:=by omega
  subst this
  rw [List.take_length]
  unfold uj
  repeat' ((conv=>whnf);first|exact trivial|refine qu hlt ?_|refine aS ?_|fail)
theorem xV (tick:Int) (N:Nat): ∀r:RP,r.nodes≤N→N<2^40→DCalls Tryz.prog 53 [.agg (sB r),I tick] (.agg (sB (tY tick r))):=by
 induction N with
 |zero=>intro r h;have:=r.tV;omega
 |succ N ih=>
  rintro ⟨k,f,n,m,l⟩ hr hN
  simp only [RP.nodes,tY] at hr ⊢
  have go: ∀x,wpC Tryz.prog c53 (eU [.agg (sB (.mk k f n m l)),I tick]) (nW (dF Tryz.prog) [.cell 4 25] [x])→DCalls Tryz.prog 53 [.agg (sB (.mk k f n m l)),I tick] x:=fun x h=>
   qO (rs:=[.cell 4 25]) mixed Tryz.func53 l53 rfl rfl rfl (r:=[x]) (nlZ rfl) h
  by_cases hk:k=9
  ·rw [if_pos hk]
   by_cases hc:n≤tick∧tick<m
   ·rw [if_pos hc]
    refine Aa (go (.agg [I 1,nm0,I 0,I 0,.nil]) ?_) (.same _ (.same _ (.same _ (.same _ (.none _ .nil)))))
    repeat' ((conv=>whnf);first|exact trivial|refine qx hk ?_|refine qv hc.1 ?_|refine qv hc.2 ?_|refine nT_ ?_|refine aS ?_|fail)
   ·rw [if_neg hc]
    refine Aa (go (.agg [I 2,nm0,I 0,I 0,.nil]) ?_) (.same _ (.same _ (.same _ (.same _ (.none _ .nil)))))
    by_cases c1:n≤tick
    ·have c2: ¬tick<m:=fun h=>hc ⟨c1,h⟩
     repeat' ((conv=>whnf);first|exact trivial|refine qx hk ?_|refine qv c1 ?_|refine qu c2 ?_|refine nT_ ?_|refine aS ?_|fail)
    ·repeat' ((conv=>whnf);first|exact trivial|refine qx hk ?_|refine qu c1 ?_|refine nT_ ?_|refine aS ?_|fail)
  ·rw [if_neg hk]
   have hl:=tP l
   have hll:((l.map sM).length:Int)=l.length:=by rw [List.length_map]
   refine go _ ?_
   repeat' ((conv=>whnf);first|refine qw hk ?_|refine nT_ ?_|refine aS ?_|fail)
   refine qZ 0 (α:=Nat) (β:=Unit) (fun q=>{sl:=[(1,.t (I tick)),(2,.ptr 2 0),(4,.ptr 4 0),(5,.own 38 25 5 ((l.take q).map fun x=>.agg (sB (tY tick x)))),(6,.t (I q))],bx:=[(2,.d 5 (sB (.mk k f n m l))),(4,.d 5 [I 0,nm0,I 0,I 0,.nil])]})
    (fun q=>q≤l.length) (fun q=>l.length - q) (fun _=>{sl:=[(2,.ptr 2 0),(4,.ptr 4 0),(5,.t (.slice 5 (l.map fun x=>.agg (sB (tY tick x)))))],bx:=[(2,.d 5 (sB (.mk k f n m l))),(4,.d 5 [I 0,nm0,I 0,I 0,.nil])]}) (fun _=>True) 0 (by simp) ?_ ?_ ?_
   ·repeat' (first|exact trivial|exact LeV.same _|exact LeB.same _|exact rfl|exact fun _ _ _=>trivial|exact LeV.nil _ _ _|refine And.intro ?_ ?_)
   ·rintro i hi
    rcases Nat.lt_or_ge i l.length with h|h
    ·have hlt:(i:Int)<((l.map sM).length:Int):=by omega
     have hn:=tz h
     have hm:=tx (l:=l) (j:=i+1)
     have hc:=ih l[i] (by omega) (by omega)
     have hcl:=sJ (tY tick l[i])
     have hg:(l.map sM)[i]?.getD .nil= .agg (sB l[i]):=by simp [h,sG]
     have ht:l.take (i+1)=l.take i++[l[i]]:=by rw [List.take_succ_eq_append_getElem h]
     generalize l[i]=x at *
     obtain ⟨xk,xf,xn,xm,xl⟩:=x
     repeat' ((conv=>whnf);first|refine qv hlt ?_|(refine nv_ (.agg (sB (.mk xk xf xn xm xl))) (by first|exact hg|fail) ?_)|refine rE _ (hc) ?_|refine nT_ ?_|(refine And.intro (by first|exact hcl|exact ⟨trivial,hcl⟩|((simp only [List.length_map,List.length_take];omega);done)|fail) ?_)|refine aS ?_|fail)
     refine ⟨i+1,h,by omega,?_⟩
     repeat' (first|(exact rX (by rw [ht];simp))|exact trivial|exact LeV.same _|exact LeB.same _|exact rfl|exact fun _ _ _=>trivial|exact lI|refine And.intro ?_ ?_)
    ·have hlt: ¬(i:Int)<((l.map sM).length:Int):=by omega
     have:i=l.length:=by omega
     subst this
     rw [List.take_length]
     repeat' ((conv=>whnf);first|refine qu hlt ?_|(exact ⟨(),trivial,by (repeat' (first|(exact LeV.data _ _ _ _)|exact trivial|exact LeV.same _|exact LeB.same _|exact rfl|exact fun _ _ _=>trivial|refine And.intro ?_ ?_));done⟩)|refine nT_ ?_|refine aS ?_|fail)
   ·rintro _ _
    have e:(l.map fun x=>T.agg (sB (tY tick x)))=(xA tick l).map sM:=by rw [yH,List.map_map];exact List.map_congr_left fun x _=>(sG _).symm
    rw [e]
    repeat' ((conv=>whnf);first|exact trivial|refine aS ?_|fail)
    all_goals exact ⟨congrArg some rfl,trivial⟩
theorem AF (tick:Int) (N:Nat): ∀r:RO,r.wt≤N→N<2^40→DCalls Tryz.prog 50 [.agg (sA r),I tick] (.agg (sA (tf tick r))):=by
 induction N with
 |zero=>intro r h;have:=r.vo;omega
 |succ N ih=>
  rintro ⟨k,⟨pk,pf,pn,pm,pa⟩,f,n,l⟩ hr hN
  simp only [RO.wt,tf] at hr ⊢
  have h62:=xV tick _ (.mk pk pf pn pm pa) (Nat.le_refl _) (by omega)
  obtain ⟨c0,c1,c2,c3,c4,he⟩:=Ab (sJ (tY tick (.mk pk pf pn pm pa)))
  rw [he] at h62
  simp only [sA]
  rw [he]
  have hl:=ux l
  have hll:((l.map sP).length:Int)=l.length:=by rw [List.length_map]
  refine qO (rs:=[.cell 4 28]) mixed Tryz.func50 l50 rfl rfl rfl (r:=[.agg (I k::([c0,c1,c2,c3,c4]++[.str f,I n,.slice 9 ((vb tick l).map sP)]))]) (nlZ rfl) ?_
  repeat' ((conv=>whnf);first|refine rE _ (h62) ?_|refine nT_ ?_|refine aS ?_|fail)
  refine qZ 0 (α:=Nat) (β:=Unit) (fun q=>{sl:=[(1,.t (I tick)),(2,.ptr 2 0),(4,.ptr 4 0),(5,.own 28 28 9 ((l.take q).map fun x=>.agg (sA (tf tick x)))),(6,.t (I q))],bx:=[(2,.d 9 (I k::([c0,c1,c2,c3,c4]++[.str f,I n,.slice 9 (l.map sP)]))),(4,.d 9 [I 0,I 0,nm0,I 0,I 0,.nil,nm0,I 0,.nil])]})
   (fun q=>q≤l.length) (fun q=>l.length - q) (fun _=>{sl:=[(2,.ptr 2 0),(4,.ptr 4 0),(5,.t (.slice 9 (l.map fun x=>.agg (sA (tf tick x)))))],bx:=[(2,.d 9 (I k::([c0,c1,c2,c3,c4]++[.str f,I n,.slice 9 (l.map sP)]))),(4,.d 9 [I 0,I 0,nm0,I 0,I 0,.nil,nm0,I 0,.nil])]}) (fun _=>True) 0 (by simp) ?_ ?_ ?_
  ·repeat' (first|exact trivial|exact LeV.same _|exact LeB.same _|exact rfl|exact fun _ _ _=>trivial|exact LeV.nil _ _ _|refine And.intro ?_ ?_)
  ·rintro i hi
   rcases Nat.lt_or_ge i l.length with h|h
   ·have hlt:(i:Int)<((l.map sP).length:Int):=by omega
    have hn:=tW h
    have hm:=tR (l:=l) (j:=i+1)
    have hc:=ih l[i] (by omega) (by omega)
    have hcl:=sE (tf tick l[i])
    have hg:(l.map sP)[i]?.getD .nil= .agg (sA l[i]):=by simp [h,sL]
    have ht:l.take (i+1)=l.take i++[l[i]]:=by rw [List.take_succ_eq_append_getElem h]
    generalize l[i]=x at *
    obtain ⟨xk,⟨yk,yf,yn,ym,ya⟩,xf,xn,xl⟩:=x
    repeat' ((conv=>whnf);first|refine qv hlt ?_|(refine nv_ (.agg (sA (.mk xk (.mk yk yf yn ym ya) xf xn xl))) (by first|exact hg|fail) ?_)|refine rE _ (hc) ?_|refine nT_ ?_|(refine And.intro (by first|exact hcl|exact ⟨trivial,hcl⟩|((simp only [List.length_map,List.length_take];omega);done)|fail) ?_)|refine aS ?_|fail)
    refine ⟨i+1,h,by omega,?_⟩
    repeat' (first|(exact rX (by rw [ht];simp))|exact trivial|exact LeV.same _|exact LeB.same _|exact rfl|exact fun _ _ _=>trivial|exact lI|refine And.intro ?_ ?_)
   ·have hlt: ¬(i:Int)<((l.map sP).length:Int):=by omega
    have:i=l.length:=by omega
    subst this
    rw [List.take_length]
    repeat' ((conv=>whnf);first|refine qu hlt ?_|(exact ⟨(),trivial,by (repeat' (first|(exact LeV.data _ _ _ _)|exact trivial|exact LeV.same _|exact LeB.same _|exact rfl|exact fun _ _ _=>trivial|refine And.intro ?_ ?_));done⟩)|refine nT_ ?_|refine aS ?_|fail)
  ·rintro _ _
   have e:(l.map fun x=>T.agg (sA (tf tick x)))=(vb tick l).map sP:=by rw [yI,List.map_map];exact List.map_congr_left fun x _=>(sL _).symm
   rw [e]
   repeat' ((conv=>whnf);first|exact trivial|refine aS ?_|fail)
   all_goals exact ⟨congrArg some rfl,trivial⟩
theorem y0 (gs:List RG) (tick:Int) (hl:gs.length<2^30) (hg: ∀g∈gs,g.pol.wt<2^39):DCalls Tryz.prog 56 [.slice 15 (gs.map sF),I tick] (.slice 15 ((gs.map (wa tick)).map sF)):=by
 refine qO (rs:=[.tmp 4]) mixed Tryz.func56 l56 rfl rfl rfl (r:=[.slice 15 ((gs.map (wa tick)).map sF)]) (nlZ rfl) ?_
 have hlen:((gs.map sF).length:Int)=(gs.length:Int):=by rw [List.length_map]
 skip
 refine rq (α:=Nat) (fun i=>{sl:=[(0,.t (.slice 15 (gs.map sF))),(1,.t (I tick)),(5,.own 28 61 15 (((gs.take i).map (wa tick)).map sF)),(6,.t (I i))],bx:=[]})
  (fun i=>i≤gs.length) (fun i=>gs.length - i) 0 (by simp) ?_ ?_
 ·repeat' (first|exact trivial|exact LeV.same _|exact rfl|exact fun _ _ _=>trivial|exact LeV.nil _ _ _|refine And.intro ?_ ?_)
 rintro i hi
 rcases Nat.lt_or_ge i gs.length with h|h
 ·have hlt:(i:Int)<((gs.map sF).length:Int):=by omega
  have hx:(gs.map sF)[i]?.getD .nil= .agg (sD gs[i]):=by simp [h];rfl
  have hc1:=uY gs[i]
  have hc2:=xw gs[i]
  have h1:=AF tick _ gs[i].pol (Nat.le_refl _) (by have:=hg gs[i] (List.getElem_mem h);omega)
  have ht:((gs.take (i+1)).map (wa tick)).map sF=((gs.take i).map (wa tick)).map sF++[.agg (sA (tf tick gs[i].pol)++sK gs[i].st)]:=by rw [List.take_succ_eq_append_getElem h,List.map_append,List.map_append];rfl
  have hcl:=sE (tf tick gs[i].pol)
  generalize gs[i]=g at *
  generalize tf tick g.pol=q at *
  obtain ⟨qk,⟨yk,yf,yn,ym,ya⟩,qf,qn,ql⟩:=q
  repeat' ((conv=>whnf);first|refine qv hlt ?_|(refine nv_ (.agg (sD g)) (by first|exact hx|fail) ?_)|(refine nv_ (.agg (sA g.pol)) (by first|exact congrArg T.agg hc1|fail) ?_)|(refine nv_ (.agg (sK g.st)) (by first|exact congrArg T.agg hc2|fail) ?_)|refine rE _ (h1) ?_|(refine And.intro (by first|exact vh _|exact wE _|exact xD _|((simp only [List.length_map,List.length_take];omega);done)|fail) ?_)|refine aS ?_|fail)
  refine ⟨i+1,h,by omega,?_⟩
  repeat' (first|(exact rX ht)|exact trivial|exact LeV.same _|exact rfl|exact fun _ _ _=>trivial|exact lI|refine And.intro ?_ ?_)
 ·have hlt: ¬(i:Int)<((gs.map sF).length:Int):=by omega
  have:i=gs.length:=by omega
  subst this
  rw [List.take_length]
  repeat' ((conv=>whnf);first|exact trivial|refine qu hlt ?_|refine aS ?_|fail)
end Go.TY
end
section
namespace Go.TY
open Go Go.DL Go.MM
end Go.TY
end
section
namespace Go.TY
open Go Go.DL Go.MM
end Go.TY
end
section
namespace Go.TY
open Go Go.DL Go.MM Go.Proofs
end Go.TY
end
section
namespace Go.TY
open Go Go.DL Go.MM Go.Proofs
end Go.TY
end
section
namespace Go.TY
open Go Go.DL Go.MM Go.Proofs
end Go.TY
end
noncomputable section
namespace Go.TY
open Go Go.DL Go.Proofs
def c60:aY:=(.seq (.region [oo 0 (.mov (.const .nil))] []) (.seq (.region [⟨some 1,.build [S0,Z0,Z0] [(0,1,(.const (.str ⟨#[100,115,116]⟩))),(1,1,(Kc 16)),(2,1,(Kc 8))],none,[]⟩,⟨some 2,.build [S0,Z0,Z0] [(0,1,(.const (.str ⟨#[115,114,99]⟩))),(1,1,(Kc 24)),(2,1,(Kc 8))],none,[]⟩,⟨some 3,.build [S0,Z0,Z0] [(0,1,(.const (.str ⟨#[107,105,110,100]⟩))),(1,1,(Kc 33)),(2,1,(Kc 3))],none,[]⟩,⟨some 4,.buildS 88 3 3 [S0,Z0,Z0] [(0,(tm 1)),(1,(tm 2)),(2,(tm 3))],none,[]⟩,mv 0 4] []) .ret))
theorem l60:(Tryz.f60.body.bind (bD Tryz.prog 5 []))=some c60:=by kernel_rfl
def c62:aY:=(.seq (.region [⟨some 4,.alloc [Z0,S0,Z0,Z0,.nil],none,[]⟩] []) (.seq (.region [mv 5 0,mv 6 1,⟨some 7,.build [Z0,S0,Z0,Z0,.nil] [(0,1,(Kc 3)),(1,1,(tm 5)),(2,1,(tm 6))],none,[]⟩,o0 (.store 5 (tm 4) (tm 7))] []) .ret))
theorem l62:(Tryz.f62.body.bind (bD Tryz.prog 8 []))=some c62:=by kernel_rfl
def c63:aY:=(.seq (.region [⟨some 4,.alloc [Z0,Z0,S0,Z0,Z0,.nil,S0,Z0,.nil],none,[]⟩] []) (.seq (.region [mv 5 0,mv 6 1,⟨some 7,.build [Z0,Z0,S0,Z0,Z0,.nil,S0,Z0,.nil] [(0,1,(Kc 2)),(6,1,(tm 5)),(7,1,(tm 6))],none,[]⟩,o0 (.store 9 (tm 4) (tm 7))] []) .ret))
theorem l63:(Tryz.f63.body.bind (bD Tryz.prog 8 []))=some c63:=by kernel_rfl
def c61:aY:=(.seq (.region [oo 1 (.box 5 (tm 0)),⟨some 2,.alloc [Z0,Z0,S0,Z0,Z0,.nil,S0,Z0,.nil],none,[]⟩] []) (.seq (.region [lA 3 5 1,⟨some 4,.build [Z0,Z0,S0,Z0,Z0,.nil,S0,Z0,.nil] [(0,1,(Kc 1)),(1,5,(tm 3))],none,[]⟩,o0 (.store 9 (tm 2) (tm 4))] []) .ret))
theorem l61:(Tryz.f61.body.bind (bD Tryz.prog 5 []))=some c61:=by kernel_rfl
def c32:aY:=(.seq (.region [oo 2 (.box 9 (tm 0)),oo 3 (.box 9 (tm 1)),⟨some 4,.alloc [Z0,Z0,S0,Z0,Z0,.nil,S0,Z0,.nil],none,[]⟩] []) (.seq (.region [lA 5 9 2,lA 6 9 3,⟨some 7,.buildS 28 9 2 [Z0,Z0,S0,Z0,Z0,.nil,S0,Z0,.nil] [(0,(tm 5)),(1,(tm 6))],none,[]⟩,⟨some 8,.build [Z0,Z0,S0,Z0,Z0,.nil,S0,Z0,.nil] [(0,1,(Kc 4)),(8,1,(tm 7))],none,[]⟩,o0 (.store 9 (tm 4) (tm 8))] []) .ret))
theorem l32:(Tryz.f32.body.bind (bD Tryz.prog 9 []))=some c32:=by kernel_rfl
def c33:aY:=(.seq (.region [oo 2 (.box 9 (tm 0)),oo 3 (.box 9 (tm 1)),⟨some 4,.alloc [Z0,Z0,S0,Z0,Z0,.nil,S0,Z0,.nil],none,[]⟩] []) (.seq (.region [lA 5 9 2,lA 6 9 3,⟨some 7,.buildS 28 9 2 [Z0,Z0,S0,Z0,Z0,.nil,S0,Z0,.nil] [(0,(tm 5)),(1,(tm 6))],none,[]⟩,⟨some 8,.build [Z0,Z0,S0,Z0,Z0,.nil,S0,Z0,.nil] [(0,1,(Kc 3)),(8,1,(tm 7))],none,[]⟩,o0 (.store 9 (tm 4) (tm 8))] []) .ret))
theorem l33:(Tryz.f33.body.bind (bD Tryz.prog 9 []))=some c33:=by kernel_rfl
def c10:aY:=(.seq (.region [oo 0 (.mov kF)] []) (.seq (.region [oo 17 (.call 60 []),mv 1 17] []) (.seq (.region [⟨some 18,.build [Z0,S0,Z0,Z0,.nil] [(0,1,(Kc 1))],none,[]⟩,oo 19 (.call 61 [tm 18]),⟨some 2,.alloc [Z0,Z0,S0,Z0,Z0,.nil,S0,Z0,.nil],none,[]⟩,o0 (.store 9 (tm 2) (tm 19))] []) (.seq (.cut (.region [mv 20 1,⟨some 21,.call 62 [(.const (.str ⟨#[100,115,116]⟩)),(Kc 300)],none,[]⟩,oo 22 (.call 15 [(tm 20),(tm 21)]),oo 23 (.bin .eql (tm 22) (Kc 1)),mv 24 23,mT 25 1 24,⟨some 26,.call 62 [(.const (.str ⟨#[116,111,112]⟩)),(Kc 1)],some (24,true),[]⟩,oT 27 24 (.call 15 [(tm 25),(tm 26)]),oT 28 24 (.bin .eql (tm 27) (Kc 4)),oo 29 (.pick (tm 24) (tm 28) kF),mv 30 29,mT 31 1 30,⟨some 32,.build [Z0,S0,Z0,Z0,.nil] [(0,1,(Kc 4)),(1,1,(.const (.str ⟨#[107,105,110,100]⟩))),(2,1,(Kc 1)),(3,1,(Kc 4))],some (30,true),[]⟩,oT 33 30 (.call 15 [(tm 31),(tm 32)]),oT 34 30 (.bin .eql (tm 33) (Kc 1)),oo 35 (.pick (tm 30) (tm 34) kF),mv 3 35] [])) (.seq (.cut (.region [mv 36 1,⟨some 37,.call 62 [(.const (.str ⟨#[100,115,116]⟩)),(Kc 5)],none,[]⟩,oo 38 (.call 61 [tm 37]),⟨some 39,.call 63 [(.const (.str ⟨#[107,105,110,100]⟩)),(Kc 7)],none,[]⟩,oo 40 (.call 32 [(tm 38),(tm 39)]),oo 41 (.call 17 [(tm 36),(tm 40)]),oo 42 (.bin .eql (tm 41) (Kc 0)),mv 43 42,mT 44 1 43,⟨some 45,.call 63 [(.const (.str ⟨#[107,105,110,100]⟩)),(Kc 8)],some (43,true),[]⟩,oT 46 43 (.call 17 [(tm 44),(tm 45)]),oT 47 43 (.bin .eql (tm 46) (Kc 1)),oo 48 (.pick (tm 43) (tm 47) kF),mv 4 48] [])) (.seq (.cut (.region [mv 49 1,⟨some 50,.buildS 9 1 2 [S0] [(0,(.const (.str ⟨#[115,114,99]⟩))),(1,(.const (.str ⟨#[115,114,99]⟩)))],none,[]⟩,⟨some 51,.build [Z0,S0,.nil,S0,Z0,Z0] [(0,1,(Kc 1)),(1,1,(.const (.str ⟨#[99]⟩))),(2,1,(tm 50))],none,[]⟩,oo 52 (.call 19 [(tm 49),(tm 51)]),oo 53 (.bin .eql (tm 52) (Kc 1)),mv 54 53,mT 55 1 54,⟨some 56,.buildS 9 1 1 [S0] [(0,(.const (.str ⟨#[115,114,99]⟩)))],some (54,true),[]⟩,⟨some 57,.build [Z0,S0,.nil,S0,Z0,Z0] [(0,1,(Kc 4)),(1,1,(.const (.str ⟨#[116]⟩))),(2,1,(tm 56)),(3,1,(.const (.str ⟨#[107,105,110,100]⟩))),(4,1,(Kc 1)),(5,1,(Kc 9))],some (54,true),[]⟩,oT 58 54 (.call 19 [(tm 55),(tm 57)]),oT 59 54 (.bin .eql (tm 58) (Kc 1)),oo 60 (.pick (tm 54) (tm 59) kF),mv 5 60] [])) (.seq (.cut (.region [lA 61 9 2,⟨some 62,.buildS 9 1 1 [S0] [(0,(.const (.str ⟨#[115,114,99]⟩)))],none,[]⟩,⟨some 63,.build [Z0,S0,.nil,S0,Z0,Z0] [(0,1,(Kc 2)),(1,1,(.const (.str ⟨#[99]⟩))),(2,1,(tm 62))],none,[]⟩,⟨some 64,.build [Z0,Z0,S0,Z0,Z0,.nil,S0,Z0,.nil,Z0,S0,.nil,S0,Z0,Z0] [(0,9,(tm 61)),(9,6,(tm 63))],none,[]⟩,⟨some 6,.alloc [Z0,Z0,S0,Z0,Z0,.nil,S0,Z0,.nil,Z0,S0,.nil,S0,Z0,Z0],none,[]⟩,o0 (.store 15 (tm 6) (tm 64))] [])) (.seq (.cut (.region [lA 65 9 2,⟨some 66,.buildS 9 1 1 [S0] [(0,(.const (.str ⟨#[100,115,116]⟩)))],none,[]⟩,⟨some 67,.build [Z0,S0,.nil,S0,Z0,Z0] [(0,1,(Kc 3)),(1,1,(.const (.str ⟨#[99]⟩))),(2,1,(tm 66)),(4,1,(Kc 5))],none,[]⟩,⟨some 68,.build [Z0,Z0,S0,Z0,Z0,.nil,S0,Z0,.nil,Z0,S0,.nil,S0,Z0,Z0] [(0,9,(tm 65)),(9,6,(tm 67))],none,[]⟩,⟨some 7,.alloc [Z0,Z0,S0,Z0,Z0,.nil,S0,Z0,.nil,Z0,S0,.nil,S0,Z0,Z0],none,[]⟩,o0 (.store 15 (tm 7) (tm 68))] [])) (.seq (.cut (.region [lA 69 9 2,⟨some 70,.buildS 9 1 1 [S0] [(0,(.const (.str ⟨#[107,105,110,100]⟩)))],none,[]⟩,⟨some 71,.build [Z0,S0,.nil,S0,Z0,Z0] [(0,1,(Kc 3)),(1,1,(.const (.str ⟨#[99]⟩))),(2,1,(tm 70)),(4,1,(Kc 5))],none,[]⟩,⟨some 72,.build [Z0,Z0,S0,Z0,Z0,.nil,S0,Z0,.nil,Z0,S0,.nil,S0,Z0,Z0] [(0,9,(tm 69)),(9,6,(tm 71))],none,[]⟩,⟨some 8,.alloc [Z0,Z0,S0,Z0,Z0,.nil,S0,Z0,.nil,Z0,S0,.nil,S0,Z0,Z0],none,[]⟩,o0 (.store 15 (tm 8) (tm 72))] [])) (.seq (.cut (.region [lA 73 9 2,⟨some 74,.buildS 9 1 1 [S0] [(0,(.const (.str ⟨#[115,114,99]⟩)))],none,[]⟩,⟨some 75,.build [Z0,S0,.nil,S0,Z0,Z0] [(0,1,(Kc 1)),(1,1,(.const (.str ⟨#[99]⟩))),(2,1,(tm 74))],none,[]⟩,⟨some 76,.build [Z0,Z0,S0,Z0,Z0,.nil,S0,Z0,.nil,Z0,S0,.nil,S0,Z0,Z0] [(0,9,(tm 73)),(9,6,(tm 75))],none,[]⟩,⟨some 9,.alloc [Z0,Z0,S0,Z0,Z0,.nil,S0,Z0,.nil,Z0,S0,.nil,S0,Z0,Z0],none,[]⟩,o0 (.store 15 (tm 9) (tm 76))] [])) (.seq (.cut (.region [lA 77 9 2,⟨some 78,.buildS 9 1 1 [S0] [(0,(.const (.str ⟨#[115,114,99]⟩)))],none,[]⟩,⟨some 79,.build [Z0,S0,.nil,S0,Z0,Z0] [(0,1,(Kc 6)),(1,1,(.const (.str ⟨#[99]⟩))),(2,1,(tm 78)),(4,1,(Kc 1)),(5,1,(Kc 1))],none,[]⟩,⟨some 80,.build [Z0,Z0,S0,Z0,Z0,.nil,S0,Z0,.nil,Z0,S0,.nil,S0,Z0,Z0] [(0,9,(tm 77)),(9,6,(tm 79))],none,[]⟩,⟨some 10,.alloc [Z0,Z0,S0,Z0,Z0,.nil,S0,Z0,.nil,Z0,S0,.nil,S0,Z0,Z0],none,[]⟩,o0 (.store 15 (tm 10) (tm 80))] [])) (.seq (.cut (.region [mv 81 1,lA 82 15 6,lA 83 15 7,⟨some 84,.buildS 61 15 2 [Z0,Z0,S0,Z0,Z0,.nil,S0,Z0,.nil,Z0,S0,.nil,S0,Z0,Z0] [(0,(tm 82)),(1,(tm 83))],none,[]⟩,oo 85 (.call 38 [(tm 81),(tm 84)]),oo 86 (.bin .eql (tm 85) (Kc 0)),mv 87 86,mT 88 1 87,oT 89 87 (.load 15 true (tm 6)),oT 90 87 (.load 15 true (tm 8)),⟨some 91,.buildS 61 15 2 [Z0,Z0,S0,Z0,Z0,.nil,S0,Z0,.nil,Z0,S0,.nil,S0,Z0,Z0] [(0,(tm 89)),(1,(tm 90))],some (87,true),[]⟩,oT 92 87 (.call 38 [(tm 88),(tm 91)]),oT 93 87 (.bin .eql (tm 92) (Kc 11)),oo 94 (.pick (tm 87) (tm 93) kF),mv 95 94,mT 96 1 95,oT 97 95 (.load 15 true (tm 9)),oT 98 95 (.load 15 true (tm 10)),⟨some 99,.buildS 61 15 2 [Z0,Z0,S0,Z0,Z0,.nil,S0,Z0,.nil,Z0,S0,.nil,S0,Z0,Z0] [(0,(tm 97)),(1,(tm 98))],some (95,true),[]⟩,oT 100 95 (.call 38 [(tm 96),(tm 99)]),oT 101 95 (.bin .eql (tm 100) (Kc 11)),oo 102 (.pick (tm 95) (tm 101) kF),mv 11 102] [])) (.seq (.cut (.region [mv 103 1,lA 104 15 6,lA 105 15 7,⟨some 106,.buildS 61 15 2 [Z0,Z0,S0,Z0,Z0,.nil,S0,Z0,.nil,Z0,S0,.nil,S0,Z0,Z0] [(0,(tm 104)),(1,(tm 105))],none,[]⟩,oo 107 (.call 39 [(tm 103),(tm 106)]),mv 12 107] [])) (.seq (.cut (.region [⟨some 108,.build [Z0,S0,Z0,Z0,.nil] [(0,1,(Kc 9)),(2,1,(Kc 3)),(3,1,(Kc 7))],none,[]⟩,oo 109 (.call 61 [tm 108]),⟨some 13,.alloc [Z0,Z0,S0,Z0,Z0,.nil,S0,Z0,.nil],none,[]⟩,o0 (.store 9 (tm 13) (tm 109))] [])) (.seq (.cut (.region [lA 110 9 13,oo 111 (.call 49 [(tm 110),(Kc 3)]),lA 112 9 2,oo 113 (.call 48 [(tm 111),(tm 112)]),mv 114 113,oT 115 114 (.load 9 true (tm 13)),oT 116 114 (.call 49 [(tm 115),(Kc 7)]),⟨some 117,.build [Z0,S0,Z0,Z0,.nil] [(0,1,(Kc 2))],some (114,true),[]⟩,oT 118 114 (.call 61 [tm 117]),oT 119 114 (.call 48 [(tm 116),(tm 118)]),oo 120 (.pick (tm 114) (tm 119) kF),mv 14 120] [])) (.seq (.cut (.region [⟨some 121,.call 62 [(.const (.str ⟨#[100,115,116]⟩)),(Kc 5)],none,[]⟩,oo 122 (.call 61 [tm 121]),⟨some 123,.call 63 [(.const (.str ⟨#[112,111,114,116]⟩)),(Kc 2)],none,[]⟩,oo 124 (.call 32 [(tm 122),(tm 123)]),⟨some 125,.call 63 [(.const (.str ⟨#[112,111,114,116]⟩)),(Kc 1)],none,[]⟩,⟨some 126,.call 63 [(.const (.str ⟨#[115,114,99]⟩)),(Kc 0)],none,[]⟩,⟨some 127,.buildS 28 9 1 [Z0,Z0,S0,Z0,Z0,.nil,S0,Z0,.nil] [(0,(tm 126))],none,[]⟩,⟨some 128,.build [Z0,Z0,S0,Z0,Z0,.nil,S0,Z0,.nil] [(0,1,(Kc 5)),(8,1,(tm 127))],none,[]⟩,oo 129 (.call 32 [(tm 125),(tm 128)]),oo 130 (.call 33 [(tm 124),(tm 129)]),⟨some 15,.alloc [Z0,Z0,S0,Z0,Z0,.nil,S0,Z0,.nil],none,[]⟩,o0 (.store 9 (tm 15) (tm 130))] [])) (.seq (.cut (.region [lA 131 9 15,oo 132 (.call 23 [tm 131]),⟨some 133,.buildS 9 1 1 [S0] [(0,(.const (.str ⟨#[100,115,116]⟩)))],none,[]⟩,oo 134 (.call 22 [(tm 132),(tm 133)]),mv 135 134,oT 136 135 (.load 9 true (tm 15)),oT 137 135 (.call 25 [tm 136]),⟨some 138,.buildS 9 1 2 [S0] [(0,(.const (.str ⟨#[112,111,114,116]⟩))),(1,(.const (.str ⟨#[115,114,99]⟩)))],some (135,true),[]⟩,oT 139 135 (.call 22 [(tm 137),(tm 138)]),oo 140 (.pick (tm 135) (tm 139) kF),mv 141 140,oT 142 141 (.load 9 true (tm 15)),oT 143 141 (.call 28 [tm 142]),oT 144 141 (.buildS 3 1 2 [Z0] [(0,(Kc 1)),(1,(Kc 2))]),oT 145 141 (.call 27 [(tm 143),(tm 144)]),oo 146 (.pick (tm 141) (tm 145) kF),mv 147 146,oT 148 147 (.load 9 true (tm 15)),oT 149 147 (.call 30 [tm 148]),oT 150 147 (.bin .eql (tm 149) (Kc 65536)),oo 151 (.pick (tm 147) (tm 150) kF),mv 16 151] [])) (.seq (.region [mv 152 3,mv 153 152,mT 154 4 153,oo 155 (.pick (tm 153) (tm 154) kF),mv 156 155,mT 157 5 156,oo 158 (.pick (tm 156) (tm 157) kF),mv 159 158,mT 160 11 159,oo 161 (.pick (tm 159) (tm 160) kF),mv 162 161,mT 163 14 162,oo 164 (.pick (tm 162) (tm 163) kF),mv 165 164,mT 166 16 165,oo 167 (.pick (tm 165) (tm 166) kF),mv 168 167,mT 169 12 168,oT 170 168 (.buildS 3 1 1 [Z0] [(0,(Kc 8))]),⟨some 171,.build [S0,Z0,.nil,Z0,Z0] [(0,1,(.const (.str ⟨#[99]⟩))),(1,1,(Kc 2)),(2,1,(tm 170))],some (168,true),[]⟩,⟨some 172,.buildS 66 5 1 [S0,Z0,.nil,Z0,Z0] [(0,(tm 171))],some (168,true),[]⟩,oT 173 168 (.call 45 [(tm 169),(tm 172)]),oo 174 (.pick (tm 168) (tm 173) kF),mv 175 174,oT 176 175 (.load 9 true (tm 13)),⟨some 177,.build [Z0,Z0,S0,Z0,Z0,.nil,S0,Z0,.nil,Z0,S0,.nil,S0,Z0,Z0] [(0,9,(tm 176))],some (175,true),[]⟩,⟨some 178,.buildS 61 15 1 [Z0,Z0,S0,Z0,Z0,.nil,S0,Z0,.nil,Z0,S0,.nil,S0,Z0,Z0] [(0,(tm 177))],some (175,true),[]⟩,oT 179 175 (.call 57 [tm 178]),oT 180 175 (.buildS 3 1 2 [Z0] [(0,(Kc 3)),(1,(Kc 7))]),oT 181 175 (.call 27 [(tm 179),(tm 180)]),oo 182 (.pick (tm 175) (tm 181) kF),mv 0 182] []) .ret))))))))))))))))))
theorem l10:(Tryz.f10.body.bind (bD Tryz.prog 183 [6000003,6000004,6000005,6000006,6000007,6000008,6000009,6000010,6000011,6000012,6000013,6000014,6000015,6000016]))=some c10:=by kernel_rfl
end Go.TY
end
noncomputable section
namespace Go.TY
open Go Go.DL Go.MM Go.Proofs
abbrev enb:ByteArray→T:=T.str
abbrev mpb (ks:List ByteArray) (vs:List T):T:=.mapd false [.str] (ks.map enb) vs
def tK (id:Nat) (c:Option Code):Array Oper:=match rg0 id c with
 |.region _ ops _=>ops
 |_=> #[]
abbrev fAb:Option Code:=Tryz.f156.body
abbrev fKb:Option Code:=Tryz.f133.body
theorem bAb:fAb=some (.seq (.region 0 (tK 0 fAb) false) (.seq (.seq (.region 1 (tK 1 fAb) false)
  (.block 0 (.rangeFunc (.tmp 6) #[7] (.region 2 (tK 2 fAb) false) (.block 1 (.region 3 (tK 3 fAb) false))))) (.seq (.region 4 (tK 4 fAb) false) .ret))):=by kernel_rfl
abbrev ID:List DI:=[⟨some 5,.mov (.tmp 7),none,[]⟩]
abbrev IG:List DI:=[⟨some 8,.load 1 false (.tmp 2),none,[]⟩,⟨some 9,.mov (.tmp 5),none,[]⟩,⟨some 10,.buildS 9 1 1 [.str ⟨#[]⟩] [(0,.tmp 9)],none,[1]⟩,
 ⟨some 11,.append 29 9 1 16 (.tmp 8) (.tmp 10),none,[0,2]⟩,⟨none,.store 1 (.tmp 2) (.tmp 11),none,[3,3,0,1,2,3]⟩]
theorem H5:bX Tryz.prog 13 [] (tK 0 fAb) (tK 0 fAb).toList=some [⟨some 2,.box 1 (.tmp 0),none,[]⟩,⟨some 4,.mov (.const .nil),none,[]⟩]:=by kernel_rfl
theorem H8:bX Tryz.prog 13 [] (tK 1 fAb) (tK 1 fAb).toList=some [⟨some 6,.mov (.tmp 1),none,[]⟩]:=by kernel_rfl
theorem Ib:bX Tryz.prog 13 [] (tK 2 fAb) (tK 2 fAb).toList=some ID:=by kernel_rfl
theorem Ig:bX Tryz.prog 13 [] (tK 3 fAb) (tK 3 fAb).toList=some IG:=by kernel_rfl
theorem Ij:bX Tryz.prog 13 [] (tK 4 fAb) (tK 4 fAb).toList=some [⟨some 12,.load 1 false (.tmp 2),none,[]⟩,⟨some 4,.mov (.tmp 12),none,[0,0]⟩]:=by kernel_rfl
abbrev yKb:Array Oper:=tK 3 fKb
theorem bKb:rg0 3 fKb= .region 3 yKb false:=by kernel_rfl
theorem Im:dW Tryz.prog 14 yKb [0,1]=some [⟨some 10,.mov (.tmp 0),none,[]⟩,⟨some 11,.mov (.tmp 3),none,[]⟩]:=by kernel_rfl
theorem Iq:dW Tryz.prog 14 yKb [3]=some [⟨some 13,.not (.tmp 12),none,[2]⟩]:=by kernel_rfl
theorem Iu: ∃o ats,yKb[2]? =some o∧o.guard=none∧o.op= .call {callee:=.value (.tmp 10),args:= #[.tmp 11],argTypes:=ats }∧o.dst=some 12:=by
 refine ⟨((tK 3 fKb)[2]?).getD default,(match (((tK 3 fKb)[2]?).getD default).op with|.call c=>c.argTypes|_=> #[]),by kernel_rfl,by kernel_rfl,by kernel_rfl,by kernel_rfl⟩
abbrev GC (l d:Nat) (f:FuncId) (tmps:Array Value):aa→World→Prop:=nr l (cW f tmps 7 (.region 2 (tK 2 fAb) false) (.block 1 (.region 3 (tK 3 fAb) false)) d)
abbrev WKb (l:Nat) (C:aa→World→Prop) (ks:List ByteArray) (vs:List T) (ix:List Nat):Wk:=
 {sl:=[(0,.raw (.func (.yield l) #[] #[])),(5,.ptr 2005 0)],bx:=[(2,.v [.own 3011 9 1 (zx enb e0 ks ix)]),(2005,.itd (esK enb ks vs) ix)],gh:=[(0,[(2,.ptr 2 0)])],off:=2000,cx:=C }
theorem Gs (l d:Nat) (f:FuncId) (tmps:Array Value) (ht:tmps.size=13) (ks:List ByteArray) (vs:List T) (hvs:vs.length=ks.length) (hl:ks.length<2^40) (st0:St)
  (h0:st0=({sl:=[(2,.ptr 2 0),(6,.fn 133 [.t (.cptr [mpb ks vs] 0)])],bx:=[(2,.v [.own 3011 9 1 []])]}:Wk).mk'):
  wpC Tryz.prog Gp (st0.iter l (cW f tmps 7 (.region 2 (tK 2 fAb) false) (.block 1 (.region 3 (tK 3 fAb) false)) d) [.t (.cptr [mpb ks vs] 0)] 2000)
   (qK st0 fun st=>st.sl 2= .ptr 2 0∧(∃ xs,um enb e0 ks xs∧st.bx 2=some (.v [.own 3011 9 1 xs]))∧ ∀S w,st.cx S w):=by
 subst h0
 have hes:(esK enb ks vs).length=ks.length:=by simp [hvs]
 repeat' ((conv=>whnf);first|refine nT_ ?_|refine aS ?_|fail)
 refine qZ 0 (α:=List Nat) (β:=List Nat) (fun ix=>WKb l (GC l d f tmps) ks vs ix) (fun ix=>ix.Nodup∧ ∀j∈ix,j<ks.length) (fun ix=>ks.length - ix.length)
  (fun ix=>WKb l (GC l d f tmps) ks vs ix) (fun ix=>ix.Perm (List.range ks.length)) [] ⟨List.nodup_nil,by simp⟩ ?_ ?_ ?_
 ·exact ⟨⟨.same _,.same _,trivial⟩,⟨.same _,.same _,trivial⟩,⟨⟨.same _,trivial⟩,trivial⟩,rfl,fun _ _ h=>h,rfl⟩
 ·rintro ix ⟨hnd,hix⟩
  refine And.intro (fun j hj=>by rw [hes];exact hix j hj) (And.intro ?_ ?_)
  ·intro j e he hj
   obtain ⟨he1,hjl⟩:=zt (d:=e0) he
   have hent:=yF _ ix j e he
   have hje:(ix++[j]).getLast?.getD 0<(esK enb ks vs).length:=by rw [List.getLast?_concat,hes];exact hjl
   obtain ⟨e1,e2⟩:=e
   dsimp only at he1 hent
   subst he1
   have hixl:ix.length≤ks.length:=by
    have:=hnd.length_le_of_subset (l₂:=List.range ks.length) (fun j hj=>List.mem_range.2 (hix j hj))
    simpa using this
   have hnd':(ix++[j]).Nodup:=by
    rw [List.nodup_append]
    exact ⟨hnd,by simp,fun a ha b hb=>by rw [List.mem_singleton.1 hb];exact fun e=>hj (e▸ha)⟩
   have hix': ∀i∈ix++[j],i<ks.length:=fun i hi=>by
    rcases List.mem_append.1 hi with h|h
    ·exact hix i h
    ·rw [List.mem_singleton.1 h];exact hjl
   have hixl':(ix++[j]).length≤ks.length:=by
    have:=hnd'.length_le_of_subset (l₂:=List.range ks.length) (fun j hj=>List.mem_range.2 (hix' j hj))
    simpa using this
   repeat' ((conv=>whnf);first|refine nv_ (.tup [enb (ks.getD j e0),e2]) hent ?_|(refine And.intro (by first|exact ⟨by simp,hje⟩|fail) ?_)|fail)
   obtain ⟨o,ats,o1,o2,o3,o4⟩:=Iu
   have hsem: ∀(st:St) (Q:aB→St→Prop),p0 Tryz.prog 14 (.region 3 yKb false) st Q→p0 Tryz.prog 14 (rg0 3 fKb) st Q:=fun st Q h=>by rw [bKb];exact h
   refine hsem _ _ ?_
   refine q0 (P:=Tryz.prog) (k1:=[0,1]) (k:=2) (k2:=[3]) (by kernel_rfl) Im rfl Iq rfl o1 o2 o3 o4 (by decide) (p:=7) ht (by decide) Ib rfl Ig rfl 3000 (l:=l) (fn:=f) (dd:=d) (id1:=2) (id2:=3) (bl:=1) ?_
   refine ⟨fun _ _ h=>h,rfl,?_⟩
   repeat' ((conv=>whnf);first|(refine And.intro (by first|exact fun _ _=>trivial|exact ⟨rfl,nlZ rfl⟩|((simp;omega);done)|exact .inl rfl|fail) ?_)|refine aS ?_|fail)
   refine ⟨ix++[j],⟨hnd',hix'⟩,by rw [List.length_append];simp at hixl' ⊢;omega,?_⟩
   refine ⟨⟨.same _,.same _,trivial⟩,⟨?_,.same _,trivial⟩,⟨⟨.same _,trivial⟩,trivial⟩,rfl,fun _ _ h=>h,rfl⟩
   refine .v _ _ ⟨rX ?_,trivial⟩
   simp [zx]
  ·intro hall
   skip
   refine ⟨ix,xG hnd hix (fun j hj=>hall j (by rw [hes];exact hj)),?_⟩
   exact ⟨⟨.same _,.same _,trivial⟩,⟨.same _,.same _,trivial⟩,⟨⟨.same _,trivial⟩,trivial⟩,rfl,fun _ _ h=>h,rfl⟩
 rintro ix hp
 repeat' ((conv=>whnf);first|refine aS ?_|fail)
 exact ⟨⟨_,⟨ix,hp,rfl⟩,rfl⟩,fun _ _=>trivial⟩
abbrev vf (ks:List ByteArray) (vs:List T):T:=.clos 133 [.cptr [mpb ks vs] 0]
theorem Aj (ks:List ByteArray) (vs:List T) (hvs:vs.length=ks.length) (hl:ks.length<2^40):fK Tryz.prog 156 [.nil,vf ks vs] 9 1 (um enb e0 ks):=by
 refine qm Tryz.func156 bAb rfl (nlZ rfl) ?_
 intro S w a0 hsr hdf
 let K0:St→Prop:=fun st=>aA Tryz.prog [⟨some 6,.mov (.tmp 1),none,[]⟩] st fun st=>
  bP {sl:=[(2,.ptr 2 0),(6,.t (vf ks vs))],bx:=[(2,.d 1 [.nil])]} st
 have hK0:aA Tryz.prog [⟨some 2,.box 1 (.tmp 0),none,[]⟩,⟨some 4,.mov (.const .nil),none,[]⟩] (eU [.nil,vf ks vs]) K0:=by
  repeat' ((conv=>whnf);first|refine aS ?_|fail)
  exact ⟨⟨.same _,.same _,trivial⟩,⟨.same _,trivial⟩,trivial,rfl,fun _ _ _=>trivial,rfl⟩
 refine wp_seq (nE (X:=[]) (N:=13) hsr H5 (fun a1 w1 h1=>?_) hK0)
 obtain ⟨E1,s1,rfl,k1,k2,k3⟩:=h1
 refine wp_seq (wp_seq (nE (X:=[]) k1 H8 (fun a2 w2 h2=>?_) k3))
 obtain ⟨E2,s2,rfl,k4,k5,k6⟩:=h2
 obtain ⟨E3,e3,k7⟩:=k4.bP k6
 rw [← e3]
 have k8:=k7.rG (k:=6) (k7.sl 6).rv
 obtain ⟨E4,e4,k10⟩:=SR.bP (a:=a2) (s:={sl:=[(2,.ptr 2 0),(6,.fn 133 [.t (.cptr [mpb ks vs] 0)])],bx:=[(2,.v [.own 3011 9 1 []])]}) k8 ⟨⟨.same _,.same _,trivial⟩,⟨.dv _ _ _ ⟨.nil _ _ _,trivial⟩,trivial⟩,trivial,rfl,fun _ _ _=>trivial,rfl⟩
 rw [← e4]
 refine wp_block ?_
 refine rh mixed k10 (fun _ _=>trivial) (y:=.tmp 6) rfl (gf:=133) (caps:=[.t (.cptr [mpb ks vs] 0)]) rfl Tryz.func133 LV rfl rfl rfl (nlZ rfl) 2000
  (K:=fun st=>st.sl 2= .ptr 2 0∧(∃ xs,um enb e0 ks xs∧st.bx 2=some (.v [.own 3011 9 1 xs]))∧ ∀S w,st.cx S w) (fun l d f tmps ht=>?_) (fun a5 w5 h5=>?_)
 ·exact Gs l d f tmps ht ks vs hvs hl _ rfl
 ·obtain ⟨S0',E5,s5,D,rfl,q1,q2,q3,q4,q5,q6,r1,⟨xs,hxs,r2⟩,r3⟩:=h5
  have q6':a5.defers=[{target:=.collected D,args:= #[]}]:=by rw [q6,k5,k2,hdf]
  show Code.wp _ _ _ _ _
  refine wp_seq (nE (X:=[]) q1 Ij (K:=fun st=>(∀ S w,st.cx S w)∧st.sl 4= .own 3011 9 1 xs) (fun a6 w6 h6=>?_) ?_)
  ·obtain ⟨E6,s6,rfl,p1,p2,p3,p4⟩:=h6
   obtain ⟨js,hjs,rfl⟩:=hxs
   refine wp_ret ⟨.inr rfl,S0',E6,s6,D,rfl,p1,q2,q3,q4,q5,by rw [p2,q6'],p3,_,_,⟨js,hjs,rfl⟩,u7 (fun _=>rfl) (fun _=>rfl) js ks,?_,.inl ⟨3011,rfl⟩⟩
   have:dP s6 Tryz.f156.results.toList=some [s6.sl 4]:=by
    rw [show Tryz.f156.results.toList=[.tmp 4] from rfl];rfl
   rw [this,p4]
  ·obtain ⟨sl5,bx5,gh5,off5,cx5⟩:=s5
   dsimp only at r1 r2 r3
   obtain ⟨g,rfl⟩: ∃g,sl5=upd g 2 (.ptr 2 0):=⟨sl5,(uB r1).symm⟩
   obtain ⟨b,rfl⟩: ∃b,bx5=upd b 2 (some (.v [.own 3011 9 1 xs])):=⟨bx5,(uB r2).symm⟩
   exact ⟨r3,rfl⟩
theorem B8 (ks:List ByteArray) (vs:List T) (hvs:vs.length=ks.length) (hl:ks.length<2^40):fK Tryz.prog 131 [vf ks vs] 9 1 (um enb e0 ks):=by
 refine qG (rs:=[.tmp 2]) mixed Tryz.func131 GH rfl rfl rfl (nlZ rfl) ?_
 repeat' ((conv=>whnf);first|refine ru (ts:=[.nil,vf ks vs]) rfl (Aj ks vs hvs hl) (fun xs hx=>?_)|fail)
 obtain ⟨js,hjs,rfl⟩:=hx
 exact ⟨_,_,⟨js,hjs,rfl⟩,u7 (fun _=>rfl) (fun _=>rfl) js ks,rfl,.inl ⟨_,rfl⟩⟩
theorem Eg:iz Tryz.prog 132 encStr (fun x y:List UInt8=>decide (x≤y)):=iz.str Tryz.BJ rfl (bQ Tryz.func132 rfl rfl)
theorem zL (ks:List ByteArray) (vs:List T) (hvs:vs.length=ks.length) (hl:ks.length<2^40) (hn:ks.Nodup):kI Tryz.prog 87 [vf ks vs] (.slice 1 ((vG ks).map enb)):=by
 refine qS (rs:=[.tmp 2]) mixed Tryz.func87 l87 rfl rfl rfl (nlZ rfl) ?_
 repeat' ((conv=>whnf);first|refine rf (ts:=[vf ks vs]) rfl (B8 ks vs hvs hl) rfl (fun h0=>?_) (fun xs hx hc=>?_)|fail)
 ·obtain ⟨zs,hp,h0⟩:=u9 h0
  have:zs=[]:=by
   cases zs with
   |nil=>rfl
   |cons z zs=>cases h0
  subst this
  have:ks=[]:=List.nil_perm.1 hp
  subst this
  repeat' ((conv=>whnf);first|refine qc Eg ?_|fail)
  exact ⟨.t .nil,rfl,.nil 1⟩
 ·obtain ⟨zs,hp,rfl⟩:=u9 hx
  have hzl:zs.length<2^40:=by rw [hp.length_eq];exact hl
  have hfl:=zY (enc:=enb) (fun _=>rfl) zs
  have hle:(zs.map enb).length=zs.length:=List.length_map _
  have hsl:(vG ks).length=zs.length:=by
   have e:=congrArg List.length (yj hn hp)
   simp only [List.length_map,List.length_mergeSort] at e
   omega
  repeat' ((conv=>whnf);first|(refine re (n:=5) (off:=0) (len:=(zs.map enb).length) (m:=(zs.map enb).length * 1) (ts:=(zs.map enb).flatMap T.cells) (encT:=wV) Eg rfl (zs.map ByteArray.toList) ?_ ?_ (by omega) (fun a S w v h=>by cases h;rfl) (fun a S w=>.str _) (fun _=>rfl) ?_)|fail)
  ·rw [hfl,List.drop_zero,List.take_of_length_le (by omega)]
   exact (by rw [List.map_map];exact List.map_congr_left fun z _=>(BG z).symm)
  ·simp
  ·skip
   have e:=yj hn hp
   refine ⟨.view 5 0 (zs.map enb).length 1,rfl,.view 5 0 (zs.map enb).length 1 ((zs.map enb).length * 1) (aN ((zs.map enb).flatMap T.cells) 0 (zs.map enb).length (((zs.map ByteArray.toList).mergeSort (fun x y:List UInt8=>decide (x≤y))).map wV)) _ [5] rfl ?_ ?_⟩
   ·rw [va (by rw [hfl]),e]
    intro t ht
    obtain ⟨z,_,rfl⟩:=List.mem_map.1 ht
    rfl
   ·show (cond (Nat.blt 0 1&&Nat.ble (0+(zs.map enb).length * 1) ((zs.map enb).length * 1)) (some (T.slice 1 (chunk 1 (zs.map enb).length ((aN ((zs.map enb).flatMap T.cells) 0 (zs.map enb).length (((zs.map ByteArray.toList).mergeSort (fun x y:List UInt8=>decide (x≤y))).map wV)).drop 0)),[5])) none)=_
    rw [va (by rw [hfl]),e,Nat.zero_add,List.drop_zero,x7 _ _ (by rw [List.length_map];omega)]
    have:Nat.ble ((zs.map enb).length * 1) ((zs.map enb).length * 1)=true:=Nat.ble_eq_true_of_le (Nat.le_refl _)
    rw [this]
    rfl
theorem BQ (ks:List ByteArray) (vs:List T):DCalls Tryz.prog 88 [mpb ks vs] (vf ks vs):=by
 refine qO (rs:=[.tmp 2]) mixed Tryz.func88 l88 rfl rfl rfl (r:=[vf ks vs]) (nlZ rfl) ?_
 repeat' ((conv=>whnf);first|exact trivial|refine aS ?_|fail)
end Go.TY
end
section
namespace Go.TY
open Go Go.DL Go.MM Go.Proofs
attribute [local irreducible] aI gR WCM YC
def gr:RP→List ByteArray:=fun x=>if sC x.field e0 then [] else [x.field]
def vO (r:RO) (k:Nat):List (Nat×BX):=[(3,.v [.mp 5]),(5,.m false [.str] (esS (once [] (s4 gr (td r) k))) none)]
theorem HM (r:RO):ph (fun n=>10≤n∧n<100) 100 (fun _ _=>True) (vO r) (fun _ cx _=>cx=(fun _ _=>True)∧False) where
 fh:=fun n h=>h.2
 nm:=fun k p hp=>by
  simp only [vO,List.mem_cons,List.not_mem_nil,or_false] at hp
  rcases hp with rfl|rfl <;> exact ⟨by dsimp only;omega,by dsimp only;omega⟩
 nms:=fun c cx o ho=>ho.2.elim
 cov:=fun k k' p hp=>by
  simp only [vO,List.mem_cons,List.not_mem_nil,or_false] at hp ⊢
  rcases hp with rfl|rfl
  ·exact ⟨_,Or.inl rfl,rfl⟩
  ·exact ⟨_,Or.inr rfl,rfl⟩
 covs:=fun c cx o ho=>ho.2.elim
 safe:=fun k p hp=>by
  simp only [vO,List.mem_cons,List.not_mem_nil,or_false] at hp
  rcases hp with rfl|rfl
  ·intro c hc
   rw [List.mem_singleton.1 hc]
   exact .mp 5 ⟨(5,_),List.mem_cons_of_mem _ (List.mem_singleton.2 rfl),rfl⟩
  ·exact trivial
 safes:=fun c cx o ho=>ho.2.elim
 cxd:=fun c cx o ho=>ho.2.elim
 cxo_:=rT
 nd:=fun k=>by show ([3,5]:List Nat).Nodup;decide
theorem Gl (r:RO) (hr:r.wt<2^39):DCalls Tryz.prog 23 [.agg (sA r)] (.slice 1 ((reads r).map T.str)):=by
 rw [← uE]
 refine qP Tryz.func23 Lm rfl (r:=[.slice 1 ((reads r).map T.str)]) (nlZ rfl) ?_
 have hlen:(sH r).length≤r.wt:=by rw [s9,uf];exact r.vV
 have hwt: ∀o∈sH r,o.wt≤r.wt:=by rw [s9];exact uG r
 have hpl:(td r).length≤r.wt:=wH r
 rw [show Tryz.f23.ntmps=18 from rfl,show Tryz.f23.results.toList=[.tmp 2] from rfl,k23]
 have ht:=BU r
 rw [sQ] at ht
 refine aI.seq (IT ?_)
 repeat' ((conv=>whnf);first|(refine And.intro (by first|exact tA _|fail) ?_)|fail)
 refine aI.seq (IZ ?_)
 repeat' ((conv=>whnf);first|refine aS ?_|fail)
 refine aI.seq (aI.seq (I5 ?_))
 repeat' ((conv=>whnf);first|refine rE _ (ht) ?_|fail)
 refine aI.bP (s:={sl:=[(3,.ptr 3 0),(7,.t (.clos 130 [.cptr (sW r) 0]))],bx:=[(3,.v [.mp 5]),(5,.m false [.str] [] none)]}) (by repeat' (first|exact trivial|exact LeV.same _|exact LeB.same _|exact rfl|exact fun _ _ _=>trivial|refine And.intro ?_ ?_)) ?_
 refine aI.block (yx (N:=18) rfl r rfl 100 (fun n=>10≤n∧n<100) 100 (Nat.le_refl _) (by omega) (fun o ho=>by have h1:=hwt o ho;rw [uv,uL];obtain ⟨k,p,f,n,a⟩:=o;simp only [RO.wt] at h1;show p.nodes<_;omega) (fun n h=>rz fun p hp=>?_) (fun n h=>rz fun p hp=>?_) (by exact rU) (outs:=vO r) (stop:=fun _ cx _=>cx=(fun _ _=>True)∧False) ?_ (fun l0 D fn tmps hN=>?_) ?_ (fun c cx o h=>h.2.elim))
 ·simp only [List.mem_cons,List.not_mem_nil,or_false] at hp
  rcases hp with rfl|rfl <;> (dsimp only;omega)
 ·simp only [List.mem_cons,List.not_mem_nil,or_false] at hp
  rcases hp with rfl|rfl <;> (dsimp only;omega)
 ·intro q hq
  simp only [vO,List.mem_cons,List.not_mem_nil,or_false] at hq
  rcases hq with rfl|rfl <;> rfl
 ·refine dR.top (d:=4) (n:=5) (lo:=10) (hi:=100) (stop:=fun _ _=>False) (HM r) (fun n h1 h2=>⟨h1,h2⟩) hN (by decide) (fun hw=>Jb hw) rfl (by decide) (by decide) (fun x hx=>?_) (fun k cs b G C hk hcs=>?_)
  ·obtain ⟨t,_,rfl⟩:=List.mem_map.1 hx
   exact ⟨_,sG t,sJ t⟩
  rw [List.getElem?_map,Option.map_eq_some_iff] at hk
  obtain ⟨t,htk,hte⟩:=hk
  rw [sG] at hte
  obtain rfl:sB t=cs:=T.agg.inj hte
  have hfs:=vK (g:=gr) htk
  have hos:vO r k=[(3,.v [.mp 5]),(5,.m false [.str] (esS (once [] (s4 gr (td r) k))) none)]:=rfl
  rw [hos]
  generalize hks:once [] (s4 gr (td r) k)=ks
  have endN: ∀s:St,s.gh=G→s.cx=C→(∀ q, ¬(10≤q∧q<100)→s.bx q=aK b [(3,.v [.mp 5]),(5,.m false [.str] (esS (once [] (s4 gr (td r) (k+1)))) none)] q)→RB b G C 10 100 (vO r (k+1)) (fun _ _=>False) .normal s:=fun s h1 h2 h3=>⟨h1,h2,_,h3,rfl⟩
  have same:gr t=[]→once [] (s4 gr (td r) (k+1))=ks:=fun h=>by rw [hfs,h,List.append_nil,hks]
  have more: ∀s,gr t=[s]→once [] (s4 gr (td r) (k+1))=if s∈ks then ks else ks++[s]:=fun s h=>by rw [hfs,h,uZ,hks]
  generalize once [] (s4 gr (td r) (k+1))=ks' at *
  clear hte hks hos hfs
  refine Jh ?_
  obtain ⟨kd,f,n,m,args⟩:=t
  have hE:=sO f e0
  have hN:(!(f.toList==e0.toList))= !(sC f e0):=by rw [hE]
  cases hb:sC f e0 with
  |true=>
   have hg:=same (by unfold gr;exact if_pos hb)
   subst hg
   rw [hb] at hN
   repeat' ((conv=>whnf);first|refine nb_ _ hN ?_|refine nT_ ?_|refine aS ?_|fail)
   (conv=>whnf)
   refine endN _ rfl rfl fun q hq=>?_
   have hm:=qX (b:=b) hq
   show cond (Nat.beq q 14) _ (cond (Nat.beq q 3) _ (cond (Nat.beq q 5) _ (gE 10 100 b q)))=cond (Nat.beq q 3) _ (cond (Nat.beq q 5) _ (b q))
   rw [eS (show q≠14 by omega),hm];rfl
  |false=>
   have hmr:=more f (by unfold gr;exact if_neg (show ¬(sC f e0=true) by rw [hb];simp))
   rw [hb] at hN
   repeat' ((conv=>whnf);first|refine nb_ _ hN ?_|refine nT_ ?_|(refine And.intro (by first|exact ⟨rfl,trivial⟩|fail) ?_)|refine aS ?_|fail)
   (conv=>whnf)
   refine endN _ rfl rfl fun q hq=>?_
   have hm:=qX (b:=b) hq
   by_cases h5:q=5
   ·subst h5
    show some (BX.m false [.str] (bK (T.str f) (T.bool true) _) none)=some (BX.m false [.str] _ none)
    rw [Aw,hmr]
   show cond (Nat.beq q 5) _ (cond (Nat.beq q 14) _ (cond (Nat.beq q 3) _ (cond (Nat.beq q 5) _ (gE 10 100 b q))))=cond (Nat.beq q 3) _ (cond (Nat.beq q 5) _ (b q))
   rw [eS h5,eS (show q≠14 by omega),hm];rfl
 ·have hes:vO r (td r).length=[(3,.v [.mp 5]),(5,.m false [.str] (esS (once [] ((td r).flatMap gr))) none)]:=by unfold vO;rw [wh]
  have hll:((td r).flatMap gr).length≤(td r).length:=wM fun x _=>by unfold gr;split <;> simp
  have hol:=vB (l:=(td r).flatMap gr) (acc:=[])
  have hnd:=uK (l:=(td r).flatMap gr) (acc:=[]) List.nodup_nil
  have hfin:vG (once [] ((td r).flatMap gr))=reads r:=by
   unfold vG reads
   refine wO Av fun x=>?_
   rw [vA]
   simp only [List.not_mem_nil,false_or]
   rw [show (td r).flatMap gr=Eb r by rw [yL];rfl]
  rw [hes]
  simp only [List.length_nil,Nat.zero_add] at hol
  generalize once [] ((td r).flatMap gr)=ks at *
  have hk1:=BQ ks (ks.map fun _=>T.bool true)
  have hk2:=(zL ks (ks.map fun _=>T.bool true) (by simp) (by omega) hnd).rD
  rw [hfin] at hk2
  refine aI.bP (s:={sl:=[(3,.ptr 3 0)],bx:=[(3,.v [.t (mpb ks (ks.map fun _=>T.bool true))])]}) ⟨⟨.same _,trivial⟩,⟨.v _ _ ⟨.conv _ _ [5] ?_ (by simp [Wk.keys]),trivial⟩,trivial⟩,trivial,rfl,fun _ _ _=>trivial,rfl⟩ ?_
  ·show some (T.mapd false [.str] ((esS ks).map (·.1)) ((esS ks).map (·.2)),[5])=_
   unfold esS
   rw [List.map_map,List.map_map];rfl
  refine Jm ?_
  repeat' ((conv=>whnf);first|refine rE _ (hk1) ?_|refine rE _ (hk2) ?_|fail)
  exact ⟨⟨rfl,trivial⟩,fun _ _=>trivial⟩
end Go.TY
end
section
namespace Go.TY
open Go Go.DL Go.MM Go.Proofs
attribute [local irreducible] aI gR WCM YC
def gw:RO→List ByteArray:=fun x=>if x.kind=2 then [x.field] else []
def vP (r:RO) (k:Nat):List (Nat×BX):=[(3,.v [.mp 5]),(5,.m false [.str] (esS (once [] (s4 gw (sH r) k))) none)]
theorem HN (r:RO):ph (fun n=>10≤n∧n<100) 100 (fun _ _=>True) (vP r) (fun _ cx _=>cx=(fun _ _=>True)∧False) where
 fh:=fun n h=>h.2
 nm:=fun k p hp=>by
  simp only [vP,List.mem_cons,List.not_mem_nil,or_false] at hp
  rcases hp with rfl|rfl <;> exact ⟨by dsimp only;omega,by dsimp only;omega⟩
 nms:=fun c cx o ho=>ho.2.elim
 cov:=fun k k' p hp=>by
  simp only [vP,List.mem_cons,List.not_mem_nil,or_false] at hp ⊢
  rcases hp with rfl|rfl
  ·exact ⟨_,Or.inl rfl,rfl⟩
  ·exact ⟨_,Or.inr rfl,rfl⟩
 covs:=fun c cx o ho=>ho.2.elim
 safe:=fun k p hp=>by
  simp only [vP,List.mem_cons,List.not_mem_nil,or_false] at hp
  rcases hp with rfl|rfl
  ·intro c hc
   rw [List.mem_singleton.1 hc]
   exact .mp 5 ⟨(5,_),List.mem_cons_of_mem _ (List.mem_singleton.2 rfl),rfl⟩
  ·exact trivial
 safes:=fun c cx o ho=>ho.2.elim
 cxd:=fun c cx o ho=>ho.2.elim
 cxo_:=rT
 nd:=fun k=>by show ([3,5]:List Nat).Nodup;decide
theorem EN (r:RO) (hr:r.wt<2^39):DCalls Tryz.prog 25 [.agg (sA r)] (.slice 1 ((writes r).map T.str)):=by
 rw [← uE]
 refine qP Tryz.func25 Ln rfl (r:=[.slice 1 ((writes r).map T.str)]) (nlZ rfl) ?_
 have hlen:(sH r).length≤r.wt:=by rw [s9,uf];exact r.vV
 have hwt: ∀o∈sH r,o.wt≤r.wt:=by rw [s9];exact uG r
 have hpl:(td r).length≤r.wt:=wH r
 rw [show Tryz.f25.ntmps=18 from rfl,show Tryz.f25.results.toList=[.tmp 2] from rfl,k25]
 have ht:=yo r
 rw [sQ] at ht
 refine aI.seq (IU ?_)
 repeat' ((conv=>whnf);first|(refine And.intro (by first|exact tA _|fail) ?_)|fail)
 refine aI.seq (I0 ?_)
 repeat' ((conv=>whnf);first|refine aS ?_|fail)
 refine aI.seq (aI.seq (I6 ?_))
 repeat' ((conv=>whnf);first|refine rE _ (ht) ?_|fail)
 refine aI.bP (s:={sl:=[(3,.ptr 3 0),(7,.t (.clos 116 [.cptr (sW r) 0]))],bx:=[(3,.v [.mp 5]),(5,.m false [.str] [] none)]}) (by repeat' (first|exact trivial|exact LeV.same _|exact LeB.same _|exact rfl|exact fun _ _ _=>trivial|refine And.intro ?_ ?_)) ?_
 refine aI.block (vQ (N:=18) rfl r rfl 100 (fun n=>10≤n∧n<100) 100 (Nat.le_refl _) (by omega) (fun n h=>rz fun p hp=>?_) (fun n h=>rz fun p hp=>?_) (by exact rU) (outs:=vP r) (stop:=fun _ cx _=>cx=(fun _ _=>True)∧False) ?_ (fun l0 D fn tmps hN=>?_) ?_ (fun c cx o h=>h.2.elim))
 ·simp only [List.mem_cons,List.not_mem_nil,or_false] at hp
  rcases hp with rfl|rfl <;> (dsimp only;omega)
 ·simp only [List.mem_cons,List.not_mem_nil,or_false] at hp
  rcases hp with rfl|rfl <;> (dsimp only;omega)
 ·intro q hq
  simp only [vP,List.mem_cons,List.not_mem_nil,or_false] at hq
  rcases hq with rfl|rfl <;> rfl
 ·refine dR.top (d:=4) (n:=9) (lo:=10) (hi:=100) (stop:=fun _ _=>False) (HN r) (fun n h1 h2=>⟨h1,h2⟩) hN (by decide) (fun hw=>Jc hw) rfl (by decide) (by decide) (fun x hx=>?_) (fun k cs b G C hk hcs=>?_)
  ·obtain ⟨t,_,rfl⟩:=List.mem_map.1 hx
   exact ⟨_,sQ t,tA t⟩
  rw [List.getElem?_map,Option.map_eq_some_iff] at hk
  obtain ⟨t,htk,hte⟩:=hk
  rw [sQ] at hte
  obtain rfl:sW t=cs:=T.agg.inj hte
  have hfs:=vK (g:=gw) htk
  have hos:vP r k=[(3,.v [.mp 5]),(5,.m false [.str] (esS (once [] (s4 gw (sH r) k))) none)]:=rfl
  rw [hos]
  generalize hks:once [] (s4 gw (sH r) k)=ks
  have endN: ∀s:St,s.gh=G→s.cx=C→(∀ q, ¬(10≤q∧q<100)→s.bx q=aK b [(3,.v [.mp 5]),(5,.m false [.str] (esS (once [] (s4 gw (sH r) (k+1)))) none)] q)→RB b G C 10 100 (vP r (k+1)) (fun _ _=>False) .normal s:=fun s h1 h2 h3=>⟨h1,h2,_,h3,rfl⟩
  have same:gw t=[]→once [] (s4 gw (sH r) (k+1))=ks:=fun h=>by rw [hfs,h,List.append_nil,hks]
  have more: ∀s,gw t=[s]→once [] (s4 gw (sH r) (k+1))=if s∈ks then ks else ks++[s]:=fun s h=>by rw [hfs,h,uZ,hks]
  generalize once [] (s4 gw (sH r) (k+1))=ks' at *
  clear hte hks hos hfs
  refine Ji ?_
  obtain ⟨kd,p,f,n,args⟩:=t
  by_cases k2:kd=2
  ·have hmr:=more f (by unfold gw;exact if_pos k2)
   repeat' ((conv=>whnf);first|refine qx k2 ?_|refine nT_ ?_|(refine And.intro (by first|exact ⟨rfl,trivial⟩|fail) ?_)|refine aS ?_|fail)
   (conv=>whnf)
   refine endN _ rfl rfl fun q hq=>?_
   have hm:=qX (b:=b) hq
   by_cases h5:q=5
   ·subst h5
    show some (BX.m false [.str] (bK (T.str f) (T.bool true) _) none)=some (BX.m false [.str] _ none)
    rw [Aw,hmr]
   show cond (Nat.beq q 5) _ (cond (Nat.beq q 14) _ (cond (Nat.beq q 3) _ (cond (Nat.beq q 5) _ (gE 10 100 b q))))=cond (Nat.beq q 3) _ (cond (Nat.beq q 5) _ (b q))
   rw [eS h5,eS (show q≠14 by omega),hm];rfl
  ·have hg:=same (by unfold gw;exact if_neg k2)
   subst hg
   repeat' ((conv=>whnf);first|refine qw k2 ?_|refine nT_ ?_|refine aS ?_|fail)
   (conv=>whnf)
   refine endN _ rfl rfl fun q hq=>?_
   have hm:=qX (b:=b) hq
   show cond (Nat.beq q 14) _ (cond (Nat.beq q 3) _ (cond (Nat.beq q 5) _ (gE 10 100 b q)))=cond (Nat.beq q 3) _ (cond (Nat.beq q 5) _ (b q))
   rw [eS (show q≠14 by omega),hm];rfl
 ·have hes:vP r (sH r).length=[(3,.v [.mp 5]),(5,.m false [.str] (esS (once [] ((sH r).flatMap gw))) none)]:=by unfold vP;rw [wh]
  have hll:((sH r).flatMap gw).length≤(sH r).length:=wM fun x _=>by unfold gw;split <;> simp
  have hol:=vB (l:=(sH r).flatMap gw) (acc:=[])
  have hnd:=uK (l:=(sH r).flatMap gw) (acc:=[]) List.nodup_nil
  have hfin:vG (once [] ((sH r).flatMap gw))=writes r:=by
   unfold vG writes
   refine wO Av fun x=>?_
   rw [vA]
   simp only [List.not_mem_nil,false_or]
   rw [show (sH r).flatMap gw=BZ r by rw [s9];rfl]
  rw [hes]
  simp only [List.length_nil,Nat.zero_add] at hol
  generalize once [] ((sH r).flatMap gw)=ks at *
  have hk1:=BQ ks (ks.map fun _=>T.bool true)
  have hk2:=(zL ks (ks.map fun _=>T.bool true) (by simp) (by omega) hnd).rD
  rw [hfin] at hk2
  refine aI.bP (s:={sl:=[(3,.ptr 3 0)],bx:=[(3,.v [.t (mpb ks (ks.map fun _=>T.bool true))])]}) ⟨⟨.same _,trivial⟩,⟨.v _ _ ⟨.conv _ _ [5] ?_ (by simp [Wk.keys]),trivial⟩,trivial⟩,trivial,rfl,fun _ _ _=>trivial,rfl⟩ ?_
  ·show some (T.mapd false [.str] ((esS ks).map (·.1)) ((esS ks).map (·.2)),[5])=_
   unfold esS
   rw [List.map_map,List.map_map];rfl
  refine Jn ?_
  repeat' ((conv=>whnf);first|refine rE _ (hk1) ?_|refine rE _ (hk2) ?_|fail)
  exact ⟨⟨rfl,trivial⟩,fun _ _=>trivial⟩
end Go.TY
end
section
namespace Go.TY
open Go Go.DL Go.MM Go.Proofs
attribute [local irreducible] aI gR WCM YC
def gp:RO→List Int:=fun x=>if x.kind=2∧sC x.field tw=true then [x.n] else []
def vN (r:RO) (k:Nat):List (Nat×BX):=[(3,.v [.mp 5]),(5,.m false [.int .i64] (esI (once [] (s4 gp (sH r) k))) none)]
theorem HL (r:RO):ph (fun n=>10≤n∧n<100) 100 (fun _ _=>True) (vN r) (fun _ cx _=>cx=(fun _ _=>True)∧False) where
 fh:=fun n h=>h.2
 nm:=fun k p hp=>by
  simp only [vN,List.mem_cons,List.not_mem_nil,or_false] at hp
  rcases hp with rfl|rfl <;> exact ⟨by dsimp only;omega,by dsimp only;omega⟩
 nms:=fun c cx o ho=>ho.2.elim
 cov:=fun k k' p hp=>by
  simp only [vN,List.mem_cons,List.not_mem_nil,or_false] at hp ⊢
  rcases hp with rfl|rfl
  ·exact ⟨_,Or.inl rfl,rfl⟩
  ·exact ⟨_,Or.inr rfl,rfl⟩
 covs:=fun c cx o ho=>ho.2.elim
 safe:=fun k p hp=>by
  simp only [vN,List.mem_cons,List.not_mem_nil,or_false] at hp
  rcases hp with rfl|rfl
  ·intro c hc
   rw [List.mem_singleton.1 hc]
   exact .mp 5 ⟨(5,_),List.mem_cons_of_mem _ (List.mem_singleton.2 rfl),rfl⟩
  ·exact trivial
 safes:=fun c cx o ho=>ho.2.elim
 cxd:=fun c cx o ho=>ho.2.elim
 cxo_:=rT
 nd:=fun k=>by show ([3,5]:List Nat).Nodup;decide
theorem Gk (r:RO) (hr:r.wt<2^39):DCalls Tryz.prog 28 [.agg (sA r)] (.slice 1 ((yW r).map I)):=by
 rw [← uE]
 refine qP Tryz.func28 Lo rfl (r:=[.slice 1 ((yW r).map I)]) (nlZ rfl) ?_
 have hlen:(sH r).length≤r.wt:=by rw [s9,uf];exact r.vV
 have hwt: ∀o∈sH r,o.wt≤r.wt:=by rw [s9];exact uG r
 have hpl:(td r).length≤r.wt:=wH r
 rw [show Tryz.f28.ntmps=23 from rfl,show Tryz.f28.results.toList=[.tmp 2] from rfl,k28]
 have ht:=yo r
 rw [sQ] at ht
 refine aI.seq (IV ?_)
 repeat' ((conv=>whnf);first|(refine And.intro (by first|exact tA _|fail) ?_)|fail)
 refine aI.seq (I1 ?_)
 repeat' ((conv=>whnf);first|refine aS ?_|fail)
 refine aI.seq (aI.seq (I7 ?_))
 repeat' ((conv=>whnf);first|refine rE _ (ht) ?_|fail)
 refine aI.bP (s:={sl:=[(3,.ptr 3 0),(7,.t (.clos 116 [.cptr (sW r) 0]))],bx:=[(3,.v [.mp 5]),(5,.m false [.int .i64] [] none)]}) (by repeat' (first|exact trivial|exact LeV.same _|exact LeB.same _|exact rfl|exact fun _ _ _=>trivial|refine And.intro ?_ ?_)) ?_
 refine aI.block (vQ (N:=23) rfl r rfl 100 (fun n=>10≤n∧n<100) 100 (Nat.le_refl _) (by omega) (fun n h=>rz fun p hp=>?_) (fun n h=>rz fun p hp=>?_) (by exact rU) (outs:=vN r) (stop:=fun _ cx _=>cx=(fun _ _=>True)∧False) ?_ (fun l0 D fn tmps hN=>?_) ?_ (fun c cx o h=>h.2.elim))
 ·simp only [List.mem_cons,List.not_mem_nil,or_false] at hp
  rcases hp with rfl|rfl <;> (dsimp only;omega)
 ·simp only [List.mem_cons,List.not_mem_nil,or_false] at hp
  rcases hp with rfl|rfl <;> (dsimp only;omega)
 ·intro q hq
  simp only [vN,List.mem_cons,List.not_mem_nil,or_false] at hq
  rcases hq with rfl|rfl <;> rfl
 ·refine dR.top (d:=4) (n:=9) (lo:=10) (hi:=100) (stop:=fun _ _=>False) (HL r) (fun n h1 h2=>⟨h1,h2⟩) hN (by decide) (fun hw=>Jd hw) rfl (by decide) (by decide) (fun x hx=>?_) (fun k cs b G C hk hcs=>?_)
  ·obtain ⟨t,_,rfl⟩:=List.mem_map.1 hx
   exact ⟨_,sQ t,tA t⟩
  rw [List.getElem?_map,Option.map_eq_some_iff] at hk
  obtain ⟨t,htk,hte⟩:=hk
  rw [sQ] at hte
  obtain rfl:sW t=cs:=T.agg.inj hte
  have hfs:=vK (g:=gp) htk
  have hos:vN r k=[(3,.v [.mp 5]),(5,.m false [.int .i64] (esI (once [] (s4 gp (sH r) k))) none)]:=rfl
  rw [hos]
  generalize hks:once [] (s4 gp (sH r) k)=ks
  have endN: ∀s:St,s.gh=G→s.cx=C→(∀ q, ¬(10≤q∧q<100)→s.bx q=aK b [(3,.v [.mp 5]),(5,.m false [.int .i64] (esI (once [] (s4 gp (sH r) (k+1)))) none)] q)→RB b G C 10 100 (vN r (k+1)) (fun _ _=>False) .normal s:=fun s h1 h2 h3=>⟨h1,h2,_,h3,rfl⟩
  have same:gp t=[]→once [] (s4 gp (sH r) (k+1))=ks:=fun h=>by rw [hfs,h,List.append_nil,hks]
  have more: ∀s,gp t=[s]→once [] (s4 gp (sH r) (k+1))=if s∈ks then ks else ks++[s]:=fun s h=>by rw [hfs,h,uZ,hks]
  generalize once [] (s4 gp (sH r) (k+1))=ks' at *
  clear hte hks hos hfs
  refine Jj ?_
  obtain ⟨kd,p,f,n,args⟩:=t
  have hE:=sO f tw
  by_cases k2:kd=2
  ·cases hb:sC f tw with
   |true=>
    have hmr:=more n (by unfold gp;exact if_pos ⟨k2,hb⟩)
    rw [hb] at hE
    repeat' ((conv=>whnf);first|refine qx k2 ?_|refine nb_ _ hE ?_|refine nT_ ?_|(refine And.intro (by first|exact ⟨rfl,rfl,trivial⟩|fail) ?_)|refine aS ?_|fail)
    (conv=>whnf)
    refine endN _ rfl rfl fun q hq=>?_
    have hm:=qX (b:=b) hq
    by_cases h5:q=5
    ·subst h5
     show some (BX.m false [.int .i64] (bK (T.int .i64 n) (T.bool true) _) none)=some (BX.m false [.int .i64] _ none)
     rw [yU,hmr]
    show cond (Nat.beq q 5) _ (cond (Nat.beq q 14) _ (cond (Nat.beq q 3) _ (cond (Nat.beq q 5) _ (gE 10 100 b q))))=cond (Nat.beq q 3) _ (cond (Nat.beq q 5) _ (b q))
    rw [eS h5,eS (show q≠14 by omega),hm];rfl
   |false=>
    have hg:=same (by unfold gp;exact if_neg (fun h=>by rw [show sC f tw=true from h.2] at hb;cases hb))
    subst hg
    rw [hb] at hE
    repeat' ((conv=>whnf);first|refine qx k2 ?_|refine nb_ _ hE ?_|refine nT_ ?_|refine aS ?_|fail)
    (conv=>whnf)
    refine endN _ rfl rfl fun q hq=>?_
    have hm:=qX (b:=b) hq
    show cond (Nat.beq q 14) _ (cond (Nat.beq q 3) _ (cond (Nat.beq q 5) _ (gE 10 100 b q)))=cond (Nat.beq q 3) _ (cond (Nat.beq q 5) _ (b q))
    rw [eS (show q≠14 by omega),hm];rfl
  ·have hg:=same (by unfold gp;exact if_neg (fun h=>k2 h.1))
   subst hg
   repeat' ((conv=>whnf);first|refine qw k2 ?_|refine nT_ ?_|refine aS ?_|fail)
   (conv=>whnf)
   refine endN _ rfl rfl fun q hq=>?_
   have hm:=qX (b:=b) hq
   show cond (Nat.beq q 14) _ (cond (Nat.beq q 3) _ (cond (Nat.beq q 5) _ (gE 10 100 b q)))=cond (Nat.beq q 3) _ (cond (Nat.beq q 5) _ (b q))
   rw [eS (show q≠14 by omega),hm];rfl
 ·have hes:vN r (sH r).length=[(3,.v [.mp 5]),(5,.m false [.int .i64] (esI (once [] ((sH r).flatMap gp))) none)]:=by unfold vN;rw [wh]
  have hll:((sH r).flatMap gp).length≤(sH r).length:=wM fun x _=>by unfold gp;split <;> simp
  have hol:=vB (l:=(sH r).flatMap gp) (acc:=[])
  have hnd:=uK (l:=(sH r).flatMap gp) (acc:=[]) List.nodup_nil
  have hfin:yN (once [] ((sH r).flatMap gp))=yW r:=by
   unfold yN yW
   refine wO Ch fun x=>?_
   rw [vA]
   simp only [List.not_mem_nil,false_or]
   rw [show (sH r).flatMap gp=DY r by rw [s9];rfl]
  rw [hes]
  simp only [List.length_nil,Nat.zero_add] at hol
  generalize once [] ((sH r).flatMap gp)=ks at *
  have hk1:=BR ks (ks.map fun _=>T.bool true)
  have hk2:=(zM ks (ks.map fun _=>T.bool true) (by simp) (by omega) hnd).rD
  rw [hfin] at hk2
  refine aI.bP (s:={sl:=[(3,.ptr 3 0)],bx:=[(3,.v [.t (mpi ks (ks.map fun _=>T.bool true))])]}) ⟨⟨.same _,trivial⟩,⟨.v _ _ ⟨.conv _ _ [5] ?_ (by simp [Wk.keys]),trivial⟩,trivial⟩,trivial,rfl,fun _ _ _=>trivial,rfl⟩ ?_
  ·show some (T.mapd false [.int .i64] ((esI ks).map (·.1)) ((esI ks).map (·.2)),[5])=_
   unfold esI
   rw [List.map_map,List.map_map];rfl
  refine Jo ?_
  repeat' ((conv=>whnf);first|refine rE _ (hk1) ?_|refine rE _ (hk2) ?_|fail)
  exact ⟨⟨rfl,trivial⟩,fun _ _=>trivial⟩
end Go.TY
end
section
namespace Go.TY
open Go Go.DL Go.MM Go.Proofs
theorem DCalls.to {P:Program} {f:FuncId} {xs:List T} {r r':T} (h:DCalls P f xs r) (hl:Les r r'):DCalls P f xs r':=h.res fun S w v k=>hl S w v k
theorem Cf (k:Int) (f:ByteArray) (n m:Int):Les (.agg [I k,.str f,I n,I m,.nil]) (.agg (sB (.mk k f n m []))):=
 Les.agg (.cons (Les.refl _) rfl (.cons (Les.refl _) rfl (.cons (Les.refl _) rfl (.cons (Les.refl _) rfl (.cons (Les.nil 5) rfl .nil)))))
theorem IM (k:Int) (f:ByteArray) (n:Int):Les (.agg [I k,I 0,.str e0,I 0,I 0,.nil,.str f,I n,.nil]) (.agg (sA (.mk k wz f n []))):=
 Les.agg (.cons (Les.refl _) rfl (.cons (Les.refl _) rfl (.cons (Les.refl _) rfl (.cons (Les.refl _) rfl (.cons (Les.refl _) rfl (.cons (Les.nil 5) rfl (.cons (Les.refl _) rfl (.cons (Les.refl _) rfl (.cons (Les.nil 9) rfl .nil)))))))))
theorem IL {p:RP} (f:ByteArray) (n:Int):Les (.agg (I 1::(sB p++[.str f,I n,.nil]))) (.agg (sA (.mk 1 p f n []))):=by
 obtain ⟨k,pf,pn,pm,pa⟩:=p
 exact Les.agg (.cons (Les.refl _) rfl (.cons (Les.refl _) rfl (.cons (Les.refl _) rfl (.cons (Les.refl _) rfl (.cons (Les.refl _) rfl (.cons (Les.refl _) rfl (.cons (Les.refl _) rfl (.cons (Les.refl _) rfl (.cons (Les.nil 9) rfl .nil)))))))))
theorem Cg (k:Int) (xs:List RO):Les (.agg [I k,I 0,.str e0,I 0,I 0,.nil,.str e0,I 0,.slice 9 (xs.map sP)]) (.agg (sA (.mk k wz e0 0 xs))):=
 Les.agg (.cons (Les.refl _) rfl (.cons (Les.refl _) rfl (.cons (Les.refl _) rfl (.cons (Les.refl _) rfl (.cons (Les.refl _) rfl (.cons (Les.nil 5) rfl (.cons (Les.refl _) rfl (.cons (Les.refl _) rfl (.cons (Les.refl _) rfl .nil)))))))))
theorem Cd (f:ByteArray) (n:Int):DCalls Tryz.prog 62 [.str f,I n] (.agg (sB (.mk 3 f n 0 []))):=by
 refine DCalls.to (r:=.agg [I 3,.str f,I n,I 0,.nil]) ?_ (Cf _ _ _ _)
 refine qO (rs:=[.cell 4 25]) mixed Tryz.func62 l62 rfl rfl rfl (r:=[.agg [I 3,.str f,I n,I 0,.nil]]) (nlZ rfl) ?_
 repeat' ((conv=>whnf);first|exact trivial|refine aS ?_|fail)
 all_goals exact ⟨congrArg some rfl,trivial⟩
theorem yT (f:ByteArray) (n:Int):DCalls Tryz.prog 63 [.str f,I n] (.agg (sA (.mk 2 wz f n []))):=by
 refine DCalls.to (r:=.agg [I 2,I 0,.str e0,I 0,I 0,.nil,.str f,I n,.nil]) ?_ (IM _ _ _)
 refine qO (rs:=[.cell 4 28]) mixed Tryz.func63 l63 rfl rfl rfl (r:=[.agg [I 2,I 0,.str e0,I 0,I 0,.nil,.str f,I n,.nil]]) (nlZ rfl) ?_
 repeat' ((conv=>whnf);first|exact trivial|refine aS ?_|fail)
 all_goals exact ⟨congrArg some rfl,trivial⟩
theorem yJ (p:RP):DCalls Tryz.prog 61 [.agg (sB p)] (.agg (sA (.mk 1 p e0 0 []))):=by
 refine DCalls.to (r:=.agg (I 1::(sB p++[.str e0,I 0,.nil]))) ?_ (IL _ _)
 obtain ⟨k,pf,pn,pm,pa⟩:=p
 refine qO (rs:=[.cell 2 28]) mixed Tryz.func61 l61 rfl rfl rfl (r:=[.agg (I 1::(sB (.mk k pf pn pm pa)++[.str e0,I 0,.nil]))]) (nlZ rfl) ?_
 repeat' ((conv=>whnf);first|exact trivial|refine aS ?_|fail)
 all_goals exact ⟨congrArg some rfl,trivial⟩
theorem Ce (x y:RO):DCalls Tryz.prog 32 [.agg (sA x),.agg (sA y)] (.agg (sA (xJ 4 x y))):=by
 refine DCalls.to (r:=.agg [I 4,I 0,.str e0,I 0,I 0,.nil,.str e0,I 0,.slice 9 ([x,y].map sP)]) ?_ (Cg _ _)
 have e:([x,y].map sP)=[.agg (sA x),.agg (sA y)]:=by simp [sL]
 rw [e]
 have h1:=sE x
 have h2:=sE y
 generalize sA x=a at *
 generalize sA y=b at *
 refine qO (rs:=[.cell 4 28]) mixed Tryz.func32 l32 rfl rfl rfl (r:=[.agg [I 4,I 0,.str e0,I 0,I 0,.nil,.str e0,I 0,.slice 9 [.agg a,.agg b]]]) (nlZ rfl) ?_
 repeat' ((conv=>whnf);first|exact trivial|(refine And.intro (by first|exact h1|exact h2|exact ⟨⟨trivial,h1⟩,h2⟩|fail) ?_)|refine aS ?_|fail)
 all_goals exact ⟨congrArg some rfl,trivial⟩
theorem FZ (x y:RO):DCalls Tryz.prog 33 [.agg (sA x),.agg (sA y)] (.agg (sA (xJ 3 x y))):=by
 refine DCalls.to (r:=.agg [I 3,I 0,.str e0,I 0,I 0,.nil,.str e0,I 0,.slice 9 ([x,y].map sP)]) ?_ (Cg _ _)
 have e:([x,y].map sP)=[.agg (sA x),.agg (sA y)]:=by simp [sL]
 rw [e]
 have h1:=sE x
 have h2:=sE y
 generalize sA x=a at *
 generalize sA y=b at *
 refine qO (rs:=[.cell 4 28]) mixed Tryz.func33 l33 rfl rfl rfl (r:=[.agg [I 3,I 0,.str e0,I 0,I 0,.nil,.str e0,I 0,.slice 9 [.agg a,.agg b]]]) (nlZ rfl) ?_
 repeat' ((conv=>whnf);first|exact trivial|(refine And.intro (by first|exact h1|exact h2|exact ⟨⟨trivial,h1⟩,h2⟩|fail) ?_)|refine aS ?_|fail)
 all_goals exact ⟨congrArg some rfl,trivial⟩
def uV:ByteArray:=⟨#[100,115,116]⟩
def vF:ByteArray:=⟨#[115,114,99]⟩
def wo:ByteArray:=⟨#[107,105,110,100]⟩
def L3:List Fd:=[⟨uV,16,8⟩,⟨vF,24,8⟩,⟨wo,33,3⟩]
theorem EC:DCalls Tryz.prog 60 [] (fds L3):=by
 refine qO (rs:=[.tmp 0]) mixed Tryz.func60 l60 rfl rfl rfl (r:=[fds L3]) (nlZ rfl) ?_
 repeat' ((conv=>whnf);first|exact trivial|refine aS ?_|fail)
theorem Ay:LOk L3:=⟨by decide,fun f hf=>by
 simp only [L3,List.mem_cons,List.not_mem_nil,or_false] at hf
 rcases hf with rfl|rfl|rfl <;> exact ⟨by decide,by decide,by decide⟩⟩
end Go.TY
end
section
namespace Go.TY
open Go Go.DL Go.MM Go.Proofs
def HV:ByteArray:=⟨#[116,111,112]⟩
def cN:ByteArray:=⟨#[99]⟩
def tN:ByteArray:=⟨#[116]⟩
abbrev idF:RO:=.mk 1 (.mk 1 e0 0 0 []) e0 0 []
abbrev B4:RO:=.mk 1 (.mk 2 e0 0 0 []) e0 0 []
abbrev vS:RO:=.mk 1 (.mk 9 e0 3 7 []) e0 0 []
abbrev ur:RG:=⟨idF,⟨2,cN,[vF],e0,0,0⟩⟩
abbrev uJ:RG:=⟨idF,⟨3,cN,[uV],e0,5,0⟩⟩
abbrev Ar:RG:=⟨idF,⟨3,cN,[wo],e0,5,0⟩⟩
abbrev yS:RG:=⟨idF,⟨1,cN,[vF],e0,0,0⟩⟩
abbrev Au:RG:=⟨idF,⟨6,cN,[vF],e0,1,1⟩⟩
abbrev Ix:RG:=⟨vS,⟨0,e0,[],e0,0,0⟩⟩
abbrev eqF (f:ByteArray) (n:Int):RP:=.mk 3 f n 0 []
abbrev fiF (p:RP):RO:=.mk 1 p e0 0 []
abbrev seF (f:ByteArray) (n:Int):RO:=.mk 2 wz f n []
abbrev xF:RO:=xJ 3 (xJ 4 (fiF (eqF uV 5)) (seF tw 2)) (xJ 4 (seF tw 1) (.mk 5 wz e0 0 [seF vF 0]))
abbrev VL:List RV:=[⟨cN,2,[8],0,0⟩]
theorem sm1 (g:RG) (h:g=ur∨g=uJ∨g=Ar∨g=yS∨g=Au):SmG (2^39) g:=by
 rcases h with rfl|rfl|rfl|rfl|rfl
 all_goals refine ⟨⟨by decide,by decide,fun k hk=>?_,by decide⟩,by decide,fun _=>⟨⟨by decide,trivial⟩,by decide,trivial⟩⟩
 all_goals (rw [List.mem_singleton.1 hk];decide)
theorem CX (p:RP) (x:Int) (hr:p.nodes<2^40) (hn:vi p) (h:Ad L3 p=x):DCalls Tryz.prog 15 [fds L3,.agg (sB p)] (I x):=h▸HP L3 Ay p hr hn
theorem HI (k:Int) (f:ByteArray) (n m x:Int) (hn:f.size<2^62) (h:Ad L3 (.mk k f n m [])=x):DCalls Tryz.prog 15 [fds L3,.agg [I k,.str f,I n,I m,.nil]] (I x):=
 (CX (.mk k f n m []) x (by simp [RP.nodes,sN]) ⟨hn,trivial⟩ h).lesAll ⟨Les.refl _,Cf k f n m,trivial⟩
theorem xQ (k:Int) (f:ByteArray) (n m:Int):DCalls Tryz.prog 61 [.agg [I k,.str f,I n,I m,.nil]] (.agg (sA (.mk 1 (.mk k f n m []) e0 0 []))):=
 (yJ (.mk k f n m [])).lesAll ⟨Cf k f n m,trivial⟩
theorem GI (x:RO) (k:Int) (ys:List RO):DCalls Tryz.prog 32 [.agg (sA x),.agg [I k,I 0,.str e0,I 0,I 0,.nil,.str e0,I 0,.slice 9 (ys.map sP)]] (.agg (sA (xJ 4 x (.mk k wz e0 0 ys)))):=
 (Ce x (.mk k wz e0 0 ys)).lesAll ⟨Les.refl _,Cg k ys,trivial⟩
theorem HG (r:RO) (x:Int) (hr:r.wt<2^40) (hn:uP r) (h:uW L3 r=x):DCalls Tryz.prog 17 [fds L3,.agg (sA r)] (I x):=h▸Bd L3 Ay r hr hn
theorem FN (s:RS) (x:Int) (hs:SmS (2^59) s) (h:ui L3 s=x):DCalls Tryz.prog 19 [fds L3,.agg (sK s)] (I x):=h▸Em L3 Ay s hs
theorem CY (gs:List RG) (x:Int) (hl:gs.length<2^40) (hs: ∀g∈gs,SmG (2^39) g) (h:Ci L3 gs=x):DCalls Tryz.prog 38 [fds L3,.slice 15 (gs.map sF)] (I x):=h▸El L3 Ay gs hl hs
theorem xr {α:Type} {a b:α} {p:α→Prop} (ha:p a) (hb:p b): ∀x∈[a,b],p x:=fun x hx=>by
 simp only [List.mem_cons,List.not_mem_nil,or_false] at hx
 rcases hx with rfl|rfl
 ·exact ha
 ·exact hb
theorem J9:DCalls Tryz.prog 39 [fds L3,.slice 15 ([ur,uJ].map sF)] (.slice 5 (VL.map sV)):=by
 have h:(uw L3 [ur,uJ]).isNone=false:=by decide+kernel
 have e:Ae L3 [ur,uJ]=VL:=by decide+kernel
 cases hv:uw L3 [ur,uJ] with
 |none=>rw [hv] at h;cases h
 |some st=>
  have:=BD L3 Ay [ur,uJ] (by decide) (xr ⟨(sm1 ur (by simp)).st.mono (by decide),by decide,by decide⟩ ⟨(sm1 uJ (by simp)).st.mono (by decide),by decide,by decide⟩) st hv
  rwa [e] at this
theorem HF (tick:Int) (r q:RO) (hr:r.wt<2^39) (h:tf tick r=q):DCalls Tryz.prog 49 [.agg (sA r),I tick] (.agg (sA q)):=h▸t39 tick r hr
theorem FM (a b:RO) (x:Bool) (hr:a.wt<2^60) (h:uI a b=x):DCalls Tryz.prog 48 [.agg (sA a),.agg (sA b)] (.bool x):=h▸wI _ a b (Nat.le_refl _) hr
theorem HJ (r:RO) (x:List ByteArray) (hr:r.wt<2^39) (h:reads r=x):DCalls Tryz.prog 23 [.agg (sA r)] (.slice 1 (x.map T.str)):=h▸Gl r hr
theorem Gf (r:RO) (x:List ByteArray) (hr:r.wt<2^39) (h:writes r=x):DCalls Tryz.prog 25 [.agg (sA r)] (.slice 1 (x.map T.str)):=h▸EN r hr
theorem HH (r:RO) (x:List Int) (hr:r.wt<2^39) (h:yW r=x):DCalls Tryz.prog 28 [.agg (sA r)] (.slice 1 (x.map I)):=h▸Gk r hr
theorem J8 (r:RO) (x:Nat) (hr:s8 r=true) (h:ue r=x):DCalls Tryz.prog 30 [.agg (sA r)] (I x):=h▸HS _ r (Nat.le_refl _) hr
theorem HE (gs:List RG) (x:List Int) (hl:gs.length<2^39) (hg: ∀g∈gs,g.pol.wt<2^39) (hb:(bounds gs).length<2^40) (h:uj gs=x):DCalls Tryz.prog 57 [.slice 15 (gs.map sF)] (.slice 1 (x.map I)):=h▸x5 gs hl hg hb
theorem Ec (a:List ByteArray) (h:a.length<2^60):DCalls Tryz.prog 22 [.slice 1 (a.map .str),.slice 1 (a.map .str)] (.bool true):=by
 have:=BB a a (Or.inl h)
 rwa [v7.2 rfl] at this
theorem CW (a:List Int) (h:a.length<2^60):DCalls Tryz.prog 27 [.slice 1 (a.map I),.slice 1 (a.map I)] (.bool true):=by
 have:=y4 a a (Or.inl h)
 rwa [show (a==a)=true by simp] at this
theorem MO:DCalls Tryz.prog 45 [.slice 5 (VL.map sV),.slice 5 (VL.map sV)] (.bool true):=by
 have:=y7 VL VL (Or.inl (by decide)) (Or.inl fun v hv=>by rw [List.mem_singleton.1 hv];decide)
 rwa [wv.2 rfl] at this
theorem Lw {P:Program} {i:DI} {is:List DI} {st:St} {K:St→Prop} (v:V) (h:wpI P i st (fun s=>s=st.set i.dst v)) (hk:aA P is (st.set i.dst v) K):aA P (i::is) st K:=cY (fun s e=>by rw [e];exact hk) h
theorem IK {P:Program} {is:List DI} {B:PT} {st:St} {Q:aB→St→Prop} (h:aA P is st fun st'=>B st' Q):rl (rj P is []) B st Q:=h
theorem ET:DCalls Tryz.prog 10 [] (.bool true):=by
 refine qO (rs:=[.tmp 0]) mixed Tryz.func10 l10 rfl rfl rfl (r:=[.bool true]) (nlZ rfl) ?_
 have k1:=EC
 have k2:=Cd uV 300
 have k3:=Cd HV 1
 have k4:=xQ 1 e0 0 0
 have k5:=CX (eqF uV 300) 1 (by decide) ⟨by decide,trivial⟩ (by decide+kernel)
 have k6:=CX (eqF HV 1) 4 (by decide) ⟨by decide,trivial⟩ (by decide+kernel)
 have k7:=HI 4 wo 1 4 1 (by decide) (by decide+kernel)
 repeat' ((conv=>whnf);first|refine rE _ (k1) ?_|refine rE _ (k4) ?_|refine aS ?_|fail)
 refine rA (β:=Unit) (fun _=>{sl:=[(1,.t (fds L3)),(2,.ptr 2 0),(3,.t (.bool true))],bx:=[(2,.d 9 (sA idF))]}) (fun _=>True) ?_ ?_
 ·repeat' ((conv=>whnf);first|refine rE _ (k2) ?_|refine rE _ (k3) ?_|refine rE _ (k5) ?_|refine rE _ (k6) ?_|refine rE _ (k7) ?_|(exact ⟨(),trivial,by (repeat' (first|exact trivial|exact LeV.same _|exact LeB.same _|exact rfl|exact fun _ _ _=>trivial|refine And.intro ?_ ?_));done⟩)|refine aE1 ?_|refine aS ?_|fail)
 rintro _ _
 clear k1 k2 k3 k4 k5 k6 k7
 have k8:=Cd uV 5
 have k9:=yJ (eqF uV 5)
 have k10:=yT wo 7
 have k11:=yT wo 8
 have k12:=Ce (fiF (eqF uV 5)) (seF wo 7)
 have k13:=HG (xJ 4 (fiF (eqF uV 5)) (seF wo 7)) 0 (by decide) ⟨⟨by decide,trivial⟩,by decide,⟨⟨by decide,trivial⟩,by decide,trivial⟩,⟨⟨by decide,trivial⟩,by decide,trivial⟩,trivial⟩ (by decide+kernel)
 have k14:=HG (seF wo 8) 1 (by decide) ⟨⟨by decide,trivial⟩,by decide,trivial⟩ (by decide+kernel)
 skip
 refine rA (β:=Unit) (fun _=>{sl:=[(1,.t (fds L3)),(2,.ptr 2 0),(3,.t (.bool true)),(4,.t (.bool true))],bx:=[(2,.d 9 (sA idF))]}) (fun _=>True) ?_ ?_
 ·repeat' ((conv=>whnf);first|refine rE _ (k8) ?_|refine rE _ (k9) ?_|refine rE _ (k10) ?_|refine rE _ (k11) ?_|refine rE _ (k12) ?_|refine rE _ (k13) ?_|refine rE _ (k14) ?_|(exact ⟨(),trivial,by (repeat' (first|exact trivial|exact LeV.same _|exact LeB.same _|exact rfl|exact fun _ _ _=>trivial|refine And.intro ?_ ?_));done⟩)|refine aE1 ?_|refine aS ?_|fail)
 rintro _ _
 clear k8 k9 k10 k11 k12 k13 k14
 have k15:=FN ⟨1,cN,[vF,vF],e0,0,0⟩ 1 ⟨by decide,by decide,xr (p:=fun k:ByteArray=>k.size<2^59) (by decide) (by decide),by decide⟩ (by decide+kernel)
 have k16:=FN ⟨4,tN,[vF],wo,1,9⟩ 1 ⟨by decide,by decide,fun k hk=>by rw [List.mem_singleton.1 hk];decide,by decide⟩ (by decide+kernel)
 skip
 refine rA (β:=Unit) (fun _=>{sl:=[(1,.t (fds L3)),(2,.ptr 2 0),(3,.t (.bool true)),(4,.t (.bool true)),(5,.t (.bool true))],bx:=[(2,.d 9 (sA idF))]}) (fun _=>True) ?_ ?_
 ·repeat' ((conv=>whnf);first|refine rE _ (k15) ?_|refine rE _ (k16) ?_|(exact ⟨(),trivial,by (repeat' (first|exact trivial|exact LeV.same _|exact LeB.same _|exact rfl|exact fun _ _ _=>trivial|refine And.intro ?_ ?_));done⟩)|refine aE1 ?_|refine aS ?_|fail)
 rintro _ _
 clear k15 k16
 skip
 refine rA (β:=Unit) (fun _=>{sl:=[(1,.t (fds L3)),(2,.ptr 2 0),(3,.t (.bool true)),(4,.t (.bool true)),(5,.t (.bool true)),(6,.ptr 6 0)],bx:=[(2,.d 9 (sA idF)),(6,.d 15 (sD ur))]}) (fun _=>True) ?_ ?_
 ·repeat' ((conv=>whnf);first|(exact ⟨(),trivial,by (repeat' (first|exact trivial|exact LeV.same _|exact LeB.same _|exact rfl|exact fun _ _ _=>trivial|refine And.intro ?_ ?_));done⟩)|refine aS ?_|fail)
 rintro _ _
 skip
 refine rA (β:=Unit) (fun _=>{sl:=[(1,.t (fds L3)),(2,.ptr 2 0),(3,.t (.bool true)),(4,.t (.bool true)),(5,.t (.bool true)),(6,.ptr 6 0),(7,.ptr 7 0)],bx:=[(2,.d 9 (sA idF)),(6,.d 15 (sD ur)),(7,.d 15 (sD uJ))]}) (fun _=>True) ?_ ?_
 ·repeat' ((conv=>whnf);first|(exact ⟨(),trivial,by (repeat' (first|exact trivial|exact LeV.same _|exact LeB.same _|exact rfl|exact fun _ _ _=>trivial|refine And.intro ?_ ?_));done⟩)|refine aS ?_|fail)
 rintro _ _
 skip
 refine rA (β:=Unit) (fun _=>{sl:=[(1,.t (fds L3)),(2,.ptr 2 0),(3,.t (.bool true)),(4,.t (.bool true)),(5,.t (.bool true)),(6,.ptr 6 0),(7,.ptr 7 0),(8,.ptr 8 0)],bx:=[(2,.d 9 (sA idF)),(6,.d 15 (sD ur)),(7,.d 15 (sD uJ)),(8,.d 15 (sD Ar))]}) (fun _=>True) ?_ ?_
 ·repeat' ((conv=>whnf);first|(exact ⟨(),trivial,by (repeat' (first|exact trivial|exact LeV.same _|exact LeB.same _|exact rfl|exact fun _ _ _=>trivial|refine And.intro ?_ ?_));done⟩)|refine aS ?_|fail)
 rintro _ _
 skip
 refine rA (β:=Unit) (fun _=>{sl:=[(1,.t (fds L3)),(2,.ptr 2 0),(3,.t (.bool true)),(4,.t (.bool true)),(5,.t (.bool true)),(6,.ptr 6 0),(7,.ptr 7 0),(8,.ptr 8 0),(9,.ptr 9 0)],bx:=[(2,.d 9 (sA idF)),(6,.d 15 (sD ur)),(7,.d 15 (sD uJ)),(8,.d 15 (sD Ar)),(9,.d 15 (sD yS))]}) (fun _=>True) ?_ ?_
 ·repeat' ((conv=>whnf);first|(exact ⟨(),trivial,by (repeat' (first|exact trivial|exact LeV.same _|exact LeB.same _|exact rfl|exact fun _ _ _=>trivial|refine And.intro ?_ ?_));done⟩)|refine aS ?_|fail)
 rintro _ _
 skip
 refine rA (β:=Unit) (fun _=>{sl:=[(1,.t (fds L3)),(2,.ptr 2 0),(3,.t (.bool true)),(4,.t (.bool true)),(5,.t (.bool true)),(6,.ptr 6 0),(7,.ptr 7 0),(8,.ptr 8 0),(9,.ptr 9 0),(10,.ptr 10 0)],bx:=[(2,.d 9 (sA idF)),(6,.d 15 (sD ur)),(7,.d 15 (sD uJ)),(8,.d 15 (sD Ar)),(9,.d 15 (sD yS)),(10,.d 15 (sD Au))]}) (fun _=>True) ?_ ?_
 ·repeat' ((conv=>whnf);first|(exact ⟨(),trivial,by (repeat' (first|exact trivial|exact LeV.same _|exact LeB.same _|exact rfl|exact fun _ _ _=>trivial|refine And.intro ?_ ?_));done⟩)|refine aS ?_|fail)
 rintro _ _
 have k17:=CY [ur,uJ] 0 (by decide) (xr (sm1 _ (by simp)) (sm1 _ (by simp))) (by decide+kernel)
 have k18:=CY [ur,Ar] 11 (by decide) (xr (sm1 _ (by simp)) (sm1 _ (by simp))) (by decide+kernel)
 have k19:=CY [yS,Au] 11 (by decide) (xr (sm1 _ (by simp)) (sm1 _ (by simp))) (by decide+kernel)
 skip
 refine rA (β:=Unit) (fun _=>{sl:=[(1,.t (fds L3)),(2,.ptr 2 0),(3,.t (.bool true)),(4,.t (.bool true)),(5,.t (.bool true)),(6,.ptr 6 0),(7,.ptr 7 0),(11,.t (.bool true))],bx:=[(2,.d 9 (sA idF)),(6,.d 15 (sD ur)),(7,.d 15 (sD uJ))]}) (fun _=>True) ?_ ?_
 ·repeat' ((conv=>whnf);first|refine rE _ (k17) ?_|refine rE _ (k18) ?_|refine rE _ (k19) ?_|(exact ⟨(),trivial,by (repeat' (first|exact trivial|exact LeV.same _|exact LeB.same _|exact rfl|exact fun _ _ _=>trivial|refine And.intro ?_ ?_));done⟩)|refine aE1 ?_|refine aS ?_|fail)
 rintro _ _
 clear k17 k18 k19
 have k20:=J9
 skip
 refine rA (β:=Unit) (fun _=>{sl:=[(1,.t (fds L3)),(2,.ptr 2 0),(3,.t (.bool true)),(4,.t (.bool true)),(5,.t (.bool true)),(11,.t (.bool true)),(12,.t (.slice 5 (VL.map sV)))],bx:=[(2,.d 9 (sA idF))]}) (fun _=>True) ?_ ?_
 ·repeat' ((conv=>whnf);first|refine rE _ (k20) ?_|(exact ⟨(),trivial,by (repeat' (first|exact trivial|exact LeV.same _|exact LeB.same _|exact rfl|exact fun _ _ _=>trivial|refine And.intro ?_ ?_));done⟩)|refine aS ?_|fail)
 rintro _ _
 clear k20
 have k21:=xQ 9 e0 3 7
 skip
 refine rA (β:=Unit) (fun _=>{sl:=[(1,.t (fds L3)),(2,.ptr 2 0),(3,.t (.bool true)),(4,.t (.bool true)),(5,.t (.bool true)),(11,.t (.bool true)),(12,.t (.slice 5 (VL.map sV))),(13,.ptr 13 0)],bx:=[(2,.d 9 (sA idF)),(13,.d 9 (sA vS))]}) (fun _=>True) ?_ ?_
 ·repeat' ((conv=>whnf);first|refine rE _ (k21) ?_|(exact ⟨(),trivial,by (repeat' (first|exact trivial|exact LeV.same _|exact LeB.same _|exact rfl|exact fun _ _ _=>trivial|refine And.intro ?_ ?_));done⟩)|refine aS ?_|fail)
 rintro _ _
 clear k21
 have k22:=HF 3 vS idF (by decide) rfl
 have k23:=HF 7 vS B4 (by decide) rfl
 have k24:=xQ 2 e0 0 0
 have k25:=FM idF idF true (by decide) (by decide+kernel)
 have k26:=FM B4 B4 true (by decide) (by decide+kernel)
 skip
 refine rA (β:=Unit) (fun _=>{sl:=[(1,.t (fds L3)),(3,.t (.bool true)),(4,.t (.bool true)),(5,.t (.bool true)),(11,.t (.bool true)),(12,.t (.slice 5 (VL.map sV))),(13,.ptr 13 0),(14,.t (.bool true))],bx:=[(13,.d 9 (sA vS))]}) (fun _=>True) ?_ ?_
 ·repeat' ((conv=>whnf);first|refine rE _ (k22) ?_|refine rE _ (k23) ?_|refine rE _ (k24) ?_|refine rE _ (k25) ?_|refine rE _ (k26) ?_|(exact ⟨(),trivial,by (repeat' (first|exact trivial|exact LeV.same _|exact LeB.same _|exact rfl|exact fun _ _ _=>trivial|refine And.intro ?_ ?_));done⟩)|refine aS ?_|fail)
 rintro _ _
 clear k22 k23 k24 k25 k26
 have k27:=Cd uV 5
 have k28:=yJ (eqF uV 5)
 have k29:=yT tw 2
 have k30:=yT tw 1
 have k31:=yT vF 0
 have k32:=Ce (fiF (eqF uV 5)) (seF tw 2)
 have k33:=GI (seF tw 1) 5 [seF vF 0]
 have k34:=FZ (xJ 4 (fiF (eqF uV 5)) (seF tw 2)) (xJ 4 (seF tw 1) (.mk 5 wz e0 0 [seF vF 0]))
 skip
 refine rA (β:=Unit) (fun _=>{sl:=[(1,.t (fds L3)),(3,.t (.bool true)),(4,.t (.bool true)),(5,.t (.bool true)),(11,.t (.bool true)),(12,.t (.slice 5 (VL.map sV))),(13,.ptr 13 0),(14,.t (.bool true)),(15,.ptr 15 0)],bx:=[(13,.d 9 (sA vS)),(15,.d 9 (sA xF))]}) (fun _=>True) ?_ ?_
 ·repeat' ((conv=>whnf);first|refine rE _ (k27) ?_|refine rE _ (k28) ?_|refine rE _ (k29) ?_|refine rE _ (k30) ?_|refine rE _ (k31) ?_|refine rE _ (k32) ?_|refine rE _ (k33) ?_|refine rE _ (k34) ?_|(exact ⟨(),trivial,by (repeat' (first|exact trivial|exact LeV.same _|exact LeB.same _|exact rfl|exact fun _ _ _=>trivial|refine And.intro ?_ ?_));done⟩)|refine aS ?_|fail)
 rintro _ _
 clear k27 k28 k29 k30 k31 k32 k33 k34
 have k35:=HJ xF [uV] (by decide) (by decide+kernel)
 have k36:=Gf xF [tw,vF] (by decide) (by decide+kernel)
 have k37:=HH xF [1,2] (by decide) (by decide+kernel)
 have k38:=J8 xF 65536 (by decide+kernel) (by decide+kernel)
 have k39:=Ec [uV] (by decide)
 have k40:=Ec [tw,vF] (by decide)
 have k41:=CW [1,2] (by decide)
 skip
 refine rA (β:=Unit) (fun _=>{sl:=[(1,.t (fds L3)),(3,.t (.bool true)),(4,.t (.bool true)),(5,.t (.bool true)),(11,.t (.bool true)),(12,.t (.slice 5 (VL.map sV))),(13,.ptr 13 0),(14,.t (.bool true)),(16,.t (.bool true))],bx:=[(13,.d 9 (sA vS))]}) (fun _=>True) ?_ ?_
 ·repeat' ((conv=>whnf);first|refine rE _ (k35) ?_|refine rE _ (k36) ?_|refine rE _ (k37) ?_|refine rE _ (k38) ?_|refine rE _ (k39) ?_|refine rE _ (k40) ?_|refine rE _ (k41) ?_|(exact ⟨(),trivial,by (repeat' (first|exact trivial|exact LeV.same _|exact LeB.same _|exact rfl|exact fun _ _ _=>trivial|refine And.intro ?_ ?_));done⟩)|refine aE1 ?_|refine aS ?_|fail)
 rintro _ _
 clear k35 k36 k37 k38 k39 k40 k41
 have q1:=MO
 have q2:=(HE [Ix] [3,7] (by decide) (fun g hg=>by rw [List.mem_singleton.1 hg];decide) (by decide) (by decide+kernel)).lesAll (ts:=[.slice 15 [.agg (sA vS++[I 0,.str e0,.nil,.str e0,I 0,I 0])]]) ⟨Les.slice rfl (fun i x y hx hy=>by
  cases i with
  |zero=>
   cases hx;cases hy
   exact ⟨dp.append (ts:=sA vS) (us:=sA vS) ⟨rfl,by decide,fun i t u h1 h2=>by rw [h1] at h2;cases h2;exact Les.refl _⟩ (.cons (Les.refl _) rfl (.cons (Les.refl _) rfl (.cons (Les.nil 1) rfl (.cons (Les.refl _) rfl (.cons (Les.refl _) rfl (.cons (Les.refl _) rfl .nil)))))),rfl⟩
  |succ i=>cases hx),trivial⟩
 have q3:=CW [3,7] (by decide)
 dsimp only
 refine IK ?_
 iterate 17 (refine Lw (.t (.bool true)) ?_ ?_; ·(conv=>whnf);rfl)
 repeat' ((conv=>whnf);first|exact trivial|refine rE _ (q1) ?_|refine rE _ (q2) ?_|refine rE _ (q3) ?_|refine rb1 ?_|refine aS ?_|fail)
end Go.TY
end
section
namespace Go.TY
open Go Go.DL Go.Proofs
noncomputable def c8:aY:=(.seq (.region [oo 4 (.mov kF)] []) (.seq (.region [oo 9 (.call 10 []),mv 5 9] []) (.seq (.seq (.region [mv 10 0,oo 11 (.call 37 [tm 10]),oo 12 (.not (tm 11)),mv 13 12,mF 14 0 13,oF 15 13 (.call 47 [tm 14]),oF 16 13 (.bin .neq (tm 15) (Kc 0)),oo 17 (.pick (tm 13) kT (tm 16))] []) (.cond (tm 17) (.seq (.region [mv 18 5,mv 4 18] []) .ret) .skip)) (.seq (.seq (.region [oo 6 (.mov (Kc 0))] []) (.block 0 (.loop (.seq (.seq (.region [mv 19 6,mv 20 0,ln 21 20,oo 22 (.bin .lss (tm 19) (tm 21))] []) (.cond (tm 22) .skip (.exit 0))) (.seq (.block 1 (.seq (.cut (.region [mv 25 0,mv 26 6,ix 27 15 25 26,oo 28 (.nar 9 (tm 27)),lA 29 9 28,⟨some 7,.alloc [Z0,Z0,S0,Z0,Z0,.nil,S0,Z0,.nil],none,[]⟩,o0 (.store 9 (tm 7) (tm 29))] [])) (.seq (.cut (.region [lA 30 9 7,mv 31 1,oo 32 (.call 49 [(tm 30),(tm 31)]),lA 33 9 7,mv 34 1,oo 35 (.call 50 [(tm 33),(tm 34)]),oo 36 (.call 48 [(tm 32),(tm 35)]),mv 8 36] [])) (.seq (.region [mv 37 8,oo 38 (.not (tm 37)),mv 39 38,oF 40 39 (.offA 0 (tm 7)),oF 41 39 (.load 1 false (tm 40)),oF 42 39 (.bin .eql (tm 41) (Kc 1)),mF 43 42 39,oT 44 43 (.offA 1 (tm 7)),oT 45 43 (.load 5 true (tm 44)),mT 46 1 43,oT 47 43 (.call 52 [(tm 45),(tm 46)]),oT 48 43 (.offA 1 (tm 7)),oT 49 43 (.load 5 true (tm 48)),mT 50 1 43,oT 51 43 (.call 53 [(tm 49),(tm 50)]),oT 52 43 (.call 51 [(tm 47),(tm 51)]),oT 53 43 (.not (tm 52)),oF 54 39 (.pick (tm 43) (tm 53) kF),oo 55 (.pick (tm 39) kT (tm 54))] []) (.cond (tm 55) (.seq (.region [oo 4 (.mov kF)] []) .ret) .skip))))) (.region [mv 23 6,oo 24 (.bin .add (tm 23) (Kc 1)),mv 6 24] [])))))) (.seq (.region [mv 56 5,mv 57 56,mT 58 0 57,mT 59 1 57,oT 60 57 (.call 55 [(tm 58),(tm 59)]),mT 61 0 57,mT 62 1 57,oT 63 57 (.call 56 [(tm 61),(tm 62)]),oT 64 57 (.call 54 [(tm 60),(tm 63)]),oo 65 (.pick (tm 57) (tm 64) kF),mv 66 65,mT 67 0 66,oT 68 66 (.call 57 [tm 67]),mT 69 0 66,oT 70 66 (.call 58 [tm 69]),oT 71 66 (.call 27 [(tm 68),(tm 70)]),oo 72 (.pick (tm 66) (tm 71) kF),mv 4 72] []) .ret)))))
theorem l8:(Tryz.f8.body.bind (bD Tryz.prog 73 [6000007,6000008,2000028000009]))=some c8:=by kernel_rfl
end Go.TY
end
section
namespace Go.TY
open Go Go.DL Go.MM Go.Proofs
theorem FV {gs:List RG} (h:yG gs=true):gs.length≤12:=by
 unfold yG at h
 rw [Bool.and_eq_true,decide_eq_true_eq] at h
 exact h.2
end Go.TY
end
section
namespace Go.TY
open Go Go.DL Go.MM Go.Proofs
theorem C4 (r:RO):(wK r).length≤2 * r.wt:=by
 have h: ∀ps:List RP,(ps.flatMap tG).length≤2 * ps.length:=fun ps=>by
  induction ps with
  |nil=>simp
  |cons x xs ih=>
   have:(tG x).length≤2:=by unfold tG;split <;> simp
   simp only [List.flatMap_cons,List.length_append,List.length_cons];omega
 have h1:=h (w8 r)
 have h2:=yM r
 unfold wK;omega
theorem B0 {gs:List RG} {B:Nat} (h: ∀g∈gs,g.pol.wt≤B):(bounds gs).length≤gs.length * (2 * B):=by
 induction gs with
 |nil=>simp [bounds]
 |cons g gs ih=>
  have h1:=C4 g.pol
  have h2:=h g (by simp)
  have h3:=ih fun x hx=>h x (by simp [hx])
  unfold bounds at h3 ⊢
  simp only [List.flatMap_cons,List.length_append,List.length_cons]
  rw [Nat.add_mul]
  omega
theorem SmG.up {B B':Nat} {g:RG} (h:SmG B g) (hb:B≤B') (hB:B≤2^61):SmG B' g:=⟨h.st.mono hb,by have:=h.wt;omega,fun _=>h.names hB⟩
theorem law8 (gs:List RG) (hgl:gs.length<2^30) (hg: ∀g∈gs,SmG (2^30) g) (tick:Int):DCalls Tryz.prog 8 [.slice 15 (gs.map sF),I tick] (.bool true):=by
 refine qO (rs:=[.tmp 4]) mixed Tryz.func8 l8 rfl rfl rfl (r:=[.bool true]) (nlZ rfl) ?_
 have h0:=ET
 have hwt: ∀g∈gs,g.pol.wt≤2^30:=fun g h=>(hg g h).wt
 have h1:=AD gs (by omega) fun g hgm=>by have:=hwt g hgm;omega
 have h2:=zy gs (by omega) fun g hgm=>(hg g hgm).up (by decide) (by decide)
 have hlen:((gs.map sF).length:Int)=(gs.length:Int):=by rw [List.length_map]
 cases hf:yG gs with
 |false=>
  rw [hf] at h1
  repeat' ((conv=>whnf);first|exact trivial|refine rE _ (h0) ?_|refine rE _ (h1) ?_|refine rb1 ?_|fail)
 |true=>
 rw [hf] at h1
 have hle:=FV hf
 by_cases hc:uN gs=0
 case neg=>
  generalize uN gs=c at *
  repeat' ((conv=>whnf);first|exact trivial|refine rE _ (h0) ?_|refine rE _ (h1) ?_|refine rE _ (h2) ?_|refine qz hc ?_|refine rb1 ?_|refine aS ?_|fail)
 rw [hc] at h2
 repeat' ((conv=>whnf);first|refine rE _ (h0) ?_|refine rE _ (h1) ?_|refine rE _ (h2) ?_|refine aN0 ?_|refine aS ?_|fail)
 refine qZ 0 (α:=Nat) (β:=Unit) (fun i=>{sl:=[(0,.t (.slice 15 (gs.map sF))),(1,.t (I tick)),(5,.t (.bool true)),(6,.t (I i))],bx:=[]})
  (fun i=>i≤gs.length) (fun i=>gs.length - i) (fun _=>{sl:=[(0,.t (.slice 15 (gs.map sF))),(1,.t (I tick)),(5,.t (.bool true))],bx:=[]}) (fun _=>True) 0 (by simp) ?_ ?_ ?_
 ·repeat' (first|exact trivial|exact LeV.same _|exact rfl|exact fun _ _ _=>trivial|refine And.intro ?_ ?_)
 ·rintro i hi
  rcases Nat.lt_or_ge i gs.length with h|h
  ·have hlt:(i:Int)<((gs.map sF).length:Int):=by omega
   have hx:(gs.map sF)[i]?.getD .nil= .agg (sD gs[i]):=by simp [h];rfl
   have hc1:=uY gs[i]
   have hw:=hwt gs[i] (List.getElem_mem h)
   have a1:=t39 tick gs[i].pol (by omega)
   have a2:=AF tick _ gs[i].pol (Nat.le_refl _) (by omega)
   have hfw:=zu tick gs[i].pol
   have a3:=wI _ (tf tick gs[i].pol) (tf tick gs[i].pol) (Nat.le_refl _) (by omega)
   rw [tU.2 rfl] at a3
   generalize tf tick gs[i].pol=fz at *
   generalize gs[i]=g at *
   obtain ⟨⟨k,⟨pk,pf,pn,pm,pa⟩,f,n,a⟩,st⟩:=g
   dsimp only at hc1 hw a1 a2
   simp only [RO.wt] at hw
   have b1:=t62 tick _ (.mk pk pf pn pm pa) (Nat.le_refl _) (by omega)
   have b2:=xV tick _ (.mk pk pf pn pm pa) (Nat.le_refl _) (by omega)
   have hfn:=xz tick (.mk pk pf pn pm pa)
   have b3:=y5 _ (tY tick (.mk pk pf pn pm pa)) (tY tick (.mk pk pf pn pm pa)) (Nat.le_refl _) (by omega)
   rw [tg.2 rfl] at b3
   generalize tY tick (.mk pk pf pn pm pa)=fp at *
   repeat' ((conv=>whnf);first|refine qv hlt ?_|refine aS ?_|fail)
   refine rA (β:=Unit) (fun _=>{sl:=[(0,.t (.slice 15 (gs.map sF))),(1,.t (I tick)),(5,.t (.bool true)),(6,.t (I i)),(7,.ptr 7 0)],bx:=[(7,.d 9 (sA (.mk k (.mk pk pf pn pm pa) f n a)))]}) (fun _=>True) ?_ ?_
   ·repeat' ((conv=>whnf);first|(refine nv_ (.agg (sD ⟨.mk k (.mk pk pf pn pm pa) f n a,st⟩)) (by first|exact hx|fail) ?_)|(refine nv_ (.agg (sA (.mk k (.mk pk pf pn pm pa) f n a))) (by first|exact congrArg T.agg hc1|fail) ?_)|(exact ⟨(),trivial,by (repeat' (first|exact trivial|exact LeV.same _|exact LeB.same _|exact rfl|exact fun _ _ _=>trivial|refine And.intro ?_ ?_));done⟩)|(refine And.intro (by first|exact vh _|exact wE _|fail) ?_)|refine aS ?_|fail)
   rintro _ _
   skip
   refine rA (β:=Unit) (fun _=>{sl:=[(0,.t (.slice 15 (gs.map sF))),(1,.t (I tick)),(5,.t (.bool true)),(6,.t (I i)),(7,.ptr 7 0),(8,.t (.bool true))],bx:=[(7,.d 9 (sA (.mk k (.mk pk pf pn pm pa) f n a)))]}) (fun _=>True) ?_ ?_
   ·repeat' ((conv=>whnf);first|refine rE _ (a1) ?_|refine rE _ (a2) ?_|refine rE _ (a3) ?_|(exact ⟨(),trivial,by (repeat' (first|exact trivial|exact LeV.same _|exact LeB.same _|exact rfl|exact fun _ _ _=>trivial|refine And.intro ?_ ?_));done⟩)|fail)
   rintro _ _
   have hmu:gs.length - (i+1)<gs.length - i:=by omega
   by_cases hk:k=1
   ·repeat' ((conv=>whnf);first|refine qx hk ?_|refine rE _ (b1) ?_|refine rE _ (b2) ?_|refine rE _ (b3) ?_|(exact ⟨i+1,h,hmu,by (repeat' (first|exact trivial|exact LeV.same _|exact rfl|exact fun _ _ _=>trivial|exact lI|refine And.intro ?_ ?_));done⟩)|refine nT_ ?_|refine aS ?_|fail)
   ·repeat' ((conv=>whnf);first|refine qw hk ?_|(exact ⟨i+1,h,hmu,by (repeat' (first|exact trivial|exact LeV.same _|exact rfl|exact fun _ _ _=>trivial|exact lI|refine And.intro ?_ ?_));done⟩)|refine nT_ ?_|refine aS ?_|fail)
  ·have hlt: ¬(i:Int)<((gs.map sF).length:Int):=by omega
   repeat' ((conv=>whnf);first|refine qu hlt ?_|(exact ⟨(),trivial,by (repeat' (first|exact trivial|exact LeV.same _|exact rfl|exact fun _ _ _=>trivial|refine And.intro ?_ ?_));done⟩)|refine aS ?_|fail)
 rintro _ _
 have hbl:=B0 hwt
 have hbm:gs.length * (2 * 2^30)≤12 * (2 * 2^30):=Nat.mul_le_mul_right _ hle
 have c1:=zg gs tick hgl fun g hgm=>by have:=hwt g hgm;omega
 have c2:=y0 gs tick hgl fun g hgm=>by have:=hwt g hgm;omega
 have c3:=zU (gs.map (wa tick)) (gs.map (wa tick)) (by rw [List.length_map];omega) fun g hgm=>by
  obtain ⟨x,hx,rfl⟩:=List.mem_map.1 hgm
  have h1:=zu tick x.pol
  have h2:=hwt x hx
  exact ⟨by show (tf tick x.pol).wt<_;omega,by have:=(hg x hx).st.len;show x.st.key.length<_;omega⟩
 rw [uQ.2 rfl] at c3
 have c4:=x5 gs (by omega) (fun g hgm=>by have:=hwt g hgm;omega) (by omega)
 have c5:=AB gs (by omega) (fun g hgm=>by have:=hwt g hgm;omega) (by omega)
 have c6:=CW (uj gs) (by
  have:=xE (lt:=ltI) (l:=bounds gs)
  unfold uj;omega)
 generalize uj gs=bs at *
 generalize gs.map (wa tick)=fs at *
 repeat' ((conv=>whnf);first|exact trivial|refine rE _ (c1) ?_|refine rE _ (c2) ?_|refine rE _ (c3) ?_|refine rE _ (c4) ?_|refine rE _ (c5) ?_|refine rE _ (c6) ?_|refine rb1 ?_|fail)
end Go.TY
end
