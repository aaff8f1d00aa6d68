/- Joined by program: parts of a data level over the model, of the program's functions over it, and of the statement's proof. -/
import Derived.Test.YtdfkadeceaepeaaGreatDoorGd
import Derived.Test.YtdfkadeceaepeaaGreatDoorGe
import Derived.Test.YtdfkadeceaepeaaGreatDoorGc
import Derived.Test.YtdfkadeceaepeaaGreatDoorProg
import Derived.KernelRfl
set_option maxRecDepth 100000
set_option maxHeartbeats 8000000
section
namespace Go.TY
open Go Go.DL Go.MM Go.Proofs
inductive LeC:List T→List T→Prop
 |nil:LeC [] []
 |same (t:T) {ts us:List T} (h:LeC ts us):LeC (t::ts) (t::us)
 |none (n:Nat) {ts us:List T} (h:LeC ts us):LeC (.nil::ts) (.slice n []::us)
theorem LeC.len: ∀{ts us:List T},LeC ts us→ts.length=us.length
 |_,_,.nil=>rfl
 |_,_,.same _ h=>congrArg (· +1) h.len
 |_,_,.none _ h=>congrArg (· +1) h.len
theorem LeC.get: ∀{ts us:List T},LeC ts us→ ∀{i:Nat} {u:T},us[i]? =some u→ts[i]? =some u∨ ∃n,ts[i]? =some .nil∧u= .slice n []
 |_,_,.nil,i,u,h=>by simp at h
 |_,_,.same t h,i,u,hu=>by
  cases i with
  |zero=>exact .inl hu
  |succ i=>simpa using h.get (by simpa using hu)
 |_,_,.none n h,i,u,hu=>by
  cases i with
  |zero=>simp at hu;exact .inr ⟨n,rfl,hu.symm⟩
  |succ i=>simpa using h.get (by simpa using hu)
theorem Rep.leC {S:ar} {w:World} {v:Value} {ts us:List T} (h:Rep S w v (.agg ts)) (hl:LeC ts us):Rep S w v (.agg us):=by
 cases h with
 |agg cs _ hs h1 h=>
  refine .agg cs us (hs.trans hl.len) (fun t ht=>?_) fun i x u hx hu=>?_
  ·obtain ⟨i,hi⟩:=List.mem_iff_getElem?.1 ht
   rcases hl.get hi with e|⟨n,_,rfl⟩
   ·exact h1 t (List.mem_of_getElem? e)
   ·rfl
  ·rcases hl.get hu with e|⟨n,e,rfl⟩
   ·exact h i x u hx e
   ·exact Rep.kn n (h i x .nil hx e)
theorem EN {P:Program} {f:FuncId} {xs ts us:List T} (h:DCalls P f xs (.agg ts)) (hl:LeC ts us):DCalls P f xs (.agg us):=h.res fun _ _ _ h=>Rep.leC h hl
theorem B3 {us:List T} (h:us.length=5): ∃a b c d e,us=[a,b,c,d,e]:=by
 match us,h with
 |[a,b,c,d,e],_=>exact ⟨a,b,c,d,e,rfl⟩
mutual
def wG (tick:Int):RP→RP
 |.mk k f n m a=>if k=9 then (if n≤tick∧tick<m then .mk 1 e0 0 0 [] else .mk 2 e0 0 0 []) else .mk k f n m (zI tick a)
def zI (tick:Int):List RP→List RP
 |[]=>[]
 |r::rs=>wG tick r::zI tick rs
end
theorem zZ (tick:Int): ∀l:List RP,zI tick l=l.map (wG tick)
 |[]=>rfl
 |r::rs=>congrArg (wG tick r:: ·) (zZ tick rs)
theorem t62 (tick:Int) (N:Nat): ∀r:RP,r.nodes≤N→N<2^40→DCalls Tryz.prog 52 [.agg (sB r),I tick] (.agg (sB (wG tick r))):=by
 induction N with
 |zero=>intro r h;have:=r.uc;omega
 |succ N ih=>
  rintro ⟨k,f,n,m,l⟩ hr hN
  simp only [RP.nodes,wG] at hr ⊢
  have go: ∀x,wpC Tryz.prog c52 (eU [.agg (sB (.mk k f n m l)),I tick]) (nW (dF Tryz.prog) [.cell 4 25] [x])→DCalls Tryz.prog 52 [.agg (sB (.mk k f n m l)),I tick] x:=fun x h=>
   qO (rs:=[.cell 4 25]) mixed Tryz.func52 l52 rfl rfl rfl (r:=[x]) (nlZ rfl) h
  by_cases hk:k=9
  ·rw [if_pos hk]
   by_cases hc:n≤tick∧tick<m
   ·rw [if_pos hc]
    refine EN (go (.agg [I 1,nm0,I 0,I 0,.nil]) ?_) (.same _ (.same _ (.same _ (.same _ (.none _ .nil)))))
    repeat' ((conv=>whnf);first|exact trivial|refine nT_ ?_|refine aE1 ?_|refine aD1 ?_|refine aS ?_|fail)
   ·rw [if_neg hc]
    refine EN (go (.agg [I 2,nm0,I 0,I 0,.nil]) ?_) (.same _ (.same _ (.same _ (.same _ (.none _ .nil)))))
    repeat' ((conv=>whnf);first|exact trivial|refine nT_ ?_|refine aE1 ?_|refine aD0 ?_|refine nD_ (fun hq=>?_) (fun hq=>?_)|refine aS ?_|fail)
    all_goals (exfalso;omega)
  ·rw [if_neg hk]
   have hl:=tU l
   refine go _ ?_
   repeat' ((conv=>whnf);first|refine nT_ ?_|refine aE0 ?_|refine aS ?_|fail)
   refine qZ 0 (α:=Nat) (β:=Unit) (fun q=>{sl:=[(1,.t (I tick)),(2,.ptr 2 0),(4,.ptr 4 0),(5,.own 35 25 5 ((l.take q).map fun x=>.agg (sB (wG tick x)))),(24,.t (.slice 5 (l.map sL))),(25,.t (I l.length)),(26,.t (I q))],bx:=[(2,.d 5 (sB (.mk k f n m l))),(4,.d 5 [I 0,nm0,I 0,I 0,.nil])]})
    (fun q=>q≤l.length) (fun q=>l.length - q) (fun _=>{sl:=[(2,.ptr 2 0),(4,.ptr 4 0),(5,.t (.slice 5 (l.map fun x=>.agg (sB (wG tick x)))))],bx:=[(2,.d 5 (sB (.mk k f n m l))),(4,.d 5 [I 0,nm0,I 0,I 0,.nil])]}) (fun _=>True) 0 (by simp) ?_ ?_ ?_
   ·repeat' (first|exact trivial|exact LeV.same _|exact LeB.same _|exact rfl|exact fun _ _ _=>trivial|exact lI|exact LeV.nil _ _ _|refine And.intro ?_ ?_)
   ·rintro i hi
    rcases Nat.lt_or_ge i l.length with h|h
    ·have hn:=tG h
     have hm:=tF (l:=l) (j:=i+1)
     have hc:=ih l[i] (by omega) (by omega)
     have hcl:=sD (wG tick l[i])
     have hg:(l.map sL)[i]?.getD .nil= .agg (sB l[i]):=by simp [h,sF]
     have ht:l.take (i+1)=l.take i++[l[i]]:=by rw [List.take_succ_eq_append_getElem h]
     generalize l[i]=x at *
     obtain ⟨xk,xf,xn,xm,xl⟩:=x
     repeat' ((conv=>whnf);first|(refine nv_ (.agg (sB (.mk xk xf xn xm xl))) (by first|exact hg|fail) ?_)|refine rE _ (hc) ?_|refine nT_ ?_|refine aD1 ?_|(refine And.intro (by first|exact hcl|exact ⟨trivial,hcl⟩|((simp only [List.length_map,List.length_take,List.length_cons,List.length_nil];omega);done)|fail) ?_)|refine aS ?_|fail)
     refine ⟨i+1,h,by omega,?_⟩
     repeat' (first|(exact rX (by rw [ht];simp))|exact trivial|exact LeV.same _|exact LeB.same _|exact rfl|exact fun _ _ _=>trivial|exact lI|refine And.intro ?_ ?_)
    ·have:i=l.length:=by omega
     subst this
     rw [List.take_length]
     repeat' ((conv=>whnf);first|(exact ⟨(),trivial,by (repeat' (first|(exact LeV.data _ _ _ _)|exact trivial|exact LeV.same _|exact LeB.same _|exact rfl|exact fun _ _ _=>trivial|refine And.intro ?_ ?_));done⟩)|refine aD0 ?_|refine aS ?_|fail)
   ·rintro _ _
    have e:(l.map fun x=>T.agg (sB (wG tick x)))=(zI tick l).map sL:=by rw [zZ,List.map_map];exact List.map_congr_left fun x _=>(sF _).symm
    rw [e]
    repeat' ((conv=>whnf);first|exact trivial|refine aS ?_|fail)
    all_goals exact ⟨congrArg some rfl,trivial⟩
mutual
def vB (tick:Int):RO→RO
 |.mk k p f n a=>.mk k (wG tick p) f n (yP tick a)
def yP (tick:Int):List RO→List RO
 |[]=>[]
 |r::rs=>vB tick r::yP tick rs
end
theorem z7 (tick:Int): ∀l:List RO,yP tick l=l.map (vB tick)
 |[]=>rfl
 |r::rs=>congrArg (vB tick r:: ·) (z7 tick rs)
abbrev Eu (tick:Int):T:=.knot 103 [.cptr [I tick] 0] []
theorem t61 (tick:Int) (N:Nat): ∀r:RO,r.wt≤N→N<2^40→DCalls Tryz.prog 103 [.agg (sA r),.cptr [I tick] 0,Eu tick] (.agg (sA (vB tick r))):=by
 induction N with
 |zero=>intro r h;have:=r.we;omega
 |succ N ih=>
  rintro ⟨k,⟨pk,pf,pn,pm,pa⟩,f,n,l⟩ hr hN
  simp only [RO.wt,vB] at hr ⊢
  have h62:=t62 tick _ (.mk pk pf pn pm pa) (Nat.le_refl _) (by omega)
  obtain ⟨c0,c1,c2,c3,c4,he⟩:=B3 (sD (wG tick (.mk pk pf pn pm pa)))
  rw [he] at h62
  simp only [sA]
  rw [he]
  have hl:=uK l
  refine qO (rs:=[.cell 4 28]) mixed Tryz.func103 Lx rfl rfl rfl (r:=[.agg (I k::([c0,c1,c2,c3,c4]++[.str f,I n,.slice 9 ((yP tick l).map sZ)]))]) (nlZ rfl) ?_
  repeat' ((conv=>whnf);first|refine rE _ (h62) ?_|refine nT_ ?_|refine aS ?_|fail)
  refine qZ 0 (α:=Nat) (β:=Unit) (fun q=>{sl:=[(2,.t (Eu tick)),(3,.ptr 3 0),(4,.ptr 4 0),(5,.own 25 28 9 ((l.take q).map fun x=>.agg (sA (vB tick x)))),(14,.t (.slice 9 (l.map sZ))),(15,.t (I l.length)),(16,.t (I q))],bx:=[(3,.d 9 (I k::([c0,c1,c2,c3,c4]++[.str f,I n,.slice 9 (l.map sZ)]))),(4,.d 9 [I 0,I 0,nm0,I 0,I 0,.nil,nm0,I 0,.nil])]})
   (fun q=>q≤l.length) (fun q=>l.length - q) (fun _=>{sl:=[(3,.ptr 3 0),(4,.ptr 4 0),(5,.t (.slice 9 (l.map fun x=>.agg (sA (vB tick x)))))],bx:=[(3,.d 9 (I k::([c0,c1,c2,c3,c4]++[.str f,I n,.slice 9 (l.map sZ)]))),(4,.d 9 [I 0,I 0,nm0,I 0,I 0,.nil,nm0,I 0,.nil])]}) (fun _=>True) 0 (by simp) ?_ ?_ ?_
  ·repeat' (first|exact trivial|exact LeV.same _|exact LeB.same _|exact rfl|exact fun _ _ _=>trivial|exact lI|exact LeV.nil _ _ _|refine And.intro ?_ ?_)
  ·rintro i hi
   rcases Nat.lt_or_ge i l.length with h|h
   ·have hn:=uh h
    have hm:=tV (l:=l) (j:=i+1)
    have hc:=ih l[i] (by omega) (by omega)
    have hcl:=sE (vB tick l[i])
    have hg:(l.map sZ)[i]?.getD .nil= .agg (sA l[i]):=by simp [h,sJ]
    have ht:l.take (i+1)=l.take i++[l[i]]:=by rw [List.take_succ_eq_append_getElem h]
    generalize l[i]=x at *
    obtain ⟨xk,⟨yk,yf,yn,ym,ya⟩,xf,xn,xl⟩:=x
    repeat' ((conv=>whnf);first|(refine nv_ (.agg (sA (.mk xk (.mk yk yf yn ym ya) xf xn xl))) (by first|exact hg|fail) ?_)|refine rE _ (hc) ?_|refine nT_ ?_|refine aD1 ?_|(refine And.intro (by first|exact hcl|exact ⟨trivial,hcl⟩|((simp only [List.length_map,List.length_take,List.length_cons,List.length_nil];omega);done)|fail) ?_)|refine aS ?_|fail)
    refine ⟨i+1,h,by omega,?_⟩
    repeat' (first|(exact rX (by rw [ht];simp))|exact trivial|exact LeV.same _|exact LeB.same _|exact rfl|exact fun _ _ _=>trivial|exact lI|refine And.intro ?_ ?_)
   ·have:i=l.length:=by omega
    subst this
    rw [List.take_length]
    repeat' ((conv=>whnf);first|(exact ⟨(),trivial,by (repeat' (first|(exact LeV.data _ _ _ _)|exact trivial|exact LeV.same _|exact LeB.same _|exact rfl|exact fun _ _ _=>trivial|refine And.intro ?_ ?_));done⟩)|refine aD0 ?_|refine aS ?_|fail)
  ·rintro _ _
   have e:(l.map fun x=>T.agg (sA (vB tick x)))=(yP tick l).map sZ:=by rw [z7,List.map_map];exact List.map_congr_left fun x _=>(sJ _).symm
   rw [e]
   repeat' ((conv=>whnf);first|exact trivial|refine aS ?_|fail)
   all_goals exact ⟨congrArg some rfl,trivial⟩
theorem t39 (tick:Int) (r:RO) (hr:r.wt<2^39):DCalls Tryz.prog 49 [.agg (sA r),I tick] (.agg (sA (vB tick r))):=by
 refine qO (rs:=[.cell 4 28]) mixed Tryz.func49 l49 rfl rfl rfl (r:=[.agg (sA (vB tick r))]) (nlZ rfl) ?_
 have h61:=t61 tick _ r (Nat.le_refl _) (by omega)
 repeat' ((conv=>whnf);first|(refine And.intro (by first|exact sE _|fail) ?_)|refine aS ?_|fail)
 refine rA (β:=Unit) (fun _=>{sl:=[(2,.ptr 2 0),(4,.ptr 4 0),(5,.t (Eu tick))],bx:=[(2,.d 9 (sA r)),(4,.d 9 [I 0,I 0,nm0,I 0,I 0,.nil,nm0,I 0,.nil])]}) (fun _=>True) ?_ ?_
 ·repeat' ((conv=>whnf);first|(exact ⟨(),trivial,by (repeat' (first|(exact LeV.knot 5 103 [.ptr 3 0] [] _ [3] _ [] rfl rfl rfl (by simp [Wk.keys]))|exact trivial|exact LeV.same _|exact LeB.same _|exact rfl|exact fun _ _ _=>trivial|refine And.intro ?_ ?_));done⟩)|refine aS ?_|fail)
 rintro _ _
 obtain ⟨k,p,f,n,a⟩:=r
 generalize vB tick (.mk k p f n a)=q at *
 obtain ⟨qk,⟨pk,pf,pn,pm,pa⟩,qf,qn,qa⟩:=q
 repeat' ((conv=>whnf);first|exact trivial|refine rE _ (h61) ?_|refine aS ?_|fail)
 all_goals exact ⟨congrArg some rfl,trivial⟩
end Go.TY
end
section
namespace Go.TY
open Go Go.DL Go.MM Go.Proofs
end Go.TY
end
noncomputable section
namespace Go.TY
open Go Go.DL Go.MM Go.Proofs
abbrev eni:Int→T:=I
abbrev mpi (ks:List Int) (vs:List T):T:=.mapd false [.int .i64] (ks.map eni) vs
def tJ (id:Nat) (c:Option Code):Array Oper:=match rg0 id c with
 |.region _ ops _=>ops
 |_=> #[]
abbrev fAi:Option Code:=Tryz.f159.body
abbrev fKi:Option Code:=Tryz.f136.body
theorem bAi:fAi=some (.seq (.region 0 (tJ 0 fAi) false) (.seq (.seq (.region 1 (tJ 1 fAi) false)
  (.block 0 (.rangeFunc (.tmp 6) #[7] (.region 2 (tJ 2 fAi) false) (.block 1 (.region 3 (tJ 3 fAi) false))))) (.seq (.region 4 (tJ 4 fAi) false) .ret))):=by kernel_rfl
abbrev ID:List DI:=[⟨some 5,.mov (.tmp 7),none,[]⟩]
abbrev IG:List DI:=[⟨some 8,.load 1 false (.tmp 2),none,[]⟩,⟨some 9,.mov (.tmp 5),none,[]⟩,⟨some 10,.buildS 3 1 1 [.int .i64 0] [(0,.tmp 9)],none,[1]⟩,
 ⟨some 11,.append 46 3 1 8 (.tmp 8) (.tmp 10),none,[0,2]⟩,⟨none,.store 1 (.tmp 2) (.tmp 11),none,[3,3,0,1,2,3]⟩]
theorem H5:bX Tryz.prog 13 [] (tJ 0 fAi) (tJ 0 fAi).toList=some [⟨some 2,.box 1 (.tmp 0),none,[]⟩,⟨some 4,.mov (.const .nil),none,[]⟩]:=by kernel_rfl
theorem H8:bX Tryz.prog 13 [] (tJ 1 fAi) (tJ 1 fAi).toList=some [⟨some 6,.mov (.tmp 1),none,[]⟩]:=by kernel_rfl
theorem Ib:bX Tryz.prog 13 [] (tJ 2 fAi) (tJ 2 fAi).toList=some ID:=by kernel_rfl
theorem Ig:bX Tryz.prog 13 [] (tJ 3 fAi) (tJ 3 fAi).toList=some IG:=by kernel_rfl
theorem Ij:bX Tryz.prog 13 [] (tJ 4 fAi) (tJ 4 fAi).toList=some [⟨some 12,.load 1 false (.tmp 2),none,[]⟩,⟨some 4,.mov (.tmp 12),none,[0,0]⟩]:=by kernel_rfl
abbrev yKi:Array Oper:=tJ 3 fKi
theorem bKi:rg0 3 fKi= .region 3 yKi false:=by kernel_rfl
theorem Im:dW Tryz.prog 14 yKi [0,1]=some [⟨some 10,.mov (.tmp 0),none,[]⟩,⟨some 11,.mov (.tmp 3),none,[]⟩]:=by kernel_rfl
theorem Iq:dW Tryz.prog 14 yKi [3]=some [⟨some 13,.not (.tmp 12),none,[2]⟩]:=by kernel_rfl
theorem Iu: ∃o ats,yKi[2]? =some o∧o.guard=none∧o.op= .call {callee:=.value (.tmp 10),args:= #[.tmp 11],argTypes:=ats }∧o.dst=some 12:=by
 refine ⟨((tJ 3 fKi)[2]?).getD default,(match (((tJ 3 fKi)[2]?).getD default).op with|.call c=>c.argTypes|_=> #[]),by kernel_rfl,by kernel_rfl,by kernel_rfl,by kernel_rfl⟩
abbrev Gx (l d:Nat) (f:FuncId) (tmps:Array Value):aa→World→Prop:=nr l (cW f tmps 7 (.region 2 (tJ 2 fAi) false) (.block 1 (.region 3 (tJ 3 fAi) false)) d)
abbrev WKi (l:Nat) (C:aa→World→Prop) (ks:List Int) (vs:List T) (ix:List Nat):Wk:=
 {sl:=[(0,.raw (.func (.yield l) #[] #[])),(5,.ptr 2005 0)],bx:=[(2,.v [.own 3011 3 1 (zk eni 0 ks ix)]),(2005,.itd (esK eni ks vs) ix)],gh:=[(0,[(2,.ptr 2 0)])],off:=2000,cx:=C }
theorem Gl (l d:Nat) (f:FuncId) (tmps:Array Value) (ht:tmps.size=13) (ks:List Int) (vs:List T) (hvs:vs.length=ks.length) (hl:ks.length<2^40) (st0:St)
  (h0:st0=({sl:=[(2,.ptr 2 0),(6,.fn 136 [.t (.cptr [mpi ks vs] 0)])],bx:=[(2,.v [.own 3011 3 1 []])]}:Wk).mk'):
  wpC Tryz.prog Gi (st0.iter l (cW f tmps 7 (.region 2 (tJ 2 fAi) false) (.block 1 (.region 3 (tJ 3 fAi) false)) d) [.t (.cptr [mpi ks vs] 0)] 2000)
   (qK st0 fun st=>st.sl 2= .ptr 2 0∧(∃ xs,um eni 0 ks xs∧st.bx 2=some (.v [.own 3011 3 1 xs]))∧ ∀S w,st.cx S w):=by
 subst h0
 have hes:(esK eni ks vs).length=ks.length:=by simp [hvs]
 repeat' ((conv=>whnf);first|refine nT_ ?_|refine aS ?_|fail)
 refine qZ 0 (α:=List Nat) (β:=List Nat) (fun ix=>WKi l (Gx l d f tmps) ks vs ix) (fun ix=>ix.Nodup∧ ∀j∈ix,j<ks.length) (fun ix=>ks.length - ix.length)
  (fun ix=>WKi l (Gx l d f tmps) ks vs ix) (fun ix=>ix.Perm (List.range ks.length)) [] ⟨List.nodup_nil,by simp⟩ ?_ ?_ ?_
 ·exact ⟨⟨.same _,.same _,trivial⟩,⟨.same _,.same _,trivial⟩,⟨⟨.same _,trivial⟩,trivial⟩,rfl,fun _ _ h=>h,rfl⟩
 ·rintro ix ⟨hnd,hix⟩
  refine And.intro (fun j hj=>by rw [hes];exact hix j hj) (And.intro ?_ ?_)
  ·intro j e he hj
   obtain ⟨he1,hjl⟩:=zi (d:=0) he
   have hent:=yI _ ix j e he
   have hje:(ix++[j]).getLast?.getD 0<(esK eni ks vs).length:=by rw [List.getLast?_concat,hes];exact hjl
   obtain ⟨e1,e2⟩:=e
   dsimp only at he1 hent
   subst he1
   have hixl:ix.length≤ks.length:=by
    have:=hnd.length_le_of_subset (l₂:=List.range ks.length) (fun j hj=>List.mem_range.2 (hix j hj))
    simpa using this
   have hnd':(ix++[j]).Nodup:=by
    rw [List.nodup_append]
    exact ⟨hnd,by simp,fun a ha b hb=>by rw [List.mem_singleton.1 hb];exact fun e=>hj (e▸ha)⟩
   have hix': ∀i∈ix++[j],i<ks.length:=fun i hi=>by
    rcases List.mem_append.1 hi with h|h
    ·exact hix i h
    ·rw [List.mem_singleton.1 h];exact hjl
   have hixl':(ix++[j]).length≤ks.length:=by
    have:=hnd'.length_le_of_subset (l₂:=List.range ks.length) (fun j hj=>List.mem_range.2 (hix' j hj))
    simpa using this
   repeat' ((conv=>whnf);first|refine nv_ (.tup [eni (ks.getD j 0),e2]) hent ?_|(refine And.intro (by first|exact ⟨by simp,hje⟩|fail) ?_)|fail)
   obtain ⟨o,ats,o1,o2,o3,o4⟩:=Iu
   have hsem: ∀(st:St) (Q:aB→St→Prop),p0 Tryz.prog 14 (.region 3 yKi false) st Q→p0 Tryz.prog 14 (rg0 3 fKi) st Q:=fun st Q h=>by rw [bKi];exact h
   refine hsem _ _ ?_
   refine q0 (P:=Tryz.prog) (k1:=[0,1]) (k:=2) (k2:=[3]) (by kernel_rfl) Im rfl Iq rfl o1 o2 o3 o4 (by decide) (p:=7) ht (by decide) Ib rfl Ig rfl 3000 (l:=l) (fn:=f) (dd:=d) (id1:=2) (id2:=3) (bl:=1) ?_
   refine ⟨fun _ _ h=>h,rfl,?_⟩
   repeat' ((conv=>whnf);first|(refine And.intro (by first|exact fun _ _=>trivial|exact ⟨rfl,nlZ rfl⟩|((simp;omega);done)|exact .inl rfl|fail) ?_)|refine aS ?_|fail)
   refine ⟨ix++[j],⟨hnd',hix'⟩,by rw [List.length_append];simp at hixl' ⊢;omega,?_⟩
   refine ⟨⟨.same _,.same _,trivial⟩,⟨?_,.same _,trivial⟩,⟨⟨.same _,trivial⟩,trivial⟩,rfl,fun _ _ h=>h,rfl⟩
   refine .v _ _ ⟨rX ?_,trivial⟩
   simp [zk]
  ·intro hall
   skip
   refine ⟨ix,xN hnd hix (fun j hj=>hall j (by rw [hes];exact hj)),?_⟩
   exact ⟨⟨.same _,.same _,trivial⟩,⟨.same _,.same _,trivial⟩,⟨⟨.same _,trivial⟩,trivial⟩,rfl,fun _ _ h=>h,rfl⟩
 rintro ix hp
 repeat' ((conv=>whnf);first|refine aS ?_|fail)
 exact ⟨⟨_,⟨ix,hp,rfl⟩,rfl⟩,fun _ _=>trivial⟩
abbrev vk (ks:List Int) (vs:List T):T:=.clos 136 [.cptr [mpi ks vs] 0]
theorem zR (ks:List Int) (vs:List T) (hvs:vs.length=ks.length) (hl:ks.length<2^40):fK Tryz.prog 159 [.nil,vk ks vs] 3 1 (um eni 0 ks):=by
 refine qm Tryz.func159 bAi rfl (nlZ rfl) ?_
 intro S w a0 hsr hdf
 let K0:St→Prop:=fun st=>aA Tryz.prog [⟨some 6,.mov (.tmp 1),none,[]⟩] st fun st=>
  bP {sl:=[(2,.ptr 2 0),(6,.t (vk ks vs))],bx:=[(2,.d 1 [.nil])]} st
 have hK0:aA Tryz.prog [⟨some 2,.box 1 (.tmp 0),none,[]⟩,⟨some 4,.mov (.const .nil),none,[]⟩] (eU [.nil,vk ks vs]) K0:=by
  repeat' ((conv=>whnf);first|refine aS ?_|fail)
  exact ⟨⟨.same _,.same _,trivial⟩,⟨.same _,trivial⟩,trivial,rfl,fun _ _ _=>trivial,rfl⟩
 refine wp_seq (nE (X:=[]) (N:=13) hsr H5 (fun a1 w1 h1=>?_) hK0)
 obtain ⟨E1,s1,rfl,k1,k2,k3⟩:=h1
 refine wp_seq (wp_seq (nE (X:=[]) k1 H8 (fun a2 w2 h2=>?_) k3))
 obtain ⟨E2,s2,rfl,k4,k5,k6⟩:=h2
 obtain ⟨E3,e3,k7⟩:=k4.bP k6
 rw [← e3]
 have k8:=k7.rG (k:=6) (k7.sl 6).rv
 obtain ⟨E4,e4,k10⟩:=SR.bP (a:=a2) (s:={sl:=[(2,.ptr 2 0),(6,.fn 136 [.t (.cptr [mpi ks vs] 0)])],bx:=[(2,.v [.own 3011 3 1 []])]}) k8 ⟨⟨.same _,.same _,trivial⟩,⟨.dv _ _ _ ⟨.nil _ _ _,trivial⟩,trivial⟩,trivial,rfl,fun _ _ _=>trivial,rfl⟩
 rw [← e4]
 refine wp_block ?_
 refine rh mixed k10 (fun _ _=>trivial) (y:=.tmp 6) rfl (gf:=136) (caps:=[.t (.cptr [mpi ks vs] 0)]) rfl Tryz.func136 L0 rfl rfl rfl (nlZ rfl) 2000
  (K:=fun st=>st.sl 2= .ptr 2 0∧(∃ xs,um eni 0 ks xs∧st.bx 2=some (.v [.own 3011 3 1 xs]))∧ ∀S w,st.cx S w) (fun l d f tmps ht=>?_) (fun a5 w5 h5=>?_)
 ·exact Gl l d f tmps ht ks vs hvs hl _ rfl
 ·obtain ⟨S0',E5,s5,D,rfl,q1,q2,q3,q4,q5,q6,r1,⟨xs,hxs,r2⟩,r3⟩:=h5
  have q6':a5.defers=[{target:=.collected D,args:= #[]}]:=by rw [q6,k5,k2,hdf]
  show Code.wp _ _ _ _ _
  refine wp_seq (nE (X:=[]) q1 Ij (K:=fun st=>(∀ S w,st.cx S w)∧st.sl 4= .own 3011 3 1 xs) (fun a6 w6 h6=>?_) ?_)
  ·obtain ⟨E6,s6,rfl,p1,p2,p3,p4⟩:=h6
   obtain ⟨js,hjs,rfl⟩:=hxs
   refine wp_ret ⟨.inr rfl,S0',E6,s6,D,rfl,p1,q2,q3,q4,q5,by rw [p2,q6'],p3,_,_,⟨js,hjs,rfl⟩,vd (fun _=>rfl) (fun _=>rfl) js ks,?_,.inl ⟨3011,rfl⟩⟩
   have:dP s6 Tryz.f159.results.toList=some [s6.sl 4]:=by
    rw [show Tryz.f159.results.toList=[.tmp 4] from rfl];rfl
   rw [this,p4]
  ·obtain ⟨sl5,bx5,gh5,off5,cx5⟩:=s5
   dsimp only at r1 r2 r3
   obtain ⟨g,rfl⟩: ∃g,sl5=upd g 2 (.ptr 2 0):=⟨sl5,(uA r1).symm⟩
   obtain ⟨b,rfl⟩: ∃b,bx5=upd b 2 (some (.v [.own 3011 3 1 xs])):=⟨bx5,(uA r2).symm⟩
   exact ⟨r3,rfl⟩
theorem BS (ks:List Int) (vs:List T) (hvs:vs.length=ks.length) (hl:ks.length<2^40):fK Tryz.prog 134 [vk ks vs] 3 1 (um eni 0 ks):=by
 refine qG (rs:=[.tmp 2]) mixed Tryz.func134 LZ rfl rfl rfl (nlZ rfl) ?_
 repeat' ((conv=>whnf);first|refine ru (ts:=[.nil,vk ks vs]) rfl (zR ks vs hvs hl) (fun xs hx=>?_)|fail)
 obtain ⟨js,hjs,rfl⟩:=hx
 exact ⟨_,_,⟨js,hjs,rfl⟩,vd (fun _=>rfl) (fun _=>rfl) js ks,rfl,.inl ⟨_,rfl⟩⟩
theorem D9:iz Tryz.prog 135 (Value.int .i64) (fun x y:Int=>decide (x≤y)):=iz.int Tryz.FW rfl (bQ Tryz.func135 rfl rfl)
theorem zx (ks:List Int) (vs:List T) (hvs:vs.length=ks.length) (hl:ks.length<2^40) (hn:ks.Nodup):kI Tryz.prog 91 [vk ks vs] (.slice 1 ((yL ks).map eni)):=by
 refine qS (rs:=[.tmp 2]) mixed Tryz.func91 l91 rfl rfl rfl (nlZ rfl) ?_
 repeat' ((conv=>whnf);first|refine rf (ts:=[vk ks vs]) rfl (BS ks vs hvs hl) rfl (fun h0=>?_) (fun xs hx hc=>?_)|fail)
 ·obtain ⟨zs,hp,h0⟩:=ve h0
  have:zs=[]:=by
   cases zs with
   |nil=>rfl
   |cons z zs=>cases h0
  subst this
  have:ks=[]:=List.nil_perm.1 hp
  subst this
  repeat' ((conv=>whnf);first|refine qc D9 ?_|fail)
  exact ⟨.t .nil,rfl,.nil 1⟩
 ·obtain ⟨zs,hp,rfl⟩:=ve hx
  have hzl:zs.length<2^40:=by rw [hp.length_eq];exact hl
  have hfl:=zH (enc:=eni) (fun _=>rfl) zs
  have hle:(zs.map eni).length=zs.length:=List.length_map _
  have hsl:(yL ks).length=zs.length:=by
   have e:=congrArg List.length (congrArg (List.map I) (BB hn hp))
   simp only [List.length_map,List.length_mergeSort] at e
   omega
  repeat' ((conv=>whnf);first|(refine re (n:=5) (off:=0) (len:=(zs.map eni).length) (m:=(zs.map eni).length * 1) (ts:=(zs.map eni).flatMap T.cells) (encT:=I) D9 rfl zs ?_ ?_ (by omega) (fun a S w v h=>by cases h;rfl) (fun a S w=>.int _ _) (fun _=>rfl) ?_)|fail)
  ·rw [hfl,List.drop_zero,List.take_of_length_le (by omega)]
  ·simp
  ·skip
   have e:=congrArg (List.map I) (BB hn hp)
   refine ⟨.view 5 0 (zs.map eni).length 1,rfl,.view 5 0 (zs.map eni).length 1 ((zs.map eni).length * 1) (aN ((zs.map eni).flatMap T.cells) 0 (zs.map eni).length ((zs.mergeSort (fun x y:Int=>decide (x≤y))).map I)) _ [5] rfl ?_ ?_⟩
   ·rw [vf (by rw [hfl]),e]
    intro t ht
    obtain ⟨z,_,rfl⟩:=List.mem_map.1 ht
    rfl
   ·show (cond (Nat.blt 0 1&&Nat.ble (0+(zs.map eni).length * 1) ((zs.map eni).length * 1)) (some (T.slice 1 (chunk 1 (zs.map eni).length ((aN ((zs.map eni).flatMap T.cells) 0 (zs.map eni).length ((zs.mergeSort (fun x y:Int=>decide (x≤y))).map I)).drop 0)),[5])) none)=_
    rw [vf (by rw [hfl]),e,Nat.zero_add,List.drop_zero,yg _ _ (by rw [List.length_map];omega)]
    have:Nat.ble ((zs.map eni).length * 1) ((zs.map eni).length * 1)=true:=Nat.ble_eq_true_of_le (Nat.le_refl _)
    rw [this]
    rfl
theorem BD (ks:List Int) (vs:List T):DCalls Tryz.prog 92 [mpi ks vs] (vk ks vs):=by
 refine qO (rs:=[.tmp 2]) mixed Tryz.func92 l92 rfl rfl rfl (r:=[vk ks vs]) (nlZ rfl) ?_
 repeat' ((conv=>whnf);first|exact trivial|refine aS ?_|fail)
end Go.TY
end
section
namespace Go.TY
open Go Go.DL Go.MM Go.Proofs
attribute [local irreducible] aI gR WCM YC
def bounds (gs:List RG):List Int:=gs.flatMap fun g=>A4 g.pol
def xd (gs:List RG):List Int:=uo ltI (bounds gs)
theorem yK {α:Type} [DecidableEq α]: ∀{a acc b:List α},once acc (a++b)=once (once acc a) b
 |[],_,_=>rfl
 |x::a,acc,b=>by
  rw [List.cons_append]
  exact yK (a:=a)
def wq (pre:List Int) (r:RO) (k:Nat):List Int:=once (once [] pre) (ta xB (tf r) k)
def vO (pre:List Int) (r:RO) (k:Nat):List (Nat×BX):=[(3,.v [.mp 7]),(7,.m false [.int .i64] (esI (wq pre r k)) none)]
theorem HJ (pre:List Int) (r:RO):ph (fun n=>10≤n∧n<100) 100 (fun _ _=>True) (vO pre r) (fun _ cx _=>cx=(fun _ _=>True)∧False) where
 fh:=fun n h=>h.2
 nm:=fun k p hp=>by
  simp only [vO,List.mem_cons,List.not_mem_nil,or_false] at hp
  rcases hp with rfl|rfl <;> exact ⟨by dsimp only;omega,by dsimp only;omega⟩
 nms:=fun c cx o ho=>ho.2.elim
 cov:=fun k k' p hp=>by
  simp only [vO,List.mem_cons,List.not_mem_nil,or_false] at hp ⊢
  rcases hp with rfl|rfl
  ·exact ⟨_,Or.inl rfl,rfl⟩
  ·exact ⟨_,Or.inr rfl,rfl⟩
 covs:=fun c cx o ho=>ho.2.elim
 safe:=fun k p hp=>by
  simp only [vO,List.mem_cons,List.not_mem_nil,or_false] at hp
  rcases hp with rfl|rfl
  ·intro c hc
   rw [List.mem_singleton.1 hc]
   exact .mp 7 ⟨(7,_),List.mem_cons_of_mem _ (List.mem_singleton.2 rfl),rfl⟩
  ·exact trivial
 safes:=fun c cx o ho=>ho.2.elim
 cxd:=fun c cx o ho=>ho.2.elim
 cxo_:=rT
 nd:=fun k=>by show ([3,7]:List Nat).Nodup;decide
abbrev SB (gs:List RG) (i:Nat):Wk:={sl:=[(3,.ptr 3 0),(8,.t (.slice 15 (gs.map tP))),(9,.t (I gs.length)),(10,.t (I i))],bx:=[(3,.v [.mp 7]),(7,.m false [.int .i64] (esI (once [] (bounds (gs.take i)))) none)]}
theorem AQ (gs:List RG) (hl:gs.length<2^39) (hg: ∀g∈gs,g.pol.wt<2^39) (hb:(bounds gs).length<2^40):DCalls Tryz.prog 57 [.slice 15 (gs.map tP)] (.slice 1 ((xd gs).map I)):=by
 refine qP Tryz.func57 Lp rfl (r:=[.slice 1 ((xd gs).map I)]) (nlZ rfl) ?_
 rw [show Tryz.f57.ntmps=31 from rfl,show Tryz.f57.results.toList=[.tmp 2] from rfl,k57]
 have hgl:((gs.map tP).length:Int)=(gs.length:Int):=by rw [List.length_map]
 refine aI.seq (IV ?_)
 skip
 refine aI.seq (I1 ?_)
 repeat' ((conv=>whnf);first|refine aS ?_|fail)
 refine aI.seq (aI.seq (I7 ?_))
 skip
 refine aI.bP (s:=SB gs 0) (by repeat' (first|(exact leI (by simp))|exact trivial|exact LeV.same _|exact LeB.same _|exact rfl|exact fun _ _ _=>trivial|refine And.intro ?_ ?_)) ?_
 refine aI.block (aI.loop (fun m s=> ∃i,i≤gs.length∧m=gs.length - i∧s=(SB gs i).mk') gs.length ⟨0,by omega,by omega,rfl⟩ ?_)
 rintro m s ⟨i,hi,rfl,rfl⟩
 refine aI.seq (Jd ?_)
 rcases Nat.lt_or_ge i gs.length with h|h
 case inr=>
  have:i=gs.length:=by omega
  subst this
  have e:SB gs gs.length=({sl:=[(3,.ptr 3 0),(8,.t (.slice 15 (gs.map tP))),(9,.t (I gs.length)),(10,.t (I gs.length))],bx:=[(3,.v [.mp 7]),(7,.m false [.int .i64] (esI (once [] (bounds gs))) none)]}:Wk):=by unfold SB;rw [List.take_length]
  rw [e]
  clear e
  have hol:=vE (l:=bounds gs) (acc:=[])
  have hnd:=uN (l:=bounds gs) (acc:=[]) List.nodup_nil
  have hfin:yL (once [] (bounds gs))=xd gs:=by
   unfold yL xd
   refine wU Ew fun x=>?_
   rw [vD]
   simp only [List.not_mem_nil,false_or]
  simp only [List.length_nil,Nat.zero_add] at hol
  generalize once [] (bounds gs)=ks at *
  have hk1:=BD ks (ks.map fun _=>T.bool true)
  have hk2:=(zx ks (ks.map fun _=>T.bool true) (by simp) (by omega) hnd).rD
  rw [hfin] at hk2
  repeat' ((conv=>whnf);first|refine aD0 ?_|refine aS ?_|fail)
  refine aI.seq (EP ?_)
  skip
  refine aI.bP (s:={sl:=[(3,.ptr 3 0)],bx:=[(3,.v [.t (mpi ks (ks.map fun _=>T.bool true))])]}) ⟨⟨.same _,trivial⟩,⟨.v _ _ ⟨.conv _ _ [7] ?_ (by simp [Wk.keys]),trivial⟩,trivial⟩,trivial,rfl,fun _ _ _=>trivial,rfl⟩ ?_
  ·show some (T.mapd false [.int .i64] ((esI ks).map (·.1)) ((esI ks).map (·.2)),[7])=_
   unfold esI
   rw [List.map_map,List.map_map];rfl
  refine GJ ?_
  repeat' ((conv=>whnf);first|refine rE _ (hk1) ?_|refine rE _ (hk2) ?_|fail)
  exact ⟨⟨rfl,trivial⟩,fun _ _=>trivial⟩
 obtain ⟨pre,hpre0⟩: ∃pre,pre=bounds (gs.take i):=⟨_,rfl⟩
 have e:SB gs i=({sl:=[(3,.ptr 3 0),(8,.t (.slice 15 (gs.map tP))),(9,.t (I gs.length)),(10,.t (I i))],bx:=[(3,.v [.mp 7]),(7,.m false [.int .i64] (esI (once [] pre)) none)]}:Wk):=by rw [hpre0]
 rw [e]
 clear e
 repeat' ((conv=>whnf);first|refine aD1 ?_|refine aS ?_|fail)
 refine aI.seq (EP ?_)
 skip
 have hgi:=hg gs[i] (List.getElem_mem h)
 have hpol:=uJ gs[i]
 have hG:tP gs[i]= .agg (sN gs[i]):=rfl
 have hpre:bounds (gs.take (i+1))=bounds (gs.take i)++A4 gs[i].pol:=by
  unfold bounds
  rw [List.take_succ_eq_append_getElem h,List.flatMap_append];simp
 rw [← hpre0] at hpre
 clear hpre0
 refine aI.seq (aI.block (aI.seq (Jo ?_)))
 repeat' ((conv=>whnf);first|(refine nv_ (.agg (sN gs[i])) (by first|((simp [h];rfl);done)|fail) ?_)|(refine And.intro (by first|exact ⟨sS _,nlZ rfl⟩|exact sS _|fail) ?_)|refine aS ?_|fail)
 have ht:=BG gs[i].pol
 rw [sP,uE] at ht
 refine aI.seq (Jp ?_)
 repeat' ((conv=>whnf);first|(refine nv_ (.agg (sA gs[i].pol)) (by first|exact congrArg T.agg hpol|fail) ?_)|refine rE _ (ht) ?_|refine aS ?_|fail)
 generalize gs[i].pol=r at *
 rw [← uE]
 refine aI.bP (s:={sl:=[(3,.ptr 3 0),(8,.t (.slice 15 (gs.map tP))),(9,.t (I gs.length)),(10,.t (I i)),(16,.t (.clos 130 [.cptr (sX r) 0]))],bx:=[(3,.v [.mp 7]),(7,.m false [.int .i64] (esI (once [] pre)) none)]}) (by repeat' (first|exact trivial|exact LeV.same _|exact LeB.same _|exact rfl|exact fun _ _ _=>trivial|refine And.intro ?_ ?_)) ?_
 have hlen:(sG r).length≤r.wt:=by rw [tc,ue];exact r.vY
 have hwt: ∀o∈sG r,o.wt≤r.wt:=by rw [tc];exact uH r
 refine aI.block (yA (N:=31) rfl r rfl 100 (fun n=>10≤n∧n<100) 100 (Nat.le_refl _) (by omega) (fun o ho=>by have h1:=hwt o ho;rw [ux,uv];obtain ⟨k,p,f,n,a⟩:=o;simp only [RO.wt] at h1;show p.nodes<_;omega) (fun n h=>rz fun p hp=>?_) (fun n h=>rz fun p hp=>?_) (by exact rU) (outs:=vO pre r) (stop:=fun _ cx _=>cx=(fun _ _=>True)∧False) ?_ (fun l0 D fn tmps hN=>?_) ?_ (fun c cx o h=>h.2.elim))
 ·simp only [List.mem_cons,List.not_mem_nil,or_false] at hp
  rcases hp with rfl|rfl <;> (dsimp only;omega)
 ·simp only [List.mem_cons,List.not_mem_nil,or_false] at hp
  rcases hp with rfl|rfl <;> (dsimp only;omega)
 ·intro q hq
  simp only [vO,List.mem_cons,List.not_mem_nil,or_false] at hq
  rcases hq with rfl|rfl <;> rfl
 ·refine dR.top (d:=6) (n:=5) (lo:=10) (hi:=100) (stop:=fun _ _=>False) (HJ pre r) (fun n h1 h2=>⟨h1,h2⟩) hN (by decide) (fun hw=>Jq hw) rfl (by decide) (by decide) (fun x hx=>?_) (fun k cs b G C hk hcs=>?_)
  ·obtain ⟨t,_,rfl⟩:=List.mem_map.1 hx
   exact ⟨_,sF t,sD t⟩
  rw [List.getElem?_map,Option.map_eq_some_iff] at hk
  obtain ⟨t,htk,hte⟩:=hk
  rw [sF] at hte
  obtain rfl:sB t=cs:=T.agg.inj hte
  have hfs:=vL (g:=xB) htk
  have hos:vO pre r k=[(3,.v [.mp 7]),(7,.m false [.int .i64] (esI (wq pre r k)) none)]:=rfl
  rw [hos]
  have hks:wq pre r (k+1)=once (wq pre r k) (xB t):=by unfold wq;rw [hfs,yK]
  have endN: ∀s:St,s.gh=G→s.cx=C→(∀ q, ¬(10≤q∧q<100)→s.bx q=aK b [(3,.v [.mp 7]),(7,.m false [.int .i64] (esI (wq pre r (k+1))) none)] q)→RB b G C 10 100 (vO pre r (k+1)) (fun _ _=>False) .normal s:=fun s h1 h2 h3=>⟨h1,h2,_,h3,rfl⟩
  generalize wq pre r (k+1)=ks' at *
  generalize wq pre r k=ks at *
  clear hte hos hfs
  refine Jr ?_
  obtain ⟨kd,f,n,m,args⟩:=t
  by_cases k9:kd=9
  ·have hmr:ks'=once ks [n,m]:=by rw [hks];unfold xB;exact congrArg (once ks) (if_pos k9)
   repeat' ((conv=>whnf);first|refine qx k9 ?_|refine nT_ ?_|(refine And.intro (by first|exact ⟨rfl,rfl,trivial⟩|fail) ?_)|refine aS ?_|fail)
   (conv=>whnf)
   refine endN _ rfl rfl fun q hq=>?_
   have hm:=qX (b:=b) hq
   by_cases h5:q=7
   ·subst h5
    show some (BX.m false [.int .i64] (bK (T.int .i64 m) (T.bool true) (bK (T.int .i64 n) (T.bool true) _)) none)=some (BX.m false [.int .i64] _ none)
    rw [yS,yS,hmr]
    rfl
   show cond (Nat.beq q 7) _ (cond (Nat.beq q 7) _ (cond (Nat.beq q 16) _ (cond (Nat.beq q 3) _ (cond (Nat.beq q 7) _ (gE 10 100 b q)))))=cond (Nat.beq q 3) _ (cond (Nat.beq q 7) _ (b q))
   rw [eS h5,eS (show q≠16 by omega),hm];rfl
  ·have hmr:ks'=ks:=by rw [hks];unfold xB;exact congrArg (once ks) (if_neg k9)
   subst hmr
   repeat' ((conv=>whnf);first|refine qw k9 ?_|refine nT_ ?_|refine aS ?_|fail)
   (conv=>whnf)
   refine endN _ rfl rfl fun q hq=>?_
   have hm:=qX (b:=b) hq
   show cond (Nat.beq q 16) _ (cond (Nat.beq q 3) _ (cond (Nat.beq q 7) _ (gE 10 100 b q)))=cond (Nat.beq q 3) _ (cond (Nat.beq q 7) _ (b q))
   rw [eS (show q≠16 by omega),hm];rfl
 ·have hes:vO pre r (tf r).length=[(3,.v [.mp 7]),(7,.m false [.int .i64] (esI (once [] (bounds (gs.take (i+1))))) none)]:=by
   unfold vO wq
   rw [wo,hpre,yK]
   unfold A4
   rw [Ag]
  rw [hes]
  refine Js ?_
  skip
  exact ⟨gs.length - (i+1),SB gs (i+1),by omega,by (repeat' (first|exact trivial|exact LeV.same _|exact LeB.same _|exact rfl|exact fun _ _ _=>trivial|exact lI|refine And.intro ?_ ?_)),i+1,by omega,rfl,rfl⟩
end Go.TY
end
section
namespace Go.TY
open Go Go.DL Go.MM
end Go.TY
end
section
namespace Go.TY
open Go Go.DL Go.MM Go.Proofs
end Go.TY
end
section
namespace Go.TY
open Go Go.DL Go.MM Go.Proofs
end Go.TY
end
section
namespace Go.TY
open Go Go.DL Go.MM
end Go.TY
end
section
namespace Go.TY
open Go Go.DL Go.MM
end Go.TY
end
section
namespace Go.TY
open Go Go.DL Go.MM Go.Proofs
theorem y9 (a b:ByteArray):sC a b=sC b a:=by
 cases h:sC b a with
 |true=>rw [sO.1 h];exact sO.2 rfl
 |false=>exact s4 sO fun e=>by rw [e,sO.2 rfl] at h;cases h
def xu (s:RS):List ByteArray:=s.key++(if sC s.field e0 then [] else [s.field])
theorem Db (l:List Fd) (s:RS):((!sC s.field e0&& !s8 l s.field)|| !s.key.all (s8 l))= !(xu s).all (s8 l):=by
 unfold xu
 rw [List.all_append]
 cases sC s.field e0 <;> cases s.key.all (s8 l) <;> simp
theorem zu {ks:List ByteArray} {i:Nat} (h:i<ks.length):vK ks i=false↔ ∀j (_:j<i),sC (ks.getD j e0) ks[i]=false:=by
 unfold vK
 rw [List.any_eq_false,show ks.getD i e0=ks[i] from by rw [List.getD_eq_getElem?_getD,ggZ h];rfl]
 constructor
 ·intro hh j hj
  have hjl:j<ks.length:=by omega
  have hm:ks[j]∈ks.take i:=by
   rw [List.mem_iff_getElem]
   exact ⟨j,by rw [List.length_take];omega,by rw [List.getElem_take]⟩
  have:=hh ks[j] hm
  rw [show ks.getD j e0=ks[j] from by rw [List.getD_eq_getElem?_getD,ggZ hjl];rfl,y9]
  simpa using this
 ·intro hh x hx
  obtain ⟨j,hj,rfl⟩:=List.getElem_of_mem hx
  rw [List.length_take] at hj
  rw [List.getElem_take]
  have:=hh j (by omega)
  rw [show ks.getD j e0=ks[j] from by rw [List.getD_eq_getElem?_getD,ggZ (show j<ks.length by omega)];rfl,y9] at this
  rw [this];simp
theorem HC (l:List Fd) (hl:LOk l) (s:RS) (h:SmS (2^39) s):DCalls Tryz.prog 20 [fds l,.agg (sH s)] (I (tT l s)):=by
 refine qO (rs:=[.tmp 4]) mixed Tryz.func20 l20 rfl rfl rfl (r:=[.int _ _]) (nlZ rfl) ?_
 have h1:=Bf s (h.mono (by omega))
 have h4f:=fun h hk=>@zM s h hk
 have hkl:=h.len
 unfold tT
 by_cases c0:tu s=0
 case neg=>
  rw [if_pos c0]
  generalize tu s=e at *
  obtain ⟨k,v,ks,f,n,m⟩:=s
  repeat' ((conv=>whnf);first|exact trivial|refine rE _ (h1) ?_|refine qz c0 ?_|refine nT_ ?_|refine aE1 ?_|refine aE0 ?_|refine aN1 ?_|refine aN0 ?_|refine aD1 ?_|refine aD0 ?_|refine nE_ (fun hq=>?_) (fun hq=>?_)|refine nN_ (fun hq=>?_) (fun hq=>?_)|refine nD_ (fun hq=>?_) (fun hq=>?_)|refine rb1 ?_|refine rb0 ?_|refine rbx ?_|refine rix ?_|refine aS ?_|fail)
 rw [c0] at h1
 have h4f:=h4f c0
 rw [if_neg (by simpa using c0)]
 clear c0
 have hbad:=Db l s
 rw [hbad]
 have hnames:xu s=s.key++(if sC s.field e0 then [] else [s.field]):=rfl
 have hnl:(xu s).length≤s.key.length+1:=by
  rw [hnames,List.length_append]
  split <;> simp
 have hmem:sC s.field e0=false→s.field∈xu s:=fun hf=>by
  rw [hnames,hf];simp
 generalize xu s=ns at *
 obtain ⟨k,v,ks,f,n,m⟩:=s
 dsimp only at hkl h4f hnames hnl hmem ⊢
 have hkk:((ks.map T.str).length:Int)=(ks.length:Int):=by rw [List.length_map]
 have hnn:((ns.map T.str).length:Int)=(ns.length:Int):=by rw [List.length_map]
 by_cases k0:k=0
 ·rw [if_pos k0]
  repeat' ((conv=>whnf);first|exact trivial|refine rE _ (h1) ?_|refine qx k0 ?_|refine nT_ ?_|refine aE1 ?_|refine aE0 ?_|refine aN1 ?_|refine aN0 ?_|refine aD1 ?_|refine aD0 ?_|refine nE_ (fun hq=>?_) (fun hq=>?_)|refine nN_ (fun hq=>?_) (fun hq=>?_)|refine nD_ (fun hq=>?_) (fun hq=>?_)|refine rb1 ?_|refine rb0 ?_|refine rbx ?_|refine rix ?_|refine aS ?_|fail)
 rw [if_neg k0]
 have hE:(!(f.toList==e0.toList))= !sC f e0:=by rw [sI]
 repeat' ((conv=>whnf);first|exact trivial|refine rE _ (h1) ?_|refine qw k0 ?_|refine nT_ ?_|refine aE1 ?_|refine aE0 ?_|refine aN1 ?_|refine aN0 ?_|refine aD1 ?_|refine aD0 ?_|refine nE_ (fun hq=>?_) (fun hq=>?_)|refine nN_ (fun hq=>?_) (fun hq=>?_)|refine nD_ (fun hq=>?_) (fun hq=>?_)|refine rb1 ?_|refine rb0 ?_|refine rbx ?_|refine rix ?_|(refine And.intro (by first|((simp only [List.length_map];omega);done)|fail) ?_)|refine aS ?_|fail)
 refine rA (β:=Unit) (fun _=>{sl:=[(0,.t (fds l)),(3,.ptr 3 0),(6,.t (.slice 1 (ns.map .str)))],bx:=[(3,.d 6 (sH ⟨k,v,ks,f,n,m⟩))]}) (fun _=>True) ?_ ?_
 ·clear hmem h4f
  cases hs:sC f e0 with
  |true=>
   rw [hs] at hE hnames
   have hn2:ks.map T.str=ns.map T.str:=by rw [hnames];simp
   repeat' ((conv=>whnf);first|exact trivial|refine nb_ _ hE ?_|(exact ⟨(),trivial,by (repeat' (first|(exact wH (by rw [List.nil_append];exact hn2.symm))|(exact wH hn2.symm)|(exact wH hn2)|exact trivial|exact LeV.same _|exact LeB.same _|exact rfl|exact fun _ _ _=>trivial|exact lI|exact LeV.nil _ _ _|exact lB|refine su ?_|refine rX ?_|refine And.intro ?_ ?_));done⟩)|refine nT_ ?_|refine aE1 ?_|refine aE0 ?_|refine aN1 ?_|refine aN0 ?_|refine aD1 ?_|refine aD0 ?_|refine nE_ (fun hq=>?_) (fun hq=>?_)|refine nN_ (fun hq=>?_) (fun hq=>?_)|refine nD_ (fun hq=>?_) (fun hq=>?_)|refine rb1 ?_|refine rb0 ?_|refine rbx ?_|refine rix ?_|refine aS ?_|fail)
  |false=>
   rw [hs] at hE hnames
   have hn2:ks.map T.str++[T.str f]=ns.map T.str:=by rw [hnames];simp
   repeat' ((conv=>whnf);first|exact trivial|refine nb_ _ hE ?_|(exact ⟨(),trivial,by (repeat' (first|(exact wH hn2.symm)|(exact wH hn2)|exact trivial|exact LeV.same _|exact LeB.same _|exact rfl|exact fun _ _ _=>trivial|exact lI|exact LeV.nil _ _ _|exact lB|refine su ?_|refine rX ?_|refine And.intro ?_ ?_));done⟩)|refine nT_ ?_|refine aE1 ?_|refine aE0 ?_|refine aN1 ?_|refine aN0 ?_|refine aD1 ?_|refine aD0 ?_|refine nE_ (fun hq=>?_) (fun hq=>?_)|refine nN_ (fun hq=>?_) (fun hq=>?_)|refine nD_ (fun hq=>?_) (fun hq=>?_)|refine rb1 ?_|refine rb0 ?_|refine rbx ?_|refine rix ?_|(refine And.intro (by first|((simp only [List.length_map,List.length_append];omega);done)|fail) ?_)|refine aS ?_|fail)
 rintro _ _
 repeat' ((conv=>whnf);first|exact trivial|refine nT_ ?_|refine aE1 ?_|refine aE0 ?_|refine aN1 ?_|refine aN0 ?_|refine aD1 ?_|refine aD0 ?_|refine nE_ (fun hq=>?_) (fun hq=>?_)|refine nN_ (fun hq=>?_) (fun hq=>?_)|refine nD_ (fun hq=>?_) (fun hq=>?_)|refine rb1 ?_|refine rb0 ?_|refine rbx ?_|refine rix ?_|refine aS ?_|fail)
 refine qZ 0 (α:=Nat) (β:=Unit) (fun i=>{sl:=[(0,.t (fds l)),(3,.ptr 3 0),(6,.t (.slice 1 (ns.map .str))),(7,.t (I i))],bx:=[(3,.d 6 (sH ⟨k,v,ks,f,n,m⟩))]})
  (fun i=>i≤ns.length∧ ∀j (h:j<ns.length),j<i→s8 l ns[j]=true) (fun i=>ns.length - i)
  (fun _=>{sl:=[(0,.t (fds l)),(3,.ptr 3 0)],bx:=[(3,.d 6 (sH ⟨k,v,ks,f,n,m⟩))]}) (fun _=>ns.all (s8 l)=true) 0 (by simp) ?_ ?_ ?_
 ·repeat' (first|exact trivial|exact LeV.same _|exact LeB.same _|exact rfl|exact fun _ _ _=>trivial|exact lI|exact LeV.nil _ _ _|exact lB|refine su ?_|refine rX ?_|refine And.intro ?_ ?_)
 ·rintro i ⟨hi,hp⟩
  rcases Nat.lt_or_ge i ns.length with h|h
  ·have hlt:(i:Int)<((ns.map T.str).length:Int):=by omega
   have hn:=DY l hl ns[i]
   have hx:(ns.map T.str)[i]?.getD .nil= .str ns[i]:=by simp [h]
   cases hb:s8 l ns[i] with
   |true=>
    rw [hb] at hn
    repeat' ((conv=>whnf);first|exact trivial|refine qv hlt ?_|(refine nv_ (.str ns[i]) (by first|exact hx|fail) ?_)|refine rE _ (hn) ?_|refine nT_ ?_|refine aE1 ?_|refine aE0 ?_|refine aN1 ?_|refine aN0 ?_|refine aD1 ?_|refine aD0 ?_|refine nE_ (fun hq=>?_) (fun hq=>?_)|refine nN_ (fun hq=>?_) (fun hq=>?_)|refine nD_ (fun hq=>?_) (fun hq=>?_)|refine rb1 ?_|refine rb0 ?_|refine rbx ?_|refine rix ?_|refine aS ?_|fail)
    refine ⟨i+1,⟨h,fun j hj hlt=>?_⟩,by omega,?_⟩
    ·rcases Nat.lt_or_ge j i with h4|h4
     ·exact hp j hj h4
     ·obtain rfl:j=i:=by omega
      exact hb
    ·repeat' (first|exact trivial|exact LeV.same _|exact LeB.same _|exact rfl|exact fun _ _ _=>trivial|exact lI|exact LeV.nil _ _ _|exact lB|refine su ?_|refine rX ?_|refine And.intro ?_ ?_)
   |false=>
    rw [hb] at hn
    have e:ns.all (s8 l)=false:=by
     rw [List.all_eq_false]
     exact ⟨ns[i],List.getElem_mem h,by rw [hb];simp⟩
    rw [e]
    clear e hmem
    repeat' ((conv=>whnf);first|exact trivial|refine qv hlt ?_|(refine nv_ (.str ns[i]) (by first|exact hx|fail) ?_)|refine rE _ (hn) ?_|refine nT_ ?_|refine aE1 ?_|refine aE0 ?_|refine aN1 ?_|refine aN0 ?_|refine aD1 ?_|refine aD0 ?_|refine nE_ (fun hq=>?_) (fun hq=>?_)|refine nN_ (fun hq=>?_) (fun hq=>?_)|refine nD_ (fun hq=>?_) (fun hq=>?_)|refine rb1 ?_|refine rb0 ?_|refine rbx ?_|refine rix ?_|refine aS ?_|fail)
  ·have hlt: ¬(i:Int)<((ns.map T.str).length:Int):=by omega
   have hall:ns.all (s8 l)=true:=by
    rw [List.all_eq_true]
    intro x hx
    obtain ⟨j,hj,rfl⟩:=List.getElem_of_mem hx
    exact hp j hj (by omega)
   repeat' ((conv=>whnf);first|exact trivial|refine qu hlt ?_|(exact ⟨(),hall,by (repeat' (first|exact trivial|exact LeV.same _|exact LeB.same _|exact rfl|exact fun _ _ _=>trivial|exact lI|exact LeV.nil _ _ _|exact lB|refine su ?_|refine rX ?_|refine And.intro ?_ ?_));done⟩)|refine nT_ ?_|refine aE1 ?_|refine aE0 ?_|refine aN1 ?_|refine aN0 ?_|refine aD1 ?_|refine aD0 ?_|refine nE_ (fun hq=>?_) (fun hq=>?_)|refine nN_ (fun hq=>?_) (fun hq=>?_)|refine nD_ (fun hq=>?_) (fun hq=>?_)|refine rb1 ?_|refine rb0 ?_|refine rbx ?_|refine rix ?_|refine aS ?_|fail)
 rintro _ hall
 rw [hall]
 simp only [Bool.not_true,Bool.false_eq_true,if_false]
 have hfd:k=4→s8 l f=true:=fun k4=>List.all_eq_true.1 hall f (hmem (h4f k4))
 clear hall hmem h4f hnames hE hbad
 repeat' ((conv=>whnf);first|exact trivial|refine nT_ ?_|refine aE1 ?_|refine aE0 ?_|refine aN1 ?_|refine aN0 ?_|refine aD1 ?_|refine aD0 ?_|refine nE_ (fun hq=>?_) (fun hq=>?_)|refine nN_ (fun hq=>?_) (fun hq=>?_)|refine nD_ (fun hq=>?_) (fun hq=>?_)|refine rb1 ?_|refine rb0 ?_|refine rbx ?_|refine rix ?_|refine aS ?_|fail)
 refine qZ 2 (α:=Nat) (β:=Unit) (fun i=>{sl:=[(0,.t (fds l)),(3,.ptr 3 0),(10,.t (I i))],bx:=[(3,.d 6 (sH ⟨k,v,ks,f,n,m⟩))]})
  (fun i=>i≤ks.length∧ ∀j (h:j<ks.length),j<i→vK ks j=false) (fun i=>ks.length - i)
  (fun _=>{sl:=[(0,.t (fds l)),(3,.ptr 3 0)],bx:=[(3,.d 6 (sH ⟨k,v,ks,f,n,m⟩))]}) (fun _=>xI ks=false) 0 (by simp) ?_ ?_ ?_
 ·repeat' (first|exact trivial|exact LeV.same _|exact LeB.same _|exact rfl|exact fun _ _ _=>trivial|exact lI|exact LeV.nil _ _ _|exact lB|refine su ?_|refine rX ?_|refine And.intro ?_ ?_)
 ·rintro i ⟨hi,hp⟩
  rcases Nat.lt_or_ge i ks.length with h|h
  ·have hlt:(i:Int)<((ks.map T.str).length:Int):=by omega
   have hx:(ks.map T.str)[i]?.getD .nil= .str ks[i]:=by simp [h]
   repeat' ((conv=>whnf);first|exact trivial|refine qv hlt ?_|refine nT_ ?_|refine aE1 ?_|refine aE0 ?_|refine aN1 ?_|refine aN0 ?_|refine aD1 ?_|refine aD0 ?_|refine nE_ (fun hq=>?_) (fun hq=>?_)|refine nN_ (fun hq=>?_) (fun hq=>?_)|refine nD_ (fun hq=>?_) (fun hq=>?_)|refine rb1 ?_|refine rb0 ?_|refine rbx ?_|refine rix ?_|refine aS ?_|fail)
   refine qZ 4 (α:=Nat) (β:=Unit) (fun q=>{sl:=[(0,.t (fds l)),(3,.ptr 3 0),(10,.t (I i)),(11,.t (I q))],bx:=[(3,.d 6 (sH ⟨k,v,ks,f,n,m⟩))]})
    (fun q=>q≤i∧ ∀j (_:j<i),j<q→sC (ks.getD j e0) ks[i]=false) (fun q=>i - q)
    (fun _=>{sl:=[(0,.t (fds l)),(3,.ptr 3 0),(10,.t (I i))],bx:=[(3,.d 6 (sH ⟨k,v,ks,f,n,m⟩))]}) (fun _=>vK ks i=false) 0 (by simp) ?_ ?_ ?_
   ·repeat' (first|exact trivial|exact LeV.same _|exact LeB.same _|exact rfl|exact fun _ _ _=>trivial|exact lI|exact LeV.nil _ _ _|exact lB|refine su ?_|refine rX ?_|refine And.intro ?_ ?_)
   ·rintro q ⟨hq,hp2⟩
    rcases Nat.lt_or_ge q i with h2|h2
    ·have hlt2:(q:Int)<(i:Int):=by omega
     have hql:q<ks.length:=by omega
     have hy:(ks.map T.str)[q]?.getD .nil= .str ks[q]:=by simp [hql]
     have hg:ks.getD q e0=ks[q]:=by rw [List.getD_eq_getElem?_getD,ggZ hql];rfl
     have hE2:=sI ks[q] ks[i]
     have hqlt:(q:Int)<((ks.map T.str).length:Int):=by omega
     cases hb:sC ks[q] ks[i] with
     |true=>
      rw [hb] at hE2
      have e:xI ks=true:=by
       unfold xI
       refine List.any_eq_true.2 ⟨i,List.mem_range.2 h,?_⟩
       cases hd:vK ks i with
       |true=>rfl
       |false=>
        have:=(zu h).1 hd q h2
        rw [hg,hb] at this;cases this
      rw [e]
      clear e hp hp2 hfd
      repeat' ((conv=>whnf);first|exact trivial|refine qv hlt2 ?_|(refine nv_ (.str ks[q]) (by first|exact hy|fail) ?_)|(refine nv_ (.str ks[i]) (by first|exact hx|fail) ?_)|refine nb_ _ hE2 ?_|refine nT_ ?_|refine aE1 ?_|refine aE0 ?_|refine aN1 ?_|refine aN0 ?_|refine aD1 ?_|refine aD0 ?_|refine nE_ (fun hq=>?_) (fun hq=>?_)|refine nN_ (fun hq=>?_) (fun hq=>?_)|refine nD_ (fun hq=>?_) (fun hq=>?_)|refine rb1 ?_|refine rb0 ?_|refine rbx ?_|refine rix ?_|refine aS ?_|fail)
     |false=>
      rw [hb] at hE2
      repeat' ((conv=>whnf);first|exact trivial|refine qv hlt2 ?_|(refine nv_ (.str ks[q]) (by first|exact hy|fail) ?_)|(refine nv_ (.str ks[i]) (by first|exact hx|fail) ?_)|refine nb_ _ hE2 ?_|refine nT_ ?_|refine aE1 ?_|refine aE0 ?_|refine aN1 ?_|refine aN0 ?_|refine aD1 ?_|refine aD0 ?_|refine nE_ (fun hq=>?_) (fun hq=>?_)|refine nN_ (fun hq=>?_) (fun hq=>?_)|refine nD_ (fun hq=>?_) (fun hq=>?_)|refine rb1 ?_|refine rb0 ?_|refine rbx ?_|refine rix ?_|refine aS ?_|fail)
      refine ⟨q+1,⟨h2,fun j hj hlt=>?_⟩,by omega,?_⟩
      ·rcases Nat.lt_or_ge j q with h4|h4
       ·exact hp2 j hj h4
       ·obtain rfl:j=q:=by omega
        rw [hg];exact hb
      ·repeat' (first|exact trivial|exact LeV.same _|exact LeB.same _|exact rfl|exact fun _ _ _=>trivial|exact lI|exact LeV.nil _ _ _|exact lB|refine su ?_|refine rX ?_|refine And.intro ?_ ?_)
    ·have hlt2: ¬(q:Int)<(i:Int):=by omega
     have hd:=(zu h).2 fun j hj=>hp2 j hj (by omega)
     repeat' ((conv=>whnf);first|exact trivial|refine qu hlt2 ?_|(exact ⟨(),hd,by (repeat' (first|exact trivial|exact LeV.same _|exact LeB.same _|exact rfl|exact fun _ _ _=>trivial|exact lI|exact LeV.nil _ _ _|exact lB|refine su ?_|refine rX ?_|refine And.intro ?_ ?_));done⟩)|refine nT_ ?_|refine aE1 ?_|refine aE0 ?_|refine aN1 ?_|refine aN0 ?_|refine aD1 ?_|refine aD0 ?_|refine nE_ (fun hq=>?_) (fun hq=>?_)|refine nN_ (fun hq=>?_) (fun hq=>?_)|refine nD_ (fun hq=>?_) (fun hq=>?_)|refine rb1 ?_|refine rb0 ?_|refine rbx ?_|refine rix ?_|refine aS ?_|fail)
   ·rintro _ hd
    repeat' ((conv=>whnf);first|exact trivial|refine nT_ ?_|refine aE1 ?_|refine aE0 ?_|refine aN1 ?_|refine aN0 ?_|refine aD1 ?_|refine aD0 ?_|refine nE_ (fun hq=>?_) (fun hq=>?_)|refine nN_ (fun hq=>?_) (fun hq=>?_)|refine nD_ (fun hq=>?_) (fun hq=>?_)|refine rb1 ?_|refine rb0 ?_|refine rbx ?_|refine rix ?_|refine aS ?_|fail)
    refine ⟨i+1,⟨h,fun j hj hlt=>?_⟩,by omega,?_⟩
    ·rcases Nat.lt_or_ge j i with h4|h4
     ·exact hp j hj h4
     ·obtain rfl:j=i:=by omega
      exact hd
    ·repeat' (first|exact trivial|exact LeV.same _|exact LeB.same _|exact rfl|exact fun _ _ _=>trivial|exact lI|exact LeV.nil _ _ _|exact lB|refine su ?_|refine rX ?_|refine And.intro ?_ ?_)
  ·have hlt: ¬(i:Int)<((ks.map T.str).length:Int):=by omega
   have hd:xI ks=false:=by
    unfold xI
    rw [List.any_eq_false]
    intro j hj
    rw [hp j (List.mem_range.1 hj) (by have:=List.mem_range.1 hj;omega)];simp
   repeat' ((conv=>whnf);first|exact trivial|refine qu hlt ?_|(exact ⟨(),hd,by (repeat' (first|exact trivial|exact LeV.same _|exact LeB.same _|exact rfl|exact fun _ _ _=>trivial|exact lI|exact LeV.nil _ _ _|exact lB|refine su ?_|refine rX ?_|refine And.intro ?_ ?_));done⟩)|refine nT_ ?_|refine aE1 ?_|refine aE0 ?_|refine aN1 ?_|refine aN0 ?_|refine aD1 ?_|refine aD0 ?_|refine nE_ (fun hq=>?_) (fun hq=>?_)|refine nN_ (fun hq=>?_) (fun hq=>?_)|refine nD_ (fun hq=>?_) (fun hq=>?_)|refine rb1 ?_|refine rb0 ?_|refine rbx ?_|refine rix ?_|refine aS ?_|fail)
 ·rintro _ hd
  rw [hd]
  simp only [Bool.false_eq_true,if_false]
  have hn:=DY l hl f
  have hy:Ac l k f m=match findF l f with
   |none=>0
   |some F=>if k=4∧m>((2^F.w - 1:Nat):Int) then 1 else 0:=rfl
  generalize Ac l k f m=y at *
  by_cases k4:k=4
  ·have hf:=hfd k4
   unfold s8 at hf
   obtain ⟨F,hF⟩:=Option.isSome_iff_exists.1 hf
   rw [hF] at hy
   dsimp only at hy
   have h97:=t66 F (hl.find hF)
   have hfe:=Gv hF
   rw [hfe] at hn
   generalize (2^F.w - 1:Nat)=M at *
   have h97:DCalls Tryz.prog 78 [.agg [.str F.name,I F.a,I F.w]] (I (M:Int)):=h97
   repeat' ((conv=>whnf);first|exact trivial|refine rE _ (hn) ?_|refine nT_ ?_|refine aE1 ?_|refine aE0 ?_|refine aN1 ?_|refine aN0 ?_|refine aD1 ?_|refine aD0 ?_|refine nE_ (fun hq=>?_) (fun hq=>?_)|refine nN_ (fun hq=>?_) (fun hq=>?_)|refine nD_ (fun hq=>?_) (fun hq=>?_)|refine rb1 ?_|refine rb0 ?_|refine rbx ?_|refine rix ?_|refine aS ?_|fail)
   refine rA (β:=Unit) (fun _=>{sl:=[(3,.ptr 3 0),(12,.ptr 12 0)],bx:=[(3,.d 6 (sH ⟨k,v,ks,f,n,m⟩)),(12,.d 3 [.str F.name,I F.a,I F.w])]}) (fun _=>True) ?_ ?_
   ·repeat' ((conv=>whnf);first|exact trivial|refine rE _ (hn) ?_|(exact ⟨(),trivial,by (repeat' (first|exact trivial|exact LeV.same _|exact LeB.same _|exact rfl|exact fun _ _ _=>trivial|exact lI|exact LeV.nil _ _ _|exact lB|refine su ?_|refine rX ?_|refine And.intro ?_ ?_));done⟩)|refine nT_ ?_|refine aE1 ?_|refine aE0 ?_|refine aN1 ?_|refine aN0 ?_|refine aD1 ?_|refine aD0 ?_|refine nE_ (fun hq=>?_) (fun hq=>?_)|refine nN_ (fun hq=>?_) (fun hq=>?_)|refine nD_ (fun hq=>?_) (fun hq=>?_)|refine rb1 ?_|refine rb0 ?_|refine rbx ?_|refine rix ?_|refine aS ?_|fail)
   rintro _ _
   by_cases hm:m>(M:Int)
   ·rw [if_pos ⟨k4,hm⟩] at hy
    subst hy
    repeat' ((conv=>whnf);first|exact trivial|refine qx k4 ?_|refine rE _ (h97) ?_|refine qv hm ?_|refine nT_ ?_|refine aE1 ?_|refine aE0 ?_|refine aN1 ?_|refine aN0 ?_|refine aD1 ?_|refine aD0 ?_|refine nE_ (fun hq=>?_) (fun hq=>?_)|refine nN_ (fun hq=>?_) (fun hq=>?_)|refine nD_ (fun hq=>?_) (fun hq=>?_)|refine rb1 ?_|refine rb0 ?_|refine rbx ?_|refine rix ?_|refine aS ?_|fail)
   ·rw [if_neg (fun h=>hm h.2)] at hy
    subst hy
    repeat' ((conv=>whnf);first|exact trivial|refine qx k4 ?_|refine rE _ (h97) ?_|refine qu hm ?_|refine nT_ ?_|refine aE1 ?_|refine aE0 ?_|refine aN1 ?_|refine aN0 ?_|refine aD1 ?_|refine aD0 ?_|refine nE_ (fun hq=>?_) (fun hq=>?_)|refine nN_ (fun hq=>?_) (fun hq=>?_)|refine nD_ (fun hq=>?_) (fun hq=>?_)|refine rb1 ?_|refine rb0 ?_|refine rbx ?_|refine rix ?_|refine aS ?_|fail)
  ·have hy:y=0:=by
    rw [hy]
    cases findF l f with
    |none=>rfl
    |some F=>exact if_neg (fun h=>k4 h.1)
   subst hy
   generalize fld l f=F at *
   repeat' ((conv=>whnf);first|exact trivial|refine rE _ (hn) ?_|refine nT_ ?_|refine aE1 ?_|refine aE0 ?_|refine aN1 ?_|refine aN0 ?_|refine aD1 ?_|refine aD0 ?_|refine nE_ (fun hq=>?_) (fun hq=>?_)|refine nN_ (fun hq=>?_) (fun hq=>?_)|refine nD_ (fun hq=>?_) (fun hq=>?_)|refine rb1 ?_|refine rb0 ?_|refine rbx ?_|refine rix ?_|refine aS ?_|fail)
   refine rA (β:=Unit) (fun _=>{sl:=[(3,.ptr 3 0),(12,.ptr 12 0)],bx:=[(3,.d 6 (sH ⟨k,v,ks,f,n,m⟩)),(12,.d 3 [.str F.name,I F.a,I F.w])]}) (fun _=>True) ?_ ?_
   ·repeat' ((conv=>whnf);first|exact trivial|refine rE _ (hn) ?_|(exact ⟨(),trivial,by (repeat' (first|exact trivial|exact LeV.same _|exact LeB.same _|exact rfl|exact fun _ _ _=>trivial|exact lI|exact LeV.nil _ _ _|exact lB|refine su ?_|refine rX ?_|refine And.intro ?_ ?_));done⟩)|refine nT_ ?_|refine aE1 ?_|refine aE0 ?_|refine aN1 ?_|refine aN0 ?_|refine aD1 ?_|refine aD0 ?_|refine nE_ (fun hq=>?_) (fun hq=>?_)|refine nN_ (fun hq=>?_) (fun hq=>?_)|refine nD_ (fun hq=>?_) (fun hq=>?_)|refine rb1 ?_|refine rb0 ?_|refine rbx ?_|refine rix ?_|refine aS ?_|fail)
   rintro _ _
   repeat' ((conv=>whnf);first|exact trivial|refine qw k4 ?_|refine nT_ ?_|refine aE1 ?_|refine aE0 ?_|refine aN1 ?_|refine aN0 ?_|refine aD1 ?_|refine aD0 ?_|refine nE_ (fun hq=>?_) (fun hq=>?_)|refine nN_ (fun hq=>?_) (fun hq=>?_)|refine nD_ (fun hq=>?_) (fun hq=>?_)|refine rb1 ?_|refine rb0 ?_|refine rbx ?_|refine rix ?_|refine aS ?_|fail)
end Go.TY
end
section
namespace Go.TY
open Go Go.DL Go.MM Go.Proofs
end Go.TY
end
section
namespace Go.TY
open Go Go.DL Go.MM Go.Proofs
end Go.TY
end
noncomputable section
namespace Go.TY
open Go Go.DL Go.Proofs
def c60:aY:=(.seq (.region [oo 0 (.mov (.const .nil))] []) (.seq (.region [⟨some 1,.build [S0,Z0,Z0] [(0,1,(.const (.str ⟨#[100,115,116]⟩))),(1,1,(Kc 16)),(2,1,(Kc 8))],none,[]⟩,⟨some 2,.build [S0,Z0,Z0] [(0,1,(.const (.str ⟨#[115,114,99]⟩))),(1,1,(Kc 24)),(2,1,(Kc 8))],none,[]⟩,⟨some 3,.build [S0,Z0,Z0] [(0,1,(.const (.str ⟨#[107,105,110,100]⟩))),(1,1,(Kc 33)),(2,1,(Kc 3))],none,[]⟩,⟨some 4,.buildS 88 3 3 [S0,Z0,Z0] [(0,(tm 1)),(1,(tm 2)),(2,(tm 3))],none,[]⟩,mv 0 4] []) .ret))
theorem l60:(Tryz.f60.body.bind (bD Tryz.prog 5 []))=some c60:=by kernel_rfl
def c62:aY:=(.seq (.region [⟨some 4,.alloc [Z0,S0,Z0,Z0,.nil],none,[]⟩] []) (.seq (.region [mv 5 0,mv 6 1,⟨some 7,.build [Z0,S0,Z0,Z0,.nil] [(0,1,(Kc 3)),(1,1,(tm 5)),(2,1,(tm 6))],none,[]⟩,o0 (.store 5 (tm 4) (tm 7))] []) .ret))
theorem l62:(Tryz.f62.body.bind (bD Tryz.prog 8 []))=some c62:=by kernel_rfl
def c63:aY:=(.seq (.region [⟨some 4,.alloc [Z0,Z0,S0,Z0,Z0,.nil,S0,Z0,.nil],none,[]⟩] []) (.seq (.region [mv 5 0,mv 6 1,⟨some 7,.build [Z0,Z0,S0,Z0,Z0,.nil,S0,Z0,.nil] [(0,1,(Kc 2)),(6,1,(tm 5)),(7,1,(tm 6))],none,[]⟩,o0 (.store 9 (tm 4) (tm 7))] []) .ret))
theorem l63:(Tryz.f63.body.bind (bD Tryz.prog 8 []))=some c63:=by kernel_rfl
def c61:aY:=(.seq (.region [oo 1 (.box 5 (tm 0)),⟨some 2,.alloc [Z0,Z0,S0,Z0,Z0,.nil,S0,Z0,.nil],none,[]⟩] []) (.seq (.region [lA 3 5 1,⟨some 4,.build [Z0,Z0,S0,Z0,Z0,.nil,S0,Z0,.nil] [(0,1,(Kc 1)),(1,5,(tm 3))],none,[]⟩,o0 (.store 9 (tm 2) (tm 4))] []) .ret))
theorem l61:(Tryz.f61.body.bind (bD Tryz.prog 5 []))=some c61:=by kernel_rfl
def c32:aY:=(.seq (.region [oo 2 (.box 9 (tm 0)),oo 3 (.box 9 (tm 1)),⟨some 4,.alloc [Z0,Z0,S0,Z0,Z0,.nil,S0,Z0,.nil],none,[]⟩] []) (.seq (.region [lA 5 9 2,lA 6 9 3,⟨some 7,.buildS 28 9 2 [Z0,Z0,S0,Z0,Z0,.nil,S0,Z0,.nil] [(0,(tm 5)),(1,(tm 6))],none,[]⟩,⟨some 8,.build [Z0,Z0,S0,Z0,Z0,.nil,S0,Z0,.nil] [(0,1,(Kc 4)),(8,1,(tm 7))],none,[]⟩,o0 (.store 9 (tm 4) (tm 8))] []) .ret))
theorem l32:(Tryz.f32.body.bind (bD Tryz.prog 9 []))=some c32:=by kernel_rfl
def c33:aY:=(.seq (.region [oo 2 (.box 9 (tm 0)),oo 3 (.box 9 (tm 1)),⟨some 4,.alloc [Z0,Z0,S0,Z0,Z0,.nil,S0,Z0,.nil],none,[]⟩] []) (.seq (.region [lA 5 9 2,lA 6 9 3,⟨some 7,.buildS 28 9 2 [Z0,Z0,S0,Z0,Z0,.nil,S0,Z0,.nil] [(0,(tm 5)),(1,(tm 6))],none,[]⟩,⟨some 8,.build [Z0,Z0,S0,Z0,Z0,.nil,S0,Z0,.nil] [(0,1,(Kc 3)),(8,1,(tm 7))],none,[]⟩,o0 (.store 9 (tm 4) (tm 8))] []) .ret))
theorem l33:(Tryz.f33.body.bind (bD Tryz.prog 9 []))=some c33:=by kernel_rfl
def c10:aY:=(.seq (.region [oo 0 (.mov kF)] []) (.seq (.region [oo 17 (.call 60 []),mv 1 17] []) (.seq (.region [⟨some 18,.build [Z0,S0,Z0,Z0,.nil] [(0,1,(Kc 1))],none,[]⟩,oo 19 (.call 61 [tm 18]),⟨some 2,.alloc [Z0,Z0,S0,Z0,Z0,.nil,S0,Z0,.nil],none,[]⟩,o0 (.store 9 (tm 2) (tm 19))] []) (.seq (.cut (.region [mv 20 1,⟨some 21,.call 62 [(.const (.str ⟨#[100,115,116]⟩)),(Kc 300)],none,[]⟩,oo 22 (.call 15 [(tm 20),(tm 21)]),oo 23 (.bin .eql (tm 22) (Kc 1)),mv 24 23,mT 25 1 24,⟨some 26,.call 62 [(.const (.str ⟨#[116,111,112]⟩)),(Kc 1)],some (24,true),[]⟩,oT 27 24 (.call 15 [(tm 25),(tm 26)]),oT 28 24 (.bin .eql (tm 27) (Kc 4)),oo 29 (.pick (tm 24) (tm 28) kF),mv 30 29,mT 31 1 30,⟨some 32,.build [Z0,S0,Z0,Z0,.nil] [(0,1,(Kc 4)),(1,1,(.const (.str ⟨#[107,105,110,100]⟩))),(2,1,(Kc 1)),(3,1,(Kc 4))],some (30,true),[]⟩,oT 33 30 (.call 15 [(tm 31),(tm 32)]),oT 34 30 (.bin .eql (tm 33) (Kc 1)),oo 35 (.pick (tm 30) (tm 34) kF),mv 3 35] [])) (.seq (.cut (.region [mv 36 1,⟨some 37,.call 62 [(.const (.str ⟨#[100,115,116]⟩)),(Kc 5)],none,[]⟩,oo 38 (.call 61 [tm 37]),⟨some 39,.call 63 [(.const (.str ⟨#[107,105,110,100]⟩)),(Kc 7)],none,[]⟩,oo 40 (.call 32 [(tm 38),(tm 39)]),oo 41 (.call 17 [(tm 36),(tm 40)]),oo 42 (.bin .eql (tm 41) (Kc 0)),mv 43 42,mT 44 1 43,⟨some 45,.call 63 [(.const (.str ⟨#[107,105,110,100]⟩)),(Kc 8)],some (43,true),[]⟩,oT 46 43 (.call 17 [(tm 44),(tm 45)]),oT 47 43 (.bin .eql (tm 46) (Kc 1)),oo 48 (.pick (tm 43) (tm 47) kF),mv 4 48] [])) (.seq (.cut (.region [mv 49 1,⟨some 50,.buildS 9 1 2 [S0] [(0,(.const (.str ⟨#[115,114,99]⟩))),(1,(.const (.str ⟨#[115,114,99]⟩)))],none,[]⟩,⟨some 51,.build [Z0,S0,.nil,S0,Z0,Z0] [(0,1,(Kc 1)),(1,1,(.const (.str ⟨#[99]⟩))),(2,1,(tm 50))],none,[]⟩,oo 52 (.call 19 [(tm 49),(tm 51)]),oo 53 (.bin .eql (tm 52) (Kc 1)),mv 54 53,mT 55 1 54,⟨some 56,.buildS 9 1 1 [S0] [(0,(.const (.str ⟨#[115,114,99]⟩)))],some (54,true),[]⟩,⟨some 57,.build [Z0,S0,.nil,S0,Z0,Z0] [(0,1,(Kc 4)),(1,1,(.const (.str ⟨#[116]⟩))),(2,1,(tm 56)),(3,1,(.const (.str ⟨#[107,105,110,100]⟩))),(4,1,(Kc 1)),(5,1,(Kc 9))],some (54,true),[]⟩,oT 58 54 (.call 19 [(tm 55),(tm 57)]),oT 59 54 (.bin .eql (tm 58) (Kc 1)),oo 60 (.pick (tm 54) (tm 59) kF),mv 5 60] [])) (.seq (.cut (.region [lA 61 9 2,⟨some 62,.buildS 9 1 1 [S0] [(0,(.const (.str ⟨#[115,114,99]⟩)))],none,[]⟩,⟨some 63,.build [Z0,S0,.nil,S0,Z0,Z0] [(0,1,(Kc 2)),(1,1,(.const (.str ⟨#[99]⟩))),(2,1,(tm 62))],none,[]⟩,⟨some 64,.build [Z0,Z0,S0,Z0,Z0,.nil,S0,Z0,.nil,Z0,S0,.nil,S0,Z0,Z0] [(0,9,(tm 61)),(9,6,(tm 63))],none,[]⟩,⟨some 6,.alloc [Z0,Z0,S0,Z0,Z0,.nil,S0,Z0,.nil,Z0,S0,.nil,S0,Z0,Z0],none,[]⟩,o0 (.store 15 (tm 6) (tm 64))] [])) (.seq (.cut (.region [lA 65 9 2,⟨some 66,.buildS 9 1 1 [S0] [(0,(.const (.str ⟨#[100,115,116]⟩)))],none,[]⟩,⟨some 67,.build [Z0,S0,.nil,S0,Z0,Z0] [(0,1,(Kc 3)),(1,1,(.const (.str ⟨#[99]⟩))),(2,1,(tm 66)),(4,1,(Kc 5))],none,[]⟩,⟨some 68,.build [Z0,Z0,S0,Z0,Z0,.nil,S0,Z0,.nil,Z0,S0,.nil,S0,Z0,Z0] [(0,9,(tm 65)),(9,6,(tm 67))],none,[]⟩,⟨some 7,.alloc [Z0,Z0,S0,Z0,Z0,.nil,S0,Z0,.nil,Z0,S0,.nil,S0,Z0,Z0],none,[]⟩,o0 (.store 15 (tm 7) (tm 68))] [])) (.seq (.cut (.region [lA 69 9 2,⟨some 70,.buildS 9 1 1 [S0] [(0,(.const (.str ⟨#[107,105,110,100]⟩)))],none,[]⟩,⟨some 71,.build [Z0,S0,.nil,S0,Z0,Z0] [(0,1,(Kc 3)),(1,1,(.const (.str ⟨#[99]⟩))),(2,1,(tm 70)),(4,1,(Kc 5))],none,[]⟩,⟨some 72,.build [Z0,Z0,S0,Z0,Z0,.nil,S0,Z0,.nil,Z0,S0,.nil,S0,Z0,Z0] [(0,9,(tm 69)),(9,6,(tm 71))],none,[]⟩,⟨some 8,.alloc [Z0,Z0,S0,Z0,Z0,.nil,S0,Z0,.nil,Z0,S0,.nil,S0,Z0,Z0],none,[]⟩,o0 (.store 15 (tm 8) (tm 72))] [])) (.seq (.cut (.region [lA 73 9 2,⟨some 74,.buildS 9 1 1 [S0] [(0,(.const (.str ⟨#[115,114,99]⟩)))],none,[]⟩,⟨some 75,.build [Z0,S0,.nil,S0,Z0,Z0] [(0,1,(Kc 1)),(1,1,(.const (.str ⟨#[99]⟩))),(2,1,(tm 74))],none,[]⟩,⟨some 76,.build [Z0,Z0,S0,Z0,Z0,.nil,S0,Z0,.nil,Z0,S0,.nil,S0,Z0,Z0] [(0,9,(tm 73)),(9,6,(tm 75))],none,[]⟩,⟨some 9,.alloc [Z0,Z0,S0,Z0,Z0,.nil,S0,Z0,.nil,Z0,S0,.nil,S0,Z0,Z0],none,[]⟩,o0 (.store 15 (tm 9) (tm 76))] [])) (.seq (.cut (.region [lA 77 9 2,⟨some 78,.buildS 9 1 1 [S0] [(0,(.const (.str ⟨#[115,114,99]⟩)))],none,[]⟩,⟨some 79,.build [Z0,S0,.nil,S0,Z0,Z0] [(0,1,(Kc 6)),(1,1,(.const (.str ⟨#[99]⟩))),(2,1,(tm 78)),(4,1,(Kc 1)),(5,1,(Kc 1))],none,[]⟩,⟨some 80,.build [Z0,Z0,S0,Z0,Z0,.nil,S0,Z0,.nil,Z0,S0,.nil,S0,Z0,Z0] [(0,9,(tm 77)),(9,6,(tm 79))],none,[]⟩,⟨some 10,.alloc [Z0,Z0,S0,Z0,Z0,.nil,S0,Z0,.nil,Z0,S0,.nil,S0,Z0,Z0],none,[]⟩,o0 (.store 15 (tm 10) (tm 80))] [])) (.seq (.cut (.region [mv 81 1,lA 82 15 6,lA 83 15 7,⟨some 84,.buildS 61 15 2 [Z0,Z0,S0,Z0,Z0,.nil,S0,Z0,.nil,Z0,S0,.nil,S0,Z0,Z0] [(0,(tm 82)),(1,(tm 83))],none,[]⟩,oo 85 (.call 38 [(tm 81),(tm 84)]),oo 86 (.bin .eql (tm 85) (Kc 0)),mv 87 86,mT 88 1 87,oT 89 87 (.load 15 true (tm 6)),oT 90 87 (.load 15 true (tm 8)),⟨some 91,.buildS 61 15 2 [Z0,Z0,S0,Z0,Z0,.nil,S0,Z0,.nil,Z0,S0,.nil,S0,Z0,Z0] [(0,(tm 89)),(1,(tm 90))],some (87,true),[]⟩,oT 92 87 (.call 38 [(tm 88),(tm 91)]),oT 93 87 (.bin .eql (tm 92) (Kc 11)),oo 94 (.pick (tm 87) (tm 93) kF),mv 95 94,mT 96 1 95,oT 97 95 (.load 15 true (tm 9)),oT 98 95 (.load 15 true (tm 10)),⟨some 99,.buildS 61 15 2 [Z0,Z0,S0,Z0,Z0,.nil,S0,Z0,.nil,Z0,S0,.nil,S0,Z0,Z0] [(0,(tm 97)),(1,(tm 98))],some (95,true),[]⟩,oT 100 95 (.call 38 [(tm 96),(tm 99)]),oT 101 95 (.bin .eql (tm 100) (Kc 11)),oo 102 (.pick (tm 95) (tm 101) kF),mv 11 102] [])) (.seq (.cut (.region [mv 103 1,lA 104 15 6,lA 105 15 7,⟨some 106,.buildS 61 15 2 [Z0,Z0,S0,Z0,Z0,.nil,S0,Z0,.nil,Z0,S0,.nil,S0,Z0,Z0] [(0,(tm 104)),(1,(tm 105))],none,[]⟩,oo 107 (.call 39 [(tm 103),(tm 106)]),mv 12 107] [])) (.seq (.cut (.region [⟨some 108,.build [Z0,S0,Z0,Z0,.nil] [(0,1,(Kc 9)),(2,1,(Kc 3)),(3,1,(Kc 7))],none,[]⟩,oo 109 (.call 61 [tm 108]),⟨some 13,.alloc [Z0,Z0,S0,Z0,Z0,.nil,S0,Z0,.nil],none,[]⟩,o0 (.store 9 (tm 13) (tm 109))] [])) (.seq (.cut (.region [lA 110 9 13,oo 111 (.call 49 [(tm 110),(Kc 3)]),lA 112 9 2,oo 113 (.call 48 [(tm 111),(tm 112)]),mv 114 113,oT 115 114 (.load 9 true (tm 13)),oT 116 114 (.call 49 [(tm 115),(Kc 7)]),⟨some 117,.build [Z0,S0,Z0,Z0,.nil] [(0,1,(Kc 2))],some (114,true),[]⟩,oT 118 114 (.call 61 [tm 117]),oT 119 114 (.call 48 [(tm 116),(tm 118)]),oo 120 (.pick (tm 114) (tm 119) kF),mv 14 120] [])) (.seq (.cut (.region [⟨some 121,.call 62 [(.const (.str ⟨#[100,115,116]⟩)),(Kc 5)],none,[]⟩,oo 122 (.call 61 [tm 121]),⟨some 123,.call 63 [(.const (.str ⟨#[112,111,114,116]⟩)),(Kc 2)],none,[]⟩,oo 124 (.call 32 [(tm 122),(tm 123)]),⟨some 125,.call 63 [(.const (.str ⟨#[112,111,114,116]⟩)),(Kc 1)],none,[]⟩,⟨some 126,.call 63 [(.const (.str ⟨#[115,114,99]⟩)),(Kc 0)],none,[]⟩,⟨some 127,.buildS 28 9 1 [Z0,Z0,S0,Z0,Z0,.nil,S0,Z0,.nil] [(0,(tm 126))],none,[]⟩,⟨some 128,.build [Z0,Z0,S0,Z0,Z0,.nil,S0,Z0,.nil] [(0,1,(Kc 5)),(8,1,(tm 127))],none,[]⟩,oo 129 (.call 32 [(tm 125),(tm 128)]),oo 130 (.call 33 [(tm 124),(tm 129)]),⟨some 15,.alloc [Z0,Z0,S0,Z0,Z0,.nil,S0,Z0,.nil],none,[]⟩,o0 (.store 9 (tm 15) (tm 130))] [])) (.seq (.cut (.region [lA 131 9 15,oo 132 (.call 23 [tm 131]),⟨some 133,.buildS 9 1 1 [S0] [(0,(.const (.str ⟨#[100,115,116]⟩)))],none,[]⟩,oo 134 (.call 22 [(tm 132),(tm 133)]),mv 135 134,oT 136 135 (.load 9 true (tm 15)),oT 137 135 (.call 25 [tm 136]),⟨some 138,.buildS 9 1 2 [S0] [(0,(.const (.str ⟨#[112,111,114,116]⟩))),(1,(.const (.str ⟨#[115,114,99]⟩)))],some (135,true),[]⟩,oT 139 135 (.call 22 [(tm 137),(tm 138)]),oo 140 (.pick (tm 135) (tm 139) kF),mv 141 140,oT 142 141 (.load 9 true (tm 15)),oT 143 141 (.call 28 [tm 142]),oT 144 141 (.buildS 3 1 2 [Z0] [(0,(Kc 1)),(1,(Kc 2))]),oT 145 141 (.call 27 [(tm 143),(tm 144)]),oo 146 (.pick (tm 141) (tm 145) kF),mv 147 146,oT 148 147 (.load 9 true (tm 15)),oT 149 147 (.call 30 [tm 148]),oT 150 147 (.bin .eql (tm 149) (Kc 65536)),oo 151 (.pick (tm 147) (tm 150) kF),mv 16 151] [])) (.seq (.region [mv 152 3,mv 153 152,mT 154 4 153,oo 155 (.pick (tm 153) (tm 154) kF),mv 156 155,mT 157 5 156,oo 158 (.pick (tm 156) (tm 157) kF),mv 159 158,mT 160 11 159,oo 161 (.pick (tm 159) (tm 160) kF),mv 162 161,mT 163 14 162,oo 164 (.pick (tm 162) (tm 163) kF),mv 165 164,mT 166 16 165,oo 167 (.pick (tm 165) (tm 166) kF),mv 168 167,mT 169 12 168,oT 170 168 (.buildS 3 1 1 [Z0] [(0,(Kc 8))]),⟨some 171,.build [S0,Z0,.nil,Z0,Z0] [(0,1,(.const (.str ⟨#[99]⟩))),(1,1,(Kc 2)),(2,1,(tm 170))],some (168,true),[]⟩,⟨some 172,.buildS 66 5 1 [S0,Z0,.nil,Z0,Z0] [(0,(tm 171))],some (168,true),[]⟩,oT 173 168 (.call 45 [(tm 169),(tm 172)]),oo 174 (.pick (tm 168) (tm 173) kF),mv 175 174,oT 176 175 (.load 9 true (tm 13)),⟨some 177,.build [Z0,Z0,S0,Z0,Z0,.nil,S0,Z0,.nil,Z0,S0,.nil,S0,Z0,Z0] [(0,9,(tm 176))],some (175,true),[]⟩,⟨some 178,.buildS 61 15 1 [Z0,Z0,S0,Z0,Z0,.nil,S0,Z0,.nil,Z0,S0,.nil,S0,Z0,Z0] [(0,(tm 177))],some (175,true),[]⟩,oT 179 175 (.call 57 [tm 178]),oT 180 175 (.buildS 3 1 2 [Z0] [(0,(Kc 3)),(1,(Kc 7))]),oT 181 175 (.call 27 [(tm 179),(tm 180)]),oo 182 (.pick (tm 175) (tm 181) kF),mv 0 182] []) .ret))))))))))))))))))
theorem l10:(Tryz.f10.body.bind (bD Tryz.prog 183 [6000003,6000004,6000005,6000006,6000007,6000008,6000009,6000010,6000011,6000012,6000013,6000014,6000015,6000016]))=some c10:=by kernel_rfl
end Go.TY
end
noncomputable section
namespace Go.TY
open Go Go.DL Go.MM Go.Proofs
abbrev enb:ByteArray→T:=T.str
abbrev mpb (ks:List ByteArray) (vs:List T):T:=.mapd false [.str] (ks.map enb) vs
def tI (id:Nat) (c:Option Code):Array Oper:=match rg0 id c with
 |.region _ ops _=>ops
 |_=> #[]
abbrev fAb:Option Code:=Tryz.f156.body
abbrev fKb:Option Code:=Tryz.f133.body
theorem bAb:fAb=some (.seq (.region 0 (tI 0 fAb) false) (.seq (.seq (.region 1 (tI 1 fAb) false)
  (.block 0 (.rangeFunc (.tmp 6) #[7] (.region 2 (tI 2 fAb) false) (.block 1 (.region 3 (tI 3 fAb) false))))) (.seq (.region 4 (tI 4 fAb) false) .ret))):=by kernel_rfl
abbrev IC:List DI:=[⟨some 5,.mov (.tmp 7),none,[]⟩]
abbrev IF:List DI:=[⟨some 8,.load 1 false (.tmp 2),none,[]⟩,⟨some 9,.mov (.tmp 5),none,[]⟩,⟨some 10,.buildS 9 1 1 [.str ⟨#[]⟩] [(0,.tmp 9)],none,[1]⟩,
 ⟨some 11,.append 29 9 1 16 (.tmp 8) (.tmp 10),none,[0,2]⟩,⟨none,.store 1 (.tmp 2) (.tmp 11),none,[3,3,0,1,2,3]⟩]
theorem H4:bX Tryz.prog 13 [] (tI 0 fAb) (tI 0 fAb).toList=some [⟨some 2,.box 1 (.tmp 0),none,[]⟩,⟨some 4,.mov (.const .nil),none,[]⟩]:=by kernel_rfl
theorem H7:bX Tryz.prog 13 [] (tI 1 fAb) (tI 1 fAb).toList=some [⟨some 6,.mov (.tmp 1),none,[]⟩]:=by kernel_rfl
theorem Ia:bX Tryz.prog 13 [] (tI 2 fAb) (tI 2 fAb).toList=some IC:=by kernel_rfl
theorem Ie:bX Tryz.prog 13 [] (tI 3 fAb) (tI 3 fAb).toList=some IF:=by kernel_rfl
theorem Ii:bX Tryz.prog 13 [] (tI 4 fAb) (tI 4 fAb).toList=some [⟨some 12,.load 1 false (.tmp 2),none,[]⟩,⟨some 4,.mov (.tmp 12),none,[0,0]⟩]:=by kernel_rfl
abbrev yKb:Array Oper:=tI 3 fKb
theorem bKb:rg0 3 fKb= .region 3 yKb false:=by kernel_rfl
theorem Il:dW Tryz.prog 14 yKb [0,1]=some [⟨some 10,.mov (.tmp 0),none,[]⟩,⟨some 11,.mov (.tmp 3),none,[]⟩]:=by kernel_rfl
theorem Ip:dW Tryz.prog 14 yKb [3]=some [⟨some 13,.not (.tmp 12),none,[2]⟩]:=by kernel_rfl
theorem Is: ∃o ats,yKb[2]? =some o∧o.guard=none∧o.op= .call {callee:=.value (.tmp 10),args:= #[.tmp 11],argTypes:=ats }∧o.dst=some 12:=by
 refine ⟨((tI 3 fKb)[2]?).getD default,(match (((tI 3 fKb)[2]?).getD default).op with|.call c=>c.argTypes|_=> #[]),by kernel_rfl,by kernel_rfl,by kernel_rfl,by kernel_rfl⟩
abbrev Gw (l d:Nat) (f:FuncId) (tmps:Array Value):aa→World→Prop:=nr l (cW f tmps 7 (.region 2 (tI 2 fAb) false) (.block 1 (.region 3 (tI 3 fAb) false)) d)
abbrev WKb (l:Nat) (C:aa→World→Prop) (ks:List ByteArray) (vs:List T) (ix:List Nat):Wk:=
 {sl:=[(0,.raw (.func (.yield l) #[] #[])),(5,.ptr 2005 0)],bx:=[(2,.v [.own 3011 9 1 (zk enb e0 ks ix)]),(2005,.itd (esK enb ks vs) ix)],gh:=[(0,[(2,.ptr 2 0)])],off:=2000,cx:=C }
theorem Gk (l d:Nat) (f:FuncId) (tmps:Array Value) (ht:tmps.size=13) (ks:List ByteArray) (vs:List T) (hvs:vs.length=ks.length) (hl:ks.length<2^40) (st0:St)
  (h0:st0=({sl:=[(2,.ptr 2 0),(6,.fn 133 [.t (.cptr [mpb ks vs] 0)])],bx:=[(2,.v [.own 3011 9 1 []])]}:Wk).mk'):
  wpC Tryz.prog Gh (st0.iter l (cW f tmps 7 (.region 2 (tI 2 fAb) false) (.block 1 (.region 3 (tI 3 fAb) false)) d) [.t (.cptr [mpb ks vs] 0)] 2000)
   (qK st0 fun st=>st.sl 2= .ptr 2 0∧(∃ xs,um enb e0 ks xs∧st.bx 2=some (.v [.own 3011 9 1 xs]))∧ ∀S w,st.cx S w):=by
 subst h0
 have hes:(esK enb ks vs).length=ks.length:=by simp [hvs]
 repeat' ((conv=>whnf);first|refine nT_ ?_|refine aS ?_|fail)
 refine qZ 0 (α:=List Nat) (β:=List Nat) (fun ix=>WKb l (Gw l d f tmps) ks vs ix) (fun ix=>ix.Nodup∧ ∀j∈ix,j<ks.length) (fun ix=>ks.length - ix.length)
  (fun ix=>WKb l (Gw l d f tmps) ks vs ix) (fun ix=>ix.Perm (List.range ks.length)) [] ⟨List.nodup_nil,by simp⟩ ?_ ?_ ?_
 ·exact ⟨⟨.same _,.same _,trivial⟩,⟨.same _,.same _,trivial⟩,⟨⟨.same _,trivial⟩,trivial⟩,rfl,fun _ _ h=>h,rfl⟩
 ·rintro ix ⟨hnd,hix⟩
  refine And.intro (fun j hj=>by rw [hes];exact hix j hj) (And.intro ?_ ?_)
  ·intro j e he hj
   obtain ⟨he1,hjl⟩:=zi (d:=e0) he
   have hent:=yI _ ix j e he
   have hje:(ix++[j]).getLast?.getD 0<(esK enb ks vs).length:=by rw [List.getLast?_concat,hes];exact hjl
   obtain ⟨e1,e2⟩:=e
   dsimp only at he1 hent
   subst he1
   have hixl:ix.length≤ks.length:=by
    have:=hnd.length_le_of_subset (l₂:=List.range ks.length) (fun j hj=>List.mem_range.2 (hix j hj))
    simpa using this
   have hnd':(ix++[j]).Nodup:=by
    rw [List.nodup_append]
    exact ⟨hnd,by simp,fun a ha b hb=>by rw [List.mem_singleton.1 hb];exact fun e=>hj (e▸ha)⟩
   have hix': ∀i∈ix++[j],i<ks.length:=fun i hi=>by
    rcases List.mem_append.1 hi with h|h
    ·exact hix i h
    ·rw [List.mem_singleton.1 h];exact hjl
   have hixl':(ix++[j]).length≤ks.length:=by
    have:=hnd'.length_le_of_subset (l₂:=List.range ks.length) (fun j hj=>List.mem_range.2 (hix' j hj))
    simpa using this
   repeat' ((conv=>whnf);first|refine nv_ (.tup [enb (ks.getD j e0),e2]) hent ?_|(refine And.intro (by first|exact ⟨by simp,hje⟩|fail) ?_)|fail)
   obtain ⟨o,ats,o1,o2,o3,o4⟩:=Is
   have hsem: ∀(st:St) (Q:aB→St→Prop),p0 Tryz.prog 14 (.region 3 yKb false) st Q→p0 Tryz.prog 14 (rg0 3 fKb) st Q:=fun st Q h=>by rw [bKb];exact h
   refine hsem _ _ ?_
   refine q0 (P:=Tryz.prog) (k1:=[0,1]) (k:=2) (k2:=[3]) (by kernel_rfl) Il rfl Ip rfl o1 o2 o3 o4 (by decide) (p:=7) ht (by decide) Ia rfl Ie rfl 3000 (l:=l) (fn:=f) (dd:=d) (id1:=2) (id2:=3) (bl:=1) ?_
   refine ⟨fun _ _ h=>h,rfl,?_⟩
   repeat' ((conv=>whnf);first|(refine And.intro (by first|exact fun _ _=>trivial|exact ⟨rfl,nlZ rfl⟩|((simp;omega);done)|exact .inl rfl|fail) ?_)|refine aS ?_|fail)
   refine ⟨ix++[j],⟨hnd',hix'⟩,by rw [List.length_append];simp at hixl' ⊢;omega,?_⟩
   refine ⟨⟨.same _,.same _,trivial⟩,⟨?_,.same _,trivial⟩,⟨⟨.same _,trivial⟩,trivial⟩,rfl,fun _ _ h=>h,rfl⟩
   refine .v _ _ ⟨rX ?_,trivial⟩
   simp [zk]
  ·intro hall
   skip
   refine ⟨ix,xN hnd hix (fun j hj=>hall j (by rw [hes];exact hj)),?_⟩
   exact ⟨⟨.same _,.same _,trivial⟩,⟨.same _,.same _,trivial⟩,⟨⟨.same _,trivial⟩,trivial⟩,rfl,fun _ _ h=>h,rfl⟩
 rintro ix hp
 repeat' ((conv=>whnf);first|refine aS ?_|fail)
 exact ⟨⟨_,⟨ix,hp,rfl⟩,rfl⟩,fun _ _=>trivial⟩
abbrev vj (ks:List ByteArray) (vs:List T):T:=.clos 133 [.cptr [mpb ks vs] 0]
theorem zQ (ks:List ByteArray) (vs:List T) (hvs:vs.length=ks.length) (hl:ks.length<2^40):fK Tryz.prog 156 [.nil,vj ks vs] 9 1 (um enb e0 ks):=by
 refine qm Tryz.func156 bAb rfl (nlZ rfl) ?_
 intro S w a0 hsr hdf
 let K0:St→Prop:=fun st=>aA Tryz.prog [⟨some 6,.mov (.tmp 1),none,[]⟩] st fun st=>
  bP {sl:=[(2,.ptr 2 0),(6,.t (vj ks vs))],bx:=[(2,.d 1 [.nil])]} st
 have hK0:aA Tryz.prog [⟨some 2,.box 1 (.tmp 0),none,[]⟩,⟨some 4,.mov (.const .nil),none,[]⟩] (eU [.nil,vj ks vs]) K0:=by
  repeat' ((conv=>whnf);first|refine aS ?_|fail)
  exact ⟨⟨.same _,.same _,trivial⟩,⟨.same _,trivial⟩,trivial,rfl,fun _ _ _=>trivial,rfl⟩
 refine wp_seq (nE (X:=[]) (N:=13) hsr H4 (fun a1 w1 h1=>?_) hK0)
 obtain ⟨E1,s1,rfl,k1,k2,k3⟩:=h1
 refine wp_seq (wp_seq (nE (X:=[]) k1 H7 (fun a2 w2 h2=>?_) k3))
 obtain ⟨E2,s2,rfl,k4,k5,k6⟩:=h2
 obtain ⟨E3,e3,k7⟩:=k4.bP k6
 rw [← e3]
 have k8:=k7.rG (k:=6) (k7.sl 6).rv
 obtain ⟨E4,e4,k10⟩:=SR.bP (a:=a2) (s:={sl:=[(2,.ptr 2 0),(6,.fn 133 [.t (.cptr [mpb ks vs] 0)])],bx:=[(2,.v [.own 3011 9 1 []])]}) k8 ⟨⟨.same _,.same _,trivial⟩,⟨.dv _ _ _ ⟨.nil _ _ _,trivial⟩,trivial⟩,trivial,rfl,fun _ _ _=>trivial,rfl⟩
 rw [← e4]
 refine wp_block ?_
 refine rh mixed k10 (fun _ _=>trivial) (y:=.tmp 6) rfl (gf:=133) (caps:=[.t (.cptr [mpb ks vs] 0)]) rfl Tryz.func133 LY rfl rfl rfl (nlZ rfl) 2000
  (K:=fun st=>st.sl 2= .ptr 2 0∧(∃ xs,um enb e0 ks xs∧st.bx 2=some (.v [.own 3011 9 1 xs]))∧ ∀S w,st.cx S w) (fun l d f tmps ht=>?_) (fun a5 w5 h5=>?_)
 ·exact Gk l d f tmps ht ks vs hvs hl _ rfl
 ·obtain ⟨S0',E5,s5,D,rfl,q1,q2,q3,q4,q5,q6,r1,⟨xs,hxs,r2⟩,r3⟩:=h5
  have q6':a5.defers=[{target:=.collected D,args:= #[]}]:=by rw [q6,k5,k2,hdf]
  show Code.wp _ _ _ _ _
  refine wp_seq (nE (X:=[]) q1 Ii (K:=fun st=>(∀ S w,st.cx S w)∧st.sl 4= .own 3011 9 1 xs) (fun a6 w6 h6=>?_) ?_)
  ·obtain ⟨E6,s6,rfl,p1,p2,p3,p4⟩:=h6
   obtain ⟨js,hjs,rfl⟩:=hxs
   refine wp_ret ⟨.inr rfl,S0',E6,s6,D,rfl,p1,q2,q3,q4,q5,by rw [p2,q6'],p3,_,_,⟨js,hjs,rfl⟩,vd (fun _=>rfl) (fun _=>rfl) js ks,?_,.inl ⟨3011,rfl⟩⟩
   have:dP s6 Tryz.f156.results.toList=some [s6.sl 4]:=by
    rw [show Tryz.f156.results.toList=[.tmp 4] from rfl];rfl
   rw [this,p4]
  ·obtain ⟨sl5,bx5,gh5,off5,cx5⟩:=s5
   dsimp only at r1 r2 r3
   obtain ⟨g,rfl⟩: ∃g,sl5=upd g 2 (.ptr 2 0):=⟨sl5,(uA r1).symm⟩
   obtain ⟨b,rfl⟩: ∃b,bx5=upd b 2 (some (.v [.own 3011 9 1 xs])):=⟨bx5,(uA r2).symm⟩
   exact ⟨r3,rfl⟩
theorem BR (ks:List ByteArray) (vs:List T) (hvs:vs.length=ks.length) (hl:ks.length<2^40):fK Tryz.prog 131 [vj ks vs] 9 1 (um enb e0 ks):=by
 refine qG (rs:=[.tmp 2]) mixed Tryz.func131 Gz rfl rfl rfl (nlZ rfl) ?_
 repeat' ((conv=>whnf);first|refine ru (ts:=[.nil,vj ks vs]) rfl (zQ ks vs hvs hl) (fun xs hx=>?_)|fail)
 obtain ⟨js,hjs,rfl⟩:=hx
 exact ⟨_,_,⟨js,hjs,rfl⟩,vd (fun _=>rfl) (fun _=>rfl) js ks,rfl,.inl ⟨_,rfl⟩⟩
theorem D8:iz Tryz.prog 132 encStr (fun x y:List UInt8=>decide (x≤y)):=iz.str Tryz.Bs rfl (bQ Tryz.func132 rfl rfl)
theorem zw (ks:List ByteArray) (vs:List T) (hvs:vs.length=ks.length) (hl:ks.length<2^40) (hn:ks.Nodup):kI Tryz.prog 87 [vj ks vs] (.slice 1 ((vI ks).map enb)):=by
 refine qS (rs:=[.tmp 2]) mixed Tryz.func87 l87 rfl rfl rfl (nlZ rfl) ?_
 repeat' ((conv=>whnf);first|refine rf (ts:=[vj ks vs]) rfl (BR ks vs hvs hl) rfl (fun h0=>?_) (fun xs hx hc=>?_)|fail)
 ·obtain ⟨zs,hp,h0⟩:=ve h0
  have:zs=[]:=by
   cases zs with
   |nil=>rfl
   |cons z zs=>cases h0
  subst this
  have:ks=[]:=List.nil_perm.1 hp
  subst this
  repeat' ((conv=>whnf);first|refine qc D8 ?_|fail)
  exact ⟨.t .nil,rfl,.nil 1⟩
 ·obtain ⟨zs,hp,rfl⟩:=ve hx
  have hzl:zs.length<2^40:=by rw [hp.length_eq];exact hl
  have hfl:=zH (enc:=enb) (fun _=>rfl) zs
  have hle:(zs.map enb).length=zs.length:=List.length_map _
  have hsl:(vI ks).length=zs.length:=by
   have e:=congrArg List.length (yr hn hp)
   simp only [List.length_map,List.length_mergeSort] at e
   omega
  repeat' ((conv=>whnf);first|(refine re (n:=5) (off:=0) (len:=(zs.map enb).length) (m:=(zs.map enb).length * 1) (ts:=(zs.map enb).flatMap T.cells) (encT:=wY) D8 rfl (zs.map ByteArray.toList) ?_ ?_ (by omega) (fun a S w v h=>by cases h;rfl) (fun a S w=>.str _) (fun _=>rfl) ?_)|fail)
  ·rw [hfl,List.drop_zero,List.take_of_length_le (by omega)]
   exact (by rw [List.map_map];exact List.map_congr_left fun z _=>(Bo z).symm)
  ·simp
  ·skip
   have e:=yr hn hp
   refine ⟨.view 5 0 (zs.map enb).length 1,rfl,.view 5 0 (zs.map enb).length 1 ((zs.map enb).length * 1) (aN ((zs.map enb).flatMap T.cells) 0 (zs.map enb).length (((zs.map ByteArray.toList).mergeSort (fun x y:List UInt8=>decide (x≤y))).map wY)) _ [5] rfl ?_ ?_⟩
   ·rw [vf (by rw [hfl]),e]
    intro t ht
    obtain ⟨z,_,rfl⟩:=List.mem_map.1 ht
    rfl
   ·show (cond (Nat.blt 0 1&&Nat.ble (0+(zs.map enb).length * 1) ((zs.map enb).length * 1)) (some (T.slice 1 (chunk 1 (zs.map enb).length ((aN ((zs.map enb).flatMap T.cells) 0 (zs.map enb).length (((zs.map ByteArray.toList).mergeSort (fun x y:List UInt8=>decide (x≤y))).map wY)).drop 0)),[5])) none)=_
    rw [vf (by rw [hfl]),e,Nat.zero_add,List.drop_zero,yg _ _ (by rw [List.length_map];omega)]
    have:Nat.ble ((zs.map enb).length * 1) ((zs.map enb).length * 1)=true:=Nat.ble_eq_true_of_le (Nat.le_refl _)
    rw [this]
    rfl
theorem BC (ks:List ByteArray) (vs:List T):DCalls Tryz.prog 88 [mpb ks vs] (vj ks vs):=by
 refine qO (rs:=[.tmp 2]) mixed Tryz.func88 l88 rfl rfl rfl (r:=[vj ks vs]) (nlZ rfl) ?_
 repeat' ((conv=>whnf);first|exact trivial|refine aS ?_|fail)
end Go.TY
end
section
namespace Go.TY
open Go Go.DL Go.MM Go.Proofs
attribute [local irreducible] aI gR WCM YC
def gr:RP→List ByteArray:=fun x=>if sC x.field e0 then [] else [x.field]
def vQ (r:RO) (k:Nat):List (Nat×BX):=[(3,.v [.mp 5]),(5,.m false [.str] (esS (once [] (ta gr (tf r) k))) none)]
theorem HL (r:RO):ph (fun n=>10≤n∧n<100) 100 (fun _ _=>True) (vQ r) (fun _ cx _=>cx=(fun _ _=>True)∧False) where
 fh:=fun n h=>h.2
 nm:=fun k p hp=>by
  simp only [vQ,List.mem_cons,List.not_mem_nil,or_false] at hp
  rcases hp with rfl|rfl <;> exact ⟨by dsimp only;omega,by dsimp only;omega⟩
 nms:=fun c cx o ho=>ho.2.elim
 cov:=fun k k' p hp=>by
  simp only [vQ,List.mem_cons,List.not_mem_nil,or_false] at hp ⊢
  rcases hp with rfl|rfl
  ·exact ⟨_,Or.inl rfl,rfl⟩
  ·exact ⟨_,Or.inr rfl,rfl⟩
 covs:=fun c cx o ho=>ho.2.elim
 safe:=fun k p hp=>by
  simp only [vQ,List.mem_cons,List.not_mem_nil,or_false] at hp
  rcases hp with rfl|rfl
  ·intro c hc
   rw [List.mem_singleton.1 hc]
   exact .mp 5 ⟨(5,_),List.mem_cons_of_mem _ (List.mem_singleton.2 rfl),rfl⟩
  ·exact trivial
 safes:=fun c cx o ho=>ho.2.elim
 cxd:=fun c cx o ho=>ho.2.elim
 cxo_:=rT
 nd:=fun k=>by show ([3,5]:List Nat).Nodup;decide
theorem Ge (r:RO) (hr:r.wt<2^39):DCalls Tryz.prog 23 [.agg (sA r)] (.slice 1 ((reads r).map T.str)):=by
 rw [← uE]
 refine qP Tryz.func23 Lm rfl (r:=[.slice 1 ((reads r).map T.str)]) (nlZ rfl) ?_
 have hlen:(sG r).length≤r.wt:=by rw [tc,ue];exact r.vY
 have hwt: ∀o∈sG r,o.wt≤r.wt:=by rw [tc];exact uH r
 have hpl:(tf r).length≤r.wt:=xM r
 rw [show Tryz.f23.ntmps=18 from rfl,show Tryz.f23.results.toList=[.tmp 2] from rfl,k23]
 have ht:=BG r
 rw [sP] at ht
 refine aI.seq (IS ?_)
 repeat' ((conv=>whnf);first|(refine And.intro (by first|exact tw _|fail) ?_)|fail)
 refine aI.seq (IY ?_)
 repeat' ((conv=>whnf);first|refine aS ?_|fail)
 refine aI.seq (aI.seq (I4 ?_))
 repeat' ((conv=>whnf);first|refine rE _ (ht) ?_|fail)
 refine aI.bP (s:={sl:=[(3,.ptr 3 0),(7,.t (.clos 130 [.cptr (sX r) 0]))],bx:=[(3,.v [.mp 5]),(5,.m false [.str] [] none)]}) (by repeat' (first|exact trivial|exact LeV.same _|exact LeB.same _|exact rfl|exact fun _ _ _=>trivial|refine And.intro ?_ ?_)) ?_
 refine aI.block (yA (N:=18) rfl r rfl 100 (fun n=>10≤n∧n<100) 100 (Nat.le_refl _) (by omega) (fun o ho=>by have h1:=hwt o ho;rw [ux,uv];obtain ⟨k,p,f,n,a⟩:=o;simp only [RO.wt] at h1;show p.nodes<_;omega) (fun n h=>rz fun p hp=>?_) (fun n h=>rz fun p hp=>?_) (by exact rU) (outs:=vQ r) (stop:=fun _ cx _=>cx=(fun _ _=>True)∧False) ?_ (fun l0 D fn tmps hN=>?_) ?_ (fun c cx o h=>h.2.elim))
 ·simp only [List.mem_cons,List.not_mem_nil,or_false] at hp
  rcases hp with rfl|rfl <;> (dsimp only;omega)
 ·simp only [List.mem_cons,List.not_mem_nil,or_false] at hp
  rcases hp with rfl|rfl <;> (dsimp only;omega)
 ·intro q hq
  simp only [vQ,List.mem_cons,List.not_mem_nil,or_false] at hq
  rcases hq with rfl|rfl <;> rfl
 ·refine dR.top (d:=4) (n:=5) (lo:=10) (hi:=100) (stop:=fun _ _=>False) (HL r) (fun n h1 h2=>⟨h1,h2⟩) hN (by decide) (fun hw=>Ja hw) rfl (by decide) (by decide) (fun x hx=>?_) (fun k cs b G C hk hcs=>?_)
  ·obtain ⟨t,_,rfl⟩:=List.mem_map.1 hx
   exact ⟨_,sF t,sD t⟩
  rw [List.getElem?_map,Option.map_eq_some_iff] at hk
  obtain ⟨t,htk,hte⟩:=hk
  rw [sF] at hte
  obtain rfl:sB t=cs:=T.agg.inj hte
  have hfs:=vL (g:=gr) htk
  have hos:vQ r k=[(3,.v [.mp 5]),(5,.m false [.str] (esS (once [] (ta gr (tf r) k))) none)]:=rfl
  rw [hos]
  generalize hks:once [] (ta gr (tf r) k)=ks
  have endN: ∀s:St,s.gh=G→s.cx=C→(∀ q, ¬(10≤q∧q<100)→s.bx q=aK b [(3,.v [.mp 5]),(5,.m false [.str] (esS (once [] (ta gr (tf r) (k+1)))) none)] q)→RB b G C 10 100 (vQ r (k+1)) (fun _ _=>False) .normal s:=fun s h1 h2 h3=>⟨h1,h2,_,h3,rfl⟩
  have same:gr t=[]→once [] (ta gr (tf r) (k+1))=ks:=fun h=>by rw [hfs,h,List.append_nil,hks]
  have more: ∀s,gr t=[s]→once [] (ta gr (tf r) (k+1))=if s∈ks then ks else ks++[s]:=fun s h=>by rw [hfs,h,vb,hks]
  generalize once [] (ta gr (tf r) (k+1))=ks' at *
  clear hte hks hos hfs
  refine Jg ?_
  obtain ⟨kd,f,n,m,args⟩:=t
  have hE:=sI f e0
  have hN:(!(f.toList==e0.toList))= !(sC f e0):=by rw [hE]
  cases hb:sC f e0 with
  |true=>
   have hg:=same (by unfold gr;exact if_pos hb)
   subst hg
   rw [hb] at hN
   repeat' ((conv=>whnf);first|refine nb_ _ hN ?_|refine nT_ ?_|refine aS ?_|fail)
   (conv=>whnf)
   refine endN _ rfl rfl fun q hq=>?_
   have hm:=qX (b:=b) hq
   show cond (Nat.beq q 14) _ (cond (Nat.beq q 3) _ (cond (Nat.beq q 5) _ (gE 10 100 b q)))=cond (Nat.beq q 3) _ (cond (Nat.beq q 5) _ (b q))
   rw [eS (show q≠14 by omega),hm];rfl
  |false=>
   have hmr:=more f (by unfold gr;exact if_neg (show ¬(sC f e0=true) by rw [hb];simp))
   rw [hb] at hN
   repeat' ((conv=>whnf);first|refine nb_ _ hN ?_|refine nT_ ?_|(refine And.intro (by first|exact ⟨rfl,trivial⟩|fail) ?_)|refine aS ?_|fail)
   (conv=>whnf)
   refine endN _ rfl rfl fun q hq=>?_
   have hm:=qX (b:=b) hq
   by_cases h5:q=5
   ·subst h5
    show some (BX.m false [.str] (bK (T.str f) (T.bool true) _) none)=some (BX.m false [.str] _ none)
    rw [Ad,hmr]
   show cond (Nat.beq q 5) _ (cond (Nat.beq q 14) _ (cond (Nat.beq q 3) _ (cond (Nat.beq q 5) _ (gE 10 100 b q))))=cond (Nat.beq q 3) _ (cond (Nat.beq q 5) _ (b q))
   rw [eS h5,eS (show q≠14 by omega),hm];rfl
 ·have hes:vQ r (tf r).length=[(3,.v [.mp 5]),(5,.m false [.str] (esS (once [] ((tf r).flatMap gr))) none)]:=by unfold vQ;rw [wo]
  have hll:((tf r).flatMap gr).length≤(tf r).length:=wN fun x _=>by unfold gr;split <;> simp
  have hol:=vE (l:=(tf r).flatMap gr) (acc:=[])
  have hnd:=uN (l:=(tf r).flatMap gr) (acc:=[]) List.nodup_nil
  have hfin:vI (once [] ((tf r).flatMap gr))=reads r:=by
   unfold vI reads
   refine wU Ab fun x=>?_
   rw [vD]
   simp only [List.not_mem_nil,false_or]
   rw [show (tf r).flatMap gr=D3 r by rw [Ag];rfl]
  rw [hes]
  simp only [List.length_nil,Nat.zero_add] at hol
  generalize once [] ((tf r).flatMap gr)=ks at *
  have hk1:=BC ks (ks.map fun _=>T.bool true)
  have hk2:=(zw ks (ks.map fun _=>T.bool true) (by simp) (by omega) hnd).rD
  rw [hfin] at hk2
  refine aI.bP (s:={sl:=[(3,.ptr 3 0)],bx:=[(3,.v [.t (mpb ks (ks.map fun _=>T.bool true))])]}) ⟨⟨.same _,trivial⟩,⟨.v _ _ ⟨.conv _ _ [5] ?_ (by simp [Wk.keys]),trivial⟩,trivial⟩,trivial,rfl,fun _ _ _=>trivial,rfl⟩ ?_
  ·show some (T.mapd false [.str] ((esS ks).map (·.1)) ((esS ks).map (·.2)),[5])=_
   unfold esS
   rw [List.map_map,List.map_map];rfl
  refine Jl ?_
  repeat' ((conv=>whnf);first|refine rE _ (hk1) ?_|refine rE _ (hk2) ?_|fail)
  exact ⟨⟨rfl,trivial⟩,fun _ _=>trivial⟩
end Go.TY
end
section
namespace Go.TY
open Go Go.DL Go.MM Go.Proofs
attribute [local irreducible] aI gR WCM YC
def gw:RO→List ByteArray:=fun x=>if x.kind=2 then [x.field] else []
def vR (r:RO) (k:Nat):List (Nat×BX):=[(3,.v [.mp 5]),(5,.m false [.str] (esS (once [] (ta gw (sG r) k))) none)]
theorem HM (r:RO):ph (fun n=>10≤n∧n<100) 100 (fun _ _=>True) (vR r) (fun _ cx _=>cx=(fun _ _=>True)∧False) where
 fh:=fun n h=>h.2
 nm:=fun k p hp=>by
  simp only [vR,List.mem_cons,List.not_mem_nil,or_false] at hp
  rcases hp with rfl|rfl <;> exact ⟨by dsimp only;omega,by dsimp only;omega⟩
 nms:=fun c cx o ho=>ho.2.elim
 cov:=fun k k' p hp=>by
  simp only [vR,List.mem_cons,List.not_mem_nil,or_false] at hp ⊢
  rcases hp with rfl|rfl
  ·exact ⟨_,Or.inl rfl,rfl⟩
  ·exact ⟨_,Or.inr rfl,rfl⟩
 covs:=fun c cx o ho=>ho.2.elim
 safe:=fun k p hp=>by
  simp only [vR,List.mem_cons,List.not_mem_nil,or_false] at hp
  rcases hp with rfl|rfl
  ·intro c hc
   rw [List.mem_singleton.1 hc]
   exact .mp 5 ⟨(5,_),List.mem_cons_of_mem _ (List.mem_singleton.2 rfl),rfl⟩
  ·exact trivial
 safes:=fun c cx o ho=>ho.2.elim
 cxd:=fun c cx o ho=>ho.2.elim
 cxo_:=rT
 nd:=fun k=>by show ([3,5]:List Nat).Nodup;decide
theorem EF (r:RO) (hr:r.wt<2^39):DCalls Tryz.prog 25 [.agg (sA r)] (.slice 1 ((writes r).map T.str)):=by
 rw [← uE]
 refine qP Tryz.func25 Ln rfl (r:=[.slice 1 ((writes r).map T.str)]) (nlZ rfl) ?_
 have hlen:(sG r).length≤r.wt:=by rw [tc,ue];exact r.vY
 have hwt: ∀o∈sG r,o.wt≤r.wt:=by rw [tc];exact uH r
 have hpl:(tf r).length≤r.wt:=xM r
 rw [show Tryz.f25.ntmps=18 from rfl,show Tryz.f25.results.toList=[.tmp 2] from rfl,k25]
 have ht:=yt r
 rw [sP] at ht
 refine aI.seq (IT ?_)
 repeat' ((conv=>whnf);first|(refine And.intro (by first|exact tw _|fail) ?_)|fail)
 refine aI.seq (IZ ?_)
 repeat' ((conv=>whnf);first|refine aS ?_|fail)
 refine aI.seq (aI.seq (I5 ?_))
 repeat' ((conv=>whnf);first|refine rE _ (ht) ?_|fail)
 refine aI.bP (s:={sl:=[(3,.ptr 3 0),(7,.t (.clos 116 [.cptr (sX r) 0]))],bx:=[(3,.v [.mp 5]),(5,.m false [.str] [] none)]}) (by repeat' (first|exact trivial|exact LeV.same _|exact LeB.same _|exact rfl|exact fun _ _ _=>trivial|refine And.intro ?_ ?_)) ?_
 refine aI.block (vS (N:=18) rfl r rfl 100 (fun n=>10≤n∧n<100) 100 (Nat.le_refl _) (by omega) (fun n h=>rz fun p hp=>?_) (fun n h=>rz fun p hp=>?_) (by exact rU) (outs:=vR r) (stop:=fun _ cx _=>cx=(fun _ _=>True)∧False) ?_ (fun l0 D fn tmps hN=>?_) ?_ (fun c cx o h=>h.2.elim))
 ·simp only [List.mem_cons,List.not_mem_nil,or_false] at hp
  rcases hp with rfl|rfl <;> (dsimp only;omega)
 ·simp only [List.mem_cons,List.not_mem_nil,or_false] at hp
  rcases hp with rfl|rfl <;> (dsimp only;omega)
 ·intro q hq
  simp only [vR,List.mem_cons,List.not_mem_nil,or_false] at hq
  rcases hq with rfl|rfl <;> rfl
 ·refine dR.top (d:=4) (n:=9) (lo:=10) (hi:=100) (stop:=fun _ _=>False) (HM r) (fun n h1 h2=>⟨h1,h2⟩) hN (by decide) (fun hw=>Jb hw) rfl (by decide) (by decide) (fun x hx=>?_) (fun k cs b G C hk hcs=>?_)
  ·obtain ⟨t,_,rfl⟩:=List.mem_map.1 hx
   exact ⟨_,sP t,tw t⟩
  rw [List.getElem?_map,Option.map_eq_some_iff] at hk
  obtain ⟨t,htk,hte⟩:=hk
  rw [sP] at hte
  obtain rfl:sX t=cs:=T.agg.inj hte
  have hfs:=vL (g:=gw) htk
  have hos:vR r k=[(3,.v [.mp 5]),(5,.m false [.str] (esS (once [] (ta gw (sG r) k))) none)]:=rfl
  rw [hos]
  generalize hks:once [] (ta gw (sG r) k)=ks
  have endN: ∀s:St,s.gh=G→s.cx=C→(∀ q, ¬(10≤q∧q<100)→s.bx q=aK b [(3,.v [.mp 5]),(5,.m false [.str] (esS (once [] (ta gw (sG r) (k+1)))) none)] q)→RB b G C 10 100 (vR r (k+1)) (fun _ _=>False) .normal s:=fun s h1 h2 h3=>⟨h1,h2,_,h3,rfl⟩
  have same:gw t=[]→once [] (ta gw (sG r) (k+1))=ks:=fun h=>by rw [hfs,h,List.append_nil,hks]
  have more: ∀s,gw t=[s]→once [] (ta gw (sG r) (k+1))=if s∈ks then ks else ks++[s]:=fun s h=>by rw [hfs,h,vb,hks]
  generalize once [] (ta gw (sG r) (k+1))=ks' at *
  clear hte hks hos hfs
  refine Jh ?_
  obtain ⟨kd,p,f,n,args⟩:=t
  by_cases k2:kd=2
  ·have hmr:=more f (by unfold gw;exact if_pos k2)
   repeat' ((conv=>whnf);first|refine qx k2 ?_|refine nT_ ?_|(refine And.intro (by first|exact ⟨rfl,trivial⟩|fail) ?_)|refine aS ?_|fail)
   (conv=>whnf)
   refine endN _ rfl rfl fun q hq=>?_
   have hm:=qX (b:=b) hq
   by_cases h5:q=5
   ·subst h5
    show some (BX.m false [.str] (bK (T.str f) (T.bool true) _) none)=some (BX.m false [.str] _ none)
    rw [Ad,hmr]
   show cond (Nat.beq q 5) _ (cond (Nat.beq q 14) _ (cond (Nat.beq q 3) _ (cond (Nat.beq q 5) _ (gE 10 100 b q))))=cond (Nat.beq q 3) _ (cond (Nat.beq q 5) _ (b q))
   rw [eS h5,eS (show q≠14 by omega),hm];rfl
  ·have hg:=same (by unfold gw;exact if_neg k2)
   subst hg
   repeat' ((conv=>whnf);first|refine qw k2 ?_|refine nT_ ?_|refine aS ?_|fail)
   (conv=>whnf)
   refine endN _ rfl rfl fun q hq=>?_
   have hm:=qX (b:=b) hq
   show cond (Nat.beq q 14) _ (cond (Nat.beq q 3) _ (cond (Nat.beq q 5) _ (gE 10 100 b q)))=cond (Nat.beq q 3) _ (cond (Nat.beq q 5) _ (b q))
   rw [eS (show q≠14 by omega),hm];rfl
 ·have hes:vR r (sG r).length=[(3,.v [.mp 5]),(5,.m false [.str] (esS (once [] ((sG r).flatMap gw))) none)]:=by unfold vR;rw [wo]
  have hll:((sG r).flatMap gw).length≤(sG r).length:=wN fun x _=>by unfold gw;split <;> simp
  have hol:=vE (l:=(sG r).flatMap gw) (acc:=[])
  have hnd:=uN (l:=(sG r).flatMap gw) (acc:=[]) List.nodup_nil
  have hfin:vI (once [] ((sG r).flatMap gw))=writes r:=by
   unfold vI writes
   refine wU Ab fun x=>?_
   rw [vD]
   simp only [List.not_mem_nil,false_or]
   rw [show (sG r).flatMap gw=BK r by rw [tc];rfl]
  rw [hes]
  simp only [List.length_nil,Nat.zero_add] at hol
  generalize once [] ((sG r).flatMap gw)=ks at *
  have hk1:=BC ks (ks.map fun _=>T.bool true)
  have hk2:=(zw ks (ks.map fun _=>T.bool true) (by simp) (by omega) hnd).rD
  rw [hfin] at hk2
  refine aI.bP (s:={sl:=[(3,.ptr 3 0)],bx:=[(3,.v [.t (mpb ks (ks.map fun _=>T.bool true))])]}) ⟨⟨.same _,trivial⟩,⟨.v _ _ ⟨.conv _ _ [5] ?_ (by simp [Wk.keys]),trivial⟩,trivial⟩,trivial,rfl,fun _ _ _=>trivial,rfl⟩ ?_
  ·show some (T.mapd false [.str] ((esS ks).map (·.1)) ((esS ks).map (·.2)),[5])=_
   unfold esS
   rw [List.map_map,List.map_map];rfl
  refine Jm ?_
  repeat' ((conv=>whnf);first|refine rE _ (hk1) ?_|refine rE _ (hk2) ?_|fail)
  exact ⟨⟨rfl,trivial⟩,fun _ _=>trivial⟩
end Go.TY
end
section
namespace Go.TY
open Go Go.DL Go.MM Go.Proofs
attribute [local irreducible] aI gR WCM YC
def gp:RO→List Int:=fun x=>if x.kind=2∧sC x.field s9=true then [x.n] else []
def vP (r:RO) (k:Nat):List (Nat×BX):=[(3,.v [.mp 5]),(5,.m false [.int .i64] (esI (once [] (ta gp (sG r) k))) none)]
theorem HK (r:RO):ph (fun n=>10≤n∧n<100) 100 (fun _ _=>True) (vP r) (fun _ cx _=>cx=(fun _ _=>True)∧False) where
 fh:=fun n h=>h.2
 nm:=fun k p hp=>by
  simp only [vP,List.mem_cons,List.not_mem_nil,or_false] at hp
  rcases hp with rfl|rfl <;> exact ⟨by dsimp only;omega,by dsimp only;omega⟩
 nms:=fun c cx o ho=>ho.2.elim
 cov:=fun k k' p hp=>by
  simp only [vP,List.mem_cons,List.not_mem_nil,or_false] at hp ⊢
  rcases hp with rfl|rfl
  ·exact ⟨_,Or.inl rfl,rfl⟩
  ·exact ⟨_,Or.inr rfl,rfl⟩
 covs:=fun c cx o ho=>ho.2.elim
 safe:=fun k p hp=>by
  simp only [vP,List.mem_cons,List.not_mem_nil,or_false] at hp
  rcases hp with rfl|rfl
  ·intro c hc
   rw [List.mem_singleton.1 hc]
   exact .mp 5 ⟨(5,_),List.mem_cons_of_mem _ (List.mem_singleton.2 rfl),rfl⟩
  ·exact trivial
 safes:=fun c cx o ho=>ho.2.elim
 cxd:=fun c cx o ho=>ho.2.elim
 cxo_:=rT
 nd:=fun k=>by show ([3,5]:List Nat).Nodup;decide
theorem Gd (r:RO) (hr:r.wt<2^39):DCalls Tryz.prog 28 [.agg (sA r)] (.slice 1 ((yU r).map I)):=by
 rw [← uE]
 refine qP Tryz.func28 Lo rfl (r:=[.slice 1 ((yU r).map I)]) (nlZ rfl) ?_
 have hlen:(sG r).length≤r.wt:=by rw [tc,ue];exact r.vY
 have hwt: ∀o∈sG r,o.wt≤r.wt:=by rw [tc];exact uH r
 have hpl:(tf r).length≤r.wt:=xM r
 rw [show Tryz.f28.ntmps=23 from rfl,show Tryz.f28.results.toList=[.tmp 2] from rfl,k28]
 have ht:=yt r
 rw [sP] at ht
 refine aI.seq (IU ?_)
 repeat' ((conv=>whnf);first|(refine And.intro (by first|exact tw _|fail) ?_)|fail)
 refine aI.seq (I0 ?_)
 repeat' ((conv=>whnf);first|refine aS ?_|fail)
 refine aI.seq (aI.seq (I6 ?_))
 repeat' ((conv=>whnf);first|refine rE _ (ht) ?_|fail)
 refine aI.bP (s:={sl:=[(3,.ptr 3 0),(7,.t (.clos 116 [.cptr (sX r) 0]))],bx:=[(3,.v [.mp 5]),(5,.m false [.int .i64] [] none)]}) (by repeat' (first|exact trivial|exact LeV.same _|exact LeB.same _|exact rfl|exact fun _ _ _=>trivial|refine And.intro ?_ ?_)) ?_
 refine aI.block (vS (N:=23) rfl r rfl 100 (fun n=>10≤n∧n<100) 100 (Nat.le_refl _) (by omega) (fun n h=>rz fun p hp=>?_) (fun n h=>rz fun p hp=>?_) (by exact rU) (outs:=vP r) (stop:=fun _ cx _=>cx=(fun _ _=>True)∧False) ?_ (fun l0 D fn tmps hN=>?_) ?_ (fun c cx o h=>h.2.elim))
 ·simp only [List.mem_cons,List.not_mem_nil,or_false] at hp
  rcases hp with rfl|rfl <;> (dsimp only;omega)
 ·simp only [List.mem_cons,List.not_mem_nil,or_false] at hp
  rcases hp with rfl|rfl <;> (dsimp only;omega)
 ·intro q hq
  simp only [vP,List.mem_cons,List.not_mem_nil,or_false] at hq
  rcases hq with rfl|rfl <;> rfl
 ·refine dR.top (d:=4) (n:=9) (lo:=10) (hi:=100) (stop:=fun _ _=>False) (HK r) (fun n h1 h2=>⟨h1,h2⟩) hN (by decide) (fun hw=>Jc hw) rfl (by decide) (by decide) (fun x hx=>?_) (fun k cs b G C hk hcs=>?_)
  ·obtain ⟨t,_,rfl⟩:=List.mem_map.1 hx
   exact ⟨_,sP t,tw t⟩
  rw [List.getElem?_map,Option.map_eq_some_iff] at hk
  obtain ⟨t,htk,hte⟩:=hk
  rw [sP] at hte
  obtain rfl:sX t=cs:=T.agg.inj hte
  have hfs:=vL (g:=gp) htk
  have hos:vP r k=[(3,.v [.mp 5]),(5,.m false [.int .i64] (esI (once [] (ta gp (sG r) k))) none)]:=rfl
  rw [hos]
  generalize hks:once [] (ta gp (sG r) k)=ks
  have endN: ∀s:St,s.gh=G→s.cx=C→(∀ q, ¬(10≤q∧q<100)→s.bx q=aK b [(3,.v [.mp 5]),(5,.m false [.int .i64] (esI (once [] (ta gp (sG r) (k+1)))) none)] q)→RB b G C 10 100 (vP r (k+1)) (fun _ _=>False) .normal s:=fun s h1 h2 h3=>⟨h1,h2,_,h3,rfl⟩
  have same:gp t=[]→once [] (ta gp (sG r) (k+1))=ks:=fun h=>by rw [hfs,h,List.append_nil,hks]
  have more: ∀s,gp t=[s]→once [] (ta gp (sG r) (k+1))=if s∈ks then ks else ks++[s]:=fun s h=>by rw [hfs,h,vb,hks]
  generalize once [] (ta gp (sG r) (k+1))=ks' at *
  clear hte hks hos hfs
  refine Ji ?_
  obtain ⟨kd,p,f,n,args⟩:=t
  have hE:=sI f s9
  by_cases k2:kd=2
  ·cases hb:sC f s9 with
   |true=>
    have hmr:=more n (by unfold gp;exact if_pos ⟨k2,hb⟩)
    rw [hb] at hE
    repeat' ((conv=>whnf);first|refine qx k2 ?_|refine nb_ _ hE ?_|refine nT_ ?_|(refine And.intro (by first|exact ⟨rfl,rfl,trivial⟩|fail) ?_)|refine aS ?_|fail)
    (conv=>whnf)
    refine endN _ rfl rfl fun q hq=>?_
    have hm:=qX (b:=b) hq
    by_cases h5:q=5
    ·subst h5
     show some (BX.m false [.int .i64] (bK (T.int .i64 n) (T.bool true) _) none)=some (BX.m false [.int .i64] _ none)
     rw [yS,hmr]
    show cond (Nat.beq q 5) _ (cond (Nat.beq q 14) _ (cond (Nat.beq q 3) _ (cond (Nat.beq q 5) _ (gE 10 100 b q))))=cond (Nat.beq q 3) _ (cond (Nat.beq q 5) _ (b q))
    rw [eS h5,eS (show q≠14 by omega),hm];rfl
   |false=>
    have hg:=same (by unfold gp;exact if_neg (fun h=>by rw [show sC f s9=true from h.2] at hb;cases hb))
    subst hg
    rw [hb] at hE
    repeat' ((conv=>whnf);first|refine qx k2 ?_|refine nb_ _ hE ?_|refine nT_ ?_|refine aS ?_|fail)
    (conv=>whnf)
    refine endN _ rfl rfl fun q hq=>?_
    have hm:=qX (b:=b) hq
    show cond (Nat.beq q 14) _ (cond (Nat.beq q 3) _ (cond (Nat.beq q 5) _ (gE 10 100 b q)))=cond (Nat.beq q 3) _ (cond (Nat.beq q 5) _ (b q))
    rw [eS (show q≠14 by omega),hm];rfl
  ·have hg:=same (by unfold gp;exact if_neg (fun h=>k2 h.1))
   subst hg
   repeat' ((conv=>whnf);first|refine qw k2 ?_|refine nT_ ?_|refine aS ?_|fail)
   (conv=>whnf)
   refine endN _ rfl rfl fun q hq=>?_
   have hm:=qX (b:=b) hq
   show cond (Nat.beq q 14) _ (cond (Nat.beq q 3) _ (cond (Nat.beq q 5) _ (gE 10 100 b q)))=cond (Nat.beq q 3) _ (cond (Nat.beq q 5) _ (b q))
   rw [eS (show q≠14 by omega),hm];rfl
 ·have hes:vP r (sG r).length=[(3,.v [.mp 5]),(5,.m false [.int .i64] (esI (once [] ((sG r).flatMap gp))) none)]:=by unfold vP;rw [wo]
  have hll:((sG r).flatMap gp).length≤(sG r).length:=wN fun x _=>by unfold gp;split <;> simp
  have hol:=vE (l:=(sG r).flatMap gp) (acc:=[])
  have hnd:=uN (l:=(sG r).flatMap gp) (acc:=[]) List.nodup_nil
  have hfin:yL (once [] ((sG r).flatMap gp))=yU r:=by
   unfold yL yU
   refine wU Ew fun x=>?_
   rw [vD]
   simp only [List.not_mem_nil,false_or]
   rw [show (sG r).flatMap gp=DM r by rw [tc];rfl]
  rw [hes]
  simp only [List.length_nil,Nat.zero_add] at hol
  generalize once [] ((sG r).flatMap gp)=ks at *
  have hk1:=BD ks (ks.map fun _=>T.bool true)
  have hk2:=(zx ks (ks.map fun _=>T.bool true) (by simp) (by omega) hnd).rD
  rw [hfin] at hk2
  refine aI.bP (s:={sl:=[(3,.ptr 3 0)],bx:=[(3,.v [.t (mpi ks (ks.map fun _=>T.bool true))])]}) ⟨⟨.same _,trivial⟩,⟨.v _ _ ⟨.conv _ _ [5] ?_ (by simp [Wk.keys]),trivial⟩,trivial⟩,trivial,rfl,fun _ _ _=>trivial,rfl⟩ ?_
  ·show some (T.mapd false [.int .i64] ((esI ks).map (·.1)) ((esI ks).map (·.2)),[5])=_
   unfold esI
   rw [List.map_map,List.map_map];rfl
  refine Jn ?_
  repeat' ((conv=>whnf);first|refine rE _ (hk1) ?_|refine rE _ (hk2) ?_|fail)
  exact ⟨⟨rfl,trivial⟩,fun _ _=>trivial⟩
end Go.TY
end
section
namespace Go.TY
open Go Go.DL Go.MM Go.Proofs
theorem DCalls.to {P:Program} {f:FuncId} {xs:List T} {r r':T} (h:DCalls P f xs r) (hl:Les r r'):DCalls P f xs r':=h.res fun S w v k=>hl S w v k
theorem B0 (k:Int) (f:ByteArray) (n m:Int):Les (.agg [I k,.str f,I n,I m,.nil]) (.agg (sB (.mk k f n m []))):=
 Les.agg (.cons (Les.refl _) rfl (.cons (Les.refl _) rfl (.cons (Les.refl _) rfl (.cons (Les.refl _) rfl (.cons (Les.nil 5) rfl .nil)))))
theorem IL (k:Int) (f:ByteArray) (n:Int):Les (.agg [I k,I 0,.str e0,I 0,I 0,.nil,.str f,I n,.nil]) (.agg (sA (.mk k wA f n []))):=
 Les.agg (.cons (Les.refl _) rfl (.cons (Les.refl _) rfl (.cons (Les.refl _) rfl (.cons (Les.refl _) rfl (.cons (Les.refl _) rfl (.cons (Les.nil 5) rfl (.cons (Les.refl _) rfl (.cons (Les.refl _) rfl (.cons (Les.nil 9) rfl .nil)))))))))
theorem IK {p:RP} (f:ByteArray) (n:Int):Les (.agg (I 1::(sB p++[.str f,I n,.nil]))) (.agg (sA (.mk 1 p f n []))):=by
 obtain ⟨k,pf,pn,pm,pa⟩:=p
 exact Les.agg (.cons (Les.refl _) rfl (.cons (Les.refl _) rfl (.cons (Les.refl _) rfl (.cons (Les.refl _) rfl (.cons (Les.refl _) rfl (.cons (Les.refl _) rfl (.cons (Les.refl _) rfl (.cons (Les.refl _) rfl (.cons (Les.nil 9) rfl .nil)))))))))
theorem B1 (k:Int) (xs:List RO):Les (.agg [I k,I 0,.str e0,I 0,I 0,.nil,.str e0,I 0,.slice 9 (xs.map sZ)]) (.agg (sA (.mk k wA e0 0 xs))):=
 Les.agg (.cons (Les.refl _) rfl (.cons (Les.refl _) rfl (.cons (Les.refl _) rfl (.cons (Les.refl _) rfl (.cons (Les.refl _) rfl (.cons (Les.nil 5) rfl (.cons (Les.refl _) rfl (.cons (Les.refl _) rfl (.cons (Les.refl _) rfl .nil)))))))))
theorem BY (f:ByteArray) (n:Int):DCalls Tryz.prog 62 [.str f,I n] (.agg (sB (.mk 3 f n 0 []))):=by
 refine DCalls.to (r:=.agg [I 3,.str f,I n,I 0,.nil]) ?_ (B0 _ _ _ _)
 refine qO (rs:=[.cell 4 25]) mixed Tryz.func62 l62 rfl rfl rfl (r:=[.agg [I 3,.str f,I n,I 0,.nil]]) (nlZ rfl) ?_
 repeat' ((conv=>whnf);first|exact trivial|refine aS ?_|fail)
 all_goals exact ⟨congrArg some rfl,trivial⟩
theorem yR (f:ByteArray) (n:Int):DCalls Tryz.prog 63 [.str f,I n] (.agg (sA (.mk 2 wA f n []))):=by
 refine DCalls.to (r:=.agg [I 2,I 0,.str e0,I 0,I 0,.nil,.str f,I n,.nil]) ?_ (IL _ _ _)
 refine qO (rs:=[.cell 4 28]) mixed Tryz.func63 l63 rfl rfl rfl (r:=[.agg [I 2,I 0,.str e0,I 0,I 0,.nil,.str f,I n,.nil]]) (nlZ rfl) ?_
 repeat' ((conv=>whnf);first|exact trivial|refine aS ?_|fail)
 all_goals exact ⟨congrArg some rfl,trivial⟩
theorem yJ (p:RP):DCalls Tryz.prog 61 [.agg (sB p)] (.agg (sA (.mk 1 p e0 0 []))):=by
 refine DCalls.to (r:=.agg (I 1::(sB p++[.str e0,I 0,.nil]))) ?_ (IK _ _)
 obtain ⟨k,pf,pn,pm,pa⟩:=p
 refine qO (rs:=[.cell 2 28]) mixed Tryz.func61 l61 rfl rfl rfl (r:=[.agg (I 1::(sB (.mk k pf pn pm pa)++[.str e0,I 0,.nil]))]) (nlZ rfl) ?_
 repeat' ((conv=>whnf);first|exact trivial|refine aS ?_|fail)
 all_goals exact ⟨congrArg some rfl,trivial⟩
theorem BZ (x y:RO):DCalls Tryz.prog 32 [.agg (sA x),.agg (sA y)] (.agg (sA (xQ 4 x y))):=by
 refine DCalls.to (r:=.agg [I 4,I 0,.str e0,I 0,I 0,.nil,.str e0,I 0,.slice 9 ([x,y].map sZ)]) ?_ (B1 _ _)
 have e:([x,y].map sZ)=[.agg (sA x),.agg (sA y)]:=by simp [sJ]
 rw [e]
 have h1:=sE x
 have h2:=sE y
 generalize sA x=a at *
 generalize sA y=b at *
 refine qO (rs:=[.cell 4 28]) mixed Tryz.func32 l32 rfl rfl rfl (r:=[.agg [I 4,I 0,.str e0,I 0,I 0,.nil,.str e0,I 0,.slice 9 [.agg a,.agg b]]]) (nlZ rfl) ?_
 repeat' ((conv=>whnf);first|exact trivial|(refine And.intro (by first|exact h1|exact h2|exact ⟨⟨trivial,h1⟩,h2⟩|fail) ?_)|refine aS ?_|fail)
 all_goals exact ⟨congrArg some rfl,trivial⟩
theorem FV (x y:RO):DCalls Tryz.prog 33 [.agg (sA x),.agg (sA y)] (.agg (sA (xQ 3 x y))):=by
 refine DCalls.to (r:=.agg [I 3,I 0,.str e0,I 0,I 0,.nil,.str e0,I 0,.slice 9 ([x,y].map sZ)]) ?_ (B1 _ _)
 have e:([x,y].map sZ)=[.agg (sA x),.agg (sA y)]:=by simp [sJ]
 rw [e]
 have h1:=sE x
 have h2:=sE y
 generalize sA x=a at *
 generalize sA y=b at *
 refine qO (rs:=[.cell 4 28]) mixed Tryz.func33 l33 rfl rfl rfl (r:=[.agg [I 3,I 0,.str e0,I 0,I 0,.nil,.str e0,I 0,.slice 9 [.agg a,.agg b]]]) (nlZ rfl) ?_
 repeat' ((conv=>whnf);first|exact trivial|(refine And.intro (by first|exact h1|exact h2|exact ⟨⟨trivial,h1⟩,h2⟩|fail) ?_)|refine aS ?_|fail)
 all_goals exact ⟨congrArg some rfl,trivial⟩
def uY:ByteArray:=⟨#[100,115,116]⟩
def vH:ByteArray:=⟨#[115,114,99]⟩
def wu:ByteArray:=⟨#[107,105,110,100]⟩
def L3:List Fd:=[⟨uY,16,8⟩,⟨vH,24,8⟩,⟨wu,33,3⟩]
theorem Ev:DCalls Tryz.prog 60 [] (fds L3):=by
 refine qO (rs:=[.tmp 0]) mixed Tryz.func60 l60 rfl rfl rfl (r:=[fds L3]) (nlZ rfl) ?_
 repeat' ((conv=>whnf);first|exact trivial|refine aS ?_|fail)
theorem Af:LOk L3:=⟨by decide,fun f hf=>by
 simp only [L3,List.mem_cons,List.not_mem_nil,or_false] at hf
 rcases hf with rfl|rfl|rfl <;> exact ⟨by decide,by decide,by decide⟩⟩
end Go.TY
end
section
namespace Go.TY
open Go Go.DL Go.MM Go.Proofs
def HU:ByteArray:=⟨#[116,111,112]⟩
def cN:ByteArray:=⟨#[99]⟩
def tN:ByteArray:=⟨#[116]⟩
abbrev idF:RO:=.mk 1 (.mk 1 e0 0 0 []) e0 0 []
abbrev BO:RO:=.mk 1 (.mk 2 e0 0 0 []) e0 0 []
abbrev vU:RO:=.mk 1 (.mk 9 e0 3 7 []) e0 0 []
abbrev uu:RG:=⟨idF,⟨2,cN,[vH],e0,0,0⟩⟩
abbrev uM:RG:=⟨idF,⟨3,cN,[uY],e0,5,0⟩⟩
abbrev z8:RG:=⟨idF,⟨3,cN,[wu],e0,5,0⟩⟩
abbrev yQ:RG:=⟨idF,⟨1,cN,[vH],e0,0,0⟩⟩
abbrev Aa:RG:=⟨idF,⟨6,cN,[vH],e0,1,1⟩⟩
abbrev Iw:RG:=⟨vU,⟨0,e0,[],e0,0,0⟩⟩
abbrev eqF (f:ByteArray) (n:Int):RP:=.mk 3 f n 0 []
abbrev fiF (p:RP):RO:=.mk 1 p e0 0 []
abbrev seF (f:ByteArray) (n:Int):RO:=.mk 2 wA f n []
abbrev xF:RO:=xQ 3 (xQ 4 (fiF (eqF uY 5)) (seF s9 2)) (xQ 4 (seF s9 1) (.mk 5 wA e0 0 [seF vH 0]))
abbrev VL:List RV:=[⟨cN,2,[8],0,0⟩]
theorem sm1 (g:RG) (h:g=uu∨g=uM∨g=z8∨g=yQ∨g=Aa):SmG (2^39) g:=by
 rcases h with rfl|rfl|rfl|rfl|rfl
 all_goals refine ⟨⟨by decide,by decide,fun k hk=>?_,by decide⟩,by decide,fun _=>⟨⟨by decide,trivial⟩,by decide,trivial⟩⟩
 all_goals (rw [List.mem_singleton.1 hk];decide)
theorem CO (p:RP) (x:Int) (hr:p.nodes<2^40) (hn:uk p) (h:wQ L3 p=x):DCalls Tryz.prog 15 [fds L3,.agg (sB p)] (I x):=h▸Ec L3 Af p hr hn
theorem HH (k:Int) (f:ByteArray) (n m x:Int) (hn:f.size<2^62) (h:wQ L3 (.mk k f n m [])=x):DCalls Tryz.prog 15 [fds L3,.agg [I k,.str f,I n,I m,.nil]] (I x):=
 (CO (.mk k f n m []) x (by simp [RP.nodes,sK]) ⟨hn,trivial⟩ h).lesAll ⟨Les.refl _,B0 k f n m,trivial⟩
theorem xW (k:Int) (f:ByteArray) (n m:Int):DCalls Tryz.prog 61 [.agg [I k,.str f,I n,I m,.nil]] (.agg (sA (.mk 1 (.mk k f n m []) e0 0 []))):=
 (yJ (.mk k f n m [])).lesAll ⟨B0 k f n m,trivial⟩
theorem GA (x:RO) (k:Int) (ys:List RO):DCalls Tryz.prog 32 [.agg (sA x),.agg [I k,I 0,.str e0,I 0,I 0,.nil,.str e0,I 0,.slice 9 (ys.map sZ)]] (.agg (sA (xQ 4 x (.mk k wA e0 0 ys)))):=
 (BZ x (.mk k wA e0 0 ys)).lesAll ⟨Les.refl _,B1 k ys,trivial⟩
theorem HF (r:RO) (x:Int) (hr:r.wt<2^40) (hn:uj r) (h:uC L3 r=x):DCalls Tryz.prog 17 [fds L3,.agg (sA r)] (I x):=h▸yM L3 Af r hr hn
theorem FH (s:RS) (x:Int) (hs:SmS (2^59) s) (h:tT L3 s=x):DCalls Tryz.prog 19 [fds L3,.agg (sH s)] (I x):=h▸AS L3 Af s hs
theorem CP (gs:List RG) (x:Int) (hl:gs.length<2^40) (hs: ∀g∈gs,SmG (2^39) g) (h:B6 L3 gs=x):DCalls Tryz.prog 38 [fds L3,.slice 15 (gs.map tP)] (I x):=h▸Ed L3 Af gs hl hs
theorem xC {α:Type} {a b:α} {p:α→Prop} (ha:p a) (hb:p b): ∀x∈[a,b],p x:=fun x hx=>by
 simp only [List.mem_cons,List.not_mem_nil,or_false] at hx
 rcases hx with rfl|rfl
 ·exact ha
 ·exact hb
theorem J7:DCalls Tryz.prog 39 [fds L3,.slice 15 ([uu,uM].map tP)] (.slice 5 (VL.map sW)):=by
 have h:(uy L3 [uu,uM]).isNone=false:=by decide+kernel
 have e:zJ L3 [uu,uM]=VL:=by decide+kernel
 cases hv:uy L3 [uu,uM] with
 |none=>rw [hv] at h;cases h
 |some st=>
  have:=Bj L3 Af [uu,uM] (by decide) (xC ⟨(sm1 uu (by simp)).st.mono (by decide),by decide,by decide⟩ ⟨(sm1 uM (by simp)).st.mono (by decide),by decide,by decide⟩) st hv
  rwa [e] at this
theorem HE (tick:Int) (r q:RO) (hr:r.wt<2^39) (h:vB tick r=q):DCalls Tryz.prog 49 [.agg (sA r),I tick] (.agg (sA q)):=h▸t39 tick r hr
theorem FG (a b:RO) (x:Bool) (hr:a.wt<2^60) (h:wa a b=x):DCalls Tryz.prog 48 [.agg (sA a),.agg (sA b)] (.bool x):=h▸Ak _ a b (Nat.le_refl _) hr
theorem HI (r:RO) (x:List ByteArray) (hr:r.wt<2^39) (h:reads r=x):DCalls Tryz.prog 23 [.agg (sA r)] (.slice 1 (x.map T.str)):=h▸Ge r hr
theorem F8 (r:RO) (x:List ByteArray) (hr:r.wt<2^39) (h:writes r=x):DCalls Tryz.prog 25 [.agg (sA r)] (.slice 1 (x.map T.str)):=h▸EF r hr
theorem HG (r:RO) (x:List Int) (hr:r.wt<2^39) (h:yU r=x):DCalls Tryz.prog 28 [.agg (sA r)] (.slice 1 (x.map I)):=h▸Gd r hr
theorem J6 (r:RO) (x:Nat) (hr:sR r=true) (h:ua r=x):DCalls Tryz.prog 30 [.agg (sA r)] (I x):=h▸HQ _ r (Nat.le_refl _) hr
theorem HD (gs:List RG) (x:List Int) (hl:gs.length<2^39) (hg: ∀g∈gs,g.pol.wt<2^39) (hb:(bounds gs).length<2^40) (h:xd gs=x):DCalls Tryz.prog 57 [.slice 15 (gs.map tP)] (.slice 1 (x.map I)):=h▸AQ gs hl hg hb
theorem D4 (a:List ByteArray) (h:a.length<2^60):DCalls Tryz.prog 22 [.slice 1 (a.map .str),.slice 1 (a.map .str)] (.bool true):=by
 have:=Bh a a (Or.inl h)
 rwa [wc.2 rfl] at this
theorem FF (a:List Int) (h:a.length<2^60):DCalls Tryz.prog 27 [.slice 1 (a.map I),.slice 1 (a.map I)] (.bool true):=by
 have:=yY a a (Or.inl h)
 rwa [show (a==a)=true by simp] at this
theorem MQ:DCalls Tryz.prog 45 [.slice 5 (VL.map sW),.slice 5 (VL.map sW)] (.bool true):=by
 have:=yZ VL VL (Or.inl (by decide)) (Or.inl fun v hv=>by rw [List.mem_singleton.1 hv];decide)
 rwa [wz.2 rfl] at this
theorem Lw {P:Program} {i:DI} {is:List DI} {st:St} {K:St→Prop} (v:V) (h:wpI P i st (fun s=>s=st.set i.dst v)) (hk:aA P is (st.set i.dst v) K):aA P (i::is) st K:=cY (fun s e=>by rw [e];exact hk) h
theorem IJ {P:Program} {is:List DI} {B:PT} {st:St} {Q:aB→St→Prop} (h:aA P is st fun st'=>B st' Q):rl (rj P is []) B st Q:=h
theorem EK:DCalls Tryz.prog 10 [] (.bool true):=by
 refine qO (rs:=[.tmp 0]) mixed Tryz.func10 l10 rfl rfl rfl (r:=[.bool true]) (nlZ rfl) ?_
 have k1:=Ev
 have k2:=BY uY 300
 have k3:=BY HU 1
 have k4:=xW 1 e0 0 0
 have k5:=CO (eqF uY 300) 1 (by decide) ⟨by decide,trivial⟩ (by decide+kernel)
 have k6:=CO (eqF HU 1) 4 (by decide) ⟨by decide,trivial⟩ (by decide+kernel)
 have k7:=HH 4 wu 1 4 1 (by decide) (by decide+kernel)
 repeat' ((conv=>whnf);first|refine rE _ (k1) ?_|refine rE _ (k4) ?_|refine aS ?_|fail)
 refine rA (β:=Unit) (fun _=>{sl:=[(1,.t (fds L3)),(2,.ptr 2 0),(3,.t (.bool true))],bx:=[(2,.d 9 (sA idF))]}) (fun _=>True) ?_ ?_
 ·repeat' ((conv=>whnf);first|refine rE _ (k2) ?_|refine rE _ (k3) ?_|refine rE _ (k5) ?_|refine rE _ (k6) ?_|refine rE _ (k7) ?_|(exact ⟨(),trivial,by (repeat' (first|exact trivial|exact LeV.same _|exact LeB.same _|exact rfl|exact fun _ _ _=>trivial|refine And.intro ?_ ?_));done⟩)|refine aE1 ?_|refine aS ?_|fail)
 rintro _ _
 clear k1 k2 k3 k4 k5 k6 k7
 have k8:=BY uY 5
 have k9:=yJ (eqF uY 5)
 have k10:=yR wu 7
 have k11:=yR wu 8
 have k12:=BZ (fiF (eqF uY 5)) (seF wu 7)
 have k13:=HF (xQ 4 (fiF (eqF uY 5)) (seF wu 7)) 0 (by decide) ⟨⟨by decide,trivial⟩,by decide,⟨⟨by decide,trivial⟩,by decide,trivial⟩,⟨⟨by decide,trivial⟩,by decide,trivial⟩,trivial⟩ (by decide+kernel)
 have k14:=HF (seF wu 8) 1 (by decide) ⟨⟨by decide,trivial⟩,by decide,trivial⟩ (by decide+kernel)
 skip
 refine rA (β:=Unit) (fun _=>{sl:=[(1,.t (fds L3)),(2,.ptr 2 0),(3,.t (.bool true)),(4,.t (.bool true))],bx:=[(2,.d 9 (sA idF))]}) (fun _=>True) ?_ ?_
 ·repeat' ((conv=>whnf);first|refine rE _ (k8) ?_|refine rE _ (k9) ?_|refine rE _ (k10) ?_|refine rE _ (k11) ?_|refine rE _ (k12) ?_|refine rE _ (k13) ?_|refine rE _ (k14) ?_|(exact ⟨(),trivial,by (repeat' (first|exact trivial|exact LeV.same _|exact LeB.same _|exact rfl|exact fun _ _ _=>trivial|refine And.intro ?_ ?_));done⟩)|refine aE1 ?_|refine aS ?_|fail)
 rintro _ _
 clear k8 k9 k10 k11 k12 k13 k14
 have k15:=FH ⟨1,cN,[vH,vH],e0,0,0⟩ 1 ⟨by decide,by decide,xC (p:=fun k:ByteArray=>k.size<2^59) (by decide) (by decide),by decide⟩ (by decide+kernel)
 have k16:=FH ⟨4,tN,[vH],wu,1,9⟩ 1 ⟨by decide,by decide,fun k hk=>by rw [List.mem_singleton.1 hk];decide,by decide⟩ (by decide+kernel)
 skip
 refine rA (β:=Unit) (fun _=>{sl:=[(1,.t (fds L3)),(2,.ptr 2 0),(3,.t (.bool true)),(4,.t (.bool true)),(5,.t (.bool true))],bx:=[(2,.d 9 (sA idF))]}) (fun _=>True) ?_ ?_
 ·repeat' ((conv=>whnf);first|refine rE _ (k15) ?_|refine rE _ (k16) ?_|(exact ⟨(),trivial,by (repeat' (first|exact trivial|exact LeV.same _|exact LeB.same _|exact rfl|exact fun _ _ _=>trivial|refine And.intro ?_ ?_));done⟩)|refine aE1 ?_|refine aS ?_|fail)
 rintro _ _
 clear k15 k16
 skip
 refine rA (β:=Unit) (fun _=>{sl:=[(1,.t (fds L3)),(2,.ptr 2 0),(3,.t (.bool true)),(4,.t (.bool true)),(5,.t (.bool true)),(6,.ptr 6 0)],bx:=[(2,.d 9 (sA idF)),(6,.d 15 (sN uu))]}) (fun _=>True) ?_ ?_
 ·repeat' ((conv=>whnf);first|(exact ⟨(),trivial,by (repeat' (first|exact trivial|exact LeV.same _|exact LeB.same _|exact rfl|exact fun _ _ _=>trivial|refine And.intro ?_ ?_));done⟩)|refine aS ?_|fail)
 rintro _ _
 skip
 refine rA (β:=Unit) (fun _=>{sl:=[(1,.t (fds L3)),(2,.ptr 2 0),(3,.t (.bool true)),(4,.t (.bool true)),(5,.t (.bool true)),(6,.ptr 6 0),(7,.ptr 7 0)],bx:=[(2,.d 9 (sA idF)),(6,.d 15 (sN uu)),(7,.d 15 (sN uM))]}) (fun _=>True) ?_ ?_
 ·repeat' ((conv=>whnf);first|(exact ⟨(),trivial,by (repeat' (first|exact trivial|exact LeV.same _|exact LeB.same _|exact rfl|exact fun _ _ _=>trivial|refine And.intro ?_ ?_));done⟩)|refine aS ?_|fail)
 rintro _ _
 skip
 refine rA (β:=Unit) (fun _=>{sl:=[(1,.t (fds L3)),(2,.ptr 2 0),(3,.t (.bool true)),(4,.t (.bool true)),(5,.t (.bool true)),(6,.ptr 6 0),(7,.ptr 7 0),(8,.ptr 8 0)],bx:=[(2,.d 9 (sA idF)),(6,.d 15 (sN uu)),(7,.d 15 (sN uM)),(8,.d 15 (sN z8))]}) (fun _=>True) ?_ ?_
 ·repeat' ((conv=>whnf);first|(exact ⟨(),trivial,by (repeat' (first|exact trivial|exact LeV.same _|exact LeB.same _|exact rfl|exact fun _ _ _=>trivial|refine And.intro ?_ ?_));done⟩)|refine aS ?_|fail)
 rintro _ _
 skip
 refine rA (β:=Unit) (fun _=>{sl:=[(1,.t (fds L3)),(2,.ptr 2 0),(3,.t (.bool true)),(4,.t (.bool true)),(5,.t (.bool true)),(6,.ptr 6 0),(7,.ptr 7 0),(8,.ptr 8 0),(9,.ptr 9 0)],bx:=[(2,.d 9 (sA idF)),(6,.d 15 (sN uu)),(7,.d 15 (sN uM)),(8,.d 15 (sN z8)),(9,.d 15 (sN yQ))]}) (fun _=>True) ?_ ?_
 ·repeat' ((conv=>whnf);first|(exact ⟨(),trivial,by (repeat' (first|exact trivial|exact LeV.same _|exact LeB.same _|exact rfl|exact fun _ _ _=>trivial|refine And.intro ?_ ?_));done⟩)|refine aS ?_|fail)
 rintro _ _
 skip
 refine rA (β:=Unit) (fun _=>{sl:=[(1,.t (fds L3)),(2,.ptr 2 0),(3,.t (.bool true)),(4,.t (.bool true)),(5,.t (.bool true)),(6,.ptr 6 0),(7,.ptr 7 0),(8,.ptr 8 0),(9,.ptr 9 0),(10,.ptr 10 0)],bx:=[(2,.d 9 (sA idF)),(6,.d 15 (sN uu)),(7,.d 15 (sN uM)),(8,.d 15 (sN z8)),(9,.d 15 (sN yQ)),(10,.d 15 (sN Aa))]}) (fun _=>True) ?_ ?_
 ·repeat' ((conv=>whnf);first|(exact ⟨(),trivial,by (repeat' (first|exact trivial|exact LeV.same _|exact LeB.same _|exact rfl|exact fun _ _ _=>trivial|refine And.intro ?_ ?_));done⟩)|refine aS ?_|fail)
 rintro _ _
 have k17:=CP [uu,uM] 0 (by decide) (xC (sm1 _ (by simp)) (sm1 _ (by simp))) (by decide+kernel)
 have k18:=CP [uu,z8] 11 (by decide) (xC (sm1 _ (by simp)) (sm1 _ (by simp))) (by decide+kernel)
 have k19:=CP [yQ,Aa] 11 (by decide) (xC (sm1 _ (by simp)) (sm1 _ (by simp))) (by decide+kernel)
 skip
 refine rA (β:=Unit) (fun _=>{sl:=[(1,.t (fds L3)),(2,.ptr 2 0),(3,.t (.bool true)),(4,.t (.bool true)),(5,.t (.bool true)),(6,.ptr 6 0),(7,.ptr 7 0),(11,.t (.bool true))],bx:=[(2,.d 9 (sA idF)),(6,.d 15 (sN uu)),(7,.d 15 (sN uM))]}) (fun _=>True) ?_ ?_
 ·repeat' ((conv=>whnf);first|refine rE _ (k17) ?_|refine rE _ (k18) ?_|refine rE _ (k19) ?_|(exact ⟨(),trivial,by (repeat' (first|exact trivial|exact LeV.same _|exact LeB.same _|exact rfl|exact fun _ _ _=>trivial|refine And.intro ?_ ?_));done⟩)|refine aE1 ?_|refine aS ?_|fail)
 rintro _ _
 clear k17 k18 k19
 have k20:=J7
 skip
 refine rA (β:=Unit) (fun _=>{sl:=[(1,.t (fds L3)),(2,.ptr 2 0),(3,.t (.bool true)),(4,.t (.bool true)),(5,.t (.bool true)),(11,.t (.bool true)),(12,.t (.slice 5 (VL.map sW)))],bx:=[(2,.d 9 (sA idF))]}) (fun _=>True) ?_ ?_
 ·repeat' ((conv=>whnf);first|refine rE _ (k20) ?_|(exact ⟨(),trivial,by (repeat' (first|exact trivial|exact LeV.same _|exact LeB.same _|exact rfl|exact fun _ _ _=>trivial|refine And.intro ?_ ?_));done⟩)|refine aS ?_|fail)
 rintro _ _
 clear k20
 have k21:=xW 9 e0 3 7
 skip
 refine rA (β:=Unit) (fun _=>{sl:=[(1,.t (fds L3)),(2,.ptr 2 0),(3,.t (.bool true)),(4,.t (.bool true)),(5,.t (.bool true)),(11,.t (.bool true)),(12,.t (.slice 5 (VL.map sW))),(13,.ptr 13 0)],bx:=[(2,.d 9 (sA idF)),(13,.d 9 (sA vU))]}) (fun _=>True) ?_ ?_
 ·repeat' ((conv=>whnf);first|refine rE _ (k21) ?_|(exact ⟨(),trivial,by (repeat' (first|exact trivial|exact LeV.same _|exact LeB.same _|exact rfl|exact fun _ _ _=>trivial|refine And.intro ?_ ?_));done⟩)|refine aS ?_|fail)
 rintro _ _
 clear k21
 have k22:=HE 3 vU idF (by decide) rfl
 have k23:=HE 7 vU BO (by decide) rfl
 have k24:=xW 2 e0 0 0
 have k25:=FG idF idF true (by decide) (by decide+kernel)
 have k26:=FG BO BO true (by decide) (by decide+kernel)
 skip
 refine rA (β:=Unit) (fun _=>{sl:=[(1,.t (fds L3)),(3,.t (.bool true)),(4,.t (.bool true)),(5,.t (.bool true)),(11,.t (.bool true)),(12,.t (.slice 5 (VL.map sW))),(13,.ptr 13 0),(14,.t (.bool true))],bx:=[(13,.d 9 (sA vU))]}) (fun _=>True) ?_ ?_
 ·repeat' ((conv=>whnf);first|refine rE _ (k22) ?_|refine rE _ (k23) ?_|refine rE _ (k24) ?_|refine rE _ (k25) ?_|refine rE _ (k26) ?_|(exact ⟨(),trivial,by (repeat' (first|exact trivial|exact LeV.same _|exact LeB.same _|exact rfl|exact fun _ _ _=>trivial|refine And.intro ?_ ?_));done⟩)|refine aS ?_|fail)
 rintro _ _
 clear k22 k23 k24 k25 k26
 have k27:=BY uY 5
 have k28:=yJ (eqF uY 5)
 have k29:=yR s9 2
 have k30:=yR s9 1
 have k31:=yR vH 0
 have k32:=BZ (fiF (eqF uY 5)) (seF s9 2)
 have k33:=GA (seF s9 1) 5 [seF vH 0]
 have k34:=FV (xQ 4 (fiF (eqF uY 5)) (seF s9 2)) (xQ 4 (seF s9 1) (.mk 5 wA e0 0 [seF vH 0]))
 skip
 refine rA (β:=Unit) (fun _=>{sl:=[(1,.t (fds L3)),(3,.t (.bool true)),(4,.t (.bool true)),(5,.t (.bool true)),(11,.t (.bool true)),(12,.t (.slice 5 (VL.map sW))),(13,.ptr 13 0),(14,.t (.bool true)),(15,.ptr 15 0)],bx:=[(13,.d 9 (sA vU)),(15,.d 9 (sA xF))]}) (fun _=>True) ?_ ?_
 ·repeat' ((conv=>whnf);first|refine rE _ (k27) ?_|refine rE _ (k28) ?_|refine rE _ (k29) ?_|refine rE _ (k30) ?_|refine rE _ (k31) ?_|refine rE _ (k32) ?_|refine rE _ (k33) ?_|refine rE _ (k34) ?_|(exact ⟨(),trivial,by (repeat' (first|exact trivial|exact LeV.same _|exact LeB.same _|exact rfl|exact fun _ _ _=>trivial|refine And.intro ?_ ?_));done⟩)|refine aS ?_|fail)
 rintro _ _
 clear k27 k28 k29 k30 k31 k32 k33 k34
 have k35:=HI xF [uY] (by decide) (by decide+kernel)
 have k36:=F8 xF [s9,vH] (by decide) (by decide+kernel)
 have k37:=HG xF [1,2] (by decide) (by decide+kernel)
 have k38:=J6 xF 65536 (by decide+kernel) (by decide+kernel)
 have k39:=D4 [uY] (by decide)
 have k40:=D4 [s9,vH] (by decide)
 have k41:=FF [1,2] (by decide)
 skip
 refine rA (β:=Unit) (fun _=>{sl:=[(1,.t (fds L3)),(3,.t (.bool true)),(4,.t (.bool true)),(5,.t (.bool true)),(11,.t (.bool true)),(12,.t (.slice 5 (VL.map sW))),(13,.ptr 13 0),(14,.t (.bool true)),(16,.t (.bool true))],bx:=[(13,.d 9 (sA vU))]}) (fun _=>True) ?_ ?_
 ·repeat' ((conv=>whnf);first|refine rE _ (k35) ?_|refine rE _ (k36) ?_|refine rE _ (k37) ?_|refine rE _ (k38) ?_|refine rE _ (k39) ?_|refine rE _ (k40) ?_|refine rE _ (k41) ?_|(exact ⟨(),trivial,by (repeat' (first|exact trivial|exact LeV.same _|exact LeB.same _|exact rfl|exact fun _ _ _=>trivial|refine And.intro ?_ ?_));done⟩)|refine aE1 ?_|refine aS ?_|fail)
 rintro _ _
 clear k35 k36 k37 k38 k39 k40 k41
 have q1:=MQ
 have q2:=(HD [Iw] [3,7] (by decide) (fun g hg=>by rw [List.mem_singleton.1 hg];decide) (by decide) (by decide+kernel)).lesAll (ts:=[.slice 15 [.agg (sA vU++[I 0,.str e0,.nil,.str e0,I 0,I 0])]]) ⟨Les.slice rfl (fun i x y hx hy=>by
  cases i with
  |zero=>
   cases hx;cases hy
   exact ⟨dp.append (ts:=sA vU) (us:=sA vU) ⟨rfl,by decide,fun i t u h1 h2=>by rw [h1] at h2;cases h2;exact Les.refl _⟩ (.cons (Les.refl _) rfl (.cons (Les.refl _) rfl (.cons (Les.nil 1) rfl (.cons (Les.refl _) rfl (.cons (Les.refl _) rfl (.cons (Les.refl _) rfl .nil)))))),rfl⟩
  |succ i=>cases hx),trivial⟩
 have q3:=FF [3,7] (by decide)
 dsimp only
 refine IJ ?_
 iterate 17 (refine Lw (.t (.bool true)) ?_ ?_; ·(conv=>whnf);rfl)
 repeat' ((conv=>whnf);first|exact trivial|refine rE _ (q1) ?_|refine rE _ (q2) ?_|refine rE _ (q3) ?_|refine rb1 ?_|refine aS ?_|fail)
end Go.TY
end
section
namespace Go.TY
open Go Go.DL Go.Proofs
noncomputable def c3:aY:=(.seq (.region [oo 5 (.box 5 (tm 1)),oo 6 (.box 9 (tm 2)),oo 7 (.box 6 (tm 3)),oo 8 (.mov kF)] []) (.seq (.region [oo 10 (.call 10 []),mv 9 10] []) (.seq (.seq (.region [mv 11 0,oo 12 (.call 11 [tm 11]),oo 13 (.bin .neq (tm 12) (Kc 0)),mv 14 13,oF 15 14 (.load 5 true (tm 5)),oF 16 14 (.call 12 [tm 15]),oF 17 14 (.not (tm 16)),oo 18 (.pick (tm 14) kT (tm 17)),mv 19 18,oF 20 19 (.load 9 true (tm 6)),oF 21 19 (.call 13 [tm 20]),oF 22 19 (.not (tm 21)),oo 23 (.pick (tm 19) kT (tm 22)),mv 24 23,oF 25 24 (.load 6 true (tm 7)),oF 26 24 (.call 14 [tm 25]),oF 27 24 (.not (tm 26)),oo 28 (.pick (tm 24) kT (tm 27))] []) (.cond (tm 28) (.seq (.region [mv 29 9,mv 8 29] []) .ret) .skip)) (.seq (.region [mv 30 9,mv 31 30,mT 32 0 31,oT 33 31 (.load 5 true (tm 5)),oT 34 31 (.call 15 [(tm 32),(tm 33)]),mT 35 0 31,oT 36 31 (.load 5 true (tm 5)),oT 37 31 (.call 16 [(tm 35),(tm 36)]),oT 38 31 (.bin .eql (tm 34) (tm 37)),oo 39 (.pick (tm 31) (tm 38) kF),mv 40 39,mT 41 0 40,oT 42 40 (.load 9 true (tm 6)),oT 43 40 (.call 17 [(tm 41),(tm 42)]),mT 44 0 40,oT 45 40 (.load 9 true (tm 6)),oT 46 40 (.call 18 [(tm 44),(tm 45)]),oT 47 40 (.bin .eql (tm 43) (tm 46)),oo 48 (.pick (tm 40) (tm 47) kF),mv 49 48,mT 50 0 49,oT 51 49 (.load 6 true (tm 7)),oT 52 49 (.call 19 [(tm 50),(tm 51)]),mT 53 0 49,oT 54 49 (.load 6 true (tm 7)),oT 55 49 (.call 20 [(tm 53),(tm 54)]),oT 56 49 (.bin .eql (tm 52) (tm 55)),oo 57 (.pick (tm 49) (tm 56) kF),mv 8 57] []) .ret))))
theorem l3:(Tryz.f3.body.bind (bD Tryz.prog 58 []))=some c3:=by kernel_rfl
end Go.TY
end
section
namespace Go.TY
open Go Go.DL Go.MM Go.Proofs
theorem law3 (l:List RF) (hl:l.length<2^60) (hn: ∀f∈l,f.name.size<2^62) (x:RP) (hx1:x.nodes<2^39) (hx2:uk x) (y:RO) (hy1:y.wt<2^39) (hy2:uj y) (s:RS) (hs:SmS (2^39) s):
  DCalls Tryz.prog 3 [wm l,.agg (sB x),.agg (sA y),.agg (sH s)] (.bool true):=by
 refine qO (rs:=[.tmp 8]) mixed Tryz.func3 l3 rfl rfl rfl (r:=[.bool true]) (nlZ rfl) ?_
 have h0:=EK
 have h1:=t47 l hl hn
 have f1:=DW x (by omega)
 have f2:=Bg y (by omega)
 have f3:=DX s
 have hxl:=sD x
 have hyl:=sE y
 by_cases hc:xh l=0
 case neg=>
  generalize xh l=c at *
  generalize sB x=cx at *
  generalize sA y=cy at *
  generalize hcp:sH s=cp at *
  have hpl:cp.length=6:=by rw [← hcp];rfl
  repeat' ((conv=>whnf);first|exact trivial|refine rE _ (h0) ?_|refine rE _ (h1) ?_|refine qz hc ?_|refine rb1 ?_|(refine And.intro (by first|exact hxl|exact hyl|exact hpl|fail) ?_)|refine aS ?_|fail)
 have ck:=BL hc
 have hok:=ck.ok
 have hfd:=ck.fds
 rw [hc] at h1
 generalize l.map RF.fd=L at *
 have a1:=Ec L hok x (by omega) hx2
 have a2:=HB L hok x (by omega) hx2
 have a3:=yM L hok y (by omega) hy2
 have a4:=t40 L hok y (by omega) hy2
 have a5:=AS L hok s (hs.mono (by omega))
 have a6:=HC L hok s hs
 have e1:B8 L x=wQ L x:=(Ez L x).symm
 rw [e1] at a2
 rw [← F0] at a4
 rw [hfd] at h1 ⊢
 generalize wQ L x=v1 at *
 generalize uC L y=v2 at *
 generalize tT L s=v3 at *
 generalize Er x=b1 at *
 generalize Ep y=b2 at *
 generalize decide (s.key.length≤20)=b3 at *
 generalize MM.fds L=FL at *
 generalize sB x=cx at *
 generalize sA y=cy at *
 generalize hcp:sH s=cp at *
 have hpl:cp.length=6:=by rw [← hcp];rfl
 clear hcp hfd hok ck e1 hs hx1 hx2 hy1 hy2 hl hn hc
 cases b1
 ·repeat' ((conv=>whnf);first|exact trivial|refine rE _ (h0) ?_|refine rE _ (h1) ?_|refine rE _ (f1) ?_|refine aN0 ?_|refine rb1 ?_|(refine And.intro (by first|exact hxl|exact hyl|exact hpl|fail) ?_)|refine aS ?_|fail)
 cases b2
 ·repeat' ((conv=>whnf);first|exact trivial|refine rE _ (h0) ?_|refine rE _ (h1) ?_|refine rE _ (f1) ?_|refine rE _ (f2) ?_|refine aN0 ?_|refine rb1 ?_|(refine And.intro (by first|exact hxl|exact hyl|exact hpl|fail) ?_)|refine aS ?_|fail)
 cases b3
 ·repeat' ((conv=>whnf);first|exact trivial|refine rE _ (h0) ?_|refine rE _ (h1) ?_|refine rE _ (f1) ?_|refine rE _ (f2) ?_|refine rE _ (f3) ?_|refine aN0 ?_|refine rb1 ?_|(refine And.intro (by first|exact hxl|exact hyl|exact hpl|fail) ?_)|refine aS ?_|fail)
 have q1:v1=v1:=rfl
 repeat' ((conv=>whnf);first|exact trivial|refine rE _ (h0) ?_|refine rE _ (h1) ?_|refine rE _ (f1) ?_|refine rE _ (f2) ?_|refine rE _ (f3) ?_|refine rE _ (a1) ?_|refine rE _ (a2) ?_|refine rE _ (a3) ?_|refine rE _ (a4) ?_|refine rE _ (a5) ?_|refine rE _ (a6) ?_|refine qx rfl ?_|refine aN0 ?_|refine rb1 ?_|(refine And.intro (by first|exact hxl|exact hyl|exact hpl|fail) ?_)|refine aS ?_|fail)
end Go.TY
end
