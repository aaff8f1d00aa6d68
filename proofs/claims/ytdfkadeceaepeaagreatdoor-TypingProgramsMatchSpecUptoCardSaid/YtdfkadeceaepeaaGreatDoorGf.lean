/- Joined by program: parts of a data level over the model, of the program's functions over it, and of the statement's proof. -/
import Derived.Test.YtdfkadeceaepeaaGreatDoorGe
import Derived.Test.YtdfkadeceaepeaaGreatDoorProg
import Derived.Test.YtdfkadeceaepeaaGreatDoorGc
import Derived.KernelRfl
import Derived.Test.YtdfkadeceaepeaaGreatDoorGd
set_option maxRecDepth 100000
set_option maxHeartbeats 8000000
section
namespace Go.TY
open Go Go.DL Go.MM Go.Proofs
theorem EM (s:RS):yC s ⟨0,e0,[],e0,0,0⟩=vK s:=by
 obtain ⟨k,v,l,f,n,m⟩:=s
 unfold yC vK
 have:vE l []=(l.length==0):=by cases l <;> rfl
 rw [this]
theorem Fp (s:RS) (hl:s.key.length<2^60):DCalls Tryz.prog 104 [.agg (sG s),.agg [I 0,.str e0,.nil,.str e0,I 0,I 0]] (.bool (vK s)):=by
 rw [← EM]
 exact (CN s ⟨0,e0,[],e0,0,0⟩ hl).lesAll ⟨Les.refl _,Les.agg (.cons (Les.refl _) rfl (.cons (Les.refl _) rfl (.cons (Les.nil 1) rfl (.cons (Les.refl _) rfl (.cons (Les.refl _) rfl (.cons (Les.refl _) rfl .nil)))))),trivial⟩
theorem GJ (br e nd:Bool) (n m:Int):uL 3 br e nd n m=(e&&(decide (n≥0)&&(decide (n≤1073741824)&&(m==0)))):=by
 unfold uL uX
 rw [if_neg (by omega),if_neg (by omega),if_pos rfl]
 cases e <;> cases h1:decide (0≤n) <;> cases h2:decide (n≤1073741824) <;> cases h3:(m==0) <;> simp_all
theorem GK (br e nd:Bool) (n m:Int):uL 4 br e nd n m=(nd&&(decide (n≥0)&&(decide (n≤m)&&decide (m≤65535)))):=by
 unfold uL tY
 rw [if_neg (by omega),if_neg (by omega),if_neg (by omega),if_pos rfl]
 cases nd
 ·rfl
 ·rw [Bool.eq_iff_iff]
  simp only [Bool.true_and,Bool.and_eq_true,decide_eq_true_eq]
  omega
theorem GL (br e nd:Bool) (n m:Int):uL 6 br e nd n m=(e&&(decide (n≥1)&&(decide (n≤65535)&&(decide (m≥1)&&decide (m≤1073741824))))):=by
 unfold uL tY uX
 rw [if_neg (by omega),if_neg (by omega),if_neg (by omega),if_neg (by omega),if_neg (by omega),if_pos rfl]
 cases e
 ·rfl
 ·rw [Bool.eq_iff_iff]
  simp only [Bool.true_and,Bool.and_eq_true,decide_eq_true_eq]
  omega
theorem A8 (s:RS) (hv:s.var.size<2^62) (hf:s.field.size<2^62) (hk: ∀k∈s.key,k.size<2^62) (hl:s.key.length<2^60):DCalls Tryz.prog 127 [.agg (sG s)] (.bool (okS s)):=by
 refine qO (rs:=[.tmp 2]) mixed Tryz.func127 M9 rfl rfl rfl (r:=[.bool _]) (nlZ rfl) ?_
 have h0:=Fp s hl
 unfold okS
 generalize vK s=z0 at *
 obtain ⟨k,v,l,f,n,m⟩:=s
 dsimp only at hv hf hk hl ⊢
 cases z0 with
 |true=>repeat' ((conv=>whnf);first|exact trivial|refine rE _ (h0) ?_|refine rb1 ?_|refine aS ?_|fail)
 |false=>
 rw [Bool.false_or]
 have h1:=t108 v hv
 have h3:=t104 f hf
 have hE:=sH f e0
 have hlen:((l.map T.str).length:Int)=(l.length:Int):=by rw [List.length_map]
 generalize uI v=pv at *
 generalize s4 f=nd at *
 generalize sB f e0=e at *
 repeat' ((conv=>whnf);first|refine rE _ (h0) ?_|refine rE _ (h1) ?_|refine nT_ ?_|refine aS ?_|fail)
 refine rA (β:=Unit) (fun _=>{sl:=[(1,.ptr 1 0),(29,.t (.bool (!(pv&&decide (1≤l.length)&&decide (l.length≤4)))))],bx:=[(1,.d 6 (sG ⟨k,v,l,f,n,m⟩))]}) (fun _=>True) ?_ ?_
 ·by_cases c0:1≤l.length
  ·have e0': ¬((l.map T.str).length:Int)<1:=by omega
   rw [decide_eq_true c0,Bool.and_true]
   by_cases c4:l.length≤4
   ·have e4: ¬((l.map T.str).length:Int)>4:=by omega
    rw [decide_eq_true c4,Bool.and_true]
    cases pv <;> repeat' ((conv=>whnf);first|refine qu e0' ?_|refine qu e4 ?_|(exact ⟨(),trivial,by (repeat' (first|exact trivial|exact LeV.same _|exact LeB.same _|exact rfl|exact fun _ _ _=>trivial|refine And.intro ?_ ?_));done⟩)|refine nT_ ?_|refine aS ?_|fail)
   ·have e4:((l.map T.str).length:Int)>4:=by omega
    rw [decide_eq_false c4,Bool.and_false]
    cases pv <;> repeat' ((conv=>whnf);first|refine qu e0' ?_|refine qv e4 ?_|(exact ⟨(),trivial,by (repeat' (first|exact trivial|exact LeV.same _|exact LeB.same _|exact rfl|exact fun _ _ _=>trivial|refine And.intro ?_ ?_));done⟩)|refine nT_ ?_|refine aS ?_|fail)
  ·have e0':((l.map T.str).length:Int)<1:=by omega
   rw [decide_eq_false c0,Bool.and_false,Bool.false_and]
   cases pv <;> repeat' ((conv=>whnf);first|refine qv e0' ?_|(exact ⟨(),trivial,by (repeat' (first|exact trivial|exact LeV.same _|exact LeB.same _|exact rfl|exact fun _ _ _=>trivial|refine And.intro ?_ ?_));done⟩)|refine nT_ ?_|refine aS ?_|fail)
 rintro _ _
 generalize (pv&&decide (1≤l.length)&&decide (l.length≤4))=g at *
 cases g with
 |false=>repeat' ((conv=>whnf);first|exact trivial|refine rb0 ?_|fail)
 |true=>
 rw [Bool.true_and]
 skip
 refine qZ 0 (α:=Nat) (β:=Unit) (fun i=>{sl:=[(1,.ptr 1 0),(5,.t (I i))],bx:=[(1,.d 6 (sG ⟨k,v,l,f,n,m⟩))]})
  (fun i=>i≤l.length∧ ∀j (h:j<l.length),j<i→s4 l[j]=true) (fun i=>l.length - i)
  (fun _=>{sl:=[(1,.ptr 1 0)],bx:=[(1,.d 6 (sG ⟨k,v,l,f,n,m⟩))]}) (fun _=>l.all s4=true) 0 (by simp) ?_ ?_ ?_
 ·repeat' (first|exact trivial|exact LeV.same _|exact LeB.same _|exact rfl|exact fun _ _ _=>trivial|refine And.intro ?_ ?_)
 ·rintro i ⟨hi,hp⟩
  rcases Nat.lt_or_ge i l.length with h|h
  ·have hlt:(i:Int)<((l.map T.str).length:Int):=by omega
   have hn:=t104 l[i] (hk _ (List.getElem_mem h))
   have hx:(l.map T.str)[i]?.getD .nil= .str l[i]:=by simp [h]
   cases hb:s4 l[i] with
   |true=>
    rw [hb] at hn
    repeat' ((conv=>whnf);first|refine qv hlt ?_|(refine nv_ (.str l[i]) (by first|exact hx|fail) ?_)|refine rE _ (hn) ?_|refine nT_ ?_|refine aS ?_|fail)
    refine ⟨i+1,⟨h,fun j hj hlt=>?_⟩,by omega,?_⟩
    ·rcases Nat.lt_or_ge j i with h4|h4
     ·exact hp j hj h4
     ·obtain rfl:j=i:=by omega
      exact hb
    ·repeat' (first|exact trivial|exact LeV.same _|exact LeB.same _|exact rfl|exact fun _ _ _=>trivial|exact lI|refine And.intro ?_ ?_)
   |false=>
    rw [hb] at hn
    have e:l.all s4=false:=by
     rw [List.all_eq_false]
     exact ⟨l[i],List.getElem_mem h,by rw [hb];simp⟩
    rw [e]
    clear e
    repeat' ((conv=>whnf);first|exact trivial|refine qv hlt ?_|(refine nv_ (.str l[i]) (by first|exact hx|fail) ?_)|refine rE _ (hn) ?_|refine nT_ ?_|refine rb0 ?_|refine aS ?_|fail)
  ·have hlt: ¬(i:Int)<((l.map T.str).length:Int):=by omega
   have hall:l.all s4=true:=by
    rw [List.all_eq_true]
    intro x hx
    obtain ⟨j,hj,rfl⟩:=List.getElem_of_mem hx
    exact hp j hj (by omega)
   repeat' ((conv=>whnf);first|refine qu hlt ?_|(exact ⟨(),hall,by (repeat' (first|exact trivial|exact LeV.same _|exact LeB.same _|exact rfl|exact fun _ _ _=>trivial|refine And.intro ?_ ?_));done⟩)|refine nT_ ?_|refine aS ?_|fail)
 rintro _ hall
 rw [hall,Bool.true_and]
 clear hall
 repeat' ((conv=>whnf);first|refine rE _ (h3) ?_|refine nT_ ?_|refine aS ?_|fail)
 refine rA (β:=Unit) (fun _=>{sl:=[(1,.ptr 1 0),(7,.t (.bool nd)),(8,.t (.bool ((n==0)&&(m==0))))],bx:=[(1,.d 6 (sG ⟨k,v,l,f,n,m⟩))]}) (fun _=>True) ?_ ?_
 ·by_cases hn:n=0
  ·by_cases hm:m=0
   ·rw [show ((n==0)&&(m==0))=true by simp [hn,hm]]
    repeat' ((conv=>whnf);first|refine qx hn ?_|refine qx hm ?_|(exact ⟨(),trivial,by (repeat' (first|exact trivial|exact LeV.same _|exact LeB.same _|exact rfl|exact fun _ _ _=>trivial|refine And.intro ?_ ?_));done⟩)|refine nT_ ?_|refine aS ?_|fail)
   ·rw [show ((n==0)&&(m==0))=false by simp [hm]]
    repeat' ((conv=>whnf);first|refine qx hn ?_|refine qw hm ?_|(exact ⟨(),trivial,by (repeat' (first|exact trivial|exact LeV.same _|exact LeB.same _|exact rfl|exact fun _ _ _=>trivial|refine And.intro ?_ ?_));done⟩)|refine nT_ ?_|refine aS ?_|fail)
  ·rw [show ((n==0)&&(m==0))=false by simp [hn]]
   repeat' ((conv=>whnf);first|refine qw hn ?_|(exact ⟨(),trivial,by (repeat' (first|exact trivial|exact LeV.same _|exact LeB.same _|exact rfl|exact fun _ _ _=>trivial|refine And.intro ?_ ?_));done⟩)|refine nT_ ?_|refine aS ?_|fail)
 rintro _ _
 clear h0 h1 h3
 generalize ((n==0)&&(m==0))=br at *
 by_cases k1:k=1
 ·subst k1
  unfold uL
  rw [if_pos rfl]
  cases br <;> cases e <;> cases nd <;> repeat' ((conv=>whnf);first|exact trivial|refine nb_ _ hE ?_|refine nT_ ?_|refine aE1 ?_|refine rb1 ?_|refine rb0 ?_|refine aS ?_|fail)
 by_cases k2:k=2
 ·subst k2
  unfold uL
  rw [if_neg (by omega),if_pos rfl]
  cases br <;> cases e <;> repeat' ((conv=>whnf);first|exact trivial|refine nb_ _ hE ?_|refine nT_ ?_|refine aE1 ?_|refine aE0 ?_|refine rb1 ?_|refine rb0 ?_|refine aS ?_|fail)
 by_cases k3:k=3
 ·subst k3
  rw [GJ]
  by_cases q1:n≥0
  ·by_cases q2:n≤1073741824
   ·rw [decide_eq_true q1,decide_eq_true q2,Bool.true_and,Bool.true_and]
    by_cases q3:m=0
    ·rw [show (m==0)=true by simp [q3]]
     cases e <;> repeat' ((conv=>whnf);first|exact trivial|refine nb_ _ hE ?_|refine qv q1 ?_|refine qv q2 ?_|refine qx q3 ?_|refine nT_ ?_|refine aE1 ?_|refine aE0 ?_|refine rb1 ?_|refine rb0 ?_|refine aS ?_|fail)
    ·rw [show (m==0)=false by simp [q3]]
     cases e <;> repeat' ((conv=>whnf);first|exact trivial|refine nb_ _ hE ?_|refine qv q1 ?_|refine qv q2 ?_|refine qw q3 ?_|refine nT_ ?_|refine aE1 ?_|refine aE0 ?_|refine rb0 ?_|refine aS ?_|fail)
   ·rw [decide_eq_true q1,decide_eq_false q2,Bool.true_and,Bool.false_and]
    cases e <;> repeat' ((conv=>whnf);first|exact trivial|refine nb_ _ hE ?_|refine qv q1 ?_|refine qu q2 ?_|refine nT_ ?_|refine aE1 ?_|refine aE0 ?_|refine rb0 ?_|refine aS ?_|fail)
  ·rw [decide_eq_false q1,Bool.false_and]
   cases e <;> repeat' ((conv=>whnf);first|exact trivial|refine nb_ _ hE ?_|refine qu q1 ?_|refine nT_ ?_|refine aE1 ?_|refine aE0 ?_|refine rb0 ?_|refine aS ?_|fail)
 by_cases k4:k=4
 ·subst k4
  rw [GK]
  by_cases q1:n≥0
  ·by_cases q2:n≤m
   ·rw [decide_eq_true q1,decide_eq_true q2,Bool.true_and,Bool.true_and]
    by_cases q3:m≤65535
    ·rw [decide_eq_true q3]
     cases nd <;> repeat' ((conv=>whnf);first|exact trivial|refine qv q1 ?_|refine qv q2 ?_|refine qv q3 ?_|refine nT_ ?_|refine aE1 ?_|refine aE0 ?_|refine rb1 ?_|refine rb0 ?_|refine aS ?_|fail)
    ·rw [decide_eq_false q3]
     cases nd <;> repeat' ((conv=>whnf);first|exact trivial|refine qv q1 ?_|refine qv q2 ?_|refine qu q3 ?_|refine nT_ ?_|refine aE1 ?_|refine aE0 ?_|refine rb0 ?_|refine aS ?_|fail)
   ·rw [decide_eq_true q1,decide_eq_false q2,Bool.true_and,Bool.false_and]
    cases nd <;> repeat' ((conv=>whnf);first|exact trivial|refine qv q1 ?_|refine qu q2 ?_|refine nT_ ?_|refine aE1 ?_|refine aE0 ?_|refine rb0 ?_|refine aS ?_|fail)
  ·rw [decide_eq_false q1,Bool.false_and]
   cases nd <;> repeat' ((conv=>whnf);first|exact trivial|refine qu q1 ?_|refine nT_ ?_|refine aE1 ?_|refine aE0 ?_|refine rb0 ?_|refine aS ?_|fail)
 by_cases k5:k=5
 ·subst k5
  unfold uL
  rw [if_neg (by omega),if_neg (by omega),if_neg (by omega),if_neg (by omega),if_pos rfl]
  cases br <;> cases nd <;> repeat' ((conv=>whnf);first|exact trivial|refine nT_ ?_|refine aE1 ?_|refine aE0 ?_|refine rb1 ?_|refine rb0 ?_|refine aS ?_|fail)
 by_cases k6:k=6
 ·subst k6
  rw [GL]
  by_cases q1:n≥1
  ·by_cases q2:n≤65535
   ·rw [decide_eq_true q1,decide_eq_true q2,Bool.true_and,Bool.true_and]
    by_cases q3:m≥1
    ·rw [decide_eq_true q3,Bool.true_and]
     by_cases q4:m≤1073741824
     ·rw [decide_eq_true q4]
      cases e <;> repeat' ((conv=>whnf);first|exact trivial|refine nb_ _ hE ?_|refine qv q1 ?_|refine qv q2 ?_|refine qv q3 ?_|refine qv q4 ?_|refine nT_ ?_|refine aE1 ?_|refine aE0 ?_|refine rb1 ?_|refine rb0 ?_|refine aS ?_|fail)
     ·rw [decide_eq_false q4]
      cases e <;> repeat' ((conv=>whnf);first|exact trivial|refine nb_ _ hE ?_|refine qv q1 ?_|refine qv q2 ?_|refine qv q3 ?_|refine qu q4 ?_|refine nT_ ?_|refine aE1 ?_|refine aE0 ?_|refine rb0 ?_|refine aS ?_|fail)
    ·rw [decide_eq_false q3,Bool.false_and]
     cases e <;> repeat' ((conv=>whnf);first|exact trivial|refine nb_ _ hE ?_|refine qv q1 ?_|refine qv q2 ?_|refine qu q3 ?_|refine nT_ ?_|refine aE1 ?_|refine aE0 ?_|refine rb0 ?_|refine aS ?_|fail)
   ·rw [decide_eq_true q1,decide_eq_false q2,Bool.true_and,Bool.false_and]
    cases e <;> repeat' ((conv=>whnf);first|exact trivial|refine nb_ _ hE ?_|refine qv q1 ?_|refine qu q2 ?_|refine nT_ ?_|refine aE1 ?_|refine aE0 ?_|refine rb0 ?_|refine aS ?_|fail)
  ·rw [decide_eq_false q1,Bool.false_and]
   cases e <;> repeat' ((conv=>whnf);first|exact trivial|refine nb_ _ hE ?_|refine qu q1 ?_|refine nT_ ?_|refine aE1 ?_|refine aE0 ?_|refine rb0 ?_|refine aS ?_|fail)
 unfold uL
 rw [if_neg k1,if_neg k2,if_neg k3,if_neg k4,if_neg k5,if_neg k6]
 repeat' ((conv=>whnf);first|exact trivial|refine nT_ ?_|refine aE0 ?_|refine rb0 ?_|refine aS ?_|fail)
theorem yY (s:RS) (h:SmS (2^60) s):DCalls Tryz.prog 83 [.agg (sG s)] (I (s9 s)):=by
 refine qO (rs:=[.tmp 2]) mixed Tryz.func83 l83 rfl rfl rfl (r:=[.int _ _]) (nlZ rfl) ?_
 have h1:=A8 s (by have:=h.var;omega) (by have:=h.field;omega) (fun k hk=>by have:=h.keys k hk;omega) h.len
 unfold s9
 generalize okS s=b at *
 cases b <;> repeat' ((conv=>whnf);first|exact trivial|refine rE _ (h1) ?_|refine rix ?_|(refine And.intro (by first|(rfl;done)|fail) ?_)|fail)
theorem Aa (gs:List RG) (hl:gs.length<2^60) (hg: ∀g∈gs,SmG (2^59) g):DCalls Tryz.prog 47 [.slice 15 (gs.map sL)] (I (uk gs)):=by
 refine qO (rs:=[.tmp 2]) mixed Tryz.func47 l47 rfl rfl rfl (r:=[.int _ _]) (nlZ rfl) ?_
 have hlen:((gs.map sL).length:Int)=(gs.length:Int):=by rw [List.length_map]
 unfold uk
 by_cases h8:gs.length>8
 ·rw [if_pos h8]
  have e8:((gs.map sL).length:Int)>8:=by omega
  repeat' ((conv=>whnf);first|exact trivial|refine qv e8 ?_|refine rix ?_|refine aS ?_|fail)
 rw [if_neg h8]
 have e8: ¬((gs.map sL).length:Int)>8:=by omega
 repeat' ((conv=>whnf);first|refine qu e8 ?_|refine aS ?_|fail)
 refine rq (α:=Nat) (fun i=>{sl:=[(0,.t (.slice 15 (gs.map sL))),(3,.t (I i))],bx:=[]})
  (fun i=>i≤gs.length∧ ∀j (h:j<gs.length),j<i→td gs[j].pol=0∧s9 gs[j].st=0) (fun i=>gs.length - i) 0 (by simp) ?_ ?_
 ·repeat' (first|exact trivial|exact LeV.same _|exact rfl|exact fun _ _ _=>trivial|refine And.intro ?_ ?_)
 rintro i ⟨hi,hp⟩
 rcases Nat.lt_or_ge i gs.length with h|h
 ·have hlt:(i:Int)<((gs.map sL).length:Int):=by omega
  have hm:=hg gs[i] (List.getElem_mem h)
  have h1:=t63 gs[i].pol (by have:=hm.wt;omega) (hm.names (by omega))
  have h2:=yY gs[i].st (hm.st.mono (by omega))
  have hx:(gs.map sL)[i]?.getD .nil= .agg (sD gs[i]):=by simp [h];rfl
  have hc1:=yM gs[i]
  have hc2:=wU gs[i]
  by_cases c1:td gs[i].pol=0
  ·rw [c1] at h1
   by_cases c2:s9 gs[i].st=0
   ·rw [c2] at h2
    repeat' ((conv=>whnf);first|refine qv hlt ?_|(refine nv_ (.agg (sD gs[i])) (by first|exact hx|fail) ?_)|(refine nv_ (.agg (sA gs[i].pol)) (by first|exact congrArg T.agg hc1|fail) ?_)|(refine nv_ (.agg (sG gs[i].st)) (by first|exact congrArg T.agg hc2|fail) ?_)|refine rE _ (h1) ?_|refine rE _ (h2) ?_|refine aN0 ?_|(refine And.intro (by first|exact wN _|exact xZ _|exact vb _|fail) ?_)|refine aS ?_|fail)
    refine ⟨i+1,⟨h,fun j hj hlt=>?_⟩,by omega,?_⟩
    ·rcases Nat.lt_or_ge j i with h4|h4
     ·exact hp j hj h4
     ·obtain rfl:j=i:=by omega
      exact ⟨c1,c2⟩
    ·repeat' (first|exact trivial|exact LeV.same _|exact rfl|exact fun _ _ _=>trivial|exact lI|refine And.intro ?_ ?_)
   ·have e:=zo (f:=fun g:RG=>td g.pol) (g:=fun g=>s9 g.st) h hp c1 c2
    rw [e]
    clear e
    dsimp only
    generalize s9 gs[i].st=x at *
    repeat' ((conv=>whnf);first|exact trivial|refine qv hlt ?_|(refine nv_ (.agg (sD gs[i])) (by first|exact hx|fail) ?_)|(refine nv_ (.agg (sA gs[i].pol)) (by first|exact congrArg T.agg hc1|fail) ?_)|(refine nv_ (.agg (sG gs[i].st)) (by first|exact congrArg T.agg hc2|fail) ?_)|refine rE _ (h1) ?_|refine rE _ (h2) ?_|refine qz c2 ?_|refine aN0 ?_|refine rix ?_|(refine And.intro (by first|exact wN _|exact xZ _|exact vb _|fail) ?_)|refine aS ?_|fail)
  ·have e:=zn (f:=fun g:RG=>td g.pol) (g:=fun g=>s9 g.st) h hp c1
   rw [e]
   clear e
   dsimp only
   generalize td gs[i].pol=x at *
   repeat' ((conv=>whnf);first|exact trivial|refine qv hlt ?_|(refine nv_ (.agg (sD gs[i])) (by first|exact hx|fail) ?_)|(refine nv_ (.agg (sA gs[i].pol)) (by first|exact congrArg T.agg hc1|fail) ?_)|refine rE _ (h1) ?_|refine qz c1 ?_|refine rix ?_|(refine And.intro (by first|exact wN _|exact xZ _|exact vb _|fail) ?_)|refine aS ?_|fail)
 ·have hlt: ¬(i:Int)<((gs.map sL).length:Int):=by omega
  have e:=yJ (f:=fun g:RG=>td g.pol) (g:=fun g=>s9 g.st) (xs:=gs) fun j hj=>hp j hj (by omega)
  rw [e]
  repeat' ((conv=>whnf);first|exact trivial|refine qu hlt ?_|refine rix ?_|refine aS ?_|fail)
def v7 (g:RG):Bool:=CE g.pol&&decide (g.st.key.length≤20)
def xW (gs:List RG):Bool:=gs.all v7&&decide (gs.length≤12)
theorem Hx (g:RG):(sD g)[11]?.getD .nil= .slice 1 (g.st.key.map .str):=by
 unfold sD
 rw [List.getElem?_append_right (by rw [sF];omega),sF]
 rfl
theorem A7 (gs:List RG) (hl:gs.length<2^60) (hg: ∀g∈gs,g.pol.wt<2^60):DCalls Tryz.prog 37 [.slice 15 (gs.map sL)] (.bool (xW gs)):=by
 refine qO (rs:=[.tmp 2]) mixed Tryz.func37 l37 rfl rfl rfl (r:=[.bool _]) (nlZ rfl) ?_
 have hlen:((gs.map sL).length:Int)=(gs.length:Int):=by rw [List.length_map]
 skip
 refine qZ 0 (α:=Nat) (β:=Unit) (fun i=>{sl:=[(0,.t (.slice 15 (gs.map sL))),(3,.t (I i))],bx:=[]})
  (fun i=>i≤gs.length∧i≤12∧ ∀j (h:j<gs.length),j<i→v7 gs[j]=true) (fun i=>gs.length - i)
  (fun _=>{sl:=[(0,.t (.slice 15 (gs.map sL)))],bx:=[]}) (fun _=>gs.length≤12→gs.all v7=true) 0 (by simp) ?_ ?_ ?_
 ·repeat' (first|exact trivial|exact LeV.same _|exact rfl|exact fun _ _ _=>trivial|refine And.intro ?_ ?_)
 ·rintro i ⟨hi,hi2,hp⟩
  have out:(¬ i<gs.length∨ ¬i<12)→gs.length≤12→gs.all v7=true:=fun hc h12=>by
   rw [List.all_eq_true]
   intro x hx
   obtain ⟨j,hj,rfl⟩:=List.getElem_of_mem hx
   exact hp j hj (by omega)
  rcases Nat.lt_or_ge i gs.length with h|h
  ·have hlt:(i:Int)<((gs.map sL).length:Int):=by omega
   rcases Nat.lt_or_ge i 12 with h12|h12
   ·have hlt2:(i:Int)<12:=by omega
    have h1:=B4 gs[i].pol (hg gs[i] (List.getElem_mem h))
    have hx:(gs.map sL)[i]?.getD .nil= .agg (sD gs[i]):=by simp [h];rfl
    have hc1:=yM gs[i]
    have hc2:=Hx gs[i]
    have hkl:((gs[i].st.key.map T.str).length:Int)=gs[i].st.key.length:=by rw [List.length_map]
    have bad:v7 gs[i]=false→xW gs=false:=fun hb=>by
     unfold xW
     rw [show gs.all v7=false from List.all_eq_false.2 ⟨gs[i],List.getElem_mem h,by rw [hb];simp⟩,Bool.false_and]
    clear out
    cases hb:CE gs[i].pol with
    |false=>
     rw [hb] at h1
     rw [bad (by unfold v7;rw [hb];rfl)]
     clear bad
     repeat' ((conv=>whnf);first|exact trivial|refine qv hlt ?_|refine qv hlt2 ?_|(refine nv_ (.agg (sD gs[i])) (by first|exact hx|fail) ?_)|(refine nv_ (.agg (sA gs[i].pol)) (by first|exact congrArg T.agg hc1|fail) ?_)|refine rE _ (h1) ?_|refine rb0 ?_|(refine And.intro (by first|exact wN _|exact xZ _|exact vb _|fail) ?_)|refine aS ?_|fail)
    |true=>
     rw [hb] at h1
     by_cases c2:gs[i].st.key.length≤20
     ·have q: ¬((gs[i].st.key.map T.str).length:Int)>20:=by omega
      have good:v7 gs[i]=true:=by unfold v7;rw [hb,decide_eq_true c2];rfl
      clear bad
      repeat' ((conv=>whnf);first|refine qv hlt ?_|refine qv hlt2 ?_|refine qu q ?_|(refine nv_ (.agg (sD gs[i])) (by first|exact hx|fail) ?_)|(refine nv_ (.agg (sA gs[i].pol)) (by first|exact congrArg T.agg hc1|fail) ?_)|(refine nv_ (.slice 1 (gs[i].st.key.map .str)) (by first|exact hc2|fail) ?_)|refine rE _ (h1) ?_|(refine And.intro (by first|exact wN _|exact xZ _|exact FJ _|fail) ?_)|refine aS ?_|fail)
      refine ⟨i+1,⟨h,by omega,fun j hj hlt=>?_⟩,by omega,?_⟩
      ·rcases Nat.lt_or_ge j i with h4|h4
       ·exact hp j hj h4
       ·obtain rfl:j=i:=by omega
        exact good
      ·repeat' (first|exact trivial|exact LeV.same _|exact rfl|exact fun _ _ _=>trivial|exact lI|refine And.intro ?_ ?_)
     ·have q:((gs[i].st.key.map T.str).length:Int)>20:=by omega
      rw [bad (by unfold v7;rw [decide_eq_false c2,Bool.and_false])]
      clear bad
      repeat' ((conv=>whnf);first|exact trivial|refine qv hlt ?_|refine qv hlt2 ?_|refine qv q ?_|(refine nv_ (.agg (sD gs[i])) (by first|exact hx|fail) ?_)|(refine nv_ (.agg (sA gs[i].pol)) (by first|exact congrArg T.agg hc1|fail) ?_)|(refine nv_ (.slice 1 (gs[i].st.key.map .str)) (by first|exact hc2|fail) ?_)|refine rE _ (h1) ?_|refine rb0 ?_|(refine And.intro (by first|exact wN _|exact xZ _|exact FJ _|fail) ?_)|refine aS ?_|fail)
   ·have hlt2: ¬(i:Int)<12:=by omega
    have o:=out (Or.inr (by omega))
    repeat' ((conv=>whnf);first|refine qv hlt ?_|refine qu hlt2 ?_|(exact ⟨(),o,by (repeat' (first|exact trivial|exact LeV.same _|exact rfl|exact fun _ _ _=>trivial|refine And.intro ?_ ?_));done⟩)|refine aS ?_|fail)
  ·have hlt: ¬(i:Int)<((gs.map sL).length:Int):=by omega
   have o:=out (Or.inl (by omega))
   repeat' ((conv=>whnf);first|refine qu hlt ?_|(exact ⟨(),o,by (repeat' (first|exact trivial|exact LeV.same _|exact rfl|exact fun _ _ _=>trivial|refine And.intro ?_ ?_));done⟩)|refine aS ?_|fail)
 ·rintro _ o
  unfold xW
  by_cases c:gs.length≤12
  ·have q:((gs.map sL).length:Int)≤12:=by omega
   rw [o c,decide_eq_true c]
   repeat' ((conv=>whnf);first|exact trivial|refine qv q ?_|refine rb1 ?_|refine aS ?_|fail)
  ·have q: ¬((gs.map sL).length:Int)≤12:=by omega
   rw [decide_eq_false c,Bool.and_false]
   repeat' ((conv=>whnf);first|exact trivial|refine qu q ?_|refine rb0 ?_|refine aS ?_|fail)
end Go.TY
end
section
namespace Go.TY
open Go Go.DL Go.MM Go.Proofs
section
variable {α:Type} [DecidableEq α] {lt:α→α→Bool}
def tP (lt:α→α→Bool) (s:α):Bool→List α→List α
 |false,r=>put lt r s
 |true,r=>r.filter fun y=> !decide (y=s)
theorem Ft {s x:α} {r:List α} (h:lt x s=true):tP lt s false (x::r)=x::tP lt s false r:=by
 show put lt (x::r) s=_
 unfold put
 rw [if_pos h];cases r <;> rfl
theorem Bc {s x:α} {r:List α} (h:lt x s=false):tP lt s false (x::r)=s::tP lt s true (x::r):=by
 show put lt (x::r) s=_
 rw [put,if_neg (by rw [h];simp)];rfl
theorem Bb {s x:α} {r:List α} (h:x=s):tP lt s true (x::r)=tP lt s true r:=by
 simp only [tP]
 rw [List.filter_cons,if_neg (by simp [h])]
theorem Bd {s x:α} {r:List α} (h:x≠s):tP lt s true (x::r)=x::tP lt s true r:=by
 simp only [tP]
 rw [List.filter_cons,if_pos (by simp [h])]
end
theorem EH (l:List ByteArray) (s:ByteArray) (hl:l.length<2^40):DCalls Tryz.prog 90 [.slice 1 (l.map T.str),T.str s] (.slice 1 ((put ltS l s).map T.str)):=by
 refine qO (rs:=[.tmp 4]) mixed Tryz.func90 l90 rfl rfl rfl (r:=[.slice 1 _]) (nlZ rfl) ?_
 have hll:((l.map T.str).length:Int)=l.length:=by rw [List.length_map]
 have hpl:=z8 (lt:=ltS) (x:=s) (l:=l)
 skip
 refine qZ 0 (α:=Nat×Bool×Nat×List ByteArray) (β:=Bool×Nat×List ByteArray) (fun p=>{sl:=[(0,.t (.slice 1 (l.map T.str))),(1,.t (T.str s)),(5,.own p.2.2.1 9 1 (p.2.2.2.map T.str)),(6,.t (.bool p.2.1)),(7,.t (I p.1))],bx:=[]})
  (fun p=>p.1≤l.length∧(p.2.2.1=27∨p.2.2.1=40)∧p.2.2.2++tP ltS s p.2.1 (l.drop p.1)=put ltS l s) (fun p=>l.length - p.1)
  (fun q=>{sl:=[(1,.t (T.str s)),(5,.own q.2.1 9 1 (q.2.2.map T.str)),(6,.t (.bool q.1))],bx:=[]}) (fun q=>(q.2.1=27∨q.2.1=40)∧q.2.2++tP ltS s q.1 []=put ltS l s) (0,false,27,[]) ⟨by simp,Or.inl rfl,rfl⟩ ?_ ?_ ?_
 ·repeat' (first|exact trivial|exact LeV.same _|exact rfl|exact fun _ _ _=>trivial|exact LeV.nil _ _ _|refine And.intro ?_ ?_)
 ·rintro ⟨i,d,r,out⟩ ⟨hi,hr,hout⟩
  dsimp only at hi hr hout
  have hol:out.length≤l.length+1:=by
   have:=congrArg List.length hout
   rw [List.length_append] at this;omega
  rcases Nat.lt_or_ge i l.length with h|h
  ·have hlt:(i:Int)<((l.map T.str).length:Int):=by omega
   rw [List.drop_eq_getElem_cons h] at hout
   obtain ⟨x,hx⟩: ∃x,l[i]=x:=⟨_,rfl⟩
   rw [hx] at hout
   have hx':(l.map T.str)[i]?.getD .nil=T.str x:=by simp [h,hx]
   clear hpl
   skip
   refine rA (β:=Unit) (fun _=>{sl:=[(0,.t (.slice 1 (l.map T.str))),(1,.t (T.str s)),(5,.own r 9 1 (out.map T.str)),(6,.t (.bool d)),(7,.t (I i))],bx:=[]}) (fun _=>True) ?_ ?_
   ·repeat' ((conv=>whnf);first|refine qv hlt ?_|(exact ⟨(),trivial,by (repeat' (first|exact trivial|exact LeV.same _|exact rfl|exact fun _ _ _=>trivial|refine And.intro ?_ ?_));done⟩)|refine aS ?_|fail)
   rintro _ _
   have e1: ∀(o:List ByteArray) y,(o++[y]).map T.str=o.map T.str++[T.str y]:=fun o y=>by rw [List.map_append];rfl
   skip
   refine rA (β:=Bool×Nat×List ByteArray) (fun p=>{sl:=[(0,.t (.slice 1 (l.map T.str))),(1,.t (T.str s)),(5,.own p.2.1 9 1 (p.2.2.map T.str)),(6,.t (.bool p.1)),(7,.t (I i))],bx:=[]})
    (fun p=>(p.2.1=27∨p.2.1=40)∧p.2.2.length≤l.length+2∧(x=s→p.2.2++tP ltS s p.1 (l.drop (i+1))=put ltS l s)∧(x≠s→(p.2.2++[x])++tP ltS s p.1 (l.drop (i+1))=put ltS l s)) ?_ ?_
   ·cases d with
    |false=>
     cases hc:ltS x s with
     |true=>
      have q1:(!(Op.bytesLess x.toList s.toList))=false:=by unfold ltS at hc;rw [hc];rfl
      have inv:(r=27∨r=40)∧out.length≤l.length+2∧(x=s→out++tP ltS s false (l.drop (i+1))=put ltS l s)∧(x≠s→(out++[x])++tP ltS s false (l.drop (i+1))=put ltS l s):=
       ⟨hr,by omega,fun he=>absurd he (ze.ne hc),fun _=>by rw [Ft hc,List.append_cons] at hout;exact hout⟩
      clear hout
      rcases hr with rfl|rfl
      ·repeat' ((conv=>whnf);first|(refine nv_ (T.str x) (by first|exact hx'|fail) ?_)|refine nb_ _ q1 ?_|(exact ⟨(false,27,out),inv,by (repeat' (first|exact trivial|exact LeV.same _|exact rfl|exact fun _ _ _=>trivial|refine And.intro ?_ ?_));done⟩)|refine nT_ ?_|refine aS ?_|fail)
      ·repeat' ((conv=>whnf);first|(refine nv_ (T.str x) (by first|exact hx'|fail) ?_)|refine nb_ _ q1 ?_|(exact ⟨(false,40,out),inv,by (repeat' (first|exact trivial|exact LeV.same _|exact rfl|exact fun _ _ _=>trivial|refine And.intro ?_ ?_));done⟩)|refine nT_ ?_|refine aS ?_|fail)
     |false=>
      have q1:(!(Op.bytesLess x.toList s.toList))=true:=by unfold ltS at hc;rw [hc];rfl
      have inv:(27=27∨27=40)∧(out++[s]).length≤l.length+2∧(x=s→(out++[s])++tP ltS s true (l.drop (i+1))=put ltS l s)∧(x≠s→((out++[s])++[x])++tP ltS s true (l.drop (i+1))=put ltS l s):=
       ⟨Or.inl rfl,by rw [List.length_append,List.length_cons,List.length_nil];omega,fun he=>by rw [Bc hc,List.append_cons,Bb he] at hout;exact hout,fun hne=>by rw [Bc hc,List.append_cons,Bd hne,List.append_cons] at hout;exact hout⟩
      clear hout
      rcases hr with rfl|rfl <;> repeat' ((conv=>whnf);first|(refine nv_ (T.str x) (by first|exact hx'|fail) ?_)|refine nb_ _ q1 ?_|(exact ⟨(true,27,out++[s]),inv,by (repeat' (first|(exact rX (e1 out s))|exact trivial|exact LeV.same _|exact rfl|exact fun _ _ _=>trivial|refine And.intro ?_ ?_));done⟩)|refine nT_ ?_|(refine And.intro (by first|((simp only [List.length_map];omega);done)|fail) ?_)|refine aS ?_|fail)
    |true=>
     have inv:(r=27∨r=40)∧out.length≤l.length+2∧(x=s→out++tP ltS s true (l.drop (i+1))=put ltS l s)∧(x≠s→(out++[x])++tP ltS s true (l.drop (i+1))=put ltS l s):=
       ⟨hr,by omega,fun he=>by rw [Bb he] at hout;exact hout,fun hne=>by rw [Bd hne,List.append_cons] at hout;exact hout⟩
     clear hout
     cases hc:ltS x s with
     |true=>
      have q1:(!(Op.bytesLess x.toList s.toList))=false:=by unfold ltS at hc;rw [hc];rfl
      rcases hr with rfl|rfl
      ·repeat' ((conv=>whnf);first|(refine nv_ (T.str x) (by first|exact hx'|fail) ?_)|refine nb_ _ q1 ?_|(exact ⟨(true,27,out),inv,by (repeat' (first|exact trivial|exact LeV.same _|exact rfl|exact fun _ _ _=>trivial|refine And.intro ?_ ?_));done⟩)|refine nT_ ?_|refine aS ?_|fail)
      ·repeat' ((conv=>whnf);first|(refine nv_ (T.str x) (by first|exact hx'|fail) ?_)|refine nb_ _ q1 ?_|(exact ⟨(true,40,out),inv,by (repeat' (first|exact trivial|exact LeV.same _|exact rfl|exact fun _ _ _=>trivial|refine And.intro ?_ ?_));done⟩)|refine nT_ ?_|refine aS ?_|fail)
     |false=>
      have q1:(!(Op.bytesLess x.toList s.toList))=true:=by unfold ltS at hc;rw [hc];rfl
      rcases hr with rfl|rfl
      ·repeat' ((conv=>whnf);first|(refine nv_ (T.str x) (by first|exact hx'|fail) ?_)|refine nb_ _ q1 ?_|(exact ⟨(true,27,out),inv,by (repeat' (first|exact trivial|exact LeV.same _|exact rfl|exact fun _ _ _=>trivial|refine And.intro ?_ ?_));done⟩)|refine nT_ ?_|refine aS ?_|fail)
      ·repeat' ((conv=>whnf);first|(refine nv_ (T.str x) (by first|exact hx'|fail) ?_)|refine nb_ _ q1 ?_|(exact ⟨(true,40,out),inv,by (repeat' (first|exact trivial|exact LeV.same _|exact rfl|exact fun _ _ _=>trivial|refine And.intro ?_ ?_));done⟩)|refine nT_ ?_|refine aS ?_|fail)
   clear hr hout hol
   rintro ⟨d,r,out⟩ ⟨hr,hol,i1,i2⟩
   dsimp only at hr hol i1 i2
   have hmu:l.length - (i+1)<l.length - i:=by omega
   by_cases he:x=s
   ·have q2:(!(x.toList==s.toList))=false:=by rw [sH,sN.2 he];rfl
    have inv:i+1≤l.length∧(r=27∨r=40)∧out++tP ltS s d (l.drop (i+1))=put ltS l s:=⟨h,hr,i1 he⟩
    clear i1 i2
    rcases hr with rfl|rfl
    ·repeat' ((conv=>whnf);first|(refine nv_ (T.str x) (by first|exact hx'|fail) ?_)|refine nb_ _ q2 ?_|(exact ⟨(i+1,d,27,out),inv,hmu,by (repeat' (first|exact trivial|exact LeV.same _|exact rfl|exact fun _ _ _=>trivial|exact lI|refine And.intro ?_ ?_));done⟩)|refine nT_ ?_|refine aS ?_|fail)
    ·repeat' ((conv=>whnf);first|(refine nv_ (T.str x) (by first|exact hx'|fail) ?_)|refine nb_ _ q2 ?_|(exact ⟨(i+1,d,40,out),inv,hmu,by (repeat' (first|exact trivial|exact LeV.same _|exact rfl|exact fun _ _ _=>trivial|exact lI|refine And.intro ?_ ?_));done⟩)|refine nT_ ?_|refine aS ?_|fail)
   ·have q2:(!(x.toList==s.toList))=true:=by rw [sH,s7 sN he];rfl
    have inv:i+1≤l.length∧(40=27∨40=40)∧(out++[x])++tP ltS s d (l.drop (i+1))=put ltS l s:=⟨h,Or.inr rfl,i2 he⟩
    clear i1 i2
    rcases hr with rfl|rfl <;> repeat' ((conv=>whnf);first|(refine nv_ (T.str x) (by first|exact hx'|fail) ?_)|refine nb_ _ q2 ?_|(exact ⟨(i+1,d,40,out++[x]),inv,hmu,by (repeat' (first|(exact rX (e1 out x))|exact trivial|exact LeV.same _|exact rfl|exact fun _ _ _=>trivial|exact lI|refine And.intro ?_ ?_));done⟩)|refine nT_ ?_|(refine And.intro (by first|((simp only [List.length_map];omega);done)|fail) ?_)|refine aS ?_|fail)
  ·have hlt: ¬(i:Int)<((l.map T.str).length:Int):=by omega
   rw [List.drop_eq_nil_of_le h] at hout
   skip
   refine rA (β:=Empty) (fun x=>x.elim) (fun _=>True) ?_ ?_
   ·repeat' ((conv=>whnf);first|refine qu hlt ?_|(exact ⟨(d,r,out),⟨hr,hout⟩,by (repeat' (first|exact trivial|exact LeV.same _|exact rfl|exact fun _ _ _=>trivial|refine And.intro ?_ ?_));done⟩)|refine aS ?_|fail)
   ·exact fun x=>x.elim
 ·rintro ⟨d,r,out⟩ ⟨hr,hout⟩
  dsimp only at hr hout
  have hol:out.length≤l.length+1:=by
   have:=congrArg List.length hout
   rw [List.length_append] at this;omega
  cases d with
  |true=>
   have hout:out++[]=put ltS l s:=hout
   rw [List.append_nil] at hout
   rw [← hout]
   rcases hr with rfl|rfl <;> repeat' ((conv=>whnf);first|exact trivial|refine aS ?_|fail)
  |false=>
   have hout:out++[s]=put ltS l s:=hout
   rw [← hout,List.map_append]
   rcases hr with rfl|rfl <;> repeat' ((conv=>whnf);first|exact trivial|refine aS ?_|fail)
end Go.TY
end
noncomputable section
namespace Go.TY
open Go Go.DL Go.Proofs
def c49:aY:=(.seq (.region [oo 2 (.box 9 (tm 0)),oo 3 (.box 1 (tm 1)),⟨some 4,.alloc [Z0,Z0,S0,Z0,Z0,.nil,S0,Z0,.nil],none,[]⟩] []) (.seq (.region [oo 5 (.alloc [.nilfn])] []) (.seq (.cut (.region [oo 6 (.mkfn 103 [(tm 3),(tm 5)]),o0 (.store 1 (tm 5) (tm 6))] [])) (.seq (.region [ld 7 5,lA 8 9 2,oo 9 (.b8 (tm 7) [tm 8]),o0 (.store 9 (tm 4) (tm 9))] []) .ret))))
theorem l49:(Tryz.f49.body.bind (bD Tryz.prog 10 [6000002]))=some c49:=by kernel_rfl
def Le:aY:=(.seq (.region [oo 3 (.box 9 (tm 0)),⟨some 4,.alloc [Z0,Z0,S0,Z0,Z0,.nil,S0,Z0,.nil],none,[]⟩] []) (.seq (.region [fa 8 1 3,lA 9 5 8,ld 10 1,oo 11 (.call 52 [(tm 9),(tm 10)]),fa 12 1 3,o0 (.store 5 (tm 12) (tm 11))] []) (.seq (.region [oo 5 (.mov (.const .nil))] []) (.seq (.seq (.region [fa 13 8 3,ld 14 13,ln 15 14,oo 16 (.mov (Kc 0))] []) (.block 0 (.loop (.seq (.region [oo 17 (.bin .lss (tm 16) (tm 15))] []) (.seq (.cond (tm 17) .skip (.exit 0)) (.seq (.block 1 (.seq (.region [ix 18 9 14 16,lA 19 9 18,⟨some 7,.alloc [Z0,Z0,S0,Z0,Z0,.nil,S0,Z0,.nil],none,[]⟩,o0 (.store 9 (tm 7) (tm 19))] []) (.region [mv 20 5,ld 21 2,lA 22 9 7,oo 23 (.b8 (tm 21) [tm 22]),⟨some 24,.buildS 28 9 1 [Z0,Z0,S0,Z0,Z0,.nil,S0,Z0,.nil] [(0,(tm 23))],none,[]⟩,oo 25 (.append 26 28 9 120 (tm 20) (tm 24)),mv 5 25] []))) (.region [oo 26 (.bin .add (tm 16) (Kc 1)),mv 16 26] []))))))) (.seq (.region [mv 27 5,fa 28 8 3,o0 (.store 1 (tm 28) (tm 27))] []) (.seq (.region [lA 29 9 3,o0 (.store 9 (tm 4) (tm 29))] []) .ret))))))
theorem MI:(Tryz.f103.body.bind (bD Tryz.prog 30 []))=some Le:=by kernel_rfl
def c52:aY:=(.seq (.region [oo 2 (.box 5 (tm 0)),⟨some 4,.alloc [Z0,S0,Z0,Z0,.nil],none,[]⟩] []) (.seq (.seq (.region [fa 8 0 2,ld 9 8,oo 10 (.bin .eql (tm 9) (Kc 9))] []) (.cond (tm 10) (.seq (.seq (.region [fa 11 2 2,ld 12 11,mv 13 1,oo 14 (.bin .leq (tm 12) (tm 13)),mv 15 14,mT 16 1 15,oT 17 15 (.offA 3 (tm 2)),oT 18 15 (.load 1 false (tm 17)),oT 19 15 (.bin .lss (tm 16) (tm 18)),oo 20 (.pick (tm 15) (tm 19) kF)] []) (.cond (tm 20) (.seq (.region [⟨some 21,.build [Z0,S0,Z0,Z0,.nil] [(0,1,(Kc 1))],none,[]⟩,o0 (.store 5 (tm 4) (tm 21))] []) .ret) .skip)) (.seq (.region [⟨some 22,.build [Z0,S0,Z0,Z0,.nil] [(0,1,(Kc 2))],none,[]⟩,o0 (.store 5 (tm 4) (tm 22))] []) .ret)) .skip)) (.seq (.region [oo 5 (.mov (.const .nil))] []) (.seq (.seq (.region [fa 23 4 2,ld 24 23,ln 25 24,oo 26 (.mov (Kc 0))] []) (.block 0 (.loop (.seq (.region [oo 27 (.bin .lss (tm 26) (tm 25))] []) (.seq (.cond (tm 27) .skip (.exit 0)) (.seq (.block 1 (.seq (.region [ix 28 5 24 26,lA 29 5 28,⟨some 7,.alloc [Z0,S0,Z0,Z0,.nil],none,[]⟩,o0 (.store 5 (tm 7) (tm 29))] []) (.region [mv 30 5,lA 31 5 7,mv 32 1,oo 33 (.call 52 [(tm 31),(tm 32)]),⟨some 34,.buildS 25 5 1 [Z0,S0,Z0,Z0,.nil] [(0,(tm 33))],none,[]⟩,oo 35 (.append 23 25 5 64 (tm 30) (tm 34)),mv 5 35] []))) (.region [oo 36 (.bin .add (tm 26) (Kc 1)),mv 26 36] []))))))) (.seq (.region [mv 37 5,fa 38 4 2,o0 (.store 1 (tm 38) (tm 37))] []) (.seq (.region [lA 39 5 2,o0 (.store 5 (tm 4) (tm 39))] []) .ret))))))
theorem l52:(Tryz.f52.body.bind (bD Tryz.prog 40 []))=some c52:=by kernel_rfl
end Go.TY
end
section
namespace Go.TY
open Go Go.DL Go.MM Go.Proofs
inductive LeC:List T→List T→Prop
 |nil:LeC [] []
 |same (t:T) {ts us:List T} (h:LeC ts us):LeC (t::ts) (t::us)
 |none (n:Nat) {ts us:List T} (h:LeC ts us):LeC (.nil::ts) (.slice n []::us)
theorem LeC.len: ∀{ts us:List T},LeC ts us→ts.length=us.length
 |_,_,.nil=>rfl
 |_,_,.same _ h=>congrArg (· +1) h.len
 |_,_,.none _ h=>congrArg (· +1) h.len
theorem LeC.get: ∀{ts us:List T},LeC ts us→ ∀{i:Nat} {u:T},us[i]? =some u→ts[i]? =some u∨ ∃n,ts[i]? =some .nil∧u= .slice n []
 |_,_,.nil,i,u,h=>by simp at h
 |_,_,.same t h,i,u,hu=>by
  cases i with
  |zero=>exact .inl hu
  |succ i=>simpa using h.get (by simpa using hu)
 |_,_,.none n h,i,u,hu=>by
  cases i with
  |zero=>simp at hu;exact .inr ⟨n,rfl,hu.symm⟩
  |succ i=>simpa using h.get (by simpa using hu)
theorem Rep.leC {S:ar} {w:World} {v:Value} {ts us:List T} (h:Rep S w v (.agg ts)) (hl:LeC ts us):Rep S w v (.agg us):=by
 cases h with
 |agg cs _ hs h1 h=>
  refine .agg cs us (hs.trans hl.len) (fun t ht=>?_) fun i x u hx hu=>?_
  ·obtain ⟨i,hi⟩:=List.mem_iff_getElem?.1 ht
   rcases hl.get hi with e|⟨n,_,rfl⟩
   ·exact h1 t (List.mem_of_getElem? e)
   ·rfl
  ·rcases hl.get hu with e|⟨n,e,rfl⟩
   ·exact h i x u hx e
   ·exact Rep.kn n (h i x .nil hx e)
theorem FH {P:Program} {f:FuncId} {xs ts us:List T} (h:DCalls P f xs (.agg ts)) (hl:LeC ts us):DCalls P f xs (.agg us):=h.res fun _ _ _ h=>Rep.leC h hl
theorem AF {us:List T} (h:us.length=5): ∃a b c d e,us=[a,b,c,d,e]:=by
 match us,h with
 |[a,b,c,d,e],_=>exact ⟨a,b,c,d,e,rfl⟩
mutual
def w7 (tick:Int):RP→RP
 |.mk k f n m a=>if k=9 then (if n≤tick∧tick<m then .mk 1 e0 0 0 [] else .mk 2 e0 0 0 []) else .mk k f n m (AE tick a)
def AE (tick:Int):List RP→List RP
 |[]=>[]
 |r::rs=>w7 tick r::AE tick rs
end
theorem AV (tick:Int): ∀l:List RP,AE tick l=l.map (w7 tick)
 |[]=>rfl
 |r::rs=>congrArg (w7 tick r:: ·) (AV tick rs)
theorem t62 (tick:Int) (N:Nat): ∀r:RP,r.nodes≤N→N<2^40→DCalls Tryz.prog 52 [.agg (sC r),I tick] (.agg (sC (w7 tick r))):=by
 induction N with
 |zero=>intro r h;have:=r.uq;omega
 |succ N ih=>
  rintro ⟨k,f,n,m,l⟩ hr hN
  simp only [RP.nodes,w7] at hr ⊢
  have go: ∀x,wpC Tryz.prog c52 (eU [.agg (sC (.mk k f n m l)),I tick]) (nW (dF Tryz.prog) [.cell 4 25] [x])→DCalls Tryz.prog 52 [.agg (sC (.mk k f n m l)),I tick] x:=fun x h=>
   qO (rs:=[.cell 4 25]) mixed Tryz.func52 l52 rfl rfl rfl (r:=[x]) (nlZ rfl) h
  by_cases hk:k=9
  ·rw [if_pos hk]
   by_cases hc:n≤tick∧tick<m
   ·rw [if_pos hc]
    refine FH (go (.agg [I 1,nm0,I 0,I 0,.nil]) ?_) (.same _ (.same _ (.same _ (.same _ (.none _ .nil)))))
    repeat' ((conv=>whnf);first|exact trivial|refine nT_ ?_|refine aE1 ?_|refine aD1 ?_|refine aS ?_|fail)
   ·rw [if_neg hc]
    refine FH (go (.agg [I 2,nm0,I 0,I 0,.nil]) ?_) (.same _ (.same _ (.same _ (.same _ (.none _ .nil)))))
    repeat' ((conv=>whnf);first|exact trivial|refine nT_ ?_|refine aE1 ?_|refine aD0 ?_|refine nD_ (fun hq=>?_) (fun hq=>?_)|refine aS ?_|fail)
    all_goals (exfalso;omega)
  ·rw [if_neg hk]
   have hl:=ue l
   refine go _ ?_
   repeat' ((conv=>whnf);first|refine nT_ ?_|refine aE0 ?_|refine aS ?_|fail)
   refine qZ 0 (α:=Nat) (β:=Unit) (fun q=>{sl:=[(1,.t (I tick)),(2,.ptr 2 0),(4,.ptr 4 0),(5,.own 35 25 5 ((l.take q).map fun x=>.agg (sC (w7 tick x)))),(24,.t (.slice 5 (l.map sU))),(25,.t (I l.length)),(26,.t (I q))],bx:=[(2,.d 5 (sC (.mk k f n m l))),(4,.d 5 [I 0,nm0,I 0,I 0,.nil])]})
    (fun q=>q≤l.length) (fun q=>l.length - q) (fun _=>{sl:=[(2,.ptr 2 0),(4,.ptr 4 0),(5,.t (.slice 5 (l.map fun x=>.agg (sC (w7 tick x)))))],bx:=[(2,.d 5 (sC (.mk k f n m l))),(4,.d 5 [I 0,nm0,I 0,I 0,.nil])]}) (fun _=>True) 0 (by simp) ?_ ?_ ?_
   ·repeat' (first|exact trivial|exact LeV.same _|exact LeB.same _|exact rfl|exact fun _ _ _=>trivial|exact lI|exact LeV.nil _ _ _|refine And.intro ?_ ?_)
   ·rintro i hi
    rcases Nat.lt_or_ge i l.length with h|h
    ·have hn:=tM h
     have hm:=tL (l:=l) (j:=i+1)
     have hc:=ih l[i] (by omega) (by omega)
     have hcl:=sK (w7 tick l[i])
     have hg:(l.map sU)[i]?.getD .nil= .agg (sC l[i]):=by simp [h,sI]
     have ht:l.take (i+1)=l.take i++[l[i]]:=by rw [List.take_succ_eq_append_getElem h]
     generalize l[i]=x at *
     obtain ⟨xk,xf,xn,xm,xl⟩:=x
     repeat' ((conv=>whnf);first|(refine nv_ (.agg (sC (.mk xk xf xn xm xl))) (by first|exact hg|fail) ?_)|refine rE _ (hc) ?_|refine nT_ ?_|refine aD1 ?_|(refine And.intro (by first|exact hcl|exact ⟨trivial,hcl⟩|((simp only [List.length_map,List.length_take,List.length_cons,List.length_nil];omega);done)|fail) ?_)|refine aS ?_|fail)
     refine ⟨i+1,h,by omega,?_⟩
     repeat' (first|(exact rX (by rw [ht];simp))|exact trivial|exact LeV.same _|exact LeB.same _|exact rfl|exact fun _ _ _=>trivial|exact lI|refine And.intro ?_ ?_)
    ·have:i=l.length:=by omega
     subst this
     rw [List.take_length]
     repeat' ((conv=>whnf);first|(exact ⟨(),trivial,by (repeat' (first|(exact LeV.data _ _ _ _)|exact trivial|exact LeV.same _|exact LeB.same _|exact rfl|exact fun _ _ _=>trivial|refine And.intro ?_ ?_));done⟩)|refine aD0 ?_|refine aS ?_|fail)
   ·rintro _ _
    have e:(l.map fun x=>T.agg (sC (w7 tick x)))=(AE tick l).map sU:=by rw [AV,List.map_map];exact List.map_congr_left fun x _=>(sI _).symm
    rw [e]
    repeat' ((conv=>whnf);first|exact trivial|refine aS ?_|fail)
    all_goals exact ⟨congrArg some rfl,trivial⟩
mutual
def vP (tick:Int):RO→RO
 |.mk k p f n a=>.mk k (w7 tick p) f n (zm tick a)
def zm (tick:Int):List RO→List RO
 |[]=>[]
 |r::rs=>vP tick r::zm tick rs
end
theorem AW (tick:Int): ∀l:List RO,zm tick l=l.map (vP tick)
 |[]=>rfl
 |r::rs=>congrArg (vP tick r:: ·) (AW tick rs)
abbrev Fi (tick:Int):T:=.knot 103 [.cptr [I tick] 0] []
theorem t61 (tick:Int) (N:Nat): ∀r:RO,r.wt≤N→N<2^40→DCalls Tryz.prog 103 [.agg (sA r),.cptr [I tick] 0,Fi tick] (.agg (sA (vP tick r))):=by
 induction N with
 |zero=>intro r h;have:=r.wH;omega
 |succ N ih=>
  rintro ⟨k,⟨pk,pf,pn,pm,pa⟩,f,n,l⟩ hr hN
  simp only [RO.wt,vP] at hr ⊢
  have h62:=t62 tick _ (.mk pk pf pn pm pa) (Nat.le_refl _) (by omega)
  obtain ⟨c0,c1,c2,c3,c4,he⟩:=AF (sK (w7 tick (.mk pk pf pn pm pa)))
  rw [he] at h62
  simp only [sA]
  rw [he]
  have hl:=uS l
  refine qO (rs:=[.cell 4 28]) mixed Tryz.func103 MI rfl rfl rfl (r:=[.agg (I k::([c0,c1,c2,c3,c4]++[.str f,I n,.slice 9 ((zm tick l).map tc)]))]) (nlZ rfl) ?_
  repeat' ((conv=>whnf);first|refine rE _ (h62) ?_|refine nT_ ?_|refine aS ?_|fail)
  refine qZ 0 (α:=Nat) (β:=Unit) (fun q=>{sl:=[(2,.t (Fi tick)),(3,.ptr 3 0),(4,.ptr 4 0),(5,.own 25 28 9 ((l.take q).map fun x=>.agg (sA (vP tick x)))),(14,.t (.slice 9 (l.map tc))),(15,.t (I l.length)),(16,.t (I q))],bx:=[(3,.d 9 (I k::([c0,c1,c2,c3,c4]++[.str f,I n,.slice 9 (l.map tc)]))),(4,.d 9 [I 0,I 0,nm0,I 0,I 0,.nil,nm0,I 0,.nil])]})
   (fun q=>q≤l.length) (fun q=>l.length - q) (fun _=>{sl:=[(3,.ptr 3 0),(4,.ptr 4 0),(5,.t (.slice 9 (l.map fun x=>.agg (sA (vP tick x)))))],bx:=[(3,.d 9 (I k::([c0,c1,c2,c3,c4]++[.str f,I n,.slice 9 (l.map tc)]))),(4,.d 9 [I 0,I 0,nm0,I 0,I 0,.nil,nm0,I 0,.nil])]}) (fun _=>True) 0 (by simp) ?_ ?_ ?_
  ·repeat' (first|exact trivial|exact LeV.same _|exact LeB.same _|exact rfl|exact fun _ _ _=>trivial|exact lI|exact LeV.nil _ _ _|refine And.intro ?_ ?_)
  ·rintro i hi
   rcases Nat.lt_or_ge i l.length with h|h
   ·have hn:=ux h
    have hm:=uf (l:=l) (j:=i+1)
    have hc:=ih l[i] (by omega) (by omega)
    have hcl:=sF (vP tick l[i])
    have hg:(l.map tc)[i]?.getD .nil= .agg (sA l[i]):=by simp [h,sM]
    have ht:l.take (i+1)=l.take i++[l[i]]:=by rw [List.take_succ_eq_append_getElem h]
    generalize l[i]=x at *
    obtain ⟨xk,⟨yk,yf,yn,ym,ya⟩,xf,xn,xl⟩:=x
    repeat' ((conv=>whnf);first|(refine nv_ (.agg (sA (.mk xk (.mk yk yf yn ym ya) xf xn xl))) (by first|exact hg|fail) ?_)|refine rE _ (hc) ?_|refine nT_ ?_|refine aD1 ?_|(refine And.intro (by first|exact hcl|exact ⟨trivial,hcl⟩|((simp only [List.length_map,List.length_take,List.length_cons,List.length_nil];omega);done)|fail) ?_)|refine aS ?_|fail)
    refine ⟨i+1,h,by omega,?_⟩
    repeat' (first|(exact rX (by rw [ht];simp))|exact trivial|exact LeV.same _|exact LeB.same _|exact rfl|exact fun _ _ _=>trivial|exact lI|refine And.intro ?_ ?_)
   ·have:i=l.length:=by omega
    subst this
    rw [List.take_length]
    repeat' ((conv=>whnf);first|(exact ⟨(),trivial,by (repeat' (first|(exact LeV.data _ _ _ _)|exact trivial|exact LeV.same _|exact LeB.same _|exact rfl|exact fun _ _ _=>trivial|refine And.intro ?_ ?_));done⟩)|refine aD0 ?_|refine aS ?_|fail)
  ·rintro _ _
   have e:(l.map fun x=>T.agg (sA (vP tick x)))=(zm tick l).map tc:=by rw [AW,List.map_map];exact List.map_congr_left fun x _=>(sM _).symm
   rw [e]
   repeat' ((conv=>whnf);first|exact trivial|refine aS ?_|fail)
   all_goals exact ⟨congrArg some rfl,trivial⟩
theorem t39 (tick:Int) (r:RO) (hr:r.wt<2^39):DCalls Tryz.prog 49 [.agg (sA r),I tick] (.agg (sA (vP tick r))):=by
 refine qO (rs:=[.cell 4 28]) mixed Tryz.func49 l49 rfl rfl rfl (r:=[.agg (sA (vP tick r))]) (nlZ rfl) ?_
 have h61:=t61 tick _ r (Nat.le_refl _) (by omega)
 repeat' ((conv=>whnf);first|(refine And.intro (by first|exact sF _|fail) ?_)|refine aS ?_|fail)
 refine rA (β:=Unit) (fun _=>{sl:=[(2,.ptr 2 0),(4,.ptr 4 0),(5,.t (Fi tick))],bx:=[(2,.d 9 (sA r)),(4,.d 9 [I 0,I 0,nm0,I 0,I 0,.nil,nm0,I 0,.nil])]}) (fun _=>True) ?_ ?_
 ·repeat' ((conv=>whnf);first|(exact ⟨(),trivial,by (repeat' (first|(exact LeV.knot 5 103 [.ptr 3 0] [] _ [3] _ [] rfl rfl rfl (by simp [Wk.keys]))|exact trivial|exact LeV.same _|exact LeB.same _|exact rfl|exact fun _ _ _=>trivial|refine And.intro ?_ ?_));done⟩)|refine aS ?_|fail)
 rintro _ _
 obtain ⟨k,p,f,n,a⟩:=r
 generalize vP tick (.mk k p f n a)=q at *
 obtain ⟨qk,⟨pk,pf,pn,pm,pa⟩,qf,qn,qa⟩:=q
 repeat' ((conv=>whnf);first|exact trivial|refine rE _ (h61) ?_|refine aS ?_|fail)
 all_goals exact ⟨congrArg some rfl,trivial⟩
end Go.TY
end
section
namespace Go.TY
open Go Go.DL Go.MM Go.Proofs
end Go.TY
end
noncomputable section
namespace Go.TY
open Go Go.DL Go.MM Go.Proofs
abbrev eni:Int→T:=I
abbrev mpi (ks:List Int) (vs:List T):T:=.mapd false [.int .i64] (ks.map eni) vs
def tR (id:Nat) (c:Option Code):Array Oper:=match rg0 id c with
 |.region _ ops _=>ops
 |_=> #[]
abbrev fAi:Option Code:=Tryz.f159.body
abbrev fKi:Option Code:=Tryz.f136.body
theorem bAi:fAi=some (.seq (.region 0 (tR 0 fAi) false) (.seq (.seq (.region 1 (tR 1 fAi) false)
  (.block 0 (.rangeFunc (.tmp 6) #[7] (.region 2 (tR 2 fAi) false) (.block 1 (.region 3 (tR 3 fAi) false))))) (.seq (.region 4 (tR 4 fAi) false) .ret))):=by kernel_rfl
abbrev JE:List DI:=[⟨some 5,.mov (.tmp 7),none,[]⟩]
abbrev JH:List DI:=[⟨some 8,.load 1 false (.tmp 2),none,[]⟩,⟨some 9,.mov (.tmp 5),none,[]⟩,⟨some 10,.buildS 3 1 1 [.int .i64 0] [(0,.tmp 9)],none,[1]⟩,
 ⟨some 11,.append 46 3 1 8 (.tmp 8) (.tmp 10),none,[0,2]⟩,⟨none,.store 1 (.tmp 2) (.tmp 11),none,[3,3,0,1,2,3]⟩]
theorem Ja:bX Tryz.prog 13 [] (tR 0 fAi) (tR 0 fAi).toList=some [⟨some 2,.box 1 (.tmp 0),none,[]⟩,⟨some 4,.mov (.const .nil),none,[]⟩]:=by kernel_rfl
theorem Jd:bX Tryz.prog 13 [] (tR 1 fAi) (tR 1 fAi).toList=some [⟨some 6,.mov (.tmp 1),none,[]⟩]:=by kernel_rfl
theorem Jg:bX Tryz.prog 13 [] (tR 2 fAi) (tR 2 fAi).toList=some JE:=by kernel_rfl
theorem Jj:bX Tryz.prog 13 [] (tR 3 fAi) (tR 3 fAi).toList=some JH:=by kernel_rfl
theorem Jm:bX Tryz.prog 13 [] (tR 4 fAi) (tR 4 fAi).toList=some [⟨some 12,.load 1 false (.tmp 2),none,[]⟩,⟨some 4,.mov (.tmp 12),none,[0,0]⟩]:=by kernel_rfl
abbrev yKi:Array Oper:=tR 3 fKi
theorem bKi:rg0 3 fKi= .region 3 yKi false:=by kernel_rfl
theorem Jp:dW Tryz.prog 14 yKi [0,1]=some [⟨some 10,.mov (.tmp 0),none,[]⟩,⟨some 11,.mov (.tmp 3),none,[]⟩]:=by kernel_rfl
theorem Js:dW Tryz.prog 14 yKi [3]=some [⟨some 13,.not (.tmp 12),none,[2]⟩]:=by kernel_rfl
theorem Jv: ∃o ats,yKi[2]? =some o∧o.guard=none∧o.op= .call {callee:=.value (.tmp 10),args:= #[.tmp 11],argTypes:=ats }∧o.dst=some 12:=by
 refine ⟨((tR 3 fKi)[2]?).getD default,(match (((tR 3 fKi)[2]?).getD default).op with|.call c=>c.argTypes|_=> #[]),by kernel_rfl,by kernel_rfl,by kernel_rfl,by kernel_rfl⟩
abbrev Hv (l d:Nat) (f:FuncId) (tmps:Array Value):aa→World→Prop:=nr l (cW f tmps 7 (.region 2 (tR 2 fAi) false) (.block 1 (.region 3 (tR 3 fAi) false)) d)
abbrev WKi (l:Nat) (C:aa→World→Prop) (ks:List Int) (vs:List T) (ix:List Nat):Wk:=
 {sl:=[(0,.raw (.func (.yield l) #[] #[])),(5,.ptr 2005 0)],bx:=[(2,.v [.own 3011 3 1 (z7 eni 0 ks ix)]),(2005,.itd (esK eni ks vs) ix)],gh:=[(0,[(2,.ptr 2 0)])],off:=2000,cx:=C }
theorem Hk (l d:Nat) (f:FuncId) (tmps:Array Value) (ht:tmps.size=13) (ks:List Int) (vs:List T) (hvs:vs.length=ks.length) (hl:ks.length<2^40) (st0:St)
  (h0:st0=({sl:=[(2,.ptr 2 0),(6,.fn 136 [.t (.cptr [mpi ks vs] 0)])],bx:=[(2,.v [.own 3011 3 1 []])]}:Wk).mk'):
  wpC Tryz.prog Hh (st0.iter l (cW f tmps 7 (.region 2 (tR 2 fAi) false) (.block 1 (.region 3 (tR 3 fAi) false)) d) [.t (.cptr [mpi ks vs] 0)] 2000)
   (qK st0 fun st=>st.sl 2= .ptr 2 0∧(∃ xs,uz eni 0 ks xs∧st.bx 2=some (.v [.own 3011 3 1 xs]))∧ ∀S w,st.cx S w):=by
 subst h0
 have hes:(esK eni ks vs).length=ks.length:=by simp [hvs]
 repeat' ((conv=>whnf);first|refine nT_ ?_|refine aS ?_|fail)
 refine qZ 0 (α:=List Nat) (β:=List Nat) (fun ix=>WKi l (Hv l d f tmps) ks vs ix) (fun ix=>ix.Nodup∧ ∀j∈ix,j<ks.length) (fun ix=>ks.length - ix.length)
  (fun ix=>WKi l (Hv l d f tmps) ks vs ix) (fun ix=>ix.Perm (List.range ks.length)) [] ⟨List.nodup_nil,by simp⟩ ?_ ?_ ?_
 ·exact ⟨⟨.same _,.same _,trivial⟩,⟨.same _,.same _,trivial⟩,⟨⟨.same _,trivial⟩,trivial⟩,rfl,fun _ _ h=>h,rfl⟩
 ·rintro ix ⟨hnd,hix⟩
  refine And.intro (fun j hj=>by rw [hes];exact hix j hj) (And.intro ?_ ?_)
  ·intro j e he hj
   obtain ⟨he1,hjl⟩:=zW (d:=0) he
   have hent:=zb _ ix j e he
   have hje:(ix++[j]).getLast?.getD 0<(esK eni ks vs).length:=by rw [List.getLast?_concat,hes];exact hjl
   obtain ⟨e1,e2⟩:=e
   dsimp only at he1 hent
   subst he1
   have hixl:ix.length≤ks.length:=by
    have:=hnd.length_le_of_subset (l₂:=List.range ks.length) (fun j hj=>List.mem_range.2 (hix j hj))
    simpa using this
   have hnd':(ix++[j]).Nodup:=by
    rw [List.nodup_append]
    exact ⟨hnd,by simp,fun a ha b hb=>by rw [List.mem_singleton.1 hb];exact fun e=>hj (e▸ha)⟩
   have hix': ∀i∈ix++[j],i<ks.length:=fun i hi=>by
    rcases List.mem_append.1 hi with h|h
    ·exact hix i h
    ·rw [List.mem_singleton.1 h];exact hjl
   have hixl':(ix++[j]).length≤ks.length:=by
    have:=hnd'.length_le_of_subset (l₂:=List.range ks.length) (fun j hj=>List.mem_range.2 (hix' j hj))
    simpa using this
   repeat' ((conv=>whnf);first|refine nv_ (.tup [eni (ks.getD j 0),e2]) hent ?_|(refine And.intro (by first|exact ⟨by simp,hje⟩|fail) ?_)|fail)
   obtain ⟨o,ats,o1,o2,o3,o4⟩:=Jv
   have hsem: ∀(st:St) (Q:aB→St→Prop),p0 Tryz.prog 14 (.region 3 yKi false) st Q→p0 Tryz.prog 14 (rg0 3 fKi) st Q:=fun st Q h=>by rw [bKi];exact h
   refine hsem _ _ ?_
   refine q0 (P:=Tryz.prog) (k1:=[0,1]) (k:=2) (k2:=[3]) (by kernel_rfl) Jp rfl Js rfl o1 o2 o3 o4 (by decide) (p:=7) ht (by decide) Jg rfl Jj rfl 3000 (l:=l) (fn:=f) (dd:=d) (id1:=2) (id2:=3) (bl:=1) ?_
   refine ⟨fun _ _ h=>h,rfl,?_⟩
   repeat' ((conv=>whnf);first|(refine And.intro (by first|exact fun _ _=>trivial|exact ⟨rfl,nlZ rfl⟩|((simp;omega);done)|exact .inl rfl|fail) ?_)|refine aS ?_|fail)
   refine ⟨ix++[j],⟨hnd',hix'⟩,by rw [List.length_append];simp at hixl' ⊢;omega,?_⟩
   refine ⟨⟨.same _,.same _,trivial⟩,⟨?_,.same _,trivial⟩,⟨⟨.same _,trivial⟩,trivial⟩,rfl,fun _ _ h=>h,rfl⟩
   refine .v _ _ ⟨rX ?_,trivial⟩
   simp [z7]
  ·intro hall
   skip
   refine ⟨ix,x8 hnd hix (fun j hj=>hall j (by rw [hes];exact hj)),?_⟩
   exact ⟨⟨.same _,.same _,trivial⟩,⟨.same _,.same _,trivial⟩,⟨⟨.same _,trivial⟩,trivial⟩,rfl,fun _ _ h=>h,rfl⟩
 rintro ix hp
 repeat' ((conv=>whnf);first|refine aS ?_|fail)
 exact ⟨⟨_,⟨ix,hp,rfl⟩,rfl⟩,fun _ _=>trivial⟩
abbrev vB (ks:List Int) (vs:List T):T:=.clos 136 [.cptr [mpi ks vs] 0]
theorem AO (ks:List Int) (vs:List T) (hvs:vs.length=ks.length) (hl:ks.length<2^40):fK Tryz.prog 159 [.nil,vB ks vs] 3 1 (uz eni 0 ks):=by
 refine qm Tryz.func159 bAi rfl (nlZ rfl) ?_
 intro S w a0 hsr hdf
 let K0:St→Prop:=fun st=>aA Tryz.prog [⟨some 6,.mov (.tmp 1),none,[]⟩] st fun st=>
  bP {sl:=[(2,.ptr 2 0),(6,.t (vB ks vs))],bx:=[(2,.d 1 [.nil])]} st
 have hK0:aA Tryz.prog [⟨some 2,.box 1 (.tmp 0),none,[]⟩,⟨some 4,.mov (.const .nil),none,[]⟩] (eU [.nil,vB ks vs]) K0:=by
  repeat' ((conv=>whnf);first|refine aS ?_|fail)
  exact ⟨⟨.same _,.same _,trivial⟩,⟨.same _,trivial⟩,trivial,rfl,fun _ _ _=>trivial,rfl⟩
 refine wp_seq (nE (X:=[]) (N:=13) hsr Ja (fun a1 w1 h1=>?_) hK0)
 obtain ⟨E1,s1,rfl,k1,k2,k3⟩:=h1
 refine wp_seq (wp_seq (nE (X:=[]) k1 Jd (fun a2 w2 h2=>?_) k3))
 obtain ⟨E2,s2,rfl,k4,k5,k6⟩:=h2
 obtain ⟨E3,e3,k7⟩:=k4.bP k6
 rw [← e3]
 have k8:=k7.rG (k:=6) (k7.sl 6).rv
 obtain ⟨E4,e4,k10⟩:=SR.bP (a:=a2) (s:={sl:=[(2,.ptr 2 0),(6,.fn 136 [.t (.cptr [mpi ks vs] 0)])],bx:=[(2,.v [.own 3011 3 1 []])]}) k8 ⟨⟨.same _,.same _,trivial⟩,⟨.dv _ _ _ ⟨.nil _ _ _,trivial⟩,trivial⟩,trivial,rfl,fun _ _ _=>trivial,rfl⟩
 rw [← e4]
 refine wp_block ?_
 refine rh mixed k10 (fun _ _=>trivial) (y:=.tmp 6) rfl (gf:=136) (caps:=[.t (.cptr [mpi ks vs] 0)]) rfl Tryz.func136 Nf rfl rfl rfl (nlZ rfl) 2000
  (K:=fun st=>st.sl 2= .ptr 2 0∧(∃ xs,uz eni 0 ks xs∧st.bx 2=some (.v [.own 3011 3 1 xs]))∧ ∀S w,st.cx S w) (fun l d f tmps ht=>?_) (fun a5 w5 h5=>?_)
 ·exact Hk l d f tmps ht ks vs hvs hl _ rfl
 ·obtain ⟨S0',E5,s5,D,rfl,q1,q2,q3,q4,q5,q6,r1,⟨xs,hxs,r2⟩,r3⟩:=h5
  have q6':a5.defers=[{target:=.collected D,args:= #[]}]:=by rw [q6,k5,k2,hdf]
  show Code.wp _ _ _ _ _
  refine wp_seq (nE (X:=[]) q1 Jm (K:=fun st=>(∀ S w,st.cx S w)∧st.sl 4= .own 3011 3 1 xs) (fun a6 w6 h6=>?_) ?_)
  ·obtain ⟨E6,s6,rfl,p1,p2,p3,p4⟩:=h6
   obtain ⟨js,hjs,rfl⟩:=hxs
   refine wp_ret ⟨.inr rfl,S0',E6,s6,D,rfl,p1,q2,q3,q4,q5,by rw [p2,q6'],p3,_,_,⟨js,hjs,rfl⟩,vo (fun _=>rfl) (fun _=>rfl) js ks,?_,.inl ⟨3011,rfl⟩⟩
   have:dP s6 Tryz.f159.results.toList=some [s6.sl 4]:=by
    rw [show Tryz.f159.results.toList=[.tmp 4] from rfl];rfl
   rw [this,p4]
  ·obtain ⟨sl5,bx5,gh5,off5,cx5⟩:=s5
   dsimp only at r1 r2 r3
   obtain ⟨g,rfl⟩: ∃g,sl5=upd g 2 (.ptr 2 0):=⟨sl5,(uJ r1).symm⟩
   obtain ⟨b,rfl⟩: ∃b,bx5=upd b 2 (some (.v [.own 3011 3 1 xs])):=⟨bx5,(uJ r2).symm⟩
   exact ⟨r3,rfl⟩
theorem CC (ks:List Int) (vs:List T) (hvs:vs.length=ks.length) (hl:ks.length<2^40):fK Tryz.prog 134 [vB ks vs] 3 1 (uz eni 0 ks):=by
 refine qG (rs:=[.tmp 2]) mixed Tryz.func134 Nd rfl rfl rfl (nlZ rfl) ?_
 repeat' ((conv=>whnf);first|refine ru (ts:=[.nil,vB ks vs]) rfl (AO ks vs hvs hl) (fun xs hx=>?_)|fail)
 obtain ⟨js,hjs,rfl⟩:=hx
 exact ⟨_,_,⟨js,hjs,rfl⟩,vo (fun _=>rfl) (fun _=>rfl) js ks,rfl,.inl ⟨_,rfl⟩⟩
theorem ER:iz Tryz.prog 135 (Value.int .i64) (fun x y:Int=>decide (x≤y)):=iz.int Tryz.GP rfl (bQ Tryz.func135 rfl rfl)
theorem Ao (ks:List Int) (vs:List T) (hvs:vs.length=ks.length) (hl:ks.length<2^40) (hn:ks.Nodup):kI Tryz.prog 91 [vB ks vs] (.slice 1 ((zj ks).map eni)):=by
 refine qS (rs:=[.tmp 2]) mixed Tryz.func91 l91 rfl rfl rfl (nlZ rfl) ?_
 repeat' ((conv=>whnf);first|refine rf (ts:=[vB ks vs]) rfl (CC ks vs hvs hl) rfl (fun h0=>?_) (fun xs hx hc=>?_)|fail)
 ·obtain ⟨zs,hp,h0⟩:=vp h0
  have:zs=[]:=by
   cases zs with
   |nil=>rfl
   |cons z zs=>cases h0
  subst this
  have:ks=[]:=List.nil_perm.1 hp
  subst this
  repeat' ((conv=>whnf);first|refine qc ER ?_|fail)
  exact ⟨.t .nil,rfl,.nil 1⟩
 ·obtain ⟨zs,hp,rfl⟩:=vp hx
  have hzl:zs.length<2^40:=by rw [hp.length_eq];exact hl
  have hfl:=AD (enc:=eni) (fun _=>rfl) zs
  have hle:(zs.map eni).length=zs.length:=List.length_map _
  have hsl:(zj ks).length=zs.length:=by
   have e:=congrArg List.length (congrArg (List.map I) (Ck hn hp))
   simp only [List.length_map,List.length_mergeSort] at e
   omega
  repeat' ((conv=>whnf);first|(refine re (n:=5) (off:=0) (len:=(zs.map eni).length) (m:=(zs.map eni).length * 1) (ts:=(zs.map eni).flatMap T.cells) (encT:=I) ER rfl zs ?_ ?_ (by omega) (fun a S w v h=>by cases h;rfl) (fun a S w=>.int _ _) (fun _=>rfl) ?_)|fail)
  ·rw [hfl,List.drop_zero,List.take_of_length_le (by omega)]
  ·simp
  ·skip
   have e:=congrArg (List.map I) (Ck hn hp)
   refine ⟨.view 5 0 (zs.map eni).length 1,rfl,.view 5 0 (zs.map eni).length 1 ((zs.map eni).length * 1) (aN ((zs.map eni).flatMap T.cells) 0 (zs.map eni).length ((zs.mergeSort (fun x y:Int=>decide (x≤y))).map I)) _ [5] rfl ?_ ?_⟩
   ·rw [vq (by rw [hfl]),e]
    intro t ht
    obtain ⟨z,_,rfl⟩:=List.mem_map.1 ht
    rfl
   ·show (cond (Nat.blt 0 1&&Nat.ble (0+(zs.map eni).length * 1) ((zs.map eni).length * 1)) (some (T.slice 1 (chunk 1 (zs.map eni).length ((aN ((zs.map eni).flatMap T.cells) 0 (zs.map eni).length ((zs.mergeSort (fun x y:Int=>decide (x≤y))).map I)).drop 0)),[5])) none)=_
    rw [vq (by rw [hfl]),e,Nat.zero_add,List.drop_zero,yF _ _ (by rw [List.length_map];omega)]
    have:Nat.ble ((zs.map eni).length * 1) ((zs.map eni).length * 1)=true:=Nat.ble_eq_true_of_le (Nat.le_refl _)
    rw [this]
    rfl
theorem Cm (ks:List Int) (vs:List T):DCalls Tryz.prog 92 [mpi ks vs] (vB ks vs):=by
 refine qO (rs:=[.tmp 2]) mixed Tryz.func92 l92 rfl rfl rfl (r:=[vB ks vs]) (nlZ rfl) ?_
 repeat' ((conv=>whnf);first|exact trivial|refine aS ?_|fail)
end Go.TY
end
section
namespace Go.TY
open Go Go.DL Go.MM Go.Proofs
attribute [local irreducible] aI gR WCM YC
def bounds (gs:List RG):List Int:=gs.flatMap fun g=>BU g.pol
def xA (gs:List RG):List Int:=tW ltI (bounds gs)
theorem zf {α:Type} [DecidableEq α]: ∀{a acc b:List α},once acc (a++b)=once (once acc a) b
 |[],_,_=>rfl
 |x::a,acc,b=>by
  rw [List.cons_append]
  exact zf (a:=a)
def wL (pre:List Int) (r:RO) (k:Nat):List Int:=once (once [] pre) (th xQ (tq r) k)
def we (pre:List Int) (r:RO) (k:Nat):List (Nat×BX):=[(3,.v [.mp 7]),(7,.m false [.int .i64] (esI (wL pre r k)) none)]
theorem IK (pre:List Int) (r:RO):ph (fun n=>10≤n∧n<100) 100 (fun _ _=>True) (we pre r) (fun _ cx _=>cx=(fun _ _=>True)∧False) where
 fh:=fun n h=>h.2
 nm:=fun k p hp=>by
  simp only [we,List.mem_cons,List.not_mem_nil,or_false] at hp
  rcases hp with rfl|rfl <;> exact ⟨by dsimp only;omega,by dsimp only;omega⟩
 nms:=fun c cx o ho=>ho.2.elim
 cov:=fun k k' p hp=>by
  simp only [we,List.mem_cons,List.not_mem_nil,or_false] at hp ⊢
  rcases hp with rfl|rfl
  ·exact ⟨_,Or.inl rfl,rfl⟩
  ·exact ⟨_,Or.inr rfl,rfl⟩
 covs:=fun c cx o ho=>ho.2.elim
 safe:=fun k p hp=>by
  simp only [we,List.mem_cons,List.not_mem_nil,or_false] at hp
  rcases hp with rfl|rfl
  ·intro c hc
   rw [List.mem_singleton.1 hc]
   exact .mp 7 ⟨(7,_),List.mem_cons_of_mem _ (List.mem_singleton.2 rfl),rfl⟩
  ·exact trivial
 safes:=fun c cx o ho=>ho.2.elim
 cxd:=fun c cx o ho=>ho.2.elim
 cxo_:=rT
 nd:=fun k=>by show ([3,7]:List Nat).Nodup;decide
abbrev SB (gs:List RG) (i:Nat):Wk:={sl:=[(3,.ptr 3 0),(8,.t (.slice 15 (gs.map sL))),(9,.t (I gs.length)),(10,.t (I i))],bx:=[(3,.v [.mp 7]),(7,.m false [.int .i64] (esI (once [] (bounds (gs.take i)))) none)]}
theorem BG (gs:List RG) (hl:gs.length<2^39) (hg: ∀g∈gs,g.pol.wt<2^39) (hb:(bounds gs).length<2^40):DCalls Tryz.prog 57 [.slice 15 (gs.map sL)] (.slice 1 ((xA gs).map I)):=by
 refine qP Tryz.func57 Mw rfl (r:=[.slice 1 ((xA gs).map I)]) (nlZ rfl) ?_
 rw [show Tryz.f57.ntmps=31 from rfl,show Tryz.f57.results.toList=[.tmp 2] from rfl,k57]
 have hgl:((gs.map sL).length:Int)=(gs.length:Int):=by rw [List.length_map]
 refine aI.seq (JT ?_)
 skip
 refine aI.seq (JZ ?_)
 repeat' ((conv=>whnf);first|refine aS ?_|fail)
 refine aI.seq (aI.seq (J5 ?_))
 skip
 refine aI.bP (s:=SB gs 0) (by repeat' (first|(exact leI (by simp))|exact trivial|exact LeV.same _|exact LeB.same _|exact rfl|exact fun _ _ _=>trivial|refine And.intro ?_ ?_)) ?_
 refine aI.block (aI.loop (fun m s=> ∃i,i≤gs.length∧m=gs.length - i∧s=(SB gs i).mk') gs.length ⟨0,by omega,by omega,rfl⟩ ?_)
 rintro m s ⟨i,hi,rfl,rfl⟩
 refine aI.seq (Kb ?_)
 rcases Nat.lt_or_ge i gs.length with h|h
 case inr=>
  have:i=gs.length:=by omega
  subst this
  have e:SB gs gs.length=({sl:=[(3,.ptr 3 0),(8,.t (.slice 15 (gs.map sL))),(9,.t (I gs.length)),(10,.t (I gs.length))],bx:=[(3,.v [.mp 7]),(7,.m false [.int .i64] (esI (once [] (bounds gs))) none)]}:Wk):=by unfold SB;rw [List.take_length]
  rw [e]
  clear e
  have hol:=vR (l:=bounds gs) (acc:=[])
  have hnd:=uE (l:=bounds gs) (acc:=[]) List.nodup_nil
  have hfin:zj (once [] (bounds gs))=xA gs:=by
   unfold zj xA
   refine wC Fk fun x=>?_
   rw [uO]
   simp only [List.not_mem_nil,false_or]
  simp only [List.length_nil,Nat.zero_add] at hol
  generalize once [] (bounds gs)=ks at *
  have hk1:=Cm ks (ks.map fun _=>T.bool true)
  have hk2:=(Ao ks (ks.map fun _=>T.bool true) (by simp) (by omega) hnd).rD
  rw [hfin] at hk2
  repeat' ((conv=>whnf);first|refine aD0 ?_|refine aS ?_|fail)
  refine aI.seq (FK ?_)
  skip
  refine aI.bP (s:={sl:=[(3,.ptr 3 0)],bx:=[(3,.v [.t (mpi ks (ks.map fun _=>T.bool true))])]}) ⟨⟨.same _,trivial⟩,⟨.v _ _ ⟨.conv _ _ [7] ?_ (by simp [Wk.keys]),trivial⟩,trivial⟩,trivial,rfl,fun _ _ _=>trivial,rfl⟩ ?_
  ·show some (T.mapd false [.int .i64] ((esI ks).map (·.1)) ((esI ks).map (·.2)),[7])=_
   unfold esI
   rw [List.map_map,List.map_map];rfl
  refine HI ?_
  repeat' ((conv=>whnf);first|refine rE _ (hk1) ?_|refine rE _ (hk2) ?_|fail)
  exact ⟨⟨rfl,trivial⟩,fun _ _=>trivial⟩
 obtain ⟨pre,hpre0⟩: ∃pre,pre=bounds (gs.take i):=⟨_,rfl⟩
 have e:SB gs i=({sl:=[(3,.ptr 3 0),(8,.t (.slice 15 (gs.map sL))),(9,.t (I gs.length)),(10,.t (I i))],bx:=[(3,.v [.mp 7]),(7,.m false [.int .i64] (esI (once [] pre)) none)]}:Wk):=by rw [hpre0]
 rw [e]
 clear e
 repeat' ((conv=>whnf);first|refine aD1 ?_|refine aS ?_|fail)
 refine aI.seq (FK ?_)
 skip
 have hgi:=hg gs[i] (List.getElem_mem h)
 have hpol:=uB gs[i]
 have hG:sL gs[i]= .agg (sD gs[i]):=rfl
 have hpre:bounds (gs.take (i+1))=bounds (gs.take i)++BU gs[i].pol:=by
  unfold bounds
  rw [List.take_succ_eq_append_getElem h,List.flatMap_append];simp
 rw [← hpre0] at hpre
 clear hpre0
 refine aI.seq (aI.block (aI.seq (Kn ?_)))
 repeat' ((conv=>whnf);first|(refine nv_ (.agg (sD gs[i])) (by first|((simp [h];rfl);done)|fail) ?_)|(refine And.intro (by first|exact ⟨sO _,nlZ rfl⟩|exact sO _|fail) ?_)|refine aS ?_|fail)
 have ht:=Cp gs[i].pol
 rw [sV,uM] at ht
 refine aI.seq (Ko ?_)
 repeat' ((conv=>whnf);first|(refine nv_ (.agg (sA gs[i].pol)) (by first|exact congrArg T.agg hpol|fail) ?_)|refine rE _ (ht) ?_|refine aS ?_|fail)
 generalize gs[i].pol=r at *
 rw [← uM]
 refine aI.bP (s:={sl:=[(3,.ptr 3 0),(8,.t (.slice 15 (gs.map sL))),(9,.t (I gs.length)),(10,.t (I i)),(16,.t (.clos 130 [.cptr (s8 r) 0]))],bx:=[(3,.v [.mp 7]),(7,.m false [.int .i64] (esI (once [] pre)) none)]}) (by repeat' (first|exact trivial|exact LeV.same _|exact LeB.same _|exact rfl|exact fun _ _ _=>trivial|refine And.intro ?_ ?_)) ?_
 have hlen:(sJ r).length≤r.wt:=by rw [ti,uu];exact r.wv
 have hwt: ∀o∈sJ r,o.wt≤r.wt:=by rw [ti];exact uQ r
 refine aI.block (yZ (N:=31) rfl r rfl 100 (fun n=>10≤n∧n<100) 100 (Nat.le_refl _) (by omega) (fun o ho=>by have h1:=hwt o ho;rw [uH,uF];obtain ⟨k,p,f,n,a⟩:=o;simp only [RO.wt] at h1;show p.nodes<_;omega) (fun n h=>rz fun p hp=>?_) (fun n h=>rz fun p hp=>?_) (by exact rU) (outs:=we pre r) (stop:=fun _ cx _=>cx=(fun _ _=>True)∧False) ?_ (fun l0 D fn tmps hN=>?_) ?_ (fun c cx o h=>h.2.elim))
 ·simp only [List.mem_cons,List.not_mem_nil,or_false] at hp
  rcases hp with rfl|rfl <;> (dsimp only;omega)
 ·simp only [List.mem_cons,List.not_mem_nil,or_false] at hp
  rcases hp with rfl|rfl <;> (dsimp only;omega)
 ·intro q hq
  simp only [we,List.mem_cons,List.not_mem_nil,or_false] at hq
  rcases hq with rfl|rfl <;> rfl
 ·refine dR.top (d:=6) (n:=5) (lo:=10) (hi:=100) (stop:=fun _ _=>False) (IK pre r) (fun n h1 h2=>⟨h1,h2⟩) hN (by decide) (fun hw=>Kp hw) rfl (by decide) (by decide) (fun x hx=>?_) (fun k cs b G C hk hcs=>?_)
  ·obtain ⟨t,_,rfl⟩:=List.mem_map.1 hx
   exact ⟨_,sI t,sK t⟩
  rw [List.getElem?_map,Option.map_eq_some_iff] at hk
  obtain ⟨t,htk,hte⟩:=hk
  rw [sI] at hte
  obtain rfl:sC t=cs:=T.agg.inj hte
  have hfs:=v8 (g:=xQ) htk
  have hos:we pre r k=[(3,.v [.mp 7]),(7,.m false [.int .i64] (esI (wL pre r k)) none)]:=rfl
  rw [hos]
  have hks:wL pre r (k+1)=once (wL pre r k) (xQ t):=by unfold wL;rw [hfs,zf]
  have endN: ∀s:St,s.gh=G→s.cx=C→(∀ q, ¬(10≤q∧q<100)→s.bx q=aK b [(3,.v [.mp 7]),(7,.m false [.int .i64] (esI (wL pre r (k+1))) none)] q)→RB b G C 10 100 (we pre r (k+1)) (fun _ _=>False) .normal s:=fun s h1 h2 h3=>⟨h1,h2,_,h3,rfl⟩
  generalize wL pre r (k+1)=ks' at *
  generalize wL pre r k=ks at *
  clear hte hos hfs
  refine Kq ?_
  obtain ⟨kd,f,n,m,args⟩:=t
  by_cases k9:kd=9
  ·have hmr:ks'=once ks [n,m]:=by rw [hks];unfold xQ;exact congrArg (once ks) (if_pos k9)
   repeat' ((conv=>whnf);first|refine qx k9 ?_|refine nT_ ?_|(refine And.intro (by first|exact ⟨rfl,rfl,trivial⟩|fail) ?_)|refine aS ?_|fail)
   (conv=>whnf)
   refine endN _ rfl rfl fun q hq=>?_
   have hm:=qX (b:=b) hq
   by_cases h5:q=7
   ·subst h5
    show some (BX.m false [.int .i64] (bK (T.int .i64 m) (T.bool true) (bK (T.int .i64 n) (T.bool true) _)) none)=some (BX.m false [.int .i64] _ none)
    rw [zt,zt,hmr]
    rfl
   show cond (Nat.beq q 7) _ (cond (Nat.beq q 7) _ (cond (Nat.beq q 16) _ (cond (Nat.beq q 3) _ (cond (Nat.beq q 7) _ (gE 10 100 b q)))))=cond (Nat.beq q 3) _ (cond (Nat.beq q 7) _ (b q))
   rw [eS h5,eS (show q≠16 by omega),hm];rfl
  ·have hmr:ks'=ks:=by rw [hks];unfold xQ;exact congrArg (once ks) (if_neg k9)
   subst hmr
   repeat' ((conv=>whnf);first|refine qw k9 ?_|refine nT_ ?_|refine aS ?_|fail)
   (conv=>whnf)
   refine endN _ rfl rfl fun q hq=>?_
   have hm:=qX (b:=b) hq
   show cond (Nat.beq q 16) _ (cond (Nat.beq q 3) _ (cond (Nat.beq q 7) _ (gE 10 100 b q)))=cond (Nat.beq q 3) _ (cond (Nat.beq q 7) _ (b q))
   rw [eS (show q≠16 by omega),hm];rfl
 ·have hes:we pre r (tq r).length=[(3,.v [.mp 7]),(7,.m false [.int .i64] (esI (once [] (bounds (gs.take (i+1))))) none)]:=by
   unfold we wL
   rw [wK,hpre,zf]
   unfold BU
   rw [A4]
  rw [hes]
  refine Kr ?_
  skip
  exact ⟨gs.length - (i+1),SB gs (i+1),by omega,by (repeat' (first|exact trivial|exact LeV.same _|exact LeB.same _|exact rfl|exact fun _ _ _=>trivial|exact lI|refine And.intro ?_ ?_)),i+1,by omega,rfl,rfl⟩
end Go.TY
end
section
namespace Go.TY
open Go Go.DL Go.MM
theorem zc {α:Type} {f g:α→Int} {xs:List α}:fz2 f g xs=0↔ ∀x∈xs,f x=0∧g x=0:=
 ⟨zX,fun h=>yJ fun _ hj=>h _ (List.getElem_mem hj)⟩
theorem DJ {l:List Fd} {r:RO} (h:tJ l r=0):td r=0:=by
 unfold tJ at h
 by_cases c:td r≠0
 ·rw [if_pos c] at h;exact absurd h c
 ·exact Decidable.not_not.1 c
theorem DK {l:List Fd} {s:RS} (h:tj l s=0):s9 s=0:=by
 unfold tj at h
 by_cases c:s9 s≠0
 ·rw [if_pos c] at h;exact absurd h c
 ·exact Decidable.not_not.1 c
theorem Cj {l:List Fd} {gs:List RG}:wm l gs=0↔gs.length≤8∧(∀ g∈gs,tJ l g.pol=0∧tj l g.st=0)∧PW l (sE (gs.map (·.st))):=by
 unfold wm
 constructor
 ·intro h
  by_cases c:uk gs≠0
  ·rw [if_pos c] at h;exact absurd h c
  rw [if_neg c] at h
  have c:=Decidable.not_not.1 c
  by_cases d:fz2 (fun g=>tJ l g.pol) (fun g=>tj l g.st) gs≠0
  ·rw [if_pos d] at h;exact absurd h d
  rw [if_neg d] at h
  have d:=Decidable.not_not.1 d
  refine ⟨?_,zc.1 d,?_⟩
  ·unfold uk at c
   by_cases e:gs.length>8
   ·rw [if_pos e] at c;cases c
   ·omega
  ·cases hv:(tD l gs).isNone with
   |true=>rw [hv] at h;simp at h
   |false=>
    apply Classical.byContradiction
    intro hp
    rw [wG.2 hp] at hv;cases hv
 ·rintro ⟨h1,h2,h3⟩
  have c:uk gs=0:=by
   unfold uk
   rw [if_neg (by omega)]
   exact zc.2 fun g hg=>⟨DJ (h2 g hg).1,DK (h2 g hg).2⟩
  have d:=zc.2 h2
  rw [if_neg (by rw [c];simp),if_neg (by rw [d];simp)]
  have:(tD l gs).isNone=false:=by
   cases hv:(tD l gs).isNone with
   |true=>exact absurd h3 (wG.1 hv)
   |false=>rfl
  rw [this];rfl
end Go.TY
end
section
namespace Go.TY
open Go Go.DL Go.MM Go.Proofs
end Go.TY
end
section
namespace Go.TY
open Go Go.DL Go.MM Go.Proofs
end Go.TY
end
section
namespace Go.TY
open Go Go.DL Go.MM
theorem tV {gs:List RG} {s:RS}:s∈sE (gs.map (·.st))↔ ∃g∈gs,g.st=s∧s.kind≠0:=by
 unfold sE
 rw [List.mem_filter,List.mem_map]
 simp only [bne_iff_ne,ne_eq]
 exact ⟨fun ⟨⟨g,h1,h2⟩,h3⟩=>⟨g,h1,h2,h3⟩,fun ⟨g,h1,h2,h3⟩=>⟨⟨g,h1,h2⟩,h3⟩⟩
theorem zr {gs:List RG} {x:ByteArray}:x∈uh gs↔ ∃s∈sE (gs.map (·.st)),s.var=x:=by
 unfold uh
 rw [A0 (uE (l:=(sE (gs.map (·.st))).map (·.var)) (acc:=[]) List.nodup_nil),uO,List.mem_map]
 simp
theorem Au {l:List Fd} {ss:List RS} {x:ByteArray} (h: ∃s∈ss,s.var=x): ∃s0∈ss,s0.var=x∧tk l ss x=some ⟨x,tz s0.kind,sQ l s0,((sR ss x).map (·.n)).getD 0,((sR ss x).map (·.m)).getD 0⟩:=by
 obtain ⟨s,hs,hv⟩:=h
 unfold tk
 cases hf:ss.find? fun s=>decide (s.var=x) with
 |none=>
  have:=List.find?_eq_none.1 hf s hs
  simp [hv] at this
 |some s0=>exact ⟨s0,List.mem_of_find?_eq_some hf,by simpa using List.find?_some hf,rfl⟩
end Go.TY
end
section
namespace Go.TY
open Go Go.DL Go.MM
theorem zg {ss:List RS} {t:RS} {x:ByteArray}:sR (ss++[t]) x=match sR ss x with
  |some s=>some s
  |none=>if (decide (t.var=x)&&t.own)=true then some t else none:=by
 unfold sR
 rw [ud]
 cases ss.find? fun s=>decide (s.var=x)&&s.own <;> rfl
theorem Fv {l:List Fd} {ss:List RS} {t:RS} {x:ByteArray} (h:t.var≠x):tk l (ss++[t]) x=tk l ss x∧sR (ss++[t]) x=sR ss x:=by
 have e:sR (ss++[t]) x=sR ss x:=by
  rw [zg]
  cases sR ss x <;> simp [h]
 refine ⟨?_,e⟩
 unfold tk
 rw [ud,e]
 cases ss.find? fun s=>decide (s.var=x) <;> simp [h]
theorem Fo {ss:List RS} {x:ByteArray} (h:ss.find? (fun s=>decide (s.var=x))=none):sR ss x=none:=by
 unfold sR
 rw [List.find?_eq_none] at h ⊢
 intro s hs hc
 rw [Bool.and_eq_true] at hc
 exact h s hs hc.1
def nOf (o:Option RV):Int:=(o.map (·.n)).getD 0
def mOf (o:Option RV):Int:=(o.map (·.m)).getD 0
theorem Fw {l:List Fd} {ss:List RS} {t:RS} (hp:PW l (ss++[t])):
  tk l (ss++[t]) t.var=some ⟨t.var,tz t.kind,sQ l t,if t.own&& !(sR ss t.var).isSome then t.n else nOf (tk l ss t.var),if t.own&& !(sR ss t.var).isSome then t.m else mOf (tk l ss t.var)⟩∧
  (sR (ss++[t]) t.var).isSome=((sR ss t.var).isSome||t.own):=by
 constructor
 ·unfold tk nOf mOf
  rw [ud,zg]
  cases hf:ss.find? fun s=>decide (s.var=t.var) with
  |none=>
   rw [Fo hf]
   cases t.own <;> simp
  |some s0=>
   have h0:=List.mem_of_find?_eq_some hf
   have h1:s0.var=t.var:=by simpa using List.find?_some hf
   have ha:=uc.1 ((zP.1 hp).2 s0 h0 h1)
   simp only [Option.map_some,Option.getD_some]
   rw [ha.2.1,ha.2.2]
   cases sR ss t.var with
   |some s1=>simp
   |none=>cases t.own <;> simp
 ·rw [zg]
  cases sR ss t.var with
  |some s1=>rfl
  |none=>cases t.own <;> simp
theorem Dx {gs:List RG} {g:RG}:sE ((gs++[g]).map (·.st))=if g.st.kind=0 then sE (gs.map (·.st)) else sE (gs.map (·.st))++[g.st]:=by
 unfold sE
 rw [List.map_append,List.filter_append]
 by_cases h:g.st.kind=0
 ·rw [if_pos h];simp [h]
 ·rw [if_neg h];simp [h]
theorem zK {gs:List RG} {i:Nat} (h:i<gs.length):sE ((gs.take (i+1)).map (·.st))=if gs[i].st.kind=0 then sE ((gs.take i).map (·.st)) else sE ((gs.take i).map (·.st))++[gs[i].st]:=by
 rw [List.take_succ_eq_append_getElem h,Dx]
theorem Gy {l:List Fd} {gs:List RG} (h:PW l (sE (gs.map (·.st)))) (i:Nat):PW l (sE ((gs.take i).map (·.st))):=by
 rw [DD] at h ⊢
 intro s hs t ht e
 refine h s ?_ t ?_ e
 ·obtain ⟨g,h1,h2,h3⟩:=tV.1 hs
  exact tV.2 ⟨g,List.mem_of_mem_take h1,h2,h3⟩
 ·obtain ⟨g,h1,h2,h3⟩:=tV.1 ht
  exact tV.2 ⟨g,List.mem_of_mem_take h1,h2,h3⟩
def GB (x:ByteArray):Option RV→List T
 |none=>[.str x,I 0,.nil,I 0,I 0]
 |some v=>ua v
end Go.TY
end
section
namespace Go.TY
open Go Go.DL Go.MM Go.Proofs
theorem zI (a b:ByteArray):sB a b=sB b a:=by
 cases h:sB b a with
 |true=>rw [sN.1 h];exact sN.2 rfl
 |false=>exact s7 sN fun e=>by rw [e,sN.2 rfl] at h;cases h
def xI (s:RS):List ByteArray:=s.key++(if sB s.field e0 then [] else [s.field])
theorem DY (l:List Fd) (s:RS):((!sB s.field e0&& !tf l s.field)|| !s.key.all (tf l))= !(xI s).all (tf l):=by
 unfold xI
 rw [List.all_append]
 cases sB s.field e0 <;> cases s.key.all (tf l) <;> simp
theorem Al {ks:List ByteArray} {i:Nat} (h:i<ks.length):vY ks i=false↔ ∀j (_:j<i),sB (ks.getD j e0) ks[i]=false:=by
 unfold vY
 rw [List.any_eq_false,show ks.getD i e0=ks[i] from by rw [List.getD_eq_getElem?_getD,ggZ h];rfl]
 constructor
 ·intro hh j hj
  have hjl:j<ks.length:=by omega
  have hm:ks[j]∈ks.take i:=by
   rw [List.mem_iff_getElem]
   exact ⟨j,by rw [List.length_take];omega,by rw [List.getElem_take]⟩
  have:=hh ks[j] hm
  rw [show ks.getD j e0=ks[j] from by rw [List.getD_eq_getElem?_getD,ggZ hjl];rfl,zI]
  simpa using this
 ·intro hh x hx
  obtain ⟨j,hj,rfl⟩:=List.getElem_of_mem hx
  rw [List.length_take] at hj
  rw [List.getElem_take]
  have:=hh j (by omega)
  rw [show ks.getD j e0=ks[j] from by rw [List.getD_eq_getElem?_getD,ggZ (show j<ks.length by omega)];rfl,zI] at this
  rw [this];simp
theorem IB (l:List Fd) (hl:LOk l) (s:RS) (h:SmS (2^39) s):DCalls Tryz.prog 20 [fds l,.agg (sG s)] (I (tj l s)):=by
 refine qO (rs:=[.tmp 4]) mixed Tryz.func20 l20 rfl rfl rfl (r:=[.int _ _]) (nlZ rfl) ?_
 have h1:=yY s (h.mono (by omega))
 have h4f:=fun h hk=>@AJ s h hk
 have hkl:=h.len
 unfold tj
 by_cases c0:s9 s=0
 case neg=>
  rw [if_pos c0]
  generalize s9 s=e at *
  obtain ⟨k,v,ks,f,n,m⟩:=s
  repeat' ((conv=>whnf);first|exact trivial|refine rE _ (h1) ?_|refine qz c0 ?_|refine nT_ ?_|refine aE1 ?_|refine aE0 ?_|refine aN1 ?_|refine aN0 ?_|refine aD1 ?_|refine aD0 ?_|refine nE_ (fun hq=>?_) (fun hq=>?_)|refine nN_ (fun hq=>?_) (fun hq=>?_)|refine nD_ (fun hq=>?_) (fun hq=>?_)|refine rb1 ?_|refine rb0 ?_|refine rbx ?_|refine rix ?_|refine aS ?_|fail)
 rw [c0] at h1
 have h4f:=h4f c0
 rw [if_neg (by simpa using c0)]
 clear c0
 have hbad:=DY l s
 rw [hbad]
 have hnames:xI s=s.key++(if sB s.field e0 then [] else [s.field]):=rfl
 have hnl:(xI s).length≤s.key.length+1:=by
  rw [hnames,List.length_append]
  split <;> simp
 have hmem:sB s.field e0=false→s.field∈xI s:=fun hf=>by
  rw [hnames,hf];simp
 generalize xI s=ns at *
 obtain ⟨k,v,ks,f,n,m⟩:=s
 dsimp only at hkl h4f hnames hnl hmem ⊢
 have hkk:((ks.map T.str).length:Int)=(ks.length:Int):=by rw [List.length_map]
 have hnn:((ns.map T.str).length:Int)=(ns.length:Int):=by rw [List.length_map]
 by_cases k0:k=0
 ·rw [if_pos k0]
  repeat' ((conv=>whnf);first|exact trivial|refine rE _ (h1) ?_|refine qx k0 ?_|refine nT_ ?_|refine aE1 ?_|refine aE0 ?_|refine aN1 ?_|refine aN0 ?_|refine aD1 ?_|refine aD0 ?_|refine nE_ (fun hq=>?_) (fun hq=>?_)|refine nN_ (fun hq=>?_) (fun hq=>?_)|refine nD_ (fun hq=>?_) (fun hq=>?_)|refine rb1 ?_|refine rb0 ?_|refine rbx ?_|refine rix ?_|refine aS ?_|fail)
 rw [if_neg k0]
 have hE:(!(f.toList==e0.toList))= !sB f e0:=by rw [sH]
 repeat' ((conv=>whnf);first|exact trivial|refine rE _ (h1) ?_|refine qw k0 ?_|refine nT_ ?_|refine aE1 ?_|refine aE0 ?_|refine aN1 ?_|refine aN0 ?_|refine aD1 ?_|refine aD0 ?_|refine nE_ (fun hq=>?_) (fun hq=>?_)|refine nN_ (fun hq=>?_) (fun hq=>?_)|refine nD_ (fun hq=>?_) (fun hq=>?_)|refine rb1 ?_|refine rb0 ?_|refine rbx ?_|refine rix ?_|(refine And.intro (by first|((simp only [List.length_map];omega);done)|fail) ?_)|refine aS ?_|fail)
 refine rA (β:=Unit) (fun _=>{sl:=[(0,.t (fds l)),(3,.ptr 3 0),(6,.t (.slice 1 (ns.map .str)))],bx:=[(3,.d 6 (sG ⟨k,v,ks,f,n,m⟩))]}) (fun _=>True) ?_ ?_
 ·clear hmem h4f
  cases hs:sB f e0 with
  |true=>
   rw [hs] at hE hnames
   have hn2:ks.map T.str=ns.map T.str:=by rw [hnames];simp
   repeat' ((conv=>whnf);first|exact trivial|refine nb_ _ hE ?_|(exact ⟨(),trivial,by (repeat' (first|(exact wB (by rw [List.nil_append];exact hn2.symm))|(exact wB hn2.symm)|(exact wB hn2)|exact trivial|exact LeV.same _|exact LeB.same _|exact rfl|exact fun _ _ _=>trivial|exact lI|exact LeV.nil _ _ _|exact lB|refine su ?_|refine rX ?_|refine And.intro ?_ ?_));done⟩)|refine nT_ ?_|refine aE1 ?_|refine aE0 ?_|refine aN1 ?_|refine aN0 ?_|refine aD1 ?_|refine aD0 ?_|refine nE_ (fun hq=>?_) (fun hq=>?_)|refine nN_ (fun hq=>?_) (fun hq=>?_)|refine nD_ (fun hq=>?_) (fun hq=>?_)|refine rb1 ?_|refine rb0 ?_|refine rbx ?_|refine rix ?_|refine aS ?_|fail)
  |false=>
   rw [hs] at hE hnames
   have hn2:ks.map T.str++[T.str f]=ns.map T.str:=by rw [hnames];simp
   repeat' ((conv=>whnf);first|exact trivial|refine nb_ _ hE ?_|(exact ⟨(),trivial,by (repeat' (first|(exact wB hn2.symm)|(exact wB hn2)|exact trivial|exact LeV.same _|exact LeB.same _|exact rfl|exact fun _ _ _=>trivial|exact lI|exact LeV.nil _ _ _|exact lB|refine su ?_|refine rX ?_|refine And.intro ?_ ?_));done⟩)|refine nT_ ?_|refine aE1 ?_|refine aE0 ?_|refine aN1 ?_|refine aN0 ?_|refine aD1 ?_|refine aD0 ?_|refine nE_ (fun hq=>?_) (fun hq=>?_)|refine nN_ (fun hq=>?_) (fun hq=>?_)|refine nD_ (fun hq=>?_) (fun hq=>?_)|refine rb1 ?_|refine rb0 ?_|refine rbx ?_|refine rix ?_|(refine And.intro (by first|((simp only [List.length_map,List.length_append];omega);done)|fail) ?_)|refine aS ?_|fail)
 rintro _ _
 repeat' ((conv=>whnf);first|exact trivial|refine nT_ ?_|refine aE1 ?_|refine aE0 ?_|refine aN1 ?_|refine aN0 ?_|refine aD1 ?_|refine aD0 ?_|refine nE_ (fun hq=>?_) (fun hq=>?_)|refine nN_ (fun hq=>?_) (fun hq=>?_)|refine nD_ (fun hq=>?_) (fun hq=>?_)|refine rb1 ?_|refine rb0 ?_|refine rbx ?_|refine rix ?_|refine aS ?_|fail)
 refine qZ 0 (α:=Nat) (β:=Unit) (fun i=>{sl:=[(0,.t (fds l)),(3,.ptr 3 0),(6,.t (.slice 1 (ns.map .str))),(7,.t (I i))],bx:=[(3,.d 6 (sG ⟨k,v,ks,f,n,m⟩))]})
  (fun i=>i≤ns.length∧ ∀j (h:j<ns.length),j<i→tf l ns[j]=true) (fun i=>ns.length - i)
  (fun _=>{sl:=[(0,.t (fds l)),(3,.ptr 3 0)],bx:=[(3,.d 6 (sG ⟨k,v,ks,f,n,m⟩))]}) (fun _=>ns.all (tf l)=true) 0 (by simp) ?_ ?_ ?_
 ·repeat' (first|exact trivial|exact LeV.same _|exact LeB.same _|exact rfl|exact fun _ _ _=>trivial|exact lI|exact LeV.nil _ _ _|exact lB|refine su ?_|refine rX ?_|refine And.intro ?_ ?_)
 ·rintro i ⟨hi,hp⟩
  rcases Nat.lt_or_ge i ns.length with h|h
  ·have hlt:(i:Int)<((ns.map T.str).length:Int):=by omega
   have hn:=Ba l hl ns[i]
   have hx:(ns.map T.str)[i]?.getD .nil= .str ns[i]:=by simp [h]
   cases hb:tf l ns[i] with
   |true=>
    rw [hb] at hn
    repeat' ((conv=>whnf);first|exact trivial|refine qv hlt ?_|(refine nv_ (.str ns[i]) (by first|exact hx|fail) ?_)|refine rE _ (hn) ?_|refine nT_ ?_|refine aE1 ?_|refine aE0 ?_|refine aN1 ?_|refine aN0 ?_|refine aD1 ?_|refine aD0 ?_|refine nE_ (fun hq=>?_) (fun hq=>?_)|refine nN_ (fun hq=>?_) (fun hq=>?_)|refine nD_ (fun hq=>?_) (fun hq=>?_)|refine rb1 ?_|refine rb0 ?_|refine rbx ?_|refine rix ?_|refine aS ?_|fail)
    refine ⟨i+1,⟨h,fun j hj hlt=>?_⟩,by omega,?_⟩
    ·rcases Nat.lt_or_ge j i with h4|h4
     ·exact hp j hj h4
     ·obtain rfl:j=i:=by omega
      exact hb
    ·repeat' (first|exact trivial|exact LeV.same _|exact LeB.same _|exact rfl|exact fun _ _ _=>trivial|exact lI|exact LeV.nil _ _ _|exact lB|refine su ?_|refine rX ?_|refine And.intro ?_ ?_)
   |false=>
    rw [hb] at hn
    have e:ns.all (tf l)=false:=by
     rw [List.all_eq_false]
     exact ⟨ns[i],List.getElem_mem h,by rw [hb];simp⟩
    rw [e]
    clear e hmem
    repeat' ((conv=>whnf);first|exact trivial|refine qv hlt ?_|(refine nv_ (.str ns[i]) (by first|exact hx|fail) ?_)|refine rE _ (hn) ?_|refine nT_ ?_|refine aE1 ?_|refine aE0 ?_|refine aN1 ?_|refine aN0 ?_|refine aD1 ?_|refine aD0 ?_|refine nE_ (fun hq=>?_) (fun hq=>?_)|refine nN_ (fun hq=>?_) (fun hq=>?_)|refine nD_ (fun hq=>?_) (fun hq=>?_)|refine rb1 ?_|refine rb0 ?_|refine rbx ?_|refine rix ?_|refine aS ?_|fail)
  ·have hlt: ¬(i:Int)<((ns.map T.str).length:Int):=by omega
   have hall:ns.all (tf l)=true:=by
    rw [List.all_eq_true]
    intro x hx
    obtain ⟨j,hj,rfl⟩:=List.getElem_of_mem hx
    exact hp j hj (by omega)
   repeat' ((conv=>whnf);first|exact trivial|refine qu hlt ?_|(exact ⟨(),hall,by (repeat' (first|exact trivial|exact LeV.same _|exact LeB.same _|exact rfl|exact fun _ _ _=>trivial|exact lI|exact LeV.nil _ _ _|exact lB|refine su ?_|refine rX ?_|refine And.intro ?_ ?_));done⟩)|refine nT_ ?_|refine aE1 ?_|refine aE0 ?_|refine aN1 ?_|refine aN0 ?_|refine aD1 ?_|refine aD0 ?_|refine nE_ (fun hq=>?_) (fun hq=>?_)|refine nN_ (fun hq=>?_) (fun hq=>?_)|refine nD_ (fun hq=>?_) (fun hq=>?_)|refine rb1 ?_|refine rb0 ?_|refine rbx ?_|refine rix ?_|refine aS ?_|fail)
 rintro _ hall
 rw [hall]
 simp only [Bool.not_true,Bool.false_eq_true,if_false]
 have hfd:k=4→tf l f=true:=fun k4=>List.all_eq_true.1 hall f (hmem (h4f k4))
 clear hall hmem h4f hnames hE hbad
 repeat' ((conv=>whnf);first|exact trivial|refine nT_ ?_|refine aE1 ?_|refine aE0 ?_|refine aN1 ?_|refine aN0 ?_|refine aD1 ?_|refine aD0 ?_|refine nE_ (fun hq=>?_) (fun hq=>?_)|refine nN_ (fun hq=>?_) (fun hq=>?_)|refine nD_ (fun hq=>?_) (fun hq=>?_)|refine rb1 ?_|refine rb0 ?_|refine rbx ?_|refine rix ?_|refine aS ?_|fail)
 refine qZ 2 (α:=Nat) (β:=Unit) (fun i=>{sl:=[(0,.t (fds l)),(3,.ptr 3 0),(10,.t (I i))],bx:=[(3,.d 6 (sG ⟨k,v,ks,f,n,m⟩))]})
  (fun i=>i≤ks.length∧ ∀j (h:j<ks.length),j<i→vY ks j=false) (fun i=>ks.length - i)
  (fun _=>{sl:=[(0,.t (fds l)),(3,.ptr 3 0)],bx:=[(3,.d 6 (sG ⟨k,v,ks,f,n,m⟩))]}) (fun _=>xV ks=false) 0 (by simp) ?_ ?_ ?_
 ·repeat' (first|exact trivial|exact LeV.same _|exact LeB.same _|exact rfl|exact fun _ _ _=>trivial|exact lI|exact LeV.nil _ _ _|exact lB|refine su ?_|refine rX ?_|refine And.intro ?_ ?_)
 ·rintro i ⟨hi,hp⟩
  rcases Nat.lt_or_ge i ks.length with h|h
  ·have hlt:(i:Int)<((ks.map T.str).length:Int):=by omega
   have hx:(ks.map T.str)[i]?.getD .nil= .str ks[i]:=by simp [h]
   repeat' ((conv=>whnf);first|exact trivial|refine qv hlt ?_|refine nT_ ?_|refine aE1 ?_|refine aE0 ?_|refine aN1 ?_|refine aN0 ?_|refine aD1 ?_|refine aD0 ?_|refine nE_ (fun hq=>?_) (fun hq=>?_)|refine nN_ (fun hq=>?_) (fun hq=>?_)|refine nD_ (fun hq=>?_) (fun hq=>?_)|refine rb1 ?_|refine rb0 ?_|refine rbx ?_|refine rix ?_|refine aS ?_|fail)
   refine qZ 4 (α:=Nat) (β:=Unit) (fun q=>{sl:=[(0,.t (fds l)),(3,.ptr 3 0),(10,.t (I i)),(11,.t (I q))],bx:=[(3,.d 6 (sG ⟨k,v,ks,f,n,m⟩))]})
    (fun q=>q≤i∧ ∀j (_:j<i),j<q→sB (ks.getD j e0) ks[i]=false) (fun q=>i - q)
    (fun _=>{sl:=[(0,.t (fds l)),(3,.ptr 3 0),(10,.t (I i))],bx:=[(3,.d 6 (sG ⟨k,v,ks,f,n,m⟩))]}) (fun _=>vY ks i=false) 0 (by simp) ?_ ?_ ?_
   ·repeat' (first|exact trivial|exact LeV.same _|exact LeB.same _|exact rfl|exact fun _ _ _=>trivial|exact lI|exact LeV.nil _ _ _|exact lB|refine su ?_|refine rX ?_|refine And.intro ?_ ?_)
   ·rintro q ⟨hq,hp2⟩
    rcases Nat.lt_or_ge q i with h2|h2
    ·have hlt2:(q:Int)<(i:Int):=by omega
     have hql:q<ks.length:=by omega
     have hy:(ks.map T.str)[q]?.getD .nil= .str ks[q]:=by simp [hql]
     have hg:ks.getD q e0=ks[q]:=by rw [List.getD_eq_getElem?_getD,ggZ hql];rfl
     have hE2:=sH ks[q] ks[i]
     have hqlt:(q:Int)<((ks.map T.str).length:Int):=by omega
     cases hb:sB ks[q] ks[i] with
     |true=>
      rw [hb] at hE2
      have e:xV ks=true:=by
       unfold xV
       refine List.any_eq_true.2 ⟨i,List.mem_range.2 h,?_⟩
       cases hd:vY ks i with
       |true=>rfl
       |false=>
        have:=(Al h).1 hd q h2
        rw [hg,hb] at this;cases this
      rw [e]
      clear e hp hp2 hfd
      repeat' ((conv=>whnf);first|exact trivial|refine qv hlt2 ?_|(refine nv_ (.str ks[q]) (by first|exact hy|fail) ?_)|(refine nv_ (.str ks[i]) (by first|exact hx|fail) ?_)|refine nb_ _ hE2 ?_|refine nT_ ?_|refine aE1 ?_|refine aE0 ?_|refine aN1 ?_|refine aN0 ?_|refine aD1 ?_|refine aD0 ?_|refine nE_ (fun hq=>?_) (fun hq=>?_)|refine nN_ (fun hq=>?_) (fun hq=>?_)|refine nD_ (fun hq=>?_) (fun hq=>?_)|refine rb1 ?_|refine rb0 ?_|refine rbx ?_|refine rix ?_|refine aS ?_|fail)
     |false=>
      rw [hb] at hE2
      repeat' ((conv=>whnf);first|exact trivial|refine qv hlt2 ?_|(refine nv_ (.str ks[q]) (by first|exact hy|fail) ?_)|(refine nv_ (.str ks[i]) (by first|exact hx|fail) ?_)|refine nb_ _ hE2 ?_|refine nT_ ?_|refine aE1 ?_|refine aE0 ?_|refine aN1 ?_|refine aN0 ?_|refine aD1 ?_|refine aD0 ?_|refine nE_ (fun hq=>?_) (fun hq=>?_)|refine nN_ (fun hq=>?_) (fun hq=>?_)|refine nD_ (fun hq=>?_) (fun hq=>?_)|refine rb1 ?_|refine rb0 ?_|refine rbx ?_|refine rix ?_|refine aS ?_|fail)
      refine ⟨q+1,⟨h2,fun j hj hlt=>?_⟩,by omega,?_⟩
      ·rcases Nat.lt_or_ge j q with h4|h4
       ·exact hp2 j hj h4
       ·obtain rfl:j=q:=by omega
        rw [hg];exact hb
      ·repeat' (first|exact trivial|exact LeV.same _|exact LeB.same _|exact rfl|exact fun _ _ _=>trivial|exact lI|exact LeV.nil _ _ _|exact lB|refine su ?_|refine rX ?_|refine And.intro ?_ ?_)
    ·have hlt2: ¬(q:Int)<(i:Int):=by omega
     have hd:=(Al h).2 fun j hj=>hp2 j hj (by omega)
     repeat' ((conv=>whnf);first|exact trivial|refine qu hlt2 ?_|(exact ⟨(),hd,by (repeat' (first|exact trivial|exact LeV.same _|exact LeB.same _|exact rfl|exact fun _ _ _=>trivial|exact lI|exact LeV.nil _ _ _|exact lB|refine su ?_|refine rX ?_|refine And.intro ?_ ?_));done⟩)|refine nT_ ?_|refine aE1 ?_|refine aE0 ?_|refine aN1 ?_|refine aN0 ?_|refine aD1 ?_|refine aD0 ?_|refine nE_ (fun hq=>?_) (fun hq=>?_)|refine nN_ (fun hq=>?_) (fun hq=>?_)|refine nD_ (fun hq=>?_) (fun hq=>?_)|refine rb1 ?_|refine rb0 ?_|refine rbx ?_|refine rix ?_|refine aS ?_|fail)
   ·rintro _ hd
    repeat' ((conv=>whnf);first|exact trivial|refine nT_ ?_|refine aE1 ?_|refine aE0 ?_|refine aN1 ?_|refine aN0 ?_|refine aD1 ?_|refine aD0 ?_|refine nE_ (fun hq=>?_) (fun hq=>?_)|refine nN_ (fun hq=>?_) (fun hq=>?_)|refine nD_ (fun hq=>?_) (fun hq=>?_)|refine rb1 ?_|refine rb0 ?_|refine rbx ?_|refine rix ?_|refine aS ?_|fail)
    refine ⟨i+1,⟨h,fun j hj hlt=>?_⟩,by omega,?_⟩
    ·rcases Nat.lt_or_ge j i with h4|h4
     ·exact hp j hj h4
     ·obtain rfl:j=i:=by omega
      exact hd
    ·repeat' (first|exact trivial|exact LeV.same _|exact LeB.same _|exact rfl|exact fun _ _ _=>trivial|exact lI|exact LeV.nil _ _ _|exact lB|refine su ?_|refine rX ?_|refine And.intro ?_ ?_)
  ·have hlt: ¬(i:Int)<((ks.map T.str).length:Int):=by omega
   have hd:xV ks=false:=by
    unfold xV
    rw [List.any_eq_false]
    intro j hj
    rw [hp j (List.mem_range.1 hj) (by have:=List.mem_range.1 hj;omega)];simp
   repeat' ((conv=>whnf);first|exact trivial|refine qu hlt ?_|(exact ⟨(),hd,by (repeat' (first|exact trivial|exact LeV.same _|exact LeB.same _|exact rfl|exact fun _ _ _=>trivial|exact lI|exact LeV.nil _ _ _|exact lB|refine su ?_|refine rX ?_|refine And.intro ?_ ?_));done⟩)|refine nT_ ?_|refine aE1 ?_|refine aE0 ?_|refine aN1 ?_|refine aN0 ?_|refine aD1 ?_|refine aD0 ?_|refine nE_ (fun hq=>?_) (fun hq=>?_)|refine nN_ (fun hq=>?_) (fun hq=>?_)|refine nD_ (fun hq=>?_) (fun hq=>?_)|refine rb1 ?_|refine rb0 ?_|refine rbx ?_|refine rix ?_|refine aS ?_|fail)
 ·rintro _ hd
  rw [hd]
  simp only [Bool.false_eq_true,if_false]
  have hn:=Ba l hl f
  have hy:AZ l k f m=match findF l f with
   |none=>0
   |some F=>if k=4∧m>((2^F.w - 1:Nat):Int) then 1 else 0:=rfl
  generalize AZ l k f m=y at *
  by_cases k4:k=4
  ·have hf:=hfd k4
   unfold tf at hf
   obtain ⟨F,hF⟩:=Option.isSome_iff_exists.1 hf
   rw [hF] at hy
   dsimp only at hy
   have h97:=t66 F (hl.find hF)
   have hfe:=Ht hF
   rw [hfe] at hn
   generalize (2^F.w - 1:Nat)=M at *
   have h97:DCalls Tryz.prog 78 [.agg [.str F.name,I F.a,I F.w]] (I (M:Int)):=h97
   repeat' ((conv=>whnf);first|exact trivial|refine rE _ (hn) ?_|refine nT_ ?_|refine aE1 ?_|refine aE0 ?_|refine aN1 ?_|refine aN0 ?_|refine aD1 ?_|refine aD0 ?_|refine nE_ (fun hq=>?_) (fun hq=>?_)|refine nN_ (fun hq=>?_) (fun hq=>?_)|refine nD_ (fun hq=>?_) (fun hq=>?_)|refine rb1 ?_|refine rb0 ?_|refine rbx ?_|refine rix ?_|refine aS ?_|fail)
   refine rA (β:=Unit) (fun _=>{sl:=[(3,.ptr 3 0),(12,.ptr 12 0)],bx:=[(3,.d 6 (sG ⟨k,v,ks,f,n,m⟩)),(12,.d 3 [.str F.name,I F.a,I F.w])]}) (fun _=>True) ?_ ?_
   ·repeat' ((conv=>whnf);first|exact trivial|refine rE _ (hn) ?_|(exact ⟨(),trivial,by (repeat' (first|exact trivial|exact LeV.same _|exact LeB.same _|exact rfl|exact fun _ _ _=>trivial|exact lI|exact LeV.nil _ _ _|exact lB|refine su ?_|refine rX ?_|refine And.intro ?_ ?_));done⟩)|refine nT_ ?_|refine aE1 ?_|refine aE0 ?_|refine aN1 ?_|refine aN0 ?_|refine aD1 ?_|refine aD0 ?_|refine nE_ (fun hq=>?_) (fun hq=>?_)|refine nN_ (fun hq=>?_) (fun hq=>?_)|refine nD_ (fun hq=>?_) (fun hq=>?_)|refine rb1 ?_|refine rb0 ?_|refine rbx ?_|refine rix ?_|refine aS ?_|fail)
   rintro _ _
   by_cases hm:m>(M:Int)
   ·rw [if_pos ⟨k4,hm⟩] at hy
    subst hy
    repeat' ((conv=>whnf);first|exact trivial|refine qx k4 ?_|refine rE _ (h97) ?_|refine qv hm ?_|refine nT_ ?_|refine aE1 ?_|refine aE0 ?_|refine aN1 ?_|refine aN0 ?_|refine aD1 ?_|refine aD0 ?_|refine nE_ (fun hq=>?_) (fun hq=>?_)|refine nN_ (fun hq=>?_) (fun hq=>?_)|refine nD_ (fun hq=>?_) (fun hq=>?_)|refine rb1 ?_|refine rb0 ?_|refine rbx ?_|refine rix ?_|refine aS ?_|fail)
   ·rw [if_neg (fun h=>hm h.2)] at hy
    subst hy
    repeat' ((conv=>whnf);first|exact trivial|refine qx k4 ?_|refine rE _ (h97) ?_|refine qu hm ?_|refine nT_ ?_|refine aE1 ?_|refine aE0 ?_|refine aN1 ?_|refine aN0 ?_|refine aD1 ?_|refine aD0 ?_|refine nE_ (fun hq=>?_) (fun hq=>?_)|refine nN_ (fun hq=>?_) (fun hq=>?_)|refine nD_ (fun hq=>?_) (fun hq=>?_)|refine rb1 ?_|refine rb0 ?_|refine rbx ?_|refine rix ?_|refine aS ?_|fail)
  ·have hy:y=0:=by
    rw [hy]
    cases findF l f with
    |none=>rfl
    |some F=>exact if_neg (fun h=>k4 h.1)
   subst hy
   generalize fld l f=F at *
   repeat' ((conv=>whnf);first|exact trivial|refine rE _ (hn) ?_|refine nT_ ?_|refine aE1 ?_|refine aE0 ?_|refine aN1 ?_|refine aN0 ?_|refine aD1 ?_|refine aD0 ?_|refine nE_ (fun hq=>?_) (fun hq=>?_)|refine nN_ (fun hq=>?_) (fun hq=>?_)|refine nD_ (fun hq=>?_) (fun hq=>?_)|refine rb1 ?_|refine rb0 ?_|refine rbx ?_|refine rix ?_|refine aS ?_|fail)
   refine rA (β:=Unit) (fun _=>{sl:=[(3,.ptr 3 0),(12,.ptr 12 0)],bx:=[(3,.d 6 (sG ⟨k,v,ks,f,n,m⟩)),(12,.d 3 [.str F.name,I F.a,I F.w])]}) (fun _=>True) ?_ ?_
   ·repeat' ((conv=>whnf);first|exact trivial|refine rE _ (hn) ?_|(exact ⟨(),trivial,by (repeat' (first|exact trivial|exact LeV.same _|exact LeB.same _|exact rfl|exact fun _ _ _=>trivial|exact lI|exact LeV.nil _ _ _|exact lB|refine su ?_|refine rX ?_|refine And.intro ?_ ?_));done⟩)|refine nT_ ?_|refine aE1 ?_|refine aE0 ?_|refine aN1 ?_|refine aN0 ?_|refine aD1 ?_|refine aD0 ?_|refine nE_ (fun hq=>?_) (fun hq=>?_)|refine nN_ (fun hq=>?_) (fun hq=>?_)|refine nD_ (fun hq=>?_) (fun hq=>?_)|refine rb1 ?_|refine rb0 ?_|refine rbx ?_|refine rix ?_|refine aS ?_|fail)
   rintro _ _
   repeat' ((conv=>whnf);first|exact trivial|refine qw k4 ?_|refine nT_ ?_|refine aE1 ?_|refine aE0 ?_|refine aN1 ?_|refine aN0 ?_|refine aD1 ?_|refine aD0 ?_|refine nE_ (fun hq=>?_) (fun hq=>?_)|refine nN_ (fun hq=>?_) (fun hq=>?_)|refine nD_ (fun hq=>?_) (fun hq=>?_)|refine rb1 ?_|refine rb0 ?_|refine rbx ?_|refine rix ?_|refine aS ?_|fail)
end Go.TY
end
section
namespace Go.TY
open Go Go.DL Go.MM Go.Proofs
def vu (l:List Fd) (s t:RS):Bool:= !((s.kind !=0)&&((t.kind !=0)&&(sB s.var t.var&& !ug l s t)))
theorem yo {l:List Fd} {s t:RS}:vu l s t=true↔(s.kind≠0→t.kind≠0→s.var=t.var→ug l s t=true):=by
 unfold vu
 rw [Bool.not_eq_true',Bool.and_eq_false_iff,Bool.and_eq_false_iff,Bool.and_eq_false_iff]
 constructor
 ·intro h h1 h2 h3
  rcases h with h|h|h|h
  ·simp [h1] at h
  ·simp [h2] at h
  ·rw [sN.2 h3] at h;cases h
  ·simpa using h
 ·intro h
  by_cases h1:s.kind=0
  ·left;simp [h1]
  by_cases h2:t.kind=0
  ·right;left;simp [h2]
  cases h3:sB s.var t.var with
  |false=>right;right;left;rfl
  |true=>right;right;right;rw [h h1 h2 (sN.1 h3)];rfl
theorem B9 {l:List Fd} {gs:List RG}:PW l (sE (gs.map (·.st)))↔ ∀i (hi:i<gs.length) j (_:j<i),vu l (gs[j]'(by omega)).st gs[i].st=true:=by
 constructor
 ·intro h i hi j hj
  rw [yo]
  intro h1 h2 h3
  exact DD.1 h _ (tV.2 ⟨gs[j]'(by omega),List.getElem_mem _,rfl,h1⟩) _ (tV.2 ⟨gs[i],List.getElem_mem hi,rfl,h2⟩) h3
 ·intro h
  refine PW.of fun s hs t ht e=>?_
  obtain ⟨g,g1,g2,g3⟩:=tV.1 hs
  obtain ⟨g',k1,k2,k3⟩:=tV.1 ht
  obtain ⟨a,ha,rfl⟩:=List.getElem_of_mem g1
  obtain ⟨b,hb,rfl⟩:=List.getElem_of_mem k1
  subst g2;subst k2
  rcases Nat.lt_trichotomy a b with h1|h1|h1
  ·exact yo.1 (h b hb a h1) g3 k3 e
  ·subst h1;exact yS _
  ·exact yT (yo.1 (h a ha b h1) k3 g3 e.symm)
theorem EG (l:List Fd) (hl:LOk l) (gs:List RG) (hgl:gs.length<2^40) (hg: ∀g∈gs,SmG (2^39) g):DCalls Tryz.prog 43 [fds l,.slice 15 (gs.map sL)] (I (wm l gs)):=by
 refine qO (rs:=[.tmp 4]) mixed Tryz.func43 l43 rfl rfl rfl (r:=[.int _ _]) (nlZ rfl) ?_
 have hlen:((gs.map sL).length:Int)=(gs.length:Int):=by rw [List.length_map]
 have hc:=Aa gs (by omega) fun g hgm=>⟨(hg g hgm).st.mono (by omega),by have:=(hg g hgm).wt;omega,fun _=>(hg g hgm).names (by omega)⟩
 unfold wm
 by_cases c0:uk gs=0
 case neg=>
  rw [if_pos c0]
  generalize uk gs=x at *
  repeat' ((conv=>whnf);first|exact trivial|refine rE _ (hc) ?_|refine qz c0 ?_|refine rix ?_|refine aS ?_|fail)
 rw [if_neg (by simpa using c0)]
 rw [c0] at hc
 repeat' ((conv=>whnf);first|refine rE _ (hc) ?_|refine aN0 ?_|refine aS ?_|fail)
 refine qZ 0 (α:=Nat) (β:=Unit) (fun i=>{sl:=[(0,.t (fds l)),(1,.t (.slice 15 (gs.map sL))),(6,.t (I i))],bx:=[]})
  (fun i=>i≤gs.length∧ ∀j (h:j<gs.length),j<i→tJ l gs[j].pol=0∧tj l gs[j].st=0) (fun i=>gs.length - i)
  (fun _=>{sl:=[(0,.t (fds l)),(1,.t (.slice 15 (gs.map sL)))],bx:=[]}) (fun _=>fz2 (fun g=>tJ l g.pol) (fun g=>tj l g.st) gs=0) 0 (by simp) ?_ ?_ ?_
 ·repeat' (first|exact trivial|exact LeV.same _|exact rfl|exact fun _ _ _=>trivial|refine And.intro ?_ ?_)
 ·rintro i ⟨hi,hp⟩
  rcases Nat.lt_or_ge i gs.length with h|h
  ·have hlt:(i:Int)<((gs.map sL).length:Int):=by omega
   have hm:=hg gs[i] (List.getElem_mem h)
   have h1:=t40 l hl gs[i].pol (by have:=hm.wt;omega) (hm.names (by omega))
   rw [← GV] at h1
   have h2:=IB l hl gs[i].st (hm.st.mono (by omega))
   have hx:(gs.map sL)[i]?.getD .nil= .agg (sD gs[i]):=by simp [h];rfl
   have hc1:=yM gs[i]
   have hc2:=wU gs[i]
   by_cases c1:tJ l gs[i].pol=0
   ·rw [c1] at h1
    by_cases c2:tj l gs[i].st=0
    ·rw [c2] at h2
     repeat' ((conv=>whnf);first|refine qv hlt ?_|(refine nv_ (.agg (sD gs[i])) (by first|exact hx|fail) ?_)|(refine nv_ (.agg (sA gs[i].pol)) (by first|exact congrArg T.agg hc1|fail) ?_)|(refine nv_ (.agg (sG gs[i].st)) (by first|exact congrArg T.agg hc2|fail) ?_)|refine rE _ (h1) ?_|refine rE _ (h2) ?_|refine aN0 ?_|(refine And.intro (by first|exact wN _|exact xZ _|exact vb _|fail) ?_)|refine aS ?_|fail)
     refine ⟨i+1,⟨h,fun j hj hlt=>?_⟩,by omega,?_⟩
     ·rcases Nat.lt_or_ge j i with h4|h4
      ·exact hp j hj h4
      ·obtain rfl:j=i:=by omega
       exact ⟨c1,c2⟩
     ·repeat' (first|exact trivial|exact LeV.same _|exact rfl|exact fun _ _ _=>trivial|exact lI|refine And.intro ?_ ?_)
    ·have e:=zo (f:=fun g:RG=>tJ l g.pol) (g:=fun g=>tj l g.st) h hp c1 c2
     have e2:fz2 (fun g:RG=>tJ l g.pol) (fun g=>tj l g.st) gs≠0:=by rw [e];exact c2
     rw [if_pos e2,e]
     clear e e2
     dsimp only
     generalize tj l gs[i].st=x at *
     repeat' ((conv=>whnf);first|exact trivial|refine qv hlt ?_|(refine nv_ (.agg (sD gs[i])) (by first|exact hx|fail) ?_)|(refine nv_ (.agg (sA gs[i].pol)) (by first|exact congrArg T.agg hc1|fail) ?_)|(refine nv_ (.agg (sG gs[i].st)) (by first|exact congrArg T.agg hc2|fail) ?_)|refine rE _ (h1) ?_|refine rE _ (h2) ?_|refine qz c2 ?_|refine aN0 ?_|refine rix ?_|(refine And.intro (by first|exact wN _|exact xZ _|exact vb _|fail) ?_)|refine aS ?_|fail)
   ·have e:=zn (f:=fun g:RG=>tJ l g.pol) (g:=fun g=>tj l g.st) h hp c1
    have e2:fz2 (fun g:RG=>tJ l g.pol) (fun g=>tj l g.st) gs≠0:=by rw [e];exact c1
    rw [if_pos e2,e]
    clear e e2
    dsimp only
    generalize tJ l gs[i].pol=x at *
    repeat' ((conv=>whnf);first|exact trivial|refine qv hlt ?_|(refine nv_ (.agg (sD gs[i])) (by first|exact hx|fail) ?_)|(refine nv_ (.agg (sA gs[i].pol)) (by first|exact congrArg T.agg hc1|fail) ?_)|refine rE _ (h1) ?_|refine qz c1 ?_|refine rix ?_|(refine And.intro (by first|exact wN _|exact xZ _|exact vb _|fail) ?_)|refine aS ?_|fail)
  ·have hlt: ¬(i:Int)<((gs.map sL).length:Int):=by omega
   have e:=yJ (f:=fun g:RG=>tJ l g.pol) (g:=fun g=>tj l g.st) (xs:=gs) fun j hj=>hp j hj (by omega)
   repeat' ((conv=>whnf);first|refine qu hlt ?_|(exact ⟨(),e,by (repeat' (first|exact trivial|exact LeV.same _|exact rfl|exact fun _ _ _=>trivial|refine And.intro ?_ ?_));done⟩)|refine aS ?_|fail)
 ·rintro _ hz
  rw [if_neg (by simpa using hz)]
  clear hz hc c0
  have bad: ¬PW l (sE (gs.map (·.st)))→(if (tD l gs).isNone=true then (11:Int) else 0)=11:=fun h=>if_pos (wG.2 h)
  have fine:PW l (sE (gs.map (·.st)))→(if (tD l gs).isNone=true then (11:Int) else 0)=0:=fun h=>if_neg fun e=>wG.1 e h
  generalize (if (tD l gs).isNone=true then (11:Int) else 0)=res at *
  skip
  refine rq (α:=Nat) (fun i=>{sl:=[(0,.t (fds l)),(1,.t (.slice 15 (gs.map sL))),(9,.t (I i))],bx:=[]})
   (fun i=>i≤gs.length∧ ∀a (ha:a<gs.length) b (_:b<a),a<i→vu l (gs[b]'(by omega)).st gs[a].st=true) (fun i=>gs.length - i) 0 (by simp) ?_ ?_
  ·repeat' (first|exact trivial|exact LeV.same _|exact rfl|exact fun _ _ _=>trivial|refine And.intro ?_ ?_)
  rintro i ⟨hi,hp⟩
  rcases Nat.lt_or_ge i gs.length with h|h
  ·have hlt:(i:Int)<((gs.map sL).length:Int):=by omega
   have hx:(gs.map sL)[i]?.getD .nil= .agg (sD gs[i]):=by simp [h];rfl
   have hc2:=wU gs[i]
   have hm:=hg gs[i] (List.getElem_mem h)
   repeat' ((conv=>whnf);first|refine qv hlt ?_|refine aS ?_|fail)
   refine qZ 4 (α:=Nat) (β:=Unit) (fun q=>{sl:=[(0,.t (fds l)),(1,.t (.slice 15 (gs.map sL))),(9,.t (I i)),(10,.t (I q))],bx:=[]})
    (fun q=>q≤i∧ ∀b (_:b<i),b<q→vu l (gs[b]'(by omega)).st gs[i].st=true) (fun q=>i - q)
    (fun _=>{sl:=[(0,.t (fds l)),(1,.t (.slice 15 (gs.map sL))),(9,.t (I i))],bx:=[]}) (fun _=> ∀b (_:b<i),vu l (gs[b]'(by omega)).st gs[i].st=true) 0 (by simp) ?_ ?_ ?_
   ·repeat' (first|exact trivial|exact LeV.same _|exact rfl|exact fun _ _ _=>trivial|refine And.intro ?_ ?_)
   ·rintro q ⟨hq,hp2⟩
    rcases Nat.lt_or_ge q i with h2|h2
    ·have hlt2:(q:Int)<(i:Int):=by omega
     have hql:q<gs.length:=by omega
     have hqlt:(q:Int)<((gs.map sL).length:Int):=by omega
     have hy:(gs.map sL)[q]?.getD .nil= .agg (sD gs[q]):=by simp [hql];rfl
     have hd2:=wU gs[q]
     have hm2:=hg gs[q] (List.getElem_mem hql)
     have ha:=GY l hl gs[q].st gs[i].st (by have:=hm2.st.len;omega) (by have:=hm.st.len;omega)
     have nextI:vu l gs[q].st gs[i].st=true→q+1≤i∧ ∀b (_:b<i),b<q+1→vu l (gs[b]'(by omega)).st gs[i].st=true:=fun hgd=>⟨h2,fun b hb hlt=>by
      rcases Nat.lt_or_ge b q with h4|h4
      ·exact hp2 b hb h4
      ·obtain rfl:b=q:=by omega
       exact hgd⟩
     have badI:vu l gs[q].st gs[i].st=false→res=11:=fun hgd=>bad fun hpw=>by
      have:=B9.1 hpw i h q h2
      rw [hgd] at this;cases this
     have hmu:i - (q+1)<i - q:=by omega
     clear bad fine hp hp2
     unfold vu at nextI badI
     generalize ug l gs[q].st gs[i].st=ag at *
     generalize gs[q]=gq at *
     generalize gs[i]=gi at *
     obtain ⟨qp,qs⟩:=gq
     obtain ⟨ip,is⟩:=gi
     obtain ⟨k,v,ks,f,n,m⟩:=qs
     obtain ⟨k',v',ks',f',n',m'⟩:=is
     dsimp only at hd2 hc2 ha nextI badI
     have hE:=sH v v'
     repeat' ((conv=>whnf);first|refine qv hlt2 ?_|refine aS ?_|fail)
     refine rA (β:=Unit) (fun _=>{sl:=[(0,.t (fds l)),(1,.t (.slice 15 (gs.map sL))),(9,.t (I i)),(10,.t (I q)),(11,.ptr 11 0)],bx:=[(11,.d 6 (sG ⟨k,v,ks,f,n,m⟩))]}) (fun _=>True) ?_ ?_
     ·repeat' ((conv=>whnf);first|(refine nv_ (.agg (sD ⟨qp,⟨k,v,ks,f,n,m⟩⟩)) (by first|exact hy|fail) ?_)|(refine nv_ (.agg (sG ⟨k,v,ks,f,n,m⟩)) (by first|exact congrArg T.agg hd2|fail) ?_)|(exact ⟨(),trivial,by (repeat' (first|exact trivial|exact LeV.same _|exact LeB.same _|exact rfl|exact fun _ _ _=>trivial|refine And.intro ?_ ?_));done⟩)|(refine And.intro (by first|exact vb _|fail) ?_)|refine aS ?_|fail)
     rintro _ _
     skip
     refine rA (β:=Unit) (fun _=>{sl:=[(0,.t (fds l)),(1,.t (.slice 15 (gs.map sL))),(9,.t (I i)),(10,.t (I q)),(11,.ptr 11 0),(12,.ptr 12 0)],bx:=[(11,.d 6 (sG ⟨k,v,ks,f,n,m⟩)),(12,.d 6 (sG ⟨k',v',ks',f',n',m'⟩))]}) (fun _=>True) ?_ ?_
     ·repeat' ((conv=>whnf);first|(refine nv_ (.agg (sD ⟨ip,⟨k',v',ks',f',n',m'⟩⟩)) (by first|exact hx|fail) ?_)|(refine nv_ (.agg (sG ⟨k',v',ks',f',n',m'⟩)) (by first|exact congrArg T.agg hc2|fail) ?_)|(exact ⟨(),trivial,by (repeat' (first|exact trivial|exact LeV.same _|exact LeB.same _|exact rfl|exact fun _ _ _=>trivial|refine And.intro ?_ ?_));done⟩)|(refine And.intro (by first|exact vb _|fail) ?_)|refine aS ?_|fail)
     rintro _ _
     clear hx hy hc2 hd2 hm hm2 hlt hlt2 hqlt
     by_cases c1:k=0
     ·have inv:=nextI (by simp [c1])
      repeat' ((conv=>whnf);first|refine qy c1 ?_|(exact ⟨q+1,inv,hmu,by (repeat' (first|exact trivial|exact LeV.same _|exact rfl|exact fun _ _ _=>trivial|exact lI|refine And.intro ?_ ?_));done⟩)|refine nT_ ?_|refine aS ?_|fail)
     by_cases c2:k'=0
     ·have inv:=nextI (by simp [c2])
      repeat' ((conv=>whnf);first|refine qz c1 ?_|refine qy c2 ?_|(exact ⟨q+1,inv,hmu,by (repeat' (first|exact trivial|exact LeV.same _|exact rfl|exact fun _ _ _=>trivial|exact lI|refine And.intro ?_ ?_));done⟩)|refine nT_ ?_|refine aS ?_|fail)
     cases c3:sB v v' with
     |false=>
      rw [c3] at hE
      have inv:=nextI (by simp [c3])
      repeat' ((conv=>whnf);first|refine qz c1 ?_|refine qz c2 ?_|refine nb_ _ hE ?_|(exact ⟨q+1,inv,hmu,by (repeat' (first|exact trivial|exact LeV.same _|exact rfl|exact fun _ _ _=>trivial|exact lI|refine And.intro ?_ ?_));done⟩)|refine nT_ ?_|refine aS ?_|fail)
     |true=>
      rw [c3] at hE
      cases ag with
      |true=>
       have inv:=nextI (by simp)
       repeat' ((conv=>whnf);first|refine qz c1 ?_|refine qz c2 ?_|refine nb_ _ hE ?_|refine rE _ (ha) ?_|(exact ⟨q+1,inv,hmu,by (repeat' (first|exact trivial|exact LeV.same _|exact rfl|exact fun _ _ _=>trivial|exact lI|refine And.intro ?_ ?_));done⟩)|refine nT_ ?_|refine aS ?_|fail)
      |false=>
       have hres:=badI (by simp [c1,c2,c3])
       clear nextI badI
       rw [hres]
       repeat' ((conv=>whnf);first|exact trivial|refine qz c1 ?_|refine qz c2 ?_|refine nb_ _ hE ?_|refine rE _ (ha) ?_|refine nT_ ?_|refine rix ?_|refine aS ?_|fail)
    ·have hlt2: ¬(q:Int)<(i:Int):=by omega
     have hgd: ∀b (_:b<i),vu l (gs[b]'(by omega)).st gs[i].st=true:=fun b hb=>hp2 b hb (by omega)
     repeat' ((conv=>whnf);first|refine qu hlt2 ?_|(exact ⟨(),hgd,by (repeat' (first|exact trivial|exact LeV.same _|exact rfl|exact fun _ _ _=>trivial|refine And.intro ?_ ?_));done⟩)|refine aS ?_|fail)
   ·rintro _ hgd
    skip
    refine ⟨i+1,⟨h,fun a ha b hb hlt=>?_⟩,by omega,?_⟩
    ·rcases Nat.lt_or_ge a i with h4|h4
     ·exact hp a ha b hb h4
     ·obtain rfl:a=i:=by omega
      exact hgd b hb
    ·repeat' (first|exact trivial|exact LeV.same _|exact rfl|exact fun _ _ _=>trivial|exact lI|refine And.intro ?_ ?_)
  ·have hlt: ¬(i:Int)<((gs.map sL).length:Int):=by omega
   rw [fine (B9.2 fun a ha b hb=>hp a ha b hb (by omega))]
   clear hp bad fine
   repeat' ((conv=>whnf);first|exact trivial|refine qu hlt ?_|refine rix ?_|refine aS ?_|fail)
end Go.TY
end
section
namespace Go.TY
open Go Go.DL Go.MM Go.Proofs
def nmQ (gs:List RG):List ByteArray:=tW ltS ((sE (gs.map (·.st))).map (·.var))
theorem yq (gs:List RG):nmQ gs=uh gs:=by
 unfold nmQ uh vI
 exact wC ze fun x=>by rw [uO];simp
theorem Fl {gs:List RG} {i:Nat} (h:i<gs.length):nmQ (gs.take (i+1))=if gs[i].st.kind=0 then nmQ (gs.take i) else put ltS (nmQ (gs.take i)) gs[i].st.var:=by
 unfold nmQ
 rw [zK h]
 split
 ·rfl
 ·rw [List.map_append,Az];rfl
theorem zZ (gs:List RG):(nmQ gs).length≤gs.length:=by
 unfold nmQ
 refine Nat.le_trans zz ?_
 rw [List.length_map]
 unfold sE
 exact Nat.le_trans (List.length_filter_le _ _) (by rw [List.length_map];omega)
theorem GM (g:RG):(sD g)[9]?.getD .nil=I g.st.kind:=by
 unfold sD
 rw [List.getElem?_append_right (by rw [sF];omega),sF]
 rfl
theorem I8 (g:RG):(sD g)[10]?.getD .nil= .str g.st.var:=by
 unfold sD
 rw [List.getElem?_append_right (by rw [sF];omega),sF]
 rfl
theorem HC (g:RG):9<(sD g).length:=by rw [sO];exact nlZ rfl
theorem JO (g:RG):10<(sD g).length:=by rw [sO];exact nlZ rfl
def vc (x:ByteArray) (c1 c2:T) (n m:Int):List T:=[.str x,c1,c2,I n,I m]
structure uT (l:List Fd) (x:ByteArray) (ss:List RS) (c1 c2:T) (n m:Int) (fd:Bool):Prop where
 cells:vc x c1 c2 n m=GB x (tk l ss x)
 n:n=nOf (tk l ss x)
 m:m=mOf (tk l ss x)
 fd:fd=(sR ss x).isSome
theorem uT.start (l:List Fd) (x:ByteArray):uT l x [] (I 0) .nil 0 0 false:=⟨rfl,rfl,rfl,rfl⟩
theorem uT.skip {l:List Fd} {x:ByteArray} {ss:List RS} {c1 c2:T} {n m:Int} {fd:Bool} (h:uT l x ss c1 c2 n m fd) {t:RS} (ht:t.var≠x):uT l x (ss++[t]) c1 c2 n m fd:=by
 have:=Fv (l:=l) (ss:=ss) ht
 exact ⟨by rw [this.1];exact h.cells,by rw [this.1];exact h.n,by rw [this.1];exact h.m,by rw [this.2];exact h.fd⟩
theorem uT.take {l:List Fd} {ss:List RS} {t:RS} {c1 c2:T} {n m:Int} {fd:Bool} (h:uT l t.var ss c1 c2 n m fd) (hp:PW l (ss++[t])):
  uT l t.var (ss++[t]) (I (tz t.kind)) (.slice 1 ((sQ l t).map I)) (if (t.own&& !fd)=true then t.n else n) (if (t.own&& !fd)=true then t.m else m) (fd||t.own):=by
 obtain ⟨h1,h2⟩:=Fw hp
 rw [← h.fd, ←h.n, ←h.m] at h1
 rw [← h.fd] at h2
 exact ⟨by rw [h1];rfl,by rw [h1];rfl,by rw [h1];rfl,h2.symm⟩
theorem B6 (l:List Fd) (hl:LOk l) (gs:List RG) (hgl:gs.length<2^39) (hg: ∀g∈gs,g.st.key.length<2^40) (hp:PW l (sE (gs.map (·.st)))):
  DCalls Tryz.prog 46 [fds l,.slice 15 (gs.map sL)] (.slice 5 ((uY l gs).map sP)):=by
 refine qO (rs:=[.tmp 4]) mixed Tryz.func46 l46 rfl rfl rfl (r:=[.slice 5 ((uY l gs).map sP)]) (nlZ rfl) ?_
 have hlen:((gs.map sL).length:Int)=(gs.length:Int):=by rw [List.length_map]
 skip
 refine qZ 0 (α:=Nat) (β:=Unit) (fun i=>{sl:=[(0,.t (fds l)),(1,.t (.slice 15 (gs.map sL))),(5,.t (.slice 1 ((nmQ (gs.take i)).map T.str))),(6,.t (I i))],bx:=[]})
  (fun i=>i≤gs.length) (fun i=>gs.length - i)
  (fun _=>{sl:=[(0,.t (fds l)),(1,.t (.slice 15 (gs.map sL))),(5,.t (.slice 1 ((uh gs).map T.str)))],bx:=[]}) (fun _=>True) 0 (by simp) ?_ ?_ ?_
 ·repeat' (first|(exact LeV.empty _)|exact trivial|exact LeV.same _|exact rfl|exact fun _ _ _=>trivial|refine And.intro ?_ ?_)
 ·rintro i hi
  rcases Nat.lt_or_ge i gs.length with h|h
  ·have hlt:(i:Int)<((gs.map sL).length:Int):=by omega
   have hx:(gs.map sL)[i]?.getD .nil= .agg (sD gs[i]):=by simp [h];rfl
   have hk:=GM gs[i]
   have hv:=I8 gs[i]
   have ht:=Fl h
   have hol:=zZ (gs.take i)
   rw [List.length_take] at hol
   generalize nmQ (gs.take i)=out at *
   generalize gs[i]=g at *
   have h2:=EH out g.st.var (by omega)
   by_cases c:g.st.kind=0
   ·rw [if_pos c] at ht
    repeat' ((conv=>whnf);first|refine qv hlt ?_|(refine nv_ (.agg (sD g)) (by first|exact hx|fail) ?_)|(refine nv_ (I g.st.kind) (by first|exact hk|fail) ?_)|refine qy c ?_|(refine And.intro (by first|exact HC _|fail) ?_)|refine aS ?_|fail)
    refine ⟨i+1,h,by omega,?_⟩
    repeat' (first|(exact leT (by rw [ht]))|exact trivial|exact LeV.same _|exact rfl|exact fun _ _ _=>trivial|exact lI|refine And.intro ?_ ?_)
   ·rw [if_neg c] at ht
    repeat' ((conv=>whnf);first|refine qv hlt ?_|(refine nv_ (.agg (sD g)) (by first|exact hx|fail) ?_)|(refine nv_ (I g.st.kind) (by first|exact hk|fail) ?_)|(refine nv_ (.str g.st.var) (by first|exact hv|fail) ?_)|refine qz c ?_|refine rE _ (h2) ?_|(refine And.intro (by first|exact HC _|exact JO _|fail) ?_)|refine aS ?_|fail)
    refine ⟨i+1,h,by omega,?_⟩
    repeat' (first|(exact leT (by rw [ht]))|exact trivial|exact LeV.same _|exact rfl|exact fun _ _ _=>trivial|exact lI|refine And.intro ?_ ?_)
  ·have hlt: ¬(i:Int)<((gs.map sL).length:Int):=by omega
   have e:nmQ (gs.take i)=uh gs:=by rw [List.take_of_length_le h,yq]
   repeat' ((conv=>whnf);first|refine qu hlt ?_|(exact ⟨(),trivial,by (repeat' (first|(exact leT (by rw [e]))|exact trivial|exact LeV.same _|exact rfl|exact fun _ _ _=>trivial|refine And.intro ?_ ?_));done⟩)|refine aS ?_|fail)
 rintro _ _
 have hnl:(uh gs).length<2^39:=by rw [← yq];have:=zZ gs;omega
 have hmem: ∀x∈uh gs, ∃s∈sE (gs.map (·.st)),s.var=x:=fun x hx=>zr.1 hx
 unfold uY
 generalize uh gs=ns at *
 have hnn:((ns.map T.str).length:Int)=(ns.length:Int):=by rw [List.length_map]
 skip
 refine rq (α:=Nat) (fun k=>{sl:=[(0,.t (fds l)),(1,.t (.slice 15 (gs.map sL))),(5,.t (.slice 1 (ns.map T.str))),(7,.own 92 66 5 ((ns.take k).map fun s=>sP ((tk l (sE (gs.map (·.st))) s).getD v0))),(8,.t (I k))],bx:=[]})
  (fun k=>k≤ns.length) (fun k=>ns.length - k) 0 (by simp) ?_ ?_
 ·repeat' (first|exact trivial|exact LeV.same _|exact rfl|exact fun _ _ _=>trivial|exact LeV.nil _ _ _|refine And.intro ?_ ?_)
 rintro k hk
 rcases Nat.lt_or_ge k ns.length with h|h
 ·have hlt:(k:Int)<((ns.map T.str).length:Int):=by omega
  have hx:(ns.map T.str)[k]?.getD .nil= .str ns[k]:=by simp [h]
  have ht:ns.take (k+1)=ns.take k++[ns[k]]:=by rw [List.take_succ_eq_append_getElem h]
  have hin:=hmem ns[k] (List.getElem_mem h)
  have hkl:((ns.take k).map fun s=>sP ((tk l (sE (gs.map (·.st))) s).getD v0)).length=k:=by rw [List.length_map,List.length_take];omega
  have hmp:((ns.take (k+1)).map fun s=>sP ((tk l (sE (gs.map (·.st))) s).getD v0))=((ns.take k).map fun s=>sP ((tk l (sE (gs.map (·.st))) s).getD v0))++[sP ((tk l (sE (gs.map (·.st))) ns[k]).getD v0)]:=by rw [ht,List.map_append];rfl
  generalize ns[k]=x at *
  generalize ((ns.take k).map fun s=>sP ((tk l (sE (gs.map (·.st))) s).getD v0))=out at *
  repeat' ((conv=>whnf);first|refine qv hlt ?_|(refine nv_ (.str x) (by first|exact hx|fail) ?_)|refine nT_ ?_|refine aS ?_|fail)
  refine qZ 4 (α:=Nat×T×T×Int×Int×Bool) (β:=Unit) (fun p=>{sl:=[(0,.t (fds l)),(1,.t (.slice 15 (gs.map sL))),(5,.t (.slice 1 (ns.map T.str))),(7,.own 92 66 5 out),(8,.t (I k)),(9,.ptr 9 0),(10,.t (.bool p.2.2.2.2.2)),(11,.t (I p.1))],bx:=[(9,.d 5 (vc x p.2.1 p.2.2.1 p.2.2.2.1 p.2.2.2.2.1))]})
   (fun p=>p.1≤gs.length∧uT l x (sE ((gs.take p.1).map (·.st))) p.2.1 p.2.2.1 p.2.2.2.1 p.2.2.2.2.1 p.2.2.2.2.2) (fun p=>gs.length - p.1)
   (fun _=>{sl:=[(0,.t (fds l)),(1,.t (.slice 15 (gs.map sL))),(5,.t (.slice 1 (ns.map T.str))),(7,.own 92 66 5 out),(8,.t (I k)),(9,.ptr 9 0)],bx:=[(9,.d 5 (ua ((tk l (sE (gs.map (·.st))) x).getD v0)))]}) (fun _=>True) (0,I 0,.nil,0,0,false) ⟨by simp,uT.start l x⟩ ?_ ?_ ?_
  ·repeat' (first|exact trivial|exact LeV.same _|exact LeB.same _|exact rfl|exact fun _ _ _=>trivial|refine And.intro ?_ ?_)
  ·rintro ⟨i,c1,c2,n,m,fd⟩ ⟨hi,hinv⟩
   dsimp only at hi hinv
   rcases Nat.lt_or_ge i gs.length with h3|h3
   ·have hlt3:(i:Int)<((gs.map sL).length:Int):=by omega
    have hy:(gs.map sL)[i]?.getD .nil= .agg (sD gs[i]):=by simp [h3];rfl
    have hc2:=wU gs[i]
    have hst:=zK h3
    have hkl2:=hg gs[i] (List.getElem_mem h3)
    have hpt:=Gy hp (i+1)
    rw [hst] at hpt
    have hmu:gs.length - (i+1)<gs.length - i:=by omega
    have skip0:gs[i].st.kind=0→i+1≤gs.length∧uT l x (sE ((gs.take (i+1)).map (·.st))) c1 c2 n m fd:=fun e=>⟨h3,by rw [hst,if_pos e];exact hinv⟩
    have skip1:gs[i].st.kind≠0→gs[i].st.var≠x→i+1≤gs.length∧uT l x (sE ((gs.take (i+1)).map (·.st))) c1 c2 n m fd:=fun e e2=>⟨h3,by rw [hst,if_neg e];exact hinv.skip e2⟩
    have take1:gs[i].st.kind≠0→gs[i].st.var=x→i+1≤gs.length∧uT l x (sE ((gs.take (i+1)).map (·.st))) (I (tz gs[i].st.kind)) (.slice 1 ((sQ l gs[i].st).map I)) (if (gs[i].st.own&& !fd)=true then gs[i].st.n else n) (if (gs[i].st.own&& !fd)=true then gs[i].st.m else m) (fd||gs[i].st.own):=fun e e2=>⟨h3,by
     rw [if_neg e] at hpt
     rw [hst,if_neg e]
     subst e2
     exact hinv.take hpt⟩
    clear hpt hst hinv
    generalize gs[i]=g at *
    obtain ⟨gp,gst⟩:=g
    have hW:=zi l hl gst.key hkl2
    have hF:=zh gst.kind
    have hN:=x7 gst
    change DCalls _ _ _ (.slice 1 ((sQ l gst).map I)) at hW
    dsimp only at hc2 skip0 skip1 take1
    generalize sQ l gst=ws at *
    generalize tz gst.kind=fam at *
    generalize gst.own=ow at *
    obtain ⟨sk,sv,sks,sf,sn,sm⟩:=gst
    dsimp only at hc2 skip0 skip1 take1 hW hF hN
    have hE:(!(sv.toList==x.toList))= !sB sv x:=by rw [sH]
    by_cases c:sk=0
    ·have inv:=skip0 c
     repeat' ((conv=>whnf);first|refine qv hlt3 ?_|(refine nv_ (.agg (sD ⟨gp,⟨sk,sv,sks,sf,sn,sm⟩⟩)) (by first|exact hy|fail) ?_)|(refine nv_ (.agg (sG ⟨sk,sv,sks,sf,sn,sm⟩)) (by first|exact congrArg T.agg hc2|fail) ?_)|refine qx c ?_|(exact ⟨(i+1,c1,c2,n,m,fd),inv,hmu,by (repeat' (first|exact trivial|exact LeV.same _|exact LeB.same _|exact rfl|exact fun _ _ _=>trivial|exact lI|refine And.intro ?_ ?_));done⟩)|refine nT_ ?_|(refine And.intro (by first|exact vb _|fail) ?_)|refine aS ?_|fail)
    cases e:sB sv x with
    |false=>
     rw [e] at hE
     have inv:=skip1 c fun e2=>by rw [sN.2 e2] at e;cases e
     repeat' ((conv=>whnf);first|refine qv hlt3 ?_|(refine nv_ (.agg (sD ⟨gp,⟨sk,sv,sks,sf,sn,sm⟩⟩)) (by first|exact hy|fail) ?_)|(refine nv_ (.agg (sG ⟨sk,sv,sks,sf,sn,sm⟩)) (by first|exact congrArg T.agg hc2|fail) ?_)|refine qw c ?_|(refine nv_ (.str x) (by first|exact hx|fail) ?_)|refine nb_ _ hE ?_|(exact ⟨(i+1,c1,c2,n,m,fd),inv,hmu,by (repeat' (first|exact trivial|exact LeV.same _|exact LeB.same _|exact rfl|exact fun _ _ _=>trivial|exact lI|refine And.intro ?_ ?_));done⟩)|refine nT_ ?_|(refine And.intro (by first|exact vb _|fail) ?_)|refine aS ?_|fail)
    |true=>
     rw [e] at hE
     have inv:=take1 c (sN.1 e)
     clear skip0 skip1 take1
     cases ow <;> cases fd <;> repeat' ((conv=>whnf);first|refine qv hlt3 ?_|(refine nv_ (.agg (sD ⟨gp,⟨sk,sv,sks,sf,sn,sm⟩⟩)) (by first|exact hy|fail) ?_)|(refine nv_ (.agg (sG ⟨sk,sv,sks,sf,sn,sm⟩)) (by first|exact congrArg T.agg hc2|fail) ?_)|refine qw c ?_|(refine nv_ (.str x) (by first|exact hx|fail) ?_)|refine nb_ _ hE ?_|refine rE _ (hF) ?_|refine rE _ (hW) ?_|refine rE _ (hN) ?_|(exact ⟨(i+1,I fam,.slice 1 (ws.map I),n,m,false),inv,hmu,by (repeat' (first|exact trivial|exact LeV.same _|exact LeB.same _|exact rfl|exact fun _ _ _=>trivial|exact lI|refine And.intro ?_ ?_));done⟩)|(exact ⟨(i+1,I fam,.slice 1 (ws.map I),n,m,true),inv,hmu,by (repeat' (first|exact trivial|exact LeV.same _|exact LeB.same _|exact rfl|exact fun _ _ _=>trivial|exact lI|refine And.intro ?_ ?_));done⟩)|(exact ⟨(i+1,I fam,.slice 1 (ws.map I),sn,sm,true),inv,hmu,by (repeat' (first|exact trivial|exact LeV.same _|exact LeB.same _|exact rfl|exact fun _ _ _=>trivial|exact lI|refine And.intro ?_ ?_));done⟩)|refine nT_ ?_|(refine And.intro (by first|exact vb _|fail) ?_)|refine aS ?_|fail)
   ·have hlt3: ¬(i:Int)<((gs.map sL).length:Int):=by omega
    have e:vc x c1 c2 n m=ua ((tk l (sE (gs.map (·.st))) x).getD v0):=by
     have:=hinv.cells
     rw [List.take_of_length_le h3] at this
     obtain ⟨s0,_,_,hs⟩:=Au (l:=l) hin
     rw [hs] at this ⊢
     exact this
    clear hinv
    generalize ua ((tk l (sE (gs.map (·.st))) x).getD v0)=cv at *
    repeat' ((conv=>whnf);first|refine qu hlt3 ?_|(exact ⟨(),trivial,by (repeat' (first|(exact su e.symm)|exact trivial|exact LeV.same _|exact rfl|exact fun _ _ _=>trivial|refine And.intro ?_ ?_));done⟩)|refine aS ?_|fail)
  ·rintro _ _
   have hcv:(ua ((tk l (sE (gs.map (·.st))) x).getD v0)).length=5:=rfl
   have henc:sP ((tk l (sE (gs.map (·.st))) x).getD v0)= .agg (ua ((tk l (sE (gs.map (·.st))) x).getD v0)):=rfl
   rw [henc] at hmp
   generalize ua ((tk l (sE (gs.map (·.st))) x).getD v0)=cv at *
   clear henc
   repeat' ((conv=>whnf);first|(refine And.intro (by first|exact hcv|exact ⟨trivial,hcv⟩|((simp only [];omega);done)|fail) ?_)|refine aS ?_|fail)
   refine ⟨k+1,h,by omega,?_⟩
   repeat' (first|(exact rX hmp)|exact trivial|exact LeV.same _|exact rfl|exact fun _ _ _=>trivial|exact lI|refine And.intro ?_ ?_)
 ·have hlt: ¬(k:Int)<((ns.map T.str).length:Int):=by omega
  have:k=ns.length:=by omega
  subst this
  rw [List.take_length]
  have e:(ns.map fun s=>sP ((tk l (sE (gs.map (·.st))) s).getD v0))=(ns.map fun s=>(tk l (sE (gs.map (·.st))) s).getD v0).map sP:=by rw [List.map_map];rfl
  rw [← e]
  repeat' ((conv=>whnf);first|exact trivial|refine qu hlt ?_|refine aS ?_|fail)
end Go.TY
end
noncomputable section
namespace Go.TY
open Go Go.DL Go.Proofs
def c60:aY:=(.seq (.region [oo 0 (.mov (.const .nil))] []) (.seq (.region [⟨some 1,.build [S0,Z0,Z0] [(0,1,(.const (.str ⟨#[100,115,116]⟩))),(1,1,(Kc 16)),(2,1,(Kc 8))],none,[]⟩,⟨some 2,.build [S0,Z0,Z0] [(0,1,(.const (.str ⟨#[115,114,99]⟩))),(1,1,(Kc 24)),(2,1,(Kc 8))],none,[]⟩,⟨some 3,.build [S0,Z0,Z0] [(0,1,(.const (.str ⟨#[107,105,110,100]⟩))),(1,1,(Kc 33)),(2,1,(Kc 3))],none,[]⟩,⟨some 4,.buildS 88 3 3 [S0,Z0,Z0] [(0,(tm 1)),(1,(tm 2)),(2,(tm 3))],none,[]⟩,mv 0 4] []) .ret))
theorem l60:(Tryz.f60.body.bind (bD Tryz.prog 5 []))=some c60:=by kernel_rfl
def c62:aY:=(.seq (.region [⟨some 4,.alloc [Z0,S0,Z0,Z0,.nil],none,[]⟩] []) (.seq (.region [mv 5 0,mv 6 1,⟨some 7,.build [Z0,S0,Z0,Z0,.nil] [(0,1,(Kc 3)),(1,1,(tm 5)),(2,1,(tm 6))],none,[]⟩,o0 (.store 5 (tm 4) (tm 7))] []) .ret))
theorem l62:(Tryz.f62.body.bind (bD Tryz.prog 8 []))=some c62:=by kernel_rfl
def c63:aY:=(.seq (.region [⟨some 4,.alloc [Z0,Z0,S0,Z0,Z0,.nil,S0,Z0,.nil],none,[]⟩] []) (.seq (.region [mv 5 0,mv 6 1,⟨some 7,.build [Z0,Z0,S0,Z0,Z0,.nil,S0,Z0,.nil] [(0,1,(Kc 2)),(6,1,(tm 5)),(7,1,(tm 6))],none,[]⟩,o0 (.store 9 (tm 4) (tm 7))] []) .ret))
theorem l63:(Tryz.f63.body.bind (bD Tryz.prog 8 []))=some c63:=by kernel_rfl
def c61:aY:=(.seq (.region [oo 1 (.box 5 (tm 0)),⟨some 2,.alloc [Z0,Z0,S0,Z0,Z0,.nil,S0,Z0,.nil],none,[]⟩] []) (.seq (.region [lA 3 5 1,⟨some 4,.build [Z0,Z0,S0,Z0,Z0,.nil,S0,Z0,.nil] [(0,1,(Kc 1)),(1,5,(tm 3))],none,[]⟩,o0 (.store 9 (tm 2) (tm 4))] []) .ret))
theorem l61:(Tryz.f61.body.bind (bD Tryz.prog 5 []))=some c61:=by kernel_rfl
def c32:aY:=(.seq (.region [oo 2 (.box 9 (tm 0)),oo 3 (.box 9 (tm 1)),⟨some 4,.alloc [Z0,Z0,S0,Z0,Z0,.nil,S0,Z0,.nil],none,[]⟩] []) (.seq (.region [lA 5 9 2,lA 6 9 3,⟨some 7,.buildS 28 9 2 [Z0,Z0,S0,Z0,Z0,.nil,S0,Z0,.nil] [(0,(tm 5)),(1,(tm 6))],none,[]⟩,⟨some 8,.build [Z0,Z0,S0,Z0,Z0,.nil,S0,Z0,.nil] [(0,1,(Kc 4)),(8,1,(tm 7))],none,[]⟩,o0 (.store 9 (tm 4) (tm 8))] []) .ret))
theorem l32:(Tryz.f32.body.bind (bD Tryz.prog 9 []))=some c32:=by kernel_rfl
def c33:aY:=(.seq (.region [oo 2 (.box 9 (tm 0)),oo 3 (.box 9 (tm 1)),⟨some 4,.alloc [Z0,Z0,S0,Z0,Z0,.nil,S0,Z0,.nil],none,[]⟩] []) (.seq (.region [lA 5 9 2,lA 6 9 3,⟨some 7,.buildS 28 9 2 [Z0,Z0,S0,Z0,Z0,.nil,S0,Z0,.nil] [(0,(tm 5)),(1,(tm 6))],none,[]⟩,⟨some 8,.build [Z0,Z0,S0,Z0,Z0,.nil,S0,Z0,.nil] [(0,1,(Kc 3)),(8,1,(tm 7))],none,[]⟩,o0 (.store 9 (tm 4) (tm 8))] []) .ret))
theorem l33:(Tryz.f33.body.bind (bD Tryz.prog 9 []))=some c33:=by kernel_rfl
def c36:aY:=(.seq (.region [oo 4 (.mov kF)] []) (.seq (.region [mv 6 1,oo 7 (.call 37 [tm 6]),mv 5 7] []) (.seq (.region [mv 8 5,mv 9 8,mT 10 0 9,oT 11 9 (.call 11 [tm 10]),oT 12 9 (.bin .eql (tm 11) (Kc 0)),oo 13 (.pick (tm 9) (tm 12) kF),mv 4 13] []) .ret)))
theorem l36:(Tryz.f36.body.bind (bD Tryz.prog 14 []))=some c36:=by kernel_rfl
def c10:aY:=(.seq (.region [oo 0 (.mov kF)] []) (.seq (.region [oo 17 (.call 60 []),mv 1 17] []) (.seq (.region [⟨some 18,.build [Z0,S0,Z0,Z0,.nil] [(0,1,(Kc 1))],none,[]⟩,oo 19 (.call 61 [tm 18]),⟨some 2,.alloc [Z0,Z0,S0,Z0,Z0,.nil,S0,Z0,.nil],none,[]⟩,o0 (.store 9 (tm 2) (tm 19))] []) (.seq (.cut (.region [mv 20 1,⟨some 21,.call 62 [(.const (.str ⟨#[100,115,116]⟩)),(Kc 300)],none,[]⟩,oo 22 (.call 15 [(tm 20),(tm 21)]),oo 23 (.bin .eql (tm 22) (Kc 1)),mv 24 23,mT 25 1 24,⟨some 26,.call 62 [(.const (.str ⟨#[116,111,112]⟩)),(Kc 1)],some (24,true),[]⟩,oT 27 24 (.call 15 [(tm 25),(tm 26)]),oT 28 24 (.bin .eql (tm 27) (Kc 4)),oo 29 (.pick (tm 24) (tm 28) kF),mv 30 29,mT 31 1 30,⟨some 32,.build [Z0,S0,Z0,Z0,.nil] [(0,1,(Kc 4)),(1,1,(.const (.str ⟨#[107,105,110,100]⟩))),(2,1,(Kc 1)),(3,1,(Kc 4))],some (30,true),[]⟩,oT 33 30 (.call 15 [(tm 31),(tm 32)]),oT 34 30 (.bin .eql (tm 33) (Kc 1)),oo 35 (.pick (tm 30) (tm 34) kF),mv 3 35] [])) (.seq (.cut (.region [mv 36 1,⟨some 37,.call 62 [(.const (.str ⟨#[100,115,116]⟩)),(Kc 5)],none,[]⟩,oo 38 (.call 61 [tm 37]),⟨some 39,.call 63 [(.const (.str ⟨#[107,105,110,100]⟩)),(Kc 7)],none,[]⟩,oo 40 (.call 32 [(tm 38),(tm 39)]),oo 41 (.call 17 [(tm 36),(tm 40)]),oo 42 (.bin .eql (tm 41) (Kc 0)),mv 43 42,mT 44 1 43,⟨some 45,.call 63 [(.const (.str ⟨#[107,105,110,100]⟩)),(Kc 8)],some (43,true),[]⟩,oT 46 43 (.call 17 [(tm 44),(tm 45)]),oT 47 43 (.bin .eql (tm 46) (Kc 1)),oo 48 (.pick (tm 43) (tm 47) kF),mv 4 48] [])) (.seq (.cut (.region [mv 49 1,⟨some 50,.buildS 9 1 2 [S0] [(0,(.const (.str ⟨#[115,114,99]⟩))),(1,(.const (.str ⟨#[115,114,99]⟩)))],none,[]⟩,⟨some 51,.build [Z0,S0,.nil,S0,Z0,Z0] [(0,1,(Kc 1)),(1,1,(.const (.str ⟨#[99]⟩))),(2,1,(tm 50))],none,[]⟩,oo 52 (.call 19 [(tm 49),(tm 51)]),oo 53 (.bin .eql (tm 52) (Kc 1)),mv 54 53,mT 55 1 54,⟨some 56,.buildS 9 1 1 [S0] [(0,(.const (.str ⟨#[115,114,99]⟩)))],some (54,true),[]⟩,⟨some 57,.build [Z0,S0,.nil,S0,Z0,Z0] [(0,1,(Kc 4)),(1,1,(.const (.str ⟨#[116]⟩))),(2,1,(tm 56)),(3,1,(.const (.str ⟨#[107,105,110,100]⟩))),(4,1,(Kc 1)),(5,1,(Kc 9))],some (54,true),[]⟩,oT 58 54 (.call 19 [(tm 55),(tm 57)]),oT 59 54 (.bin .eql (tm 58) (Kc 1)),oo 60 (.pick (tm 54) (tm 59) kF),mv 5 60] [])) (.seq (.cut (.region [lA 61 9 2,⟨some 62,.buildS 9 1 1 [S0] [(0,(.const (.str ⟨#[115,114,99]⟩)))],none,[]⟩,⟨some 63,.build [Z0,S0,.nil,S0,Z0,Z0] [(0,1,(Kc 2)),(1,1,(.const (.str ⟨#[99]⟩))),(2,1,(tm 62))],none,[]⟩,⟨some 64,.build [Z0,Z0,S0,Z0,Z0,.nil,S0,Z0,.nil,Z0,S0,.nil,S0,Z0,Z0] [(0,9,(tm 61)),(9,6,(tm 63))],none,[]⟩,⟨some 6,.alloc [Z0,Z0,S0,Z0,Z0,.nil,S0,Z0,.nil,Z0,S0,.nil,S0,Z0,Z0],none,[]⟩,o0 (.store 15 (tm 6) (tm 64))] [])) (.seq (.cut (.region [lA 65 9 2,⟨some 66,.buildS 9 1 1 [S0] [(0,(.const (.str ⟨#[100,115,116]⟩)))],none,[]⟩,⟨some 67,.build [Z0,S0,.nil,S0,Z0,Z0] [(0,1,(Kc 3)),(1,1,(.const (.str ⟨#[99]⟩))),(2,1,(tm 66)),(4,1,(Kc 5))],none,[]⟩,⟨some 68,.build [Z0,Z0,S0,Z0,Z0,.nil,S0,Z0,.nil,Z0,S0,.nil,S0,Z0,Z0] [(0,9,(tm 65)),(9,6,(tm 67))],none,[]⟩,⟨some 7,.alloc [Z0,Z0,S0,Z0,Z0,.nil,S0,Z0,.nil,Z0,S0,.nil,S0,Z0,Z0],none,[]⟩,o0 (.store 15 (tm 7) (tm 68))] [])) (.seq (.cut (.region [lA 69 9 2,⟨some 70,.buildS 9 1 1 [S0] [(0,(.const (.str ⟨#[107,105,110,100]⟩)))],none,[]⟩,⟨some 71,.build [Z0,S0,.nil,S0,Z0,Z0] [(0,1,(Kc 3)),(1,1,(.const (.str ⟨#[99]⟩))),(2,1,(tm 70)),(4,1,(Kc 5))],none,[]⟩,⟨some 72,.build [Z0,Z0,S0,Z0,Z0,.nil,S0,Z0,.nil,Z0,S0,.nil,S0,Z0,Z0] [(0,9,(tm 69)),(9,6,(tm 71))],none,[]⟩,⟨some 8,.alloc [Z0,Z0,S0,Z0,Z0,.nil,S0,Z0,.nil,Z0,S0,.nil,S0,Z0,Z0],none,[]⟩,o0 (.store 15 (tm 8) (tm 72))] [])) (.seq (.cut (.region [lA 73 9 2,⟨some 74,.buildS 9 1 1 [S0] [(0,(.const (.str ⟨#[115,114,99]⟩)))],none,[]⟩,⟨some 75,.build [Z0,S0,.nil,S0,Z0,Z0] [(0,1,(Kc 1)),(1,1,(.const (.str ⟨#[99]⟩))),(2,1,(tm 74))],none,[]⟩,⟨some 76,.build [Z0,Z0,S0,Z0,Z0,.nil,S0,Z0,.nil,Z0,S0,.nil,S0,Z0,Z0] [(0,9,(tm 73)),(9,6,(tm 75))],none,[]⟩,⟨some 9,.alloc [Z0,Z0,S0,Z0,Z0,.nil,S0,Z0,.nil,Z0,S0,.nil,S0,Z0,Z0],none,[]⟩,o0 (.store 15 (tm 9) (tm 76))] [])) (.seq (.cut (.region [lA 77 9 2,⟨some 78,.buildS 9 1 1 [S0] [(0,(.const (.str ⟨#[115,114,99]⟩)))],none,[]⟩,⟨some 79,.build [Z0,S0,.nil,S0,Z0,Z0] [(0,1,(Kc 6)),(1,1,(.const (.str ⟨#[99]⟩))),(2,1,(tm 78)),(4,1,(Kc 1)),(5,1,(Kc 1))],none,[]⟩,⟨some 80,.build [Z0,Z0,S0,Z0,Z0,.nil,S0,Z0,.nil,Z0,S0,.nil,S0,Z0,Z0] [(0,9,(tm 77)),(9,6,(tm 79))],none,[]⟩,⟨some 10,.alloc [Z0,Z0,S0,Z0,Z0,.nil,S0,Z0,.nil,Z0,S0,.nil,S0,Z0,Z0],none,[]⟩,o0 (.store 15 (tm 10) (tm 80))] [])) (.seq (.cut (.region [mv 81 1,lA 82 15 6,lA 83 15 7,⟨some 84,.buildS 61 15 2 [Z0,Z0,S0,Z0,Z0,.nil,S0,Z0,.nil,Z0,S0,.nil,S0,Z0,Z0] [(0,(tm 82)),(1,(tm 83))],none,[]⟩,oo 85 (.call 38 [(tm 81),(tm 84)]),oo 86 (.bin .eql (tm 85) (Kc 0)),mv 87 86,mT 88 1 87,oT 89 87 (.load 15 true (tm 6)),oT 90 87 (.load 15 true (tm 8)),⟨some 91,.buildS 61 15 2 [Z0,Z0,S0,Z0,Z0,.nil,S0,Z0,.nil,Z0,S0,.nil,S0,Z0,Z0] [(0,(tm 89)),(1,(tm 90))],some (87,true),[]⟩,oT 92 87 (.call 38 [(tm 88),(tm 91)]),oT 93 87 (.bin .eql (tm 92) (Kc 11)),oo 94 (.pick (tm 87) (tm 93) kF),mv 95 94,mT 96 1 95,oT 97 95 (.load 15 true (tm 9)),oT 98 95 (.load 15 true (tm 10)),⟨some 99,.buildS 61 15 2 [Z0,Z0,S0,Z0,Z0,.nil,S0,Z0,.nil,Z0,S0,.nil,S0,Z0,Z0] [(0,(tm 97)),(1,(tm 98))],some (95,true),[]⟩,oT 100 95 (.call 38 [(tm 96),(tm 99)]),oT 101 95 (.bin .eql (tm 100) (Kc 11)),oo 102 (.pick (tm 95) (tm 101) kF),mv 11 102] [])) (.seq (.cut (.region [mv 103 1,lA 104 15 6,lA 105 15 7,⟨some 106,.buildS 61 15 2 [Z0,Z0,S0,Z0,Z0,.nil,S0,Z0,.nil,Z0,S0,.nil,S0,Z0,Z0] [(0,(tm 104)),(1,(tm 105))],none,[]⟩,oo 107 (.call 39 [(tm 103),(tm 106)]),mv 12 107] [])) (.seq (.cut (.region [⟨some 108,.build [Z0,S0,Z0,Z0,.nil] [(0,1,(Kc 9)),(2,1,(Kc 3)),(3,1,(Kc 7))],none,[]⟩,oo 109 (.call 61 [tm 108]),⟨some 13,.alloc [Z0,Z0,S0,Z0,Z0,.nil,S0,Z0,.nil],none,[]⟩,o0 (.store 9 (tm 13) (tm 109))] [])) (.seq (.cut (.region [lA 110 9 13,oo 111 (.call 49 [(tm 110),(Kc 3)]),lA 112 9 2,oo 113 (.call 48 [(tm 111),(tm 112)]),mv 114 113,oT 115 114 (.load 9 true (tm 13)),oT 116 114 (.call 49 [(tm 115),(Kc 7)]),⟨some 117,.build [Z0,S0,Z0,Z0,.nil] [(0,1,(Kc 2))],some (114,true),[]⟩,oT 118 114 (.call 61 [tm 117]),oT 119 114 (.call 48 [(tm 116),(tm 118)]),oo 120 (.pick (tm 114) (tm 119) kF),mv 14 120] [])) (.seq (.cut (.region [⟨some 121,.call 62 [(.const (.str ⟨#[100,115,116]⟩)),(Kc 5)],none,[]⟩,oo 122 (.call 61 [tm 121]),⟨some 123,.call 63 [(.const (.str ⟨#[112,111,114,116]⟩)),(Kc 2)],none,[]⟩,oo 124 (.call 32 [(tm 122),(tm 123)]),⟨some 125,.call 63 [(.const (.str ⟨#[112,111,114,116]⟩)),(Kc 1)],none,[]⟩,⟨some 126,.call 63 [(.const (.str ⟨#[115,114,99]⟩)),(Kc 0)],none,[]⟩,⟨some 127,.buildS 28 9 1 [Z0,Z0,S0,Z0,Z0,.nil,S0,Z0,.nil] [(0,(tm 126))],none,[]⟩,⟨some 128,.build [Z0,Z0,S0,Z0,Z0,.nil,S0,Z0,.nil] [(0,1,(Kc 5)),(8,1,(tm 127))],none,[]⟩,oo 129 (.call 32 [(tm 125),(tm 128)]),oo 130 (.call 33 [(tm 124),(tm 129)]),⟨some 15,.alloc [Z0,Z0,S0,Z0,Z0,.nil,S0,Z0,.nil],none,[]⟩,o0 (.store 9 (tm 15) (tm 130))] [])) (.seq (.cut (.region [lA 131 9 15,oo 132 (.call 23 [tm 131]),⟨some 133,.buildS 9 1 1 [S0] [(0,(.const (.str ⟨#[100,115,116]⟩)))],none,[]⟩,oo 134 (.call 22 [(tm 132),(tm 133)]),mv 135 134,oT 136 135 (.load 9 true (tm 15)),oT 137 135 (.call 25 [tm 136]),⟨some 138,.buildS 9 1 2 [S0] [(0,(.const (.str ⟨#[112,111,114,116]⟩))),(1,(.const (.str ⟨#[115,114,99]⟩)))],some (135,true),[]⟩,oT 139 135 (.call 22 [(tm 137),(tm 138)]),oo 140 (.pick (tm 135) (tm 139) kF),mv 141 140,oT 142 141 (.load 9 true (tm 15)),oT 143 141 (.call 28 [tm 142]),oT 144 141 (.buildS 3 1 2 [Z0] [(0,(Kc 1)),(1,(Kc 2))]),oT 145 141 (.call 27 [(tm 143),(tm 144)]),oo 146 (.pick (tm 141) (tm 145) kF),mv 147 146,oT 148 147 (.load 9 true (tm 15)),oT 149 147 (.call 30 [tm 148]),oT 150 147 (.bin .eql (tm 149) (Kc 65536)),oo 151 (.pick (tm 147) (tm 150) kF),mv 16 151] [])) (.seq (.region [mv 152 3,mv 153 152,mT 154 4 153,oo 155 (.pick (tm 153) (tm 154) kF),mv 156 155,mT 157 5 156,oo 158 (.pick (tm 156) (tm 157) kF),mv 159 158,mT 160 11 159,oo 161 (.pick (tm 159) (tm 160) kF),mv 162 161,mT 163 14 162,oo 164 (.pick (tm 162) (tm 163) kF),mv 165 164,mT 166 16 165,oo 167 (.pick (tm 165) (tm 166) kF),mv 168 167,mT 169 12 168,oT 170 168 (.buildS 3 1 1 [Z0] [(0,(Kc 8))]),⟨some 171,.build [S0,Z0,.nil,Z0,Z0] [(0,1,(.const (.str ⟨#[99]⟩))),(1,1,(Kc 2)),(2,1,(tm 170))],some (168,true),[]⟩,⟨some 172,.buildS 66 5 1 [S0,Z0,.nil,Z0,Z0] [(0,(tm 171))],some (168,true),[]⟩,oT 173 168 (.call 45 [(tm 169),(tm 172)]),oo 174 (.pick (tm 168) (tm 173) kF),mv 175 174,oT 176 175 (.load 9 true (tm 13)),⟨some 177,.build [Z0,Z0,S0,Z0,Z0,.nil,S0,Z0,.nil,Z0,S0,.nil,S0,Z0,Z0] [(0,9,(tm 176))],some (175,true),[]⟩,⟨some 178,.buildS 61 15 1 [Z0,Z0,S0,Z0,Z0,.nil,S0,Z0,.nil,Z0,S0,.nil,S0,Z0,Z0] [(0,(tm 177))],some (175,true),[]⟩,oT 179 175 (.call 57 [tm 178]),oT 180 175 (.buildS 3 1 2 [Z0] [(0,(Kc 3)),(1,(Kc 7))]),oT 181 175 (.call 27 [(tm 179),(tm 180)]),oo 182 (.pick (tm 175) (tm 181) kF),mv 0 182] []) .ret))))))))))))))))))
theorem l10:(Tryz.f10.body.bind (bD Tryz.prog 183 [6000003,6000004,6000005,6000006,6000007,6000008,6000009,6000010,6000011,6000012,6000013,6000014,6000015,6000016]))=some c10:=by kernel_rfl
end Go.TY
end
noncomputable section
namespace Go.TY
open Go Go.DL Go.MM Go.Proofs
abbrev enb:ByteArray→T:=T.str
abbrev mpb (ks:List ByteArray) (vs:List T):T:=.mapd false [.str] (ks.map enb) vs
def tQ (id:Nat) (c:Option Code):Array Oper:=match rg0 id c with
 |.region _ ops _=>ops
 |_=> #[]
abbrev fAb:Option Code:=Tryz.f156.body
abbrev fKb:Option Code:=Tryz.f133.body
theorem bAb:fAb=some (.seq (.region 0 (tQ 0 fAb) false) (.seq (.seq (.region 1 (tQ 1 fAb) false)
  (.block 0 (.rangeFunc (.tmp 6) #[7] (.region 2 (tQ 2 fAb) false) (.block 1 (.region 3 (tQ 3 fAb) false))))) (.seq (.region 4 (tQ 4 fAb) false) .ret))):=by kernel_rfl
abbrev JD:List DI:=[⟨some 5,.mov (.tmp 7),none,[]⟩]
abbrev JG:List DI:=[⟨some 8,.load 1 false (.tmp 2),none,[]⟩,⟨some 9,.mov (.tmp 5),none,[]⟩,⟨some 10,.buildS 9 1 1 [.str ⟨#[]⟩] [(0,.tmp 9)],none,[1]⟩,
 ⟨some 11,.append 29 9 1 16 (.tmp 8) (.tmp 10),none,[0,2]⟩,⟨none,.store 1 (.tmp 2) (.tmp 11),none,[3,3,0,1,2,3]⟩]
theorem I9:bX Tryz.prog 13 [] (tQ 0 fAb) (tQ 0 fAb).toList=some [⟨some 2,.box 1 (.tmp 0),none,[]⟩,⟨some 4,.mov (.const .nil),none,[]⟩]:=by kernel_rfl
theorem Jc:bX Tryz.prog 13 [] (tQ 1 fAb) (tQ 1 fAb).toList=some [⟨some 6,.mov (.tmp 1),none,[]⟩]:=by kernel_rfl
theorem Jf:bX Tryz.prog 13 [] (tQ 2 fAb) (tQ 2 fAb).toList=some JD:=by kernel_rfl
theorem Ji:bX Tryz.prog 13 [] (tQ 3 fAb) (tQ 3 fAb).toList=some JG:=by kernel_rfl
theorem Jl:bX Tryz.prog 13 [] (tQ 4 fAb) (tQ 4 fAb).toList=some [⟨some 12,.load 1 false (.tmp 2),none,[]⟩,⟨some 4,.mov (.tmp 12),none,[0,0]⟩]:=by kernel_rfl
abbrev yKb:Array Oper:=tQ 3 fKb
theorem bKb:rg0 3 fKb= .region 3 yKb false:=by kernel_rfl
theorem Jo:dW Tryz.prog 14 yKb [0,1]=some [⟨some 10,.mov (.tmp 0),none,[]⟩,⟨some 11,.mov (.tmp 3),none,[]⟩]:=by kernel_rfl
theorem Jr:dW Tryz.prog 14 yKb [3]=some [⟨some 13,.not (.tmp 12),none,[2]⟩]:=by kernel_rfl
theorem Ju: ∃o ats,yKb[2]? =some o∧o.guard=none∧o.op= .call {callee:=.value (.tmp 10),args:= #[.tmp 11],argTypes:=ats }∧o.dst=some 12:=by
 refine ⟨((tQ 3 fKb)[2]?).getD default,(match (((tQ 3 fKb)[2]?).getD default).op with|.call c=>c.argTypes|_=> #[]),by kernel_rfl,by kernel_rfl,by kernel_rfl,by kernel_rfl⟩
abbrev Hu (l d:Nat) (f:FuncId) (tmps:Array Value):aa→World→Prop:=nr l (cW f tmps 7 (.region 2 (tQ 2 fAb) false) (.block 1 (.region 3 (tQ 3 fAb) false)) d)
abbrev WKb (l:Nat) (C:aa→World→Prop) (ks:List ByteArray) (vs:List T) (ix:List Nat):Wk:=
 {sl:=[(0,.raw (.func (.yield l) #[] #[])),(5,.ptr 2005 0)],bx:=[(2,.v [.own 3011 9 1 (z7 enb e0 ks ix)]),(2005,.itd (esK enb ks vs) ix)],gh:=[(0,[(2,.ptr 2 0)])],off:=2000,cx:=C }
theorem Hj (l d:Nat) (f:FuncId) (tmps:Array Value) (ht:tmps.size=13) (ks:List ByteArray) (vs:List T) (hvs:vs.length=ks.length) (hl:ks.length<2^40) (st0:St)
  (h0:st0=({sl:=[(2,.ptr 2 0),(6,.fn 133 [.t (.cptr [mpb ks vs] 0)])],bx:=[(2,.v [.own 3011 9 1 []])]}:Wk).mk'):
  wpC Tryz.prog Hg (st0.iter l (cW f tmps 7 (.region 2 (tQ 2 fAb) false) (.block 1 (.region 3 (tQ 3 fAb) false)) d) [.t (.cptr [mpb ks vs] 0)] 2000)
   (qK st0 fun st=>st.sl 2= .ptr 2 0∧(∃ xs,uz enb e0 ks xs∧st.bx 2=some (.v [.own 3011 9 1 xs]))∧ ∀S w,st.cx S w):=by
 subst h0
 have hes:(esK enb ks vs).length=ks.length:=by simp [hvs]
 repeat' ((conv=>whnf);first|refine nT_ ?_|refine aS ?_|fail)
 refine qZ 0 (α:=List Nat) (β:=List Nat) (fun ix=>WKb l (Hu l d f tmps) ks vs ix) (fun ix=>ix.Nodup∧ ∀j∈ix,j<ks.length) (fun ix=>ks.length - ix.length)
  (fun ix=>WKb l (Hu l d f tmps) ks vs ix) (fun ix=>ix.Perm (List.range ks.length)) [] ⟨List.nodup_nil,by simp⟩ ?_ ?_ ?_
 ·exact ⟨⟨.same _,.same _,trivial⟩,⟨.same _,.same _,trivial⟩,⟨⟨.same _,trivial⟩,trivial⟩,rfl,fun _ _ h=>h,rfl⟩
 ·rintro ix ⟨hnd,hix⟩
  refine And.intro (fun j hj=>by rw [hes];exact hix j hj) (And.intro ?_ ?_)
  ·intro j e he hj
   obtain ⟨he1,hjl⟩:=zW (d:=e0) he
   have hent:=zb _ ix j e he
   have hje:(ix++[j]).getLast?.getD 0<(esK enb ks vs).length:=by rw [List.getLast?_concat,hes];exact hjl
   obtain ⟨e1,e2⟩:=e
   dsimp only at he1 hent
   subst he1
   have hixl:ix.length≤ks.length:=by
    have:=hnd.length_le_of_subset (l₂:=List.range ks.length) (fun j hj=>List.mem_range.2 (hix j hj))
    simpa using this
   have hnd':(ix++[j]).Nodup:=by
    rw [List.nodup_append]
    exact ⟨hnd,by simp,fun a ha b hb=>by rw [List.mem_singleton.1 hb];exact fun e=>hj (e▸ha)⟩
   have hix': ∀i∈ix++[j],i<ks.length:=fun i hi=>by
    rcases List.mem_append.1 hi with h|h
    ·exact hix i h
    ·rw [List.mem_singleton.1 h];exact hjl
   have hixl':(ix++[j]).length≤ks.length:=by
    have:=hnd'.length_le_of_subset (l₂:=List.range ks.length) (fun j hj=>List.mem_range.2 (hix' j hj))
    simpa using this
   repeat' ((conv=>whnf);first|refine nv_ (.tup [enb (ks.getD j e0),e2]) hent ?_|(refine And.intro (by first|exact ⟨by simp,hje⟩|fail) ?_)|fail)
   obtain ⟨o,ats,o1,o2,o3,o4⟩:=Ju
   have hsem: ∀(st:St) (Q:aB→St→Prop),p0 Tryz.prog 14 (.region 3 yKb false) st Q→p0 Tryz.prog 14 (rg0 3 fKb) st Q:=fun st Q h=>by rw [bKb];exact h
   refine hsem _ _ ?_
   refine q0 (P:=Tryz.prog) (k1:=[0,1]) (k:=2) (k2:=[3]) (by kernel_rfl) Jo rfl Jr rfl o1 o2 o3 o4 (by decide) (p:=7) ht (by decide) Jf rfl Ji rfl 3000 (l:=l) (fn:=f) (dd:=d) (id1:=2) (id2:=3) (bl:=1) ?_
   refine ⟨fun _ _ h=>h,rfl,?_⟩
   repeat' ((conv=>whnf);first|(refine And.intro (by first|exact fun _ _=>trivial|exact ⟨rfl,nlZ rfl⟩|((simp;omega);done)|exact .inl rfl|fail) ?_)|refine aS ?_|fail)
   refine ⟨ix++[j],⟨hnd',hix'⟩,by rw [List.length_append];simp at hixl' ⊢;omega,?_⟩
   refine ⟨⟨.same _,.same _,trivial⟩,⟨?_,.same _,trivial⟩,⟨⟨.same _,trivial⟩,trivial⟩,rfl,fun _ _ h=>h,rfl⟩
   refine .v _ _ ⟨rX ?_,trivial⟩
   simp [z7]
  ·intro hall
   skip
   refine ⟨ix,x8 hnd hix (fun j hj=>hall j (by rw [hes];exact hj)),?_⟩
   exact ⟨⟨.same _,.same _,trivial⟩,⟨.same _,.same _,trivial⟩,⟨⟨.same _,trivial⟩,trivial⟩,rfl,fun _ _ h=>h,rfl⟩
 rintro ix hp
 repeat' ((conv=>whnf);first|refine aS ?_|fail)
 exact ⟨⟨_,⟨ix,hp,rfl⟩,rfl⟩,fun _ _=>trivial⟩
abbrev vA (ks:List ByteArray) (vs:List T):T:=.clos 133 [.cptr [mpb ks vs] 0]
theorem AN (ks:List ByteArray) (vs:List T) (hvs:vs.length=ks.length) (hl:ks.length<2^40):fK Tryz.prog 156 [.nil,vA ks vs] 9 1 (uz enb e0 ks):=by
 refine qm Tryz.func156 bAb rfl (nlZ rfl) ?_
 intro S w a0 hsr hdf
 let K0:St→Prop:=fun st=>aA Tryz.prog [⟨some 6,.mov (.tmp 1),none,[]⟩] st fun st=>
  bP {sl:=[(2,.ptr 2 0),(6,.t (vA ks vs))],bx:=[(2,.d 1 [.nil])]} st
 have hK0:aA Tryz.prog [⟨some 2,.box 1 (.tmp 0),none,[]⟩,⟨some 4,.mov (.const .nil),none,[]⟩] (eU [.nil,vA ks vs]) K0:=by
  repeat' ((conv=>whnf);first|refine aS ?_|fail)
  exact ⟨⟨.same _,.same _,trivial⟩,⟨.same _,trivial⟩,trivial,rfl,fun _ _ _=>trivial,rfl⟩
 refine wp_seq (nE (X:=[]) (N:=13) hsr I9 (fun a1 w1 h1=>?_) hK0)
 obtain ⟨E1,s1,rfl,k1,k2,k3⟩:=h1
 refine wp_seq (wp_seq (nE (X:=[]) k1 Jc (fun a2 w2 h2=>?_) k3))
 obtain ⟨E2,s2,rfl,k4,k5,k6⟩:=h2
 obtain ⟨E3,e3,k7⟩:=k4.bP k6
 rw [← e3]
 have k8:=k7.rG (k:=6) (k7.sl 6).rv
 obtain ⟨E4,e4,k10⟩:=SR.bP (a:=a2) (s:={sl:=[(2,.ptr 2 0),(6,.fn 133 [.t (.cptr [mpb ks vs] 0)])],bx:=[(2,.v [.own 3011 9 1 []])]}) k8 ⟨⟨.same _,.same _,trivial⟩,⟨.dv _ _ _ ⟨.nil _ _ _,trivial⟩,trivial⟩,trivial,rfl,fun _ _ _=>trivial,rfl⟩
 rw [← e4]
 refine wp_block ?_
 refine rh mixed k10 (fun _ _=>trivial) (y:=.tmp 6) rfl (gf:=133) (caps:=[.t (.cptr [mpb ks vs] 0)]) rfl Tryz.func133 Nc rfl rfl rfl (nlZ rfl) 2000
  (K:=fun st=>st.sl 2= .ptr 2 0∧(∃ xs,uz enb e0 ks xs∧st.bx 2=some (.v [.own 3011 9 1 xs]))∧ ∀S w,st.cx S w) (fun l d f tmps ht=>?_) (fun a5 w5 h5=>?_)
 ·exact Hj l d f tmps ht ks vs hvs hl _ rfl
 ·obtain ⟨S0',E5,s5,D,rfl,q1,q2,q3,q4,q5,q6,r1,⟨xs,hxs,r2⟩,r3⟩:=h5
  have q6':a5.defers=[{target:=.collected D,args:= #[]}]:=by rw [q6,k5,k2,hdf]
  show Code.wp _ _ _ _ _
  refine wp_seq (nE (X:=[]) q1 Jl (K:=fun st=>(∀ S w,st.cx S w)∧st.sl 4= .own 3011 9 1 xs) (fun a6 w6 h6=>?_) ?_)
  ·obtain ⟨E6,s6,rfl,p1,p2,p3,p4⟩:=h6
   obtain ⟨js,hjs,rfl⟩:=hxs
   refine wp_ret ⟨.inr rfl,S0',E6,s6,D,rfl,p1,q2,q3,q4,q5,by rw [p2,q6'],p3,_,_,⟨js,hjs,rfl⟩,vo (fun _=>rfl) (fun _=>rfl) js ks,?_,.inl ⟨3011,rfl⟩⟩
   have:dP s6 Tryz.f156.results.toList=some [s6.sl 4]:=by
    rw [show Tryz.f156.results.toList=[.tmp 4] from rfl];rfl
   rw [this,p4]
  ·obtain ⟨sl5,bx5,gh5,off5,cx5⟩:=s5
   dsimp only at r1 r2 r3
   obtain ⟨g,rfl⟩: ∃g,sl5=upd g 2 (.ptr 2 0):=⟨sl5,(uJ r1).symm⟩
   obtain ⟨b,rfl⟩: ∃b,bx5=upd b 2 (some (.v [.own 3011 9 1 xs])):=⟨bx5,(uJ r2).symm⟩
   exact ⟨r3,rfl⟩
theorem CB (ks:List ByteArray) (vs:List T) (hvs:vs.length=ks.length) (hl:ks.length<2^40):fK Tryz.prog 131 [vA ks vs] 9 1 (uz enb e0 ks):=by
 refine qG (rs:=[.tmp 2]) mixed Tryz.func131 Hy rfl rfl rfl (nlZ rfl) ?_
 repeat' ((conv=>whnf);first|refine ru (ts:=[.nil,vA ks vs]) rfl (AN ks vs hvs hl) (fun xs hx=>?_)|fail)
 obtain ⟨js,hjs,rfl⟩:=hx
 exact ⟨_,_,⟨js,hjs,rfl⟩,vo (fun _=>rfl) (fun _=>rfl) js ks,rfl,.inl ⟨_,rfl⟩⟩
theorem EP:iz Tryz.prog 132 encStr (fun x y:List UInt8=>decide (x≤y)):=iz.str Tryz.Cd rfl (bQ Tryz.func132 rfl rfl)
theorem Am (ks:List ByteArray) (vs:List T) (hvs:vs.length=ks.length) (hl:ks.length<2^40) (hn:ks.Nodup):kI Tryz.prog 87 [vA ks vs] (.slice 1 ((vI ks).map enb)):=by
 refine qS (rs:=[.tmp 2]) mixed Tryz.func87 l87 rfl rfl rfl (nlZ rfl) ?_
 repeat' ((conv=>whnf);first|refine rf (ts:=[vA ks vs]) rfl (CB ks vs hvs hl) rfl (fun h0=>?_) (fun xs hx hc=>?_)|fail)
 ·obtain ⟨zs,hp,h0⟩:=vp h0
  have:zs=[]:=by
   cases zs with
   |nil=>rfl
   |cons z zs=>cases h0
  subst this
  have:ks=[]:=List.nil_perm.1 hp
  subst this
  repeat' ((conv=>whnf);first|refine qc EP ?_|fail)
  exact ⟨.t .nil,rfl,.nil 1⟩
 ·obtain ⟨zs,hp,rfl⟩:=vp hx
  have hzl:zs.length<2^40:=by rw [hp.length_eq];exact hl
  have hfl:=AD (enc:=enb) (fun _=>rfl) zs
  have hle:(zs.map enb).length=zs.length:=List.length_map _
  have hsl:(vI ks).length=zs.length:=by
   have e:=congrArg List.length (yO hn hp)
   simp only [List.length_map,List.length_mergeSort] at e
   omega
  repeat' ((conv=>whnf);first|(refine re (n:=5) (off:=0) (len:=(zs.map enb).length) (m:=(zs.map enb).length * 1) (ts:=(zs.map enb).flatMap T.cells) (encT:=xu) EP rfl (zs.map ByteArray.toList) ?_ ?_ (by omega) (fun a S w v h=>by cases h;rfl) (fun a S w=>.str _) (fun _=>rfl) ?_)|fail)
  ·rw [hfl,List.drop_zero,List.take_of_length_le (by omega)]
   exact (by rw [List.map_map];exact List.map_congr_left fun z _=>(Cb z).symm)
  ·simp
  ·skip
   have e:=yO hn hp
   refine ⟨.view 5 0 (zs.map enb).length 1,rfl,.view 5 0 (zs.map enb).length 1 ((zs.map enb).length * 1) (aN ((zs.map enb).flatMap T.cells) 0 (zs.map enb).length (((zs.map ByteArray.toList).mergeSort (fun x y:List UInt8=>decide (x≤y))).map xu)) _ [5] rfl ?_ ?_⟩
   ·rw [vq (by rw [hfl]),e]
    intro t ht
    obtain ⟨z,_,rfl⟩:=List.mem_map.1 ht
    rfl
   ·show (cond (Nat.blt 0 1&&Nat.ble (0+(zs.map enb).length * 1) ((zs.map enb).length * 1)) (some (T.slice 1 (chunk 1 (zs.map enb).length ((aN ((zs.map enb).flatMap T.cells) 0 (zs.map enb).length (((zs.map ByteArray.toList).mergeSort (fun x y:List UInt8=>decide (x≤y))).map xu)).drop 0)),[5])) none)=_
    rw [vq (by rw [hfl]),e,Nat.zero_add,List.drop_zero,yF _ _ (by rw [List.length_map];omega)]
    have:Nat.ble ((zs.map enb).length * 1) ((zs.map enb).length * 1)=true:=Nat.ble_eq_true_of_le (Nat.le_refl _)
    rw [this]
    rfl
theorem Cl (ks:List ByteArray) (vs:List T):DCalls Tryz.prog 88 [mpb ks vs] (vA ks vs):=by
 refine qO (rs:=[.tmp 2]) mixed Tryz.func88 l88 rfl rfl rfl (r:=[vA ks vs]) (nlZ rfl) ?_
 repeat' ((conv=>whnf);first|exact trivial|refine aS ?_|fail)
end Go.TY
end
section
namespace Go.TY
open Go Go.DL Go.MM Go.Proofs
attribute [local irreducible] aI gR WCM YC
def gr:RP→List ByteArray:=fun x=>if sB x.field e0 then [] else [x.field]
def wh (r:RO) (k:Nat):List (Nat×BX):=[(3,.v [.mp 5]),(5,.m false [.str] (esS (once [] (th gr (tq r) k))) none)]
theorem IM (r:RO):ph (fun n=>10≤n∧n<100) 100 (fun _ _=>True) (wh r) (fun _ cx _=>cx=(fun _ _=>True)∧False) where
 fh:=fun n h=>h.2
 nm:=fun k p hp=>by
  simp only [wh,List.mem_cons,List.not_mem_nil,or_false] at hp
  rcases hp with rfl|rfl <;> exact ⟨by dsimp only;omega,by dsimp only;omega⟩
 nms:=fun c cx o ho=>ho.2.elim
 cov:=fun k k' p hp=>by
  simp only [wh,List.mem_cons,List.not_mem_nil,or_false] at hp ⊢
  rcases hp with rfl|rfl
  ·exact ⟨_,Or.inl rfl,rfl⟩
  ·exact ⟨_,Or.inr rfl,rfl⟩
 covs:=fun c cx o ho=>ho.2.elim
 safe:=fun k p hp=>by
  simp only [wh,List.mem_cons,List.not_mem_nil,or_false] at hp
  rcases hp with rfl|rfl
  ·intro c hc
   rw [List.mem_singleton.1 hc]
   exact .mp 5 ⟨(5,_),List.mem_cons_of_mem _ (List.mem_singleton.2 rfl),rfl⟩
  ·exact trivial
 safes:=fun c cx o ho=>ho.2.elim
 cxd:=fun c cx o ho=>ho.2.elim
 cxo_:=rT
 nd:=fun k=>by show ([3,5]:List Nat).Nodup;decide
theorem Hd (r:RO) (hr:r.wt<2^39):DCalls Tryz.prog 23 [.agg (sA r)] (.slice 1 ((reads r).map T.str)):=by
 rw [← uM]
 refine qP Tryz.func23 Mt rfl (r:=[.slice 1 ((reads r).map T.str)]) (nlZ rfl) ?_
 have hlen:(sJ r).length≤r.wt:=by rw [ti,uu];exact r.wv
 have hwt: ∀o∈sJ r,o.wt≤r.wt:=by rw [ti];exact uQ r
 have hpl:(tq r).length≤r.wt:=x5 r
 rw [show Tryz.f23.ntmps=18 from rfl,show Tryz.f23.results.toList=[.tmp 2] from rfl,k23]
 have ht:=Cp r
 rw [sV] at ht
 refine aI.seq (JQ ?_)
 repeat' ((conv=>whnf);first|(refine And.intro (by first|exact tC _|fail) ?_)|fail)
 refine aI.seq (JW ?_)
 repeat' ((conv=>whnf);first|refine aS ?_|fail)
 refine aI.seq (aI.seq (J2 ?_))
 repeat' ((conv=>whnf);first|refine rE _ (ht) ?_|fail)
 refine aI.bP (s:={sl:=[(3,.ptr 3 0),(7,.t (.clos 130 [.cptr (s8 r) 0]))],bx:=[(3,.v [.mp 5]),(5,.m false [.str] [] none)]}) (by repeat' (first|exact trivial|exact LeV.same _|exact LeB.same _|exact rfl|exact fun _ _ _=>trivial|refine And.intro ?_ ?_)) ?_
 refine aI.block (yZ (N:=18) rfl r rfl 100 (fun n=>10≤n∧n<100) 100 (Nat.le_refl _) (by omega) (fun o ho=>by have h1:=hwt o ho;rw [uH,uF];obtain ⟨k,p,f,n,a⟩:=o;simp only [RO.wt] at h1;show p.nodes<_;omega) (fun n h=>rz fun p hp=>?_) (fun n h=>rz fun p hp=>?_) (by exact rU) (outs:=wh r) (stop:=fun _ cx _=>cx=(fun _ _=>True)∧False) ?_ (fun l0 D fn tmps hN=>?_) ?_ (fun c cx o h=>h.2.elim))
 ·simp only [List.mem_cons,List.not_mem_nil,or_false] at hp
  rcases hp with rfl|rfl <;> (dsimp only;omega)
 ·simp only [List.mem_cons,List.not_mem_nil,or_false] at hp
  rcases hp with rfl|rfl <;> (dsimp only;omega)
 ·intro q hq
  simp only [wh,List.mem_cons,List.not_mem_nil,or_false] at hq
  rcases hq with rfl|rfl <;> rfl
 ·refine dR.top (d:=4) (n:=5) (lo:=10) (hi:=100) (stop:=fun _ _=>False) (IM r) (fun n h1 h2=>⟨h1,h2⟩) hN (by decide) (fun hw=>J8 hw) rfl (by decide) (by decide) (fun x hx=>?_) (fun k cs b G C hk hcs=>?_)
  ·obtain ⟨t,_,rfl⟩:=List.mem_map.1 hx
   exact ⟨_,sI t,sK t⟩
  rw [List.getElem?_map,Option.map_eq_some_iff] at hk
  obtain ⟨t,htk,hte⟩:=hk
  rw [sI] at hte
  obtain rfl:sC t=cs:=T.agg.inj hte
  have hfs:=v8 (g:=gr) htk
  have hos:wh r k=[(3,.v [.mp 5]),(5,.m false [.str] (esS (once [] (th gr (tq r) k))) none)]:=rfl
  rw [hos]
  generalize hks:once [] (th gr (tq r) k)=ks
  have endN: ∀s:St,s.gh=G→s.cx=C→(∀ q, ¬(10≤q∧q<100)→s.bx q=aK b [(3,.v [.mp 5]),(5,.m false [.str] (esS (once [] (th gr (tq r) (k+1)))) none)] q)→RB b G C 10 100 (wh r (k+1)) (fun _ _=>False) .normal s:=fun s h1 h2 h3=>⟨h1,h2,_,h3,rfl⟩
  have same:gr t=[]→once [] (th gr (tq r) (k+1))=ks:=fun h=>by rw [hfs,h,List.append_nil,hks]
  have more: ∀s,gr t=[s]→once [] (th gr (tq r) (k+1))=if s∈ks then ks else ks++[s]:=fun s h=>by rw [hfs,h,vl,hks]
  generalize once [] (th gr (tq r) (k+1))=ks' at *
  clear hte hks hos hfs
  refine Kf ?_
  obtain ⟨kd,f,n,m,args⟩:=t
  have hE:=sH f e0
  have hN:(!(f.toList==e0.toList))= !(sB f e0):=by rw [hE]
  cases hb:sB f e0 with
  |true=>
   have hg:=same (by unfold gr;exact if_pos hb)
   subst hg
   rw [hb] at hN
   repeat' ((conv=>whnf);first|refine nb_ _ hN ?_|refine nT_ ?_|refine aS ?_|fail)
   (conv=>whnf)
   refine endN _ rfl rfl fun q hq=>?_
   have hm:=qX (b:=b) hq
   show cond (Nat.beq q 14) _ (cond (Nat.beq q 3) _ (cond (Nat.beq q 5) _ (gE 10 100 b q)))=cond (Nat.beq q 3) _ (cond (Nat.beq q 5) _ (b q))
   rw [eS (show q≠14 by omega),hm];rfl
  |false=>
   have hmr:=more f (by unfold gr;exact if_neg (show ¬(sB f e0=true) by rw [hb];simp))
   rw [hb] at hN
   repeat' ((conv=>whnf);first|refine nb_ _ hN ?_|refine nT_ ?_|(refine And.intro (by first|exact ⟨rfl,trivial⟩|fail) ?_)|refine aS ?_|fail)
   (conv=>whnf)
   refine endN _ rfl rfl fun q hq=>?_
   have hm:=qX (b:=b) hq
   by_cases h5:q=5
   ·subst h5
    show some (BX.m false [.str] (bK (T.str f) (T.bool true) _) none)=some (BX.m false [.str] _ none)
    rw [A1,hmr]
   show cond (Nat.beq q 5) _ (cond (Nat.beq q 14) _ (cond (Nat.beq q 3) _ (cond (Nat.beq q 5) _ (gE 10 100 b q))))=cond (Nat.beq q 3) _ (cond (Nat.beq q 5) _ (b q))
   rw [eS h5,eS (show q≠14 by omega),hm];rfl
 ·have hes:wh r (tq r).length=[(3,.v [.mp 5]),(5,.m false [.str] (esS (once [] ((tq r).flatMap gr))) none)]:=by unfold wh;rw [wK]
  have hll:((tq r).flatMap gr).length≤(tq r).length:=xh fun x _=>by unfold gr;split <;> simp
  have hol:=vR (l:=(tq r).flatMap gr) (acc:=[])
  have hnd:=uE (l:=(tq r).flatMap gr) (acc:=[]) List.nodup_nil
  have hfin:vI (once [] ((tq r).flatMap gr))=reads r:=by
   unfold vI reads
   refine wC ze fun x=>?_
   rw [uO]
   simp only [List.not_mem_nil,false_or]
   rw [show (tq r).flatMap gr=EK r by rw [A4];rfl]
  rw [hes]
  simp only [List.length_nil,Nat.zero_add] at hol
  generalize once [] ((tq r).flatMap gr)=ks at *
  have hk1:=Cl ks (ks.map fun _=>T.bool true)
  have hk2:=(Am ks (ks.map fun _=>T.bool true) (by simp) (by omega) hnd).rD
  rw [hfin] at hk2
  refine aI.bP (s:={sl:=[(3,.ptr 3 0)],bx:=[(3,.v [.t (mpb ks (ks.map fun _=>T.bool true))])]}) ⟨⟨.same _,trivial⟩,⟨.v _ _ ⟨.conv _ _ [5] ?_ (by simp [Wk.keys]),trivial⟩,trivial⟩,trivial,rfl,fun _ _ _=>trivial,rfl⟩ ?_
  ·show some (T.mapd false [.str] ((esS ks).map (·.1)) ((esS ks).map (·.2)),[5])=_
   unfold esS
   rw [List.map_map,List.map_map];rfl
  refine Kk ?_
  repeat' ((conv=>whnf);first|refine rE _ (hk1) ?_|refine rE _ (hk2) ?_|fail)
  exact ⟨⟨rfl,trivial⟩,fun _ _=>trivial⟩
end Go.TY
end
section
namespace Go.TY
open Go Go.DL Go.MM Go.Proofs
attribute [local irreducible] aI gR WCM YC
def gw:RO→List ByteArray:=fun x=>if x.kind=2 then [x.field] else []
def wk (r:RO) (k:Nat):List (Nat×BX):=[(3,.v [.mp 5]),(5,.m false [.str] (esS (once [] (th gw (sJ r) k))) none)]
theorem IP (r:RO):ph (fun n=>10≤n∧n<100) 100 (fun _ _=>True) (wk r) (fun _ cx _=>cx=(fun _ _=>True)∧False) where
 fh:=fun n h=>h.2
 nm:=fun k p hp=>by
  simp only [wk,List.mem_cons,List.not_mem_nil,or_false] at hp
  rcases hp with rfl|rfl <;> exact ⟨by dsimp only;omega,by dsimp only;omega⟩
 nms:=fun c cx o ho=>ho.2.elim
 cov:=fun k k' p hp=>by
  simp only [wk,List.mem_cons,List.not_mem_nil,or_false] at hp ⊢
  rcases hp with rfl|rfl
  ·exact ⟨_,Or.inl rfl,rfl⟩
  ·exact ⟨_,Or.inr rfl,rfl⟩
 covs:=fun c cx o ho=>ho.2.elim
 safe:=fun k p hp=>by
  simp only [wk,List.mem_cons,List.not_mem_nil,or_false] at hp
  rcases hp with rfl|rfl
  ·intro c hc
   rw [List.mem_singleton.1 hc]
   exact .mp 5 ⟨(5,_),List.mem_cons_of_mem _ (List.mem_singleton.2 rfl),rfl⟩
  ·exact trivial
 safes:=fun c cx o ho=>ho.2.elim
 cxd:=fun c cx o ho=>ho.2.elim
 cxo_:=rT
 nd:=fun k=>by show ([3,5]:List Nat).Nodup;decide
theorem Fy (r:RO) (hr:r.wt<2^39):DCalls Tryz.prog 25 [.agg (sA r)] (.slice 1 ((writes r).map T.str)):=by
 rw [← uM]
 refine qP Tryz.func25 Mu rfl (r:=[.slice 1 ((writes r).map T.str)]) (nlZ rfl) ?_
 have hlen:(sJ r).length≤r.wt:=by rw [ti,uu];exact r.wv
 have hwt: ∀o∈sJ r,o.wt≤r.wt:=by rw [ti];exact uQ r
 have hpl:(tq r).length≤r.wt:=x5 r
 rw [show Tryz.f25.ntmps=18 from rfl,show Tryz.f25.results.toList=[.tmp 2] from rfl,k25]
 have ht:=yP r
 rw [sV] at ht
 refine aI.seq (JR ?_)
 repeat' ((conv=>whnf);first|(refine And.intro (by first|exact tC _|fail) ?_)|fail)
 refine aI.seq (JX ?_)
 repeat' ((conv=>whnf);first|refine aS ?_|fail)
 refine aI.seq (aI.seq (J3 ?_))
 repeat' ((conv=>whnf);first|refine rE _ (ht) ?_|fail)
 refine aI.bP (s:={sl:=[(3,.ptr 3 0),(7,.t (.clos 116 [.cptr (s8 r) 0]))],bx:=[(3,.v [.mp 5]),(5,.m false [.str] [] none)]}) (by repeat' (first|exact trivial|exact LeV.same _|exact LeB.same _|exact rfl|exact fun _ _ _=>trivial|refine And.intro ?_ ?_)) ?_
 refine aI.block (wo (N:=18) rfl r rfl 100 (fun n=>10≤n∧n<100) 100 (Nat.le_refl _) (by omega) (fun n h=>rz fun p hp=>?_) (fun n h=>rz fun p hp=>?_) (by exact rU) (outs:=wk r) (stop:=fun _ cx _=>cx=(fun _ _=>True)∧False) ?_ (fun l0 D fn tmps hN=>?_) ?_ (fun c cx o h=>h.2.elim))
 ·simp only [List.mem_cons,List.not_mem_nil,or_false] at hp
  rcases hp with rfl|rfl <;> (dsimp only;omega)
 ·simp only [List.mem_cons,List.not_mem_nil,or_false] at hp
  rcases hp with rfl|rfl <;> (dsimp only;omega)
 ·intro q hq
  simp only [wk,List.mem_cons,List.not_mem_nil,or_false] at hq
  rcases hq with rfl|rfl <;> rfl
 ·refine dR.top (d:=4) (n:=9) (lo:=10) (hi:=100) (stop:=fun _ _=>False) (IP r) (fun n h1 h2=>⟨h1,h2⟩) hN (by decide) (fun hw=>J9 hw) rfl (by decide) (by decide) (fun x hx=>?_) (fun k cs b G C hk hcs=>?_)
  ·obtain ⟨t,_,rfl⟩:=List.mem_map.1 hx
   exact ⟨_,sV t,tC t⟩
  rw [List.getElem?_map,Option.map_eq_some_iff] at hk
  obtain ⟨t,htk,hte⟩:=hk
  rw [sV] at hte
  obtain rfl:s8 t=cs:=T.agg.inj hte
  have hfs:=v8 (g:=gw) htk
  have hos:wk r k=[(3,.v [.mp 5]),(5,.m false [.str] (esS (once [] (th gw (sJ r) k))) none)]:=rfl
  rw [hos]
  generalize hks:once [] (th gw (sJ r) k)=ks
  have endN: ∀s:St,s.gh=G→s.cx=C→(∀ q, ¬(10≤q∧q<100)→s.bx q=aK b [(3,.v [.mp 5]),(5,.m false [.str] (esS (once [] (th gw (sJ r) (k+1)))) none)] q)→RB b G C 10 100 (wk r (k+1)) (fun _ _=>False) .normal s:=fun s h1 h2 h3=>⟨h1,h2,_,h3,rfl⟩
  have same:gw t=[]→once [] (th gw (sJ r) (k+1))=ks:=fun h=>by rw [hfs,h,List.append_nil,hks]
  have more: ∀s,gw t=[s]→once [] (th gw (sJ r) (k+1))=if s∈ks then ks else ks++[s]:=fun s h=>by rw [hfs,h,vl,hks]
  generalize once [] (th gw (sJ r) (k+1))=ks' at *
  clear hte hks hos hfs
  refine Kg ?_
  obtain ⟨kd,p,f,n,args⟩:=t
  by_cases k2:kd=2
  ·have hmr:=more f (by unfold gw;exact if_pos k2)
   repeat' ((conv=>whnf);first|refine qx k2 ?_|refine nT_ ?_|(refine And.intro (by first|exact ⟨rfl,trivial⟩|fail) ?_)|refine aS ?_|fail)
   (conv=>whnf)
   refine endN _ rfl rfl fun q hq=>?_
   have hm:=qX (b:=b) hq
   by_cases h5:q=5
   ·subst h5
    show some (BX.m false [.str] (bK (T.str f) (T.bool true) _) none)=some (BX.m false [.str] _ none)
    rw [A1,hmr]
   show cond (Nat.beq q 5) _ (cond (Nat.beq q 14) _ (cond (Nat.beq q 3) _ (cond (Nat.beq q 5) _ (gE 10 100 b q))))=cond (Nat.beq q 3) _ (cond (Nat.beq q 5) _ (b q))
   rw [eS h5,eS (show q≠14 by omega),hm];rfl
  ·have hg:=same (by unfold gw;exact if_neg k2)
   subst hg
   repeat' ((conv=>whnf);first|refine qw k2 ?_|refine nT_ ?_|refine aS ?_|fail)
   (conv=>whnf)
   refine endN _ rfl rfl fun q hq=>?_
   have hm:=qX (b:=b) hq
   show cond (Nat.beq q 14) _ (cond (Nat.beq q 3) _ (cond (Nat.beq q 5) _ (gE 10 100 b q)))=cond (Nat.beq q 3) _ (cond (Nat.beq q 5) _ (b q))
   rw [eS (show q≠14 by omega),hm];rfl
 ·have hes:wk r (sJ r).length=[(3,.v [.mp 5]),(5,.m false [.str] (esS (once [] ((sJ r).flatMap gw))) none)]:=by unfold wk;rw [wK]
  have hll:((sJ r).flatMap gw).length≤(sJ r).length:=xh fun x _=>by unfold gw;split <;> simp
  have hol:=vR (l:=(sJ r).flatMap gw) (acc:=[])
  have hnd:=uE (l:=(sJ r).flatMap gw) (acc:=[]) List.nodup_nil
  have hfin:vI (once [] ((sJ r).flatMap gw))=writes r:=by
   unfold vI writes
   refine wC ze fun x=>?_
   rw [uO]
   simp only [List.not_mem_nil,false_or]
   rw [show (sJ r).flatMap gw=Cu r by rw [ti];rfl]
  rw [hes]
  simp only [List.length_nil,Nat.zero_add] at hol
  generalize once [] ((sJ r).flatMap gw)=ks at *
  have hk1:=Cl ks (ks.map fun _=>T.bool true)
  have hk2:=(Am ks (ks.map fun _=>T.bool true) (by simp) (by omega) hnd).rD
  rw [hfin] at hk2
  refine aI.bP (s:={sl:=[(3,.ptr 3 0)],bx:=[(3,.v [.t (mpb ks (ks.map fun _=>T.bool true))])]}) ⟨⟨.same _,trivial⟩,⟨.v _ _ ⟨.conv _ _ [5] ?_ (by simp [Wk.keys]),trivial⟩,trivial⟩,trivial,rfl,fun _ _ _=>trivial,rfl⟩ ?_
  ·show some (T.mapd false [.str] ((esS ks).map (·.1)) ((esS ks).map (·.2)),[5])=_
   unfold esS
   rw [List.map_map,List.map_map];rfl
  refine Kl ?_
  repeat' ((conv=>whnf);first|refine rE _ (hk1) ?_|refine rE _ (hk2) ?_|fail)
  exact ⟨⟨rfl,trivial⟩,fun _ _=>trivial⟩
end Go.TY
end
section
namespace Go.TY
open Go Go.DL Go.MM Go.Proofs
attribute [local irreducible] aI gR WCM YC
def gp:RO→List Int:=fun x=>if x.kind=2∧sB x.field tg=true then [x.n] else []
def wg (r:RO) (k:Nat):List (Nat×BX):=[(3,.v [.mp 5]),(5,.m false [.int .i64] (esI (once [] (th gp (sJ r) k))) none)]
theorem IL (r:RO):ph (fun n=>10≤n∧n<100) 100 (fun _ _=>True) (wg r) (fun _ cx _=>cx=(fun _ _=>True)∧False) where
 fh:=fun n h=>h.2
 nm:=fun k p hp=>by
  simp only [wg,List.mem_cons,List.not_mem_nil,or_false] at hp
  rcases hp with rfl|rfl <;> exact ⟨by dsimp only;omega,by dsimp only;omega⟩
 nms:=fun c cx o ho=>ho.2.elim
 cov:=fun k k' p hp=>by
  simp only [wg,List.mem_cons,List.not_mem_nil,or_false] at hp ⊢
  rcases hp with rfl|rfl
  ·exact ⟨_,Or.inl rfl,rfl⟩
  ·exact ⟨_,Or.inr rfl,rfl⟩
 covs:=fun c cx o ho=>ho.2.elim
 safe:=fun k p hp=>by
  simp only [wg,List.mem_cons,List.not_mem_nil,or_false] at hp
  rcases hp with rfl|rfl
  ·intro c hc
   rw [List.mem_singleton.1 hc]
   exact .mp 5 ⟨(5,_),List.mem_cons_of_mem _ (List.mem_singleton.2 rfl),rfl⟩
  ·exact trivial
 safes:=fun c cx o ho=>ho.2.elim
 cxd:=fun c cx o ho=>ho.2.elim
 cxo_:=rT
 nd:=fun k=>by show ([3,5]:List Nat).Nodup;decide
theorem Hc (r:RO) (hr:r.wt<2^39):DCalls Tryz.prog 28 [.agg (sA r)] (.slice 1 ((zw r).map I)):=by
 rw [← uM]
 refine qP Tryz.func28 Mv rfl (r:=[.slice 1 ((zw r).map I)]) (nlZ rfl) ?_
 have hlen:(sJ r).length≤r.wt:=by rw [ti,uu];exact r.wv
 have hwt: ∀o∈sJ r,o.wt≤r.wt:=by rw [ti];exact uQ r
 have hpl:(tq r).length≤r.wt:=x5 r
 rw [show Tryz.f28.ntmps=23 from rfl,show Tryz.f28.results.toList=[.tmp 2] from rfl,k28]
 have ht:=yP r
 rw [sV] at ht
 refine aI.seq (JS ?_)
 repeat' ((conv=>whnf);first|(refine And.intro (by first|exact tC _|fail) ?_)|fail)
 refine aI.seq (JY ?_)
 repeat' ((conv=>whnf);first|refine aS ?_|fail)
 refine aI.seq (aI.seq (J4 ?_))
 repeat' ((conv=>whnf);first|refine rE _ (ht) ?_|fail)
 refine aI.bP (s:={sl:=[(3,.ptr 3 0),(7,.t (.clos 116 [.cptr (s8 r) 0]))],bx:=[(3,.v [.mp 5]),(5,.m false [.int .i64] [] none)]}) (by repeat' (first|exact trivial|exact LeV.same _|exact LeB.same _|exact rfl|exact fun _ _ _=>trivial|refine And.intro ?_ ?_)) ?_
 refine aI.block (wo (N:=23) rfl r rfl 100 (fun n=>10≤n∧n<100) 100 (Nat.le_refl _) (by omega) (fun n h=>rz fun p hp=>?_) (fun n h=>rz fun p hp=>?_) (by exact rU) (outs:=wg r) (stop:=fun _ cx _=>cx=(fun _ _=>True)∧False) ?_ (fun l0 D fn tmps hN=>?_) ?_ (fun c cx o h=>h.2.elim))
 ·simp only [List.mem_cons,List.not_mem_nil,or_false] at hp
  rcases hp with rfl|rfl <;> (dsimp only;omega)
 ·simp only [List.mem_cons,List.not_mem_nil,or_false] at hp
  rcases hp with rfl|rfl <;> (dsimp only;omega)
 ·intro q hq
  simp only [wg,List.mem_cons,List.not_mem_nil,or_false] at hq
  rcases hq with rfl|rfl <;> rfl
 ·refine dR.top (d:=4) (n:=9) (lo:=10) (hi:=100) (stop:=fun _ _=>False) (IL r) (fun n h1 h2=>⟨h1,h2⟩) hN (by decide) (fun hw=>Ka hw) rfl (by decide) (by decide) (fun x hx=>?_) (fun k cs b G C hk hcs=>?_)
  ·obtain ⟨t,_,rfl⟩:=List.mem_map.1 hx
   exact ⟨_,sV t,tC t⟩
  rw [List.getElem?_map,Option.map_eq_some_iff] at hk
  obtain ⟨t,htk,hte⟩:=hk
  rw [sV] at hte
  obtain rfl:s8 t=cs:=T.agg.inj hte
  have hfs:=v8 (g:=gp) htk
  have hos:wg r k=[(3,.v [.mp 5]),(5,.m false [.int .i64] (esI (once [] (th gp (sJ r) k))) none)]:=rfl
  rw [hos]
  generalize hks:once [] (th gp (sJ r) k)=ks
  have endN: ∀s:St,s.gh=G→s.cx=C→(∀ q, ¬(10≤q∧q<100)→s.bx q=aK b [(3,.v [.mp 5]),(5,.m false [.int .i64] (esI (once [] (th gp (sJ r) (k+1)))) none)] q)→RB b G C 10 100 (wg r (k+1)) (fun _ _=>False) .normal s:=fun s h1 h2 h3=>⟨h1,h2,_,h3,rfl⟩
  have same:gp t=[]→once [] (th gp (sJ r) (k+1))=ks:=fun h=>by rw [hfs,h,List.append_nil,hks]
  have more: ∀s,gp t=[s]→once [] (th gp (sJ r) (k+1))=if s∈ks then ks else ks++[s]:=fun s h=>by rw [hfs,h,vl,hks]
  generalize once [] (th gp (sJ r) (k+1))=ks' at *
  clear hte hks hos hfs
  refine Kh ?_
  obtain ⟨kd,p,f,n,args⟩:=t
  have hE:=sH f tg
  by_cases k2:kd=2
  ·cases hb:sB f tg with
   |true=>
    have hmr:=more n (by unfold gp;exact if_pos ⟨k2,hb⟩)
    rw [hb] at hE
    repeat' ((conv=>whnf);first|refine qx k2 ?_|refine nb_ _ hE ?_|refine nT_ ?_|(refine And.intro (by first|exact ⟨rfl,rfl,trivial⟩|fail) ?_)|refine aS ?_|fail)
    (conv=>whnf)
    refine endN _ rfl rfl fun q hq=>?_
    have hm:=qX (b:=b) hq
    by_cases h5:q=5
    ·subst h5
     show some (BX.m false [.int .i64] (bK (T.int .i64 n) (T.bool true) _) none)=some (BX.m false [.int .i64] _ none)
     rw [zt,hmr]
    show cond (Nat.beq q 5) _ (cond (Nat.beq q 14) _ (cond (Nat.beq q 3) _ (cond (Nat.beq q 5) _ (gE 10 100 b q))))=cond (Nat.beq q 3) _ (cond (Nat.beq q 5) _ (b q))
    rw [eS h5,eS (show q≠14 by omega),hm];rfl
   |false=>
    have hg:=same (by unfold gp;exact if_neg (fun h=>by rw [show sB f tg=true from h.2] at hb;cases hb))
    subst hg
    rw [hb] at hE
    repeat' ((conv=>whnf);first|refine qx k2 ?_|refine nb_ _ hE ?_|refine nT_ ?_|refine aS ?_|fail)
    (conv=>whnf)
    refine endN _ rfl rfl fun q hq=>?_
    have hm:=qX (b:=b) hq
    show cond (Nat.beq q 14) _ (cond (Nat.beq q 3) _ (cond (Nat.beq q 5) _ (gE 10 100 b q)))=cond (Nat.beq q 3) _ (cond (Nat.beq q 5) _ (b q))
    rw [eS (show q≠14 by omega),hm];rfl
  ·have hg:=same (by unfold gp;exact if_neg (fun h=>k2 h.1))
   subst hg
   repeat' ((conv=>whnf);first|refine qw k2 ?_|refine nT_ ?_|refine aS ?_|fail)
   (conv=>whnf)
   refine endN _ rfl rfl fun q hq=>?_
   have hm:=qX (b:=b) hq
   show cond (Nat.beq q 14) _ (cond (Nat.beq q 3) _ (cond (Nat.beq q 5) _ (gE 10 100 b q)))=cond (Nat.beq q 3) _ (cond (Nat.beq q 5) _ (b q))
   rw [eS (show q≠14 by omega),hm];rfl
 ·have hes:wg r (sJ r).length=[(3,.v [.mp 5]),(5,.m false [.int .i64] (esI (once [] ((sJ r).flatMap gp))) none)]:=by unfold wg;rw [wK]
  have hll:((sJ r).flatMap gp).length≤(sJ r).length:=xh fun x _=>by unfold gp;split <;> simp
  have hol:=vR (l:=(sJ r).flatMap gp) (acc:=[])
  have hnd:=uE (l:=(sJ r).flatMap gp) (acc:=[]) List.nodup_nil
  have hfin:zj (once [] ((sJ r).flatMap gp))=zw r:=by
   unfold zj zw
   refine wC Fk fun x=>?_
   rw [uO]
   simp only [List.not_mem_nil,false_or]
   rw [show (sJ r).flatMap gp=Ew r by rw [ti];rfl]
  rw [hes]
  simp only [List.length_nil,Nat.zero_add] at hol
  generalize once [] ((sJ r).flatMap gp)=ks at *
  have hk1:=Cm ks (ks.map fun _=>T.bool true)
  have hk2:=(Ao ks (ks.map fun _=>T.bool true) (by simp) (by omega) hnd).rD
  rw [hfin] at hk2
  refine aI.bP (s:={sl:=[(3,.ptr 3 0)],bx:=[(3,.v [.t (mpi ks (ks.map fun _=>T.bool true))])]}) ⟨⟨.same _,trivial⟩,⟨.v _ _ ⟨.conv _ _ [5] ?_ (by simp [Wk.keys]),trivial⟩,trivial⟩,trivial,rfl,fun _ _ _=>trivial,rfl⟩ ?_
  ·show some (T.mapd false [.int .i64] ((esI ks).map (·.1)) ((esI ks).map (·.2)),[5])=_
   unfold esI
   rw [List.map_map,List.map_map];rfl
  refine Km ?_
  repeat' ((conv=>whnf);first|refine rE _ (hk1) ?_|refine rE _ (hk2) ?_|fail)
  exact ⟨⟨rfl,trivial⟩,fun _ _=>trivial⟩
end Go.TY
end
section
namespace Go.TY
open Go Go.DL Go.MM Go.Proofs
theorem DCalls.to {P:Program} {f:FuncId} {xs:List T} {r r':T} (h:DCalls P f xs r) (hl:Les r r'):DCalls P f xs r':=h.res fun S w v k=>hl S w v k
theorem CH (k:Int) (f:ByteArray) (n m:Int):Les (.agg [I k,.str f,I n,I m,.nil]) (.agg (sC (.mk k f n m []))):=
 Les.agg (.cons (Les.refl _) rfl (.cons (Les.refl _) rfl (.cons (Les.refl _) rfl (.cons (Les.refl _) rfl (.cons (Les.nil 5) rfl .nil)))))
theorem JL (k:Int) (f:ByteArray) (n:Int):Les (.agg [I k,I 0,.str e0,I 0,I 0,.nil,.str f,I n,.nil]) (.agg (sA (.mk k wP f n []))):=
 Les.agg (.cons (Les.refl _) rfl (.cons (Les.refl _) rfl (.cons (Les.refl _) rfl (.cons (Les.refl _) rfl (.cons (Les.refl _) rfl (.cons (Les.nil 5) rfl (.cons (Les.refl _) rfl (.cons (Les.refl _) rfl (.cons (Les.nil 9) rfl .nil)))))))))
theorem JK {p:RP} (f:ByteArray) (n:Int):Les (.agg (I 1::(sC p++[.str f,I n,.nil]))) (.agg (sA (.mk 1 p f n []))):=by
 obtain ⟨k,pf,pn,pm,pa⟩:=p
 exact Les.agg (.cons (Les.refl _) rfl (.cons (Les.refl _) rfl (.cons (Les.refl _) rfl (.cons (Les.refl _) rfl (.cons (Les.refl _) rfl (.cons (Les.refl _) rfl (.cons (Les.refl _) rfl (.cons (Les.refl _) rfl (.cons (Les.nil 9) rfl .nil)))))))))
theorem CI (k:Int) (xs:List RO):Les (.agg [I k,I 0,.str e0,I 0,I 0,.nil,.str e0,I 0,.slice 9 (xs.map tc)]) (.agg (sA (.mk k wP e0 0 xs))):=
 Les.agg (.cons (Les.refl _) rfl (.cons (Les.refl _) rfl (.cons (Les.refl _) rfl (.cons (Les.refl _) rfl (.cons (Les.refl _) rfl (.cons (Les.nil 5) rfl (.cons (Les.refl _) rfl (.cons (Les.refl _) rfl (.cons (Les.refl _) rfl .nil)))))))))
theorem CF (f:ByteArray) (n:Int):DCalls Tryz.prog 62 [.str f,I n] (.agg (sC (.mk 3 f n 0 []))):=by
 refine DCalls.to (r:=.agg [I 3,.str f,I n,I 0,.nil]) ?_ (CH _ _ _ _)
 refine qO (rs:=[.cell 4 25]) mixed Tryz.func62 l62 rfl rfl rfl (r:=[.agg [I 3,.str f,I n,I 0,.nil]]) (nlZ rfl) ?_
 repeat' ((conv=>whnf);first|exact trivial|refine aS ?_|fail)
 all_goals exact ⟨congrArg some rfl,trivial⟩
theorem zq (f:ByteArray) (n:Int):DCalls Tryz.prog 63 [.str f,I n] (.agg (sA (.mk 2 wP f n []))):=by
 refine DCalls.to (r:=.agg [I 2,I 0,.str e0,I 0,I 0,.nil,.str f,I n,.nil]) ?_ (JL _ _ _)
 refine qO (rs:=[.cell 4 28]) mixed Tryz.func63 l63 rfl rfl rfl (r:=[.agg [I 2,I 0,.str e0,I 0,I 0,.nil,.str f,I n,.nil]]) (nlZ rfl) ?_
 repeat' ((conv=>whnf);first|exact trivial|refine aS ?_|fail)
 all_goals exact ⟨congrArg some rfl,trivial⟩
theorem zd (p:RP):DCalls Tryz.prog 61 [.agg (sC p)] (.agg (sA (.mk 1 p e0 0 []))):=by
 refine DCalls.to (r:=.agg (I 1::(sC p++[.str e0,I 0,.nil]))) ?_ (JK _ _)
 obtain ⟨k,pf,pn,pm,pa⟩:=p
 refine qO (rs:=[.cell 2 28]) mixed Tryz.func61 l61 rfl rfl rfl (r:=[.agg (I 1::(sC (.mk k pf pn pm pa)++[.str e0,I 0,.nil]))]) (nlZ rfl) ?_
 repeat' ((conv=>whnf);first|exact trivial|refine aS ?_|fail)
 all_goals exact ⟨congrArg some rfl,trivial⟩
theorem CG (x y:RO):DCalls Tryz.prog 32 [.agg (sA x),.agg (sA y)] (.agg (sA (yc 4 x y))):=by
 refine DCalls.to (r:=.agg [I 4,I 0,.str e0,I 0,I 0,.nil,.str e0,I 0,.slice 9 ([x,y].map tc)]) ?_ (CI _ _)
 have e:([x,y].map tc)=[.agg (sA x),.agg (sA y)]:=by simp [sM]
 rw [e]
 have h1:=sF x
 have h2:=sF y
 generalize sA x=a at *
 generalize sA y=b at *
 refine qO (rs:=[.cell 4 28]) mixed Tryz.func32 l32 rfl rfl rfl (r:=[.agg [I 4,I 0,.str e0,I 0,I 0,.nil,.str e0,I 0,.slice 9 [.agg a,.agg b]]]) (nlZ rfl) ?_
 repeat' ((conv=>whnf);first|exact trivial|(refine And.intro (by first|exact h1|exact h2|exact ⟨⟨trivial,h1⟩,h2⟩|fail) ?_)|refine aS ?_|fail)
 all_goals exact ⟨congrArg some rfl,trivial⟩
theorem GO (x y:RO):DCalls Tryz.prog 33 [.agg (sA x),.agg (sA y)] (.agg (sA (yc 3 x y))):=by
 refine DCalls.to (r:=.agg [I 3,I 0,.str e0,I 0,I 0,.nil,.str e0,I 0,.slice 9 ([x,y].map tc)]) ?_ (CI _ _)
 have e:([x,y].map tc)=[.agg (sA x),.agg (sA y)]:=by simp [sM]
 rw [e]
 have h1:=sF x
 have h2:=sF y
 generalize sA x=a at *
 generalize sA y=b at *
 refine qO (rs:=[.cell 4 28]) mixed Tryz.func33 l33 rfl rfl rfl (r:=[.agg [I 3,I 0,.str e0,I 0,I 0,.nil,.str e0,I 0,.slice 9 [.agg a,.agg b]]]) (nlZ rfl) ?_
 repeat' ((conv=>whnf);first|exact trivial|(refine And.intro (by first|exact h1|exact h2|exact ⟨⟨trivial,h1⟩,h2⟩|fail) ?_)|refine aS ?_|fail)
 all_goals exact ⟨congrArg some rfl,trivial⟩
def vg:ByteArray:=⟨#[100,115,116]⟩
def vU:ByteArray:=⟨#[115,114,99]⟩
def wM:ByteArray:=⟨#[107,105,110,100]⟩
def L3:List Fd:=[⟨vg,16,8⟩,⟨vU,24,8⟩,⟨wM,33,3⟩]
theorem Fj:DCalls Tryz.prog 60 [] (fds L3):=by
 refine qO (rs:=[.tmp 0]) mixed Tryz.func60 l60 rfl rfl rfl (r:=[fds L3]) (nlZ rfl) ?_
 repeat' ((conv=>whnf);first|exact trivial|refine aS ?_|fail)
theorem A3:LOk L3:=⟨by decide,fun f hf=>by
 simp only [L3,List.mem_cons,List.not_mem_nil,or_false] at hf
 rcases hf with rfl|rfl|rfl <;> exact ⟨by decide,by decide,by decide⟩⟩
def yx (l:List RF) (gs:List RG):Bool:=xW gs&&(wV l==0)
theorem GN (l:List RF) (hl:l.length<2^60) (hn: ∀f∈l,f.name.size<2^62) (gs:List RG) (hgl:gs.length<2^60) (hg: ∀g∈gs,g.pol.wt<2^60):DCalls Tryz.prog 36 [vZ l,.slice 15 (gs.map sL)] (.bool (yx l gs)):=by
 refine qO (rs:=[.tmp 4]) mixed Tryz.func36 l36 rfl rfl rfl (r:=[.bool _]) (nlZ rfl) ?_
 have h1:=A7 gs hgl hg
 have h2:=t47 l hl hn
 unfold yx
 generalize xW gs=b at *
 generalize wV l=c at *
 by_cases hc:c=0
 ·rw [show (c==0)=true by simp [hc]]
  cases b <;> repeat' ((conv=>whnf);first|exact trivial|refine rE _ (h1) ?_|refine rE _ (h2) ?_|refine qx hc ?_|refine rb1 ?_|refine rb0 ?_|refine aS ?_|fail)
 ·rw [show (c==0)=false by simp [hc]]
  cases b <;> repeat' ((conv=>whnf);first|exact trivial|refine rE _ (h1) ?_|refine rE _ (h2) ?_|refine qw hc ?_|refine rb0 ?_|refine aS ?_|fail)
end Go.TY
end
section
namespace Go.TY
open Go Go.DL Go.MM Go.Proofs
def IZ:ByteArray:=⟨#[116,111,112]⟩
def cN:ByteArray:=⟨#[99]⟩
def tN:ByteArray:=⟨#[116]⟩
abbrev idF:RO:=.mk 1 (.mk 1 e0 0 0 []) e0 0 []
abbrev Cy:RO:=.mk 1 (.mk 2 e0 0 0 []) e0 0 []
abbrev wu:RO:=.mk 1 (.mk 9 e0 3 7 []) e0 0 []
abbrev uD:RG:=⟨idF,⟨2,cN,[vU],e0,0,0⟩⟩
abbrev uV:RG:=⟨idF,⟨3,cN,[vg],e0,5,0⟩⟩
abbrev AX:RG:=⟨idF,⟨3,cN,[wM],e0,5,0⟩⟩
abbrev zp:RG:=⟨idF,⟨1,cN,[vU],e0,0,0⟩⟩
abbrev AY:RG:=⟨idF,⟨6,cN,[vU],e0,1,1⟩⟩
abbrev Jx:RG:=⟨wu,⟨0,e0,[],e0,0,0⟩⟩
abbrev eqF (f:ByteArray) (n:Int):RP:=.mk 3 f n 0 []
abbrev fiF (p:RP):RO:=.mk 1 p e0 0 []
abbrev seF (f:ByteArray) (n:Int):RO:=.mk 2 wP f n []
abbrev xF:RO:=yc 3 (yc 4 (fiF (eqF vg 5)) (seF tg 2)) (yc 4 (seF tg 1) (.mk 5 wP e0 0 [seF vU 0]))
abbrev VL:List RV:=[⟨cN,2,[8],0,0⟩]
theorem sm1 (g:RG) (h:g=uD∨g=uV∨g=AX∨g=zp∨g=AY):SmG (2^39) g:=by
 rcases h with rfl|rfl|rfl|rfl|rfl
 all_goals refine ⟨⟨by decide,by decide,fun k hk=>?_,by decide⟩,by decide,fun _=>⟨⟨by decide,trivial⟩,by decide,trivial⟩⟩
 all_goals (rw [List.mem_singleton.1 hk];decide)
theorem Dv (p:RP) (x:Int) (hr:p.nodes<2^40) (hn:vC p) (h:AG L3 p=x):DCalls Tryz.prog 15 [fds L3,.agg (sC p)] (I x):=h▸IS L3 A3 p hr hn
theorem II (k:Int) (f:ByteArray) (n m x:Int) (hn:f.size<2^62) (h:AG L3 (.mk k f n m [])=x):DCalls Tryz.prog 15 [fds L3,.agg [I k,.str f,I n,I m,.nil]] (I x):=
 (Dv (.mk k f n m []) x (by simp [RP.nodes,sS]) ⟨hn,trivial⟩ h).lesAll ⟨Les.refl _,CH k f n m,trivial⟩
theorem yp (k:Int) (f:ByteArray) (n m:Int):DCalls Tryz.prog 61 [.agg [I k,.str f,I n,I m,.nil]] (.agg (sA (.mk 1 (.mk k f n m []) e0 0 []))):=
 (zd (.mk k f n m [])).lesAll ⟨CH k f n m,trivial⟩
theorem Hz (x:RO) (k:Int) (ys:List RO):DCalls Tryz.prog 32 [.agg (sA x),.agg [I k,I 0,.str e0,I 0,I 0,.nil,.str e0,I 0,.slice 9 (ys.map tc)]] (.agg (sA (yc 4 x (.mk k wP e0 0 ys)))):=
 (CG x (.mk k wP e0 0 ys)).lesAll ⟨Les.refl _,CI k ys,trivial⟩
theorem IF (r:RO) (x:Int) (hr:r.wt<2^40) (hn:uP r) (h:tJ L3 r=x):DCalls Tryz.prog 17 [fds L3,.agg (sA r)] (I x):=h▸BJ L3 A3 r hr hn
theorem Gv (s:RS) (x:Int) (hs:SmS (2^59) s) (h:tj L3 s=x):DCalls Tryz.prog 19 [fds L3,.agg (sG s)] (I x):=h▸EU L3 A3 s hs
theorem Dw (gs:List RG) (x:Int) (hl:gs.length<2^40) (hs: ∀g∈gs,SmG (2^39) g) (h:wm L3 gs=x):DCalls Tryz.prog 38 [fds L3,.slice 15 (gs.map sL)] (I x):=h▸Av L3 A3 gs hl hs
theorem xR {α:Type} {a b:α} {p:α→Prop} (ha:p a) (hb:p b): ∀x∈[a,b],p x:=fun x hx=>by
 simp only [List.mem_cons,List.not_mem_nil,or_false] at hx
 rcases hx with rfl|rfl
 ·exact ha
 ·exact hb
theorem K7:DCalls Tryz.prog 39 [fds L3,.slice 15 ([uD,uV].map sL)] (.slice 5 (VL.map sP)):=by
 have h:(tD L3 [uD,uV]).isNone=false:=by decide+kernel
 have e:uY L3 [uD,uV]=VL:=by decide+kernel
 cases hv:tD L3 [uD,uV] with
 |none=>rw [hv] at h;cases h
 |some st=>
  have:=y8 L3 A3 [uD,uV] (by decide) (xR ⟨(sm1 uD (by simp)).st.mono (by decide),by decide,by decide⟩ ⟨(sm1 uV (by simp)).st.mono (by decide),by decide,by decide⟩) st hv
  rwa [e] at this
theorem IE (tick:Int) (r q:RO) (hr:r.wt<2^39) (h:vP tick r=q):DCalls Tryz.prog 49 [.agg (sA r),I tick] (.agg (sA q)):=h▸t39 tick r hr
theorem Gu (a b:RO) (x:Bool) (hr:a.wt<2^60) (h:wE a b=x):DCalls Tryz.prog 48 [.agg (sA a),.agg (sA b)] (.bool x):=h▸A9 _ a b (Nat.le_refl _) hr
theorem IJ (r:RO) (x:List ByteArray) (hr:r.wt<2^39) (h:reads r=x):DCalls Tryz.prog 23 [.agg (sA r)] (.slice 1 (x.map T.str)):=h▸Hd r hr
theorem G7 (r:RO) (x:List ByteArray) (hr:r.wt<2^39) (h:writes r=x):DCalls Tryz.prog 25 [.agg (sA r)] (.slice 1 (x.map T.str)):=h▸Fy r hr
theorem IG (r:RO) (x:List Int) (hr:r.wt<2^39) (h:zw r=x):DCalls Tryz.prog 28 [.agg (sA r)] (.slice 1 (x.map I)):=h▸Hc r hr
theorem K6 (r:RO) (x:Nat) (hr:sY r=true) (h:um r=x):DCalls Tryz.prog 30 [.agg (sA r)] (I x):=h▸IV _ r (Nat.le_refl _) hr
theorem ID (gs:List RG) (x:List Int) (hl:gs.length<2^39) (hg: ∀g∈gs,g.pol.wt<2^39) (hb:(bounds gs).length<2^40) (h:xA gs=x):DCalls Tryz.prog 57 [.slice 15 (gs.map sL)] (.slice 1 (x.map I)):=h▸BG gs hl hg hb
theorem EL (a:List ByteArray) (h:a.length<2^60):DCalls Tryz.prog 22 [.slice 1 (a.map .str),.slice 1 (a.map .str)] (.bool true):=by
 have:=B5 a a (Or.inl h)
 rwa [wF.2 rfl] at this
theorem Gt (a:List Int) (h:a.length<2^60):DCalls Tryz.prog 27 [.slice 1 (a.map I),.slice 1 (a.map I)] (.bool true):=by
 have:=x6 a a (Or.inl h)
 rwa [show (a==a)=true by simp] at this
theorem N4:DCalls Tryz.prog 45 [.slice 5 (VL.map sP),.slice 5 (VL.map sP)] (.bool true):=by
 have:=xo VL VL (Or.inl (by decide)) (Or.inl fun v hv=>by rw [List.mem_singleton.1 hv];decide)
 rwa [vH.2 rfl] at this
theorem ME {P:Program} {i:DI} {is:List DI} {st:St} {K:St→Prop} (v:V) (h:wpI P i st (fun s=>s=st.set i.dst v)) (hk:aA P is (st.set i.dst v) K):aA P (i::is) st K:=cY (fun s e=>by rw [e];exact hk) h
theorem JJ {P:Program} {is:List DI} {B:PT} {st:St} {Q:aB→St→Prop} (h:aA P is st fun st'=>B st' Q):rl (rj P is []) B st Q:=h
theorem FD:DCalls Tryz.prog 10 [] (.bool true):=by
 refine qO (rs:=[.tmp 0]) mixed Tryz.func10 l10 rfl rfl rfl (r:=[.bool true]) (nlZ rfl) ?_
 have k1:=Fj
 have k2:=CF vg 300
 have k3:=CF IZ 1
 have k4:=yp 1 e0 0 0
 have k5:=Dv (eqF vg 300) 1 (by decide) ⟨by decide,trivial⟩ (by decide+kernel)
 have k6:=Dv (eqF IZ 1) 4 (by decide) ⟨by decide,trivial⟩ (by decide+kernel)
 have k7:=II 4 wM 1 4 1 (by decide) (by decide+kernel)
 repeat' ((conv=>whnf);first|refine rE _ (k1) ?_|refine rE _ (k4) ?_|refine aS ?_|fail)
 refine rA (β:=Unit) (fun _=>{sl:=[(1,.t (fds L3)),(2,.ptr 2 0),(3,.t (.bool true))],bx:=[(2,.d 9 (sA idF))]}) (fun _=>True) ?_ ?_
 ·repeat' ((conv=>whnf);first|refine rE _ (k2) ?_|refine rE _ (k3) ?_|refine rE _ (k5) ?_|refine rE _ (k6) ?_|refine rE _ (k7) ?_|(exact ⟨(),trivial,by (repeat' (first|exact trivial|exact LeV.same _|exact LeB.same _|exact rfl|exact fun _ _ _=>trivial|refine And.intro ?_ ?_));done⟩)|refine aE1 ?_|refine aS ?_|fail)
 rintro _ _
 clear k1 k2 k3 k4 k5 k6 k7
 have k8:=CF vg 5
 have k9:=zd (eqF vg 5)
 have k10:=zq wM 7
 have k11:=zq wM 8
 have k12:=CG (fiF (eqF vg 5)) (seF wM 7)
 have k13:=IF (yc 4 (fiF (eqF vg 5)) (seF wM 7)) 0 (by decide) ⟨⟨by decide,trivial⟩,by decide,⟨⟨by decide,trivial⟩,by decide,trivial⟩,⟨⟨by decide,trivial⟩,by decide,trivial⟩,trivial⟩ (by decide+kernel)
 have k14:=IF (seF wM 8) 1 (by decide) ⟨⟨by decide,trivial⟩,by decide,trivial⟩ (by decide+kernel)
 skip
 refine rA (β:=Unit) (fun _=>{sl:=[(1,.t (fds L3)),(2,.ptr 2 0),(3,.t (.bool true)),(4,.t (.bool true))],bx:=[(2,.d 9 (sA idF))]}) (fun _=>True) ?_ ?_
 ·repeat' ((conv=>whnf);first|refine rE _ (k8) ?_|refine rE _ (k9) ?_|refine rE _ (k10) ?_|refine rE _ (k11) ?_|refine rE _ (k12) ?_|refine rE _ (k13) ?_|refine rE _ (k14) ?_|(exact ⟨(),trivial,by (repeat' (first|exact trivial|exact LeV.same _|exact LeB.same _|exact rfl|exact fun _ _ _=>trivial|refine And.intro ?_ ?_));done⟩)|refine aE1 ?_|refine aS ?_|fail)
 rintro _ _
 clear k8 k9 k10 k11 k12 k13 k14
 have k15:=Gv ⟨1,cN,[vU,vU],e0,0,0⟩ 1 ⟨by decide,by decide,xR (p:=fun k:ByteArray=>k.size<2^59) (by decide) (by decide),by decide⟩ (by decide+kernel)
 have k16:=Gv ⟨4,tN,[vU],wM,1,9⟩ 1 ⟨by decide,by decide,fun k hk=>by rw [List.mem_singleton.1 hk];decide,by decide⟩ (by decide+kernel)
 skip
 refine rA (β:=Unit) (fun _=>{sl:=[(1,.t (fds L3)),(2,.ptr 2 0),(3,.t (.bool true)),(4,.t (.bool true)),(5,.t (.bool true))],bx:=[(2,.d 9 (sA idF))]}) (fun _=>True) ?_ ?_
 ·repeat' ((conv=>whnf);first|refine rE _ (k15) ?_|refine rE _ (k16) ?_|(exact ⟨(),trivial,by (repeat' (first|exact trivial|exact LeV.same _|exact LeB.same _|exact rfl|exact fun _ _ _=>trivial|refine And.intro ?_ ?_));done⟩)|refine aE1 ?_|refine aS ?_|fail)
 rintro _ _
 clear k15 k16
 skip
 refine rA (β:=Unit) (fun _=>{sl:=[(1,.t (fds L3)),(2,.ptr 2 0),(3,.t (.bool true)),(4,.t (.bool true)),(5,.t (.bool true)),(6,.ptr 6 0)],bx:=[(2,.d 9 (sA idF)),(6,.d 15 (sD uD))]}) (fun _=>True) ?_ ?_
 ·repeat' ((conv=>whnf);first|(exact ⟨(),trivial,by (repeat' (first|exact trivial|exact LeV.same _|exact LeB.same _|exact rfl|exact fun _ _ _=>trivial|refine And.intro ?_ ?_));done⟩)|refine aS ?_|fail)
 rintro _ _
 skip
 refine rA (β:=Unit) (fun _=>{sl:=[(1,.t (fds L3)),(2,.ptr 2 0),(3,.t (.bool true)),(4,.t (.bool true)),(5,.t (.bool true)),(6,.ptr 6 0),(7,.ptr 7 0)],bx:=[(2,.d 9 (sA idF)),(6,.d 15 (sD uD)),(7,.d 15 (sD uV))]}) (fun _=>True) ?_ ?_
 ·repeat' ((conv=>whnf);first|(exact ⟨(),trivial,by (repeat' (first|exact trivial|exact LeV.same _|exact LeB.same _|exact rfl|exact fun _ _ _=>trivial|refine And.intro ?_ ?_));done⟩)|refine aS ?_|fail)
 rintro _ _
 skip
 refine rA (β:=Unit) (fun _=>{sl:=[(1,.t (fds L3)),(2,.ptr 2 0),(3,.t (.bool true)),(4,.t (.bool true)),(5,.t (.bool true)),(6,.ptr 6 0),(7,.ptr 7 0),(8,.ptr 8 0)],bx:=[(2,.d 9 (sA idF)),(6,.d 15 (sD uD)),(7,.d 15 (sD uV)),(8,.d 15 (sD AX))]}) (fun _=>True) ?_ ?_
 ·repeat' ((conv=>whnf);first|(exact ⟨(),trivial,by (repeat' (first|exact trivial|exact LeV.same _|exact LeB.same _|exact rfl|exact fun _ _ _=>trivial|refine And.intro ?_ ?_));done⟩)|refine aS ?_|fail)
 rintro _ _
 skip
 refine rA (β:=Unit) (fun _=>{sl:=[(1,.t (fds L3)),(2,.ptr 2 0),(3,.t (.bool true)),(4,.t (.bool true)),(5,.t (.bool true)),(6,.ptr 6 0),(7,.ptr 7 0),(8,.ptr 8 0),(9,.ptr 9 0)],bx:=[(2,.d 9 (sA idF)),(6,.d 15 (sD uD)),(7,.d 15 (sD uV)),(8,.d 15 (sD AX)),(9,.d 15 (sD zp))]}) (fun _=>True) ?_ ?_
 ·repeat' ((conv=>whnf);first|(exact ⟨(),trivial,by (repeat' (first|exact trivial|exact LeV.same _|exact LeB.same _|exact rfl|exact fun _ _ _=>trivial|refine And.intro ?_ ?_));done⟩)|refine aS ?_|fail)
 rintro _ _
 skip
 refine rA (β:=Unit) (fun _=>{sl:=[(1,.t (fds L3)),(2,.ptr 2 0),(3,.t (.bool true)),(4,.t (.bool true)),(5,.t (.bool true)),(6,.ptr 6 0),(7,.ptr 7 0),(8,.ptr 8 0),(9,.ptr 9 0),(10,.ptr 10 0)],bx:=[(2,.d 9 (sA idF)),(6,.d 15 (sD uD)),(7,.d 15 (sD uV)),(8,.d 15 (sD AX)),(9,.d 15 (sD zp)),(10,.d 15 (sD AY))]}) (fun _=>True) ?_ ?_
 ·repeat' ((conv=>whnf);first|(exact ⟨(),trivial,by (repeat' (first|exact trivial|exact LeV.same _|exact LeB.same _|exact rfl|exact fun _ _ _=>trivial|refine And.intro ?_ ?_));done⟩)|refine aS ?_|fail)
 rintro _ _
 have k17:=Dw [uD,uV] 0 (by decide) (xR (sm1 _ (by simp)) (sm1 _ (by simp))) (by decide+kernel)
 have k18:=Dw [uD,AX] 11 (by decide) (xR (sm1 _ (by simp)) (sm1 _ (by simp))) (by decide+kernel)
 have k19:=Dw [zp,AY] 11 (by decide) (xR (sm1 _ (by simp)) (sm1 _ (by simp))) (by decide+kernel)
 skip
 refine rA (β:=Unit) (fun _=>{sl:=[(1,.t (fds L3)),(2,.ptr 2 0),(3,.t (.bool true)),(4,.t (.bool true)),(5,.t (.bool true)),(6,.ptr 6 0),(7,.ptr 7 0),(11,.t (.bool true))],bx:=[(2,.d 9 (sA idF)),(6,.d 15 (sD uD)),(7,.d 15 (sD uV))]}) (fun _=>True) ?_ ?_
 ·repeat' ((conv=>whnf);first|refine rE _ (k17) ?_|refine rE _ (k18) ?_|refine rE _ (k19) ?_|(exact ⟨(),trivial,by (repeat' (first|exact trivial|exact LeV.same _|exact LeB.same _|exact rfl|exact fun _ _ _=>trivial|refine And.intro ?_ ?_));done⟩)|refine aE1 ?_|refine aS ?_|fail)
 rintro _ _
 clear k17 k18 k19
 have k20:=K7
 skip
 refine rA (β:=Unit) (fun _=>{sl:=[(1,.t (fds L3)),(2,.ptr 2 0),(3,.t (.bool true)),(4,.t (.bool true)),(5,.t (.bool true)),(11,.t (.bool true)),(12,.t (.slice 5 (VL.map sP)))],bx:=[(2,.d 9 (sA idF))]}) (fun _=>True) ?_ ?_
 ·repeat' ((conv=>whnf);first|refine rE _ (k20) ?_|(exact ⟨(),trivial,by (repeat' (first|exact trivial|exact LeV.same _|exact LeB.same _|exact rfl|exact fun _ _ _=>trivial|refine And.intro ?_ ?_));done⟩)|refine aS ?_|fail)
 rintro _ _
 clear k20
 have k21:=yp 9 e0 3 7
 skip
 refine rA (β:=Unit) (fun _=>{sl:=[(1,.t (fds L3)),(2,.ptr 2 0),(3,.t (.bool true)),(4,.t (.bool true)),(5,.t (.bool true)),(11,.t (.bool true)),(12,.t (.slice 5 (VL.map sP))),(13,.ptr 13 0)],bx:=[(2,.d 9 (sA idF)),(13,.d 9 (sA wu))]}) (fun _=>True) ?_ ?_
 ·repeat' ((conv=>whnf);first|refine rE _ (k21) ?_|(exact ⟨(),trivial,by (repeat' (first|exact trivial|exact LeV.same _|exact LeB.same _|exact rfl|exact fun _ _ _=>trivial|refine And.intro ?_ ?_));done⟩)|refine aS ?_|fail)
 rintro _ _
 clear k21
 have k22:=IE 3 wu idF (by decide) rfl
 have k23:=IE 7 wu Cy (by decide) rfl
 have k24:=yp 2 e0 0 0
 have k25:=Gu idF idF true (by decide) (by decide+kernel)
 have k26:=Gu Cy Cy true (by decide) (by decide+kernel)
 skip
 refine rA (β:=Unit) (fun _=>{sl:=[(1,.t (fds L3)),(3,.t (.bool true)),(4,.t (.bool true)),(5,.t (.bool true)),(11,.t (.bool true)),(12,.t (.slice 5 (VL.map sP))),(13,.ptr 13 0),(14,.t (.bool true))],bx:=[(13,.d 9 (sA wu))]}) (fun _=>True) ?_ ?_
 ·repeat' ((conv=>whnf);first|refine rE _ (k22) ?_|refine rE _ (k23) ?_|refine rE _ (k24) ?_|refine rE _ (k25) ?_|refine rE _ (k26) ?_|(exact ⟨(),trivial,by (repeat' (first|exact trivial|exact LeV.same _|exact LeB.same _|exact rfl|exact fun _ _ _=>trivial|refine And.intro ?_ ?_));done⟩)|refine aS ?_|fail)
 rintro _ _
 clear k22 k23 k24 k25 k26
 have k27:=CF vg 5
 have k28:=zd (eqF vg 5)
 have k29:=zq tg 2
 have k30:=zq tg 1
 have k31:=zq vU 0
 have k32:=CG (fiF (eqF vg 5)) (seF tg 2)
 have k33:=Hz (seF tg 1) 5 [seF vU 0]
 have k34:=GO (yc 4 (fiF (eqF vg 5)) (seF tg 2)) (yc 4 (seF tg 1) (.mk 5 wP e0 0 [seF vU 0]))
 skip
 refine rA (β:=Unit) (fun _=>{sl:=[(1,.t (fds L3)),(3,.t (.bool true)),(4,.t (.bool true)),(5,.t (.bool true)),(11,.t (.bool true)),(12,.t (.slice 5 (VL.map sP))),(13,.ptr 13 0),(14,.t (.bool true)),(15,.ptr 15 0)],bx:=[(13,.d 9 (sA wu)),(15,.d 9 (sA xF))]}) (fun _=>True) ?_ ?_
 ·repeat' ((conv=>whnf);first|refine rE _ (k27) ?_|refine rE _ (k28) ?_|refine rE _ (k29) ?_|refine rE _ (k30) ?_|refine rE _ (k31) ?_|refine rE _ (k32) ?_|refine rE _ (k33) ?_|refine rE _ (k34) ?_|(exact ⟨(),trivial,by (repeat' (first|exact trivial|exact LeV.same _|exact LeB.same _|exact rfl|exact fun _ _ _=>trivial|refine And.intro ?_ ?_));done⟩)|refine aS ?_|fail)
 rintro _ _
 clear k27 k28 k29 k30 k31 k32 k33 k34
 have k35:=IJ xF [vg] (by decide) (by decide+kernel)
 have k36:=G7 xF [tg,vU] (by decide) (by decide+kernel)
 have k37:=IG xF [1,2] (by decide) (by decide+kernel)
 have k38:=K6 xF 65536 (by decide+kernel) (by decide+kernel)
 have k39:=EL [vg] (by decide)
 have k40:=EL [tg,vU] (by decide)
 have k41:=Gt [1,2] (by decide)
 skip
 refine rA (β:=Unit) (fun _=>{sl:=[(1,.t (fds L3)),(3,.t (.bool true)),(4,.t (.bool true)),(5,.t (.bool true)),(11,.t (.bool true)),(12,.t (.slice 5 (VL.map sP))),(13,.ptr 13 0),(14,.t (.bool true)),(16,.t (.bool true))],bx:=[(13,.d 9 (sA wu))]}) (fun _=>True) ?_ ?_
 ·repeat' ((conv=>whnf);first|refine rE _ (k35) ?_|refine rE _ (k36) ?_|refine rE _ (k37) ?_|refine rE _ (k38) ?_|refine rE _ (k39) ?_|refine rE _ (k40) ?_|refine rE _ (k41) ?_|(exact ⟨(),trivial,by (repeat' (first|exact trivial|exact LeV.same _|exact LeB.same _|exact rfl|exact fun _ _ _=>trivial|refine And.intro ?_ ?_));done⟩)|refine aE1 ?_|refine aS ?_|fail)
 rintro _ _
 clear k35 k36 k37 k38 k39 k40 k41
 have q1:=N4
 have q2:=(ID [Jx] [3,7] (by decide) (fun g hg=>by rw [List.mem_singleton.1 hg];decide) (by decide) (by decide+kernel)).lesAll (ts:=[.slice 15 [.agg (sA wu++[I 0,.str e0,.nil,.str e0,I 0,I 0])]]) ⟨Les.slice rfl (fun i x y hx hy=>by
  cases i with
  |zero=>
   cases hx;cases hy
   exact ⟨dp.append (ts:=sA wu) (us:=sA wu) ⟨rfl,by decide,fun i t u h1 h2=>by rw [h1] at h2;cases h2;exact Les.refl _⟩ (.cons (Les.refl _) rfl (.cons (Les.refl _) rfl (.cons (Les.nil 1) rfl (.cons (Les.refl _) rfl (.cons (Les.refl _) rfl (.cons (Les.refl _) rfl .nil)))))),rfl⟩
  |succ i=>cases hx),trivial⟩
 have q3:=Gt [3,7] (by decide)
 dsimp only
 refine JJ ?_
 iterate 17 (refine ME (.t (.bool true)) ?_ ?_; ·(conv=>whnf);rfl)
 repeat' ((conv=>whnf);first|exact trivial|refine rE _ (q1) ?_|refine rE _ (q2) ?_|refine rE _ (q3) ?_|refine rb1 ?_|refine aS ?_|fail)
end Go.TY
end
section
namespace Go.TY
open Go Go.DL Go.Proofs
noncomputable def c7:aY:=(.seq (.region [oo 6 (.box 5 (tm 2)),oo 7 (.box 5 (tm 3)),oo 8 (.mov kF)] []) (.seq (.region [oo 11 (.call 10 []),mv 9 11] []) (.seq (.seq (.region [mv 12 0,mv 13 1,oo 14 (.call 36 [(tm 12),(tm 13)]),oo 15 (.not (tm 14))] []) (.cond (tm 15) (.seq (.region [mv 16 9,mv 8 16] []) .ret) .skip)) (.seq (.region [mv 17 0,mv 18 1,oo 19 (.call 43 [(tm 17),(tm 18)]),mv 10 19] []) (.seq (.seq (.region [mv 20 0,mv 21 1,oo 22 (.call 38 [(tm 20),(tm 21)]),mv 23 10,oo 24 (.bin .neq (tm 22) (tm 23)),mv 25 24,oF 26 25 (.load 5 true (tm 6)),oF 27 25 (.load 5 true (tm 7)),oF 28 25 (.call 44 [(tm 26),(tm 27)]),oF 29 25 (.load 5 true (tm 6)),oF 30 25 (.load 5 true (tm 7)),oF 31 25 (.call 42 [(tm 29),(tm 30)]),oF 32 25 (.eqB true (tm 28) (tm 31)),oo 33 (.pick (tm 25) kT (tm 32))] []) (.cond (tm 33) (.seq (.region [oo 8 (.mov kF)] []) .ret) .skip)) (.seq (.region [mv 34 9,mv 35 34,mT 36 10 35,oT 37 35 (.bin .neq (tm 36) (Kc 0)),mT 38 37 35,mF 39 0 38,mF 40 1 38,oF 41 38 (.call 39 [(tm 39),(tm 40)]),mF 42 0 38,mF 43 1 38,oF 44 38 (.call 46 [(tm 42),(tm 43)]),oF 45 38 (.call 45 [(tm 41),(tm 44)]),oT 46 35 (.pick (tm 38) kT (tm 45)),oo 47 (.pick (tm 35) (tm 46) kF),mv 8 47] []) .ret))))))
theorem l7:(Tryz.f7.body.bind (bD Tryz.prog 48 []))=some c7:=by kernel_rfl
end Go.TY
end
section
namespace Go.TY
open Go Go.DL Go.MM Go.Proofs
theorem G6 {l:List RF} {gs:List RG} (h:yx l gs=true):xW gs=true∧wV l=0:=by
 unfold yx at h
 rw [Bool.and_eq_true] at h
 exact ⟨h.1,by simpa using h.2⟩
theorem GG {gs:List RG} (h:xW gs=true):gs.length≤12:=by
 unfold xW at h
 rw [Bool.and_eq_true,decide_eq_true_eq] at h
 exact h.2
theorem E7 {l:List Fd} {gs:List RG}:(uY l gs).length≤gs.length:=by
 unfold uY
 rw [List.length_map, ←yq]
 exact zZ gs
theorem FE {l:List Fd} {gs:List RG} {N:Nat} (hg: ∀g∈gs,g.st.key.length<N) (_:0<N): ∀v∈uY l gs,v.ws.length<N:=by
 intro v hv
 obtain ⟨x,hx,rfl⟩:=List.mem_map.1 hv
 obtain ⟨s0,h1,h2,h⟩:=Au (l:=l) (zr.1 hx)
 rw [h]
 obtain ⟨g,k1,k2,_⟩:=tV.1 h1
 show (sQ l s0).length<N
 unfold sQ
 rw [List.length_map, ←k2]
 exact hg g k1
theorem CL {l:List Fd} {gs:List RG} (h:wm l gs=0): ∃st,tD l gs=some st:=by
 cases hv:tD l gs with
 |some st=>exact ⟨st,rfl⟩
 |none=>exact absurd (Cj.1 h).2.2 (wG.1 (by rw [hv];rfl))
theorem law7 (l:List RF) (hl:l.length<2^60) (hn: ∀f∈l,f.name.size<2^62) (gs:List RG) (hgl:gs.length<2^39) (hg: ∀g∈gs,SmG (2^38) g) (a b:RV) (ha:a.ws.length<2^60):
  DCalls Tryz.prog 7 [vZ l,.slice 15 (gs.map sL),sP a,sP b] (.bool true):=by
 refine qO (rs:=[.tmp 8]) mixed Tryz.func7 l7 rfl rfl rfl (r:=[.bool true]) (nlZ rfl) ?_
 have h0:=FD
 have h1:=GN l hl hn gs (by omega) fun g hgm=>by have:=(hg g hgm).wt;omega
 cases hR:yx l gs with
 |false=>
  rw [hR] at h1
  repeat' ((conv=>whnf);first|exact trivial|refine rE _ (h0) ?_|refine rE _ (h1) ?_|refine rb1 ?_|refine aS ?_|fail)
 |true=>
 rw [hR] at h1
 obtain ⟨hf,hc⟩:=G6 hR
 have hlen:=GG hf
 have ck:=Cv hc
 have hok:=ck.ok
 have hfd:=ck.fds
 generalize l.map RF.fd=L at *
 rw [hfd] at h1 ⊢
 have hg2: ∀g∈gs,SmG (2^39) g:=fun g hgm=>⟨(hg g hgm).st.mono (by omega),by have:=(hg g hgm).wt;omega,fun _=>(hg g hgm).names (by omega)⟩
 have a1:=Av L hok gs (by omega) hg2
 have a2:=EG L hok gs (by omega) hg2
 have a3:=Af a b ha
 have a4:=xL a b (Or.inl ha)
 by_cases hp:wm L gs=0
 ·have hpq:=Cj.1 hp
  obtain ⟨st,hst⟩:=CL hp
  have hkeys: ∀g∈gs,g.st.key.length<2^40:=fun g hgm=>by have:=(hg g hgm).st.len;omega
  have a5:=y8 L hok gs hgl (fun g hgm=>⟨(hg g hgm).st.mono (by omega),zJ (hpq.2.1 g hgm).2⟩) st hst
  have a6:=B6 L hok gs hgl hkeys hpq.2.2
  have a7:=xo (uY L gs) (uY L gs) (Or.inl (by have:=E7 (l:=L) (gs:=gs);omega)) (Or.inl fun v hv=>by have:=FE hkeys (by decide) v hv;omega)
  rw [vH.2 rfl] at a7
  rw [hp] at a1 a2
  generalize uY L gs=vs at *
  generalize vF a b=sv at *
  generalize MM.fds L=FL at *
  clear hpq hkeys hg hg2 hf ck hok hfd hst hp
  cases sv <;> repeat' ((conv=>whnf);first|exact trivial|refine rE _ (h0) ?_|refine rE _ (h1) ?_|refine rE _ (a1) ?_|refine rE _ (a2) ?_|refine rE _ (a3) ?_|refine rE _ (a4) ?_|refine rE _ (a5) ?_|refine rE _ (a6) ?_|refine rE _ (a7) ?_|refine qy rfl ?_|refine nb_ false rfl ?_|refine rb1 ?_|refine aS ?_|fail)
 ·generalize wm L gs=pv at *
  generalize vF a b=sv at *
  generalize MM.fds L=FL at *
  clear hg hg2 hf ck hok hfd
  have hpN:pv≠0:=hp
  cases sv <;> repeat' ((conv=>whnf);first|exact trivial|refine rE _ (h0) ?_|refine rE _ (h1) ?_|refine rE _ (a1) ?_|refine rE _ (a2) ?_|refine rE _ (a3) ?_|refine rE _ (a4) ?_|refine qy rfl ?_|refine qz hpN ?_|refine nb_ false rfl ?_|refine rb1 ?_|refine aS ?_|fail)
end Go.TY
end
