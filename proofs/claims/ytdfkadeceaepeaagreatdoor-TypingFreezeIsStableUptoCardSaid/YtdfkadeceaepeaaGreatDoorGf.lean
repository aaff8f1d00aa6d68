/- Joined by program: parts of a data level over the model, of the program's functions over it, and of the statement's proof. -/
import Derived.Test.YtdfkadeceaepeaaGreatDoorGe
import Derived.Test.YtdfkadeceaepeaaGreatDoorProg
import Derived.Test.YtdfkadeceaepeaaGreatDoorGc
import Derived.KernelRfl
import Derived.Test.YtdfkadeceaepeaaGreatDoorGd
set_option maxRecDepth 100000
set_option maxHeartbeats 8000000
section
namespace Go.TY
open Go Go.DL Go.MM Go.Proofs
theorem Fc (s:RS):wA s ⟨0,e0,[],e0,0,0⟩=vB s:=by
 obtain ⟨k,v,l,f,n,m⟩:=s
 unfold wA vB
 have:vr l []=(l.length==0):=by cases l <;> rfl
 rw [this]
theorem FK (s:RS) (hl:s.key.length<2^60):DCalls Tryz.prog 104 [.agg (se s),.agg [I 0,.str e0,.nil,.str e0,I 0,I 0]] (.bool (vB s)):=by
 rw [← Fc]
 exact (zL s ⟨0,e0,[],e0,0,0⟩ hl).lesAll ⟨Les.refl _,Les.agg (.cons (Les.refl _) rfl (.cons (Les.refl _) rfl (.cons (Les.nil 1) rfl (.cons (Les.refl _) rfl (.cons (Les.refl _) rfl (.cons (Les.refl _) rfl .nil)))))),trivial⟩
theorem G0 (br e nd:Bool) (n m:Int):uD 3 br e nd n m=(e&&(decide (n≥0)&&(decide (n≤1073741824)&&(m==0)))):=by
 unfold uD uQ
 rw [if_neg (by omega),if_neg (by omega),if_pos rfl]
 cases e <;> cases h1:decide (0≤n) <;> cases h2:decide (n≤1073741824) <;> cases h3:(m==0) <;> simp_all
theorem G1 (br e nd:Bool) (n m:Int):uD 4 br e nd n m=(nd&&(decide (n≥0)&&(decide (n≤m)&&decide (m≤65535)))):=by
 unfold uD tO
 rw [if_neg (by omega),if_neg (by omega),if_neg (by omega),if_pos rfl]
 cases nd
 ·rfl
 ·rw [Bool.eq_iff_iff]
  simp only [Bool.true_and,Bool.and_eq_true,decide_eq_true_eq]
  omega
theorem G2 (br e nd:Bool) (n m:Int):uD 6 br e nd n m=(e&&(decide (n≥1)&&(decide (n≤65535)&&(decide (m≥1)&&decide (m≤1073741824))))):=by
 unfold uD tO uQ
 rw [if_neg (by omega),if_neg (by omega),if_neg (by omega),if_neg (by omega),if_neg (by omega),if_pos rfl]
 cases e
 ·rfl
 ·rw [Bool.eq_iff_iff]
  simp only [Bool.true_and,Bool.and_eq_true,decide_eq_true_eq]
  omega
theorem Bm (s:RS) (hv:s.var.size<2^62) (hf:s.field.size<2^62) (hk: ∀k∈s.key,k.size<2^62) (hl:s.key.length<2^60):DCalls Tryz.prog 127 [.agg (se s)] (.bool (okS s)):=by
 refine qF (rs:=[.tmp 2]) mixed Tryz.func127 Nq rfl rfl rfl (r:=[.bool _]) (nlZ rfl) ?_
 have h0:=FK s hl
 unfold okS
 generalize vB s=z0 at *
 obtain ⟨k,v,l,f,n,m⟩:=s
 dsimp only at hv hf hk hl ⊢
 cases z0 with
 |true=>repeat' ((conv=>whnf);first|exact trivial|refine rp _ (h0) ?_|refine rb1 ?_|refine aS ?_|fail)
 |false=>
 rw [Bool.false_or]
 have h1:=t108 v hv
 have h3:=t104 f hf
 have hE:=su f e0
 have hlen:((l.map T.str).length:Int)=(l.length:Int):=by rw [List.length_map]
 generalize uz v=pv at *
 generalize sN f=nd at *
 generalize sa f e0=e at *
 repeat' ((conv=>whnf);first|refine rp _ (h0) ?_|refine rp _ (h1) ?_|refine nT_ ?_|refine aS ?_|fail)
 refine rh (β:=Unit) (fun _=>{sl:=[(1,.ptr 1 0),(29,.t (.bool (!(pv&&decide (1≤l.length)&&decide (l.length≤4)))))],bx:=[(1,.d 6 (se ⟨k,v,l,f,n,m⟩))]}) (fun _=>True) ?_ ?_
 ·by_cases c0:1≤l.length
  ·have e0': ¬((l.map T.str).length:Int)<1:=by omega
   rw [decide_eq_true c0,Bool.and_true]
   by_cases c4:l.length≤4
   ·have e4: ¬((l.map T.str).length:Int)>4:=by omega
    rw [decide_eq_true c4,Bool.and_true]
    cases pv <;> repeat' ((conv=>whnf);first|refine qe e0' ?_|refine qe e4 ?_|(exact ⟨(),trivial,by (repeat' (first|exact trivial|exact LeV.same _|exact LeB.same _|exact rfl|exact fun _ _ _=>trivial|refine And.intro ?_ ?_));done⟩)|refine nT_ ?_|refine aS ?_|fail)
   ·have e4:((l.map T.str).length:Int)>4:=by omega
    rw [decide_eq_false c4,Bool.and_false]
    cases pv <;> repeat' ((conv=>whnf);first|refine qe e0' ?_|refine qg e4 ?_|(exact ⟨(),trivial,by (repeat' (first|exact trivial|exact LeV.same _|exact LeB.same _|exact rfl|exact fun _ _ _=>trivial|refine And.intro ?_ ?_));done⟩)|refine nT_ ?_|refine aS ?_|fail)
  ·have e0':((l.map T.str).length:Int)<1:=by omega
   rw [decide_eq_false c0,Bool.and_false,Bool.false_and]
   cases pv <;> repeat' ((conv=>whnf);first|refine qg e0' ?_|(exact ⟨(),trivial,by (repeat' (first|exact trivial|exact LeV.same _|exact LeB.same _|exact rfl|exact fun _ _ _=>trivial|refine And.intro ?_ ?_));done⟩)|refine nT_ ?_|refine aS ?_|fail)
 rintro _ _
 generalize (pv&&decide (1≤l.length)&&decide (l.length≤4))=g at *
 cases g with
 |false=>repeat' ((conv=>whnf);first|exact trivial|refine rb0 ?_|fail)
 |true=>
 rw [Bool.true_and]
 skip
 refine qQ 0 (α:=Nat) (β:=Unit) (fun i=>{sl:=[(1,.ptr 1 0),(5,.t (I i))],bx:=[(1,.d 6 (se ⟨k,v,l,f,n,m⟩))]})
  (fun i=>i≤l.length∧ ∀j (h:j<l.length),j<i→sN l[j]=true) (fun i=>l.length - i)
  (fun _=>{sl:=[(1,.ptr 1 0)],bx:=[(1,.d 6 (se ⟨k,v,l,f,n,m⟩))]}) (fun _=>l.all sN=true) 0 (by simp) ?_ ?_ ?_
 ·repeat' (first|exact trivial|exact LeV.same _|exact LeB.same _|exact rfl|exact fun _ _ _=>trivial|refine And.intro ?_ ?_)
 ·rintro i ⟨hi,hp⟩
  rcases Nat.lt_or_ge i l.length with h|h
  ·have hlt:(i:Int)<((l.map T.str).length:Int):=by omega
   have hn:=t104 l[i] (hk _ (List.getElem_mem h))
   have hx:(l.map T.str)[i]?.getD .nil= .str l[i]:=by simp [h]
   cases hb:sN l[i] with
   |true=>
    rw [hb] at hn
    repeat' ((conv=>whnf);first|refine qg hlt ?_|(refine nv_ (.str l[i]) (by first|exact hx|fail) ?_)|refine rp _ (hn) ?_|refine nT_ ?_|refine aS ?_|fail)
    refine ⟨i+1,⟨h,fun j hj hlt=>?_⟩,by omega,?_⟩
    ·rcases Nat.lt_or_ge j i with h4|h4
     ·exact hp j hj h4
     ·obtain rfl:j=i:=by omega
      exact hb
    ·repeat' (first|exact trivial|exact LeV.same _|exact LeB.same _|exact rfl|exact fun _ _ _=>trivial|exact lI|refine And.intro ?_ ?_)
   |false=>
    rw [hb] at hn
    have e:l.all sN=false:=by
     rw [List.all_eq_false]
     exact ⟨l[i],List.getElem_mem h,by rw [hb];simp⟩
    rw [e]
    clear e
    repeat' ((conv=>whnf);first|exact trivial|refine qg hlt ?_|(refine nv_ (.str l[i]) (by first|exact hx|fail) ?_)|refine rp _ (hn) ?_|refine nT_ ?_|refine rb0 ?_|refine aS ?_|fail)
  ·have hlt: ¬(i:Int)<((l.map T.str).length:Int):=by omega
   have hall:l.all sN=true:=by
    rw [List.all_eq_true]
    intro x hx
    obtain ⟨j,hj,rfl⟩:=List.getElem_of_mem hx
    exact hp j hj (by omega)
   repeat' ((conv=>whnf);first|refine qe hlt ?_|(exact ⟨(),hall,by (repeat' (first|exact trivial|exact LeV.same _|exact LeB.same _|exact rfl|exact fun _ _ _=>trivial|refine And.intro ?_ ?_));done⟩)|refine nT_ ?_|refine aS ?_|fail)
 rintro _ hall
 rw [hall,Bool.true_and]
 clear hall
 repeat' ((conv=>whnf);first|refine rp _ (h3) ?_|refine nT_ ?_|refine aS ?_|fail)
 refine rh (β:=Unit) (fun _=>{sl:=[(1,.ptr 1 0),(7,.t (.bool nd)),(8,.t (.bool ((n==0)&&(m==0))))],bx:=[(1,.d 6 (se ⟨k,v,l,f,n,m⟩))]}) (fun _=>True) ?_ ?_
 ·by_cases hn:n=0
  ·by_cases hm:m=0
   ·rw [show ((n==0)&&(m==0))=true by simp [hn,hm]]
    repeat' ((conv=>whnf);first|refine qi hn ?_|refine qi hm ?_|(exact ⟨(),trivial,by (repeat' (first|exact trivial|exact LeV.same _|exact LeB.same _|exact rfl|exact fun _ _ _=>trivial|refine And.intro ?_ ?_));done⟩)|refine nT_ ?_|refine aS ?_|fail)
   ·rw [show ((n==0)&&(m==0))=false by simp [hm]]
    repeat' ((conv=>whnf);first|refine qi hn ?_|refine qh hm ?_|(exact ⟨(),trivial,by (repeat' (first|exact trivial|exact LeV.same _|exact LeB.same _|exact rfl|exact fun _ _ _=>trivial|refine And.intro ?_ ?_));done⟩)|refine nT_ ?_|refine aS ?_|fail)
  ·rw [show ((n==0)&&(m==0))=false by simp [hn]]
   repeat' ((conv=>whnf);first|refine qh hn ?_|(exact ⟨(),trivial,by (repeat' (first|exact trivial|exact LeV.same _|exact LeB.same _|exact rfl|exact fun _ _ _=>trivial|refine And.intro ?_ ?_));done⟩)|refine nT_ ?_|refine aS ?_|fail)
 rintro _ _
 clear h0 h1 h3
 generalize ((n==0)&&(m==0))=br at *
 by_cases k1:k=1
 ·subst k1
  unfold uD
  rw [if_pos rfl]
  cases br <;> cases e <;> cases nd <;> repeat' ((conv=>whnf);first|exact trivial|refine nb_ _ hE ?_|refine nT_ ?_|refine aE1 ?_|refine rb1 ?_|refine rb0 ?_|refine aS ?_|fail)
 by_cases k2:k=2
 ·subst k2
  unfold uD
  rw [if_neg (by omega),if_pos rfl]
  cases br <;> cases e <;> repeat' ((conv=>whnf);first|exact trivial|refine nb_ _ hE ?_|refine nT_ ?_|refine aE1 ?_|refine aE0 ?_|refine rb1 ?_|refine rb0 ?_|refine aS ?_|fail)
 by_cases k3:k=3
 ·subst k3
  rw [G0]
  by_cases q1:n≥0
  ·by_cases q2:n≤1073741824
   ·rw [decide_eq_true q1,decide_eq_true q2,Bool.true_and,Bool.true_and]
    by_cases q3:m=0
    ·rw [show (m==0)=true by simp [q3]]
     cases e <;> repeat' ((conv=>whnf);first|exact trivial|refine nb_ _ hE ?_|refine qg q1 ?_|refine qg q2 ?_|refine qi q3 ?_|refine nT_ ?_|refine aE1 ?_|refine aE0 ?_|refine rb1 ?_|refine rb0 ?_|refine aS ?_|fail)
    ·rw [show (m==0)=false by simp [q3]]
     cases e <;> repeat' ((conv=>whnf);first|exact trivial|refine nb_ _ hE ?_|refine qg q1 ?_|refine qg q2 ?_|refine qh q3 ?_|refine nT_ ?_|refine aE1 ?_|refine aE0 ?_|refine rb0 ?_|refine aS ?_|fail)
   ·rw [decide_eq_true q1,decide_eq_false q2,Bool.true_and,Bool.false_and]
    cases e <;> repeat' ((conv=>whnf);first|exact trivial|refine nb_ _ hE ?_|refine qg q1 ?_|refine qe q2 ?_|refine nT_ ?_|refine aE1 ?_|refine aE0 ?_|refine rb0 ?_|refine aS ?_|fail)
  ·rw [decide_eq_false q1,Bool.false_and]
   cases e <;> repeat' ((conv=>whnf);first|exact trivial|refine nb_ _ hE ?_|refine qe q1 ?_|refine nT_ ?_|refine aE1 ?_|refine aE0 ?_|refine rb0 ?_|refine aS ?_|fail)
 by_cases k4:k=4
 ·subst k4
  rw [G1]
  by_cases q1:n≥0
  ·by_cases q2:n≤m
   ·rw [decide_eq_true q1,decide_eq_true q2,Bool.true_and,Bool.true_and]
    by_cases q3:m≤65535
    ·rw [decide_eq_true q3]
     cases nd <;> repeat' ((conv=>whnf);first|exact trivial|refine qg q1 ?_|refine qg q2 ?_|refine qg q3 ?_|refine nT_ ?_|refine aE1 ?_|refine aE0 ?_|refine rb1 ?_|refine rb0 ?_|refine aS ?_|fail)
    ·rw [decide_eq_false q3]
     cases nd <;> repeat' ((conv=>whnf);first|exact trivial|refine qg q1 ?_|refine qg q2 ?_|refine qe q3 ?_|refine nT_ ?_|refine aE1 ?_|refine aE0 ?_|refine rb0 ?_|refine aS ?_|fail)
   ·rw [decide_eq_true q1,decide_eq_false q2,Bool.true_and,Bool.false_and]
    cases nd <;> repeat' ((conv=>whnf);first|exact trivial|refine qg q1 ?_|refine qe q2 ?_|refine nT_ ?_|refine aE1 ?_|refine aE0 ?_|refine rb0 ?_|refine aS ?_|fail)
  ·rw [decide_eq_false q1,Bool.false_and]
   cases nd <;> repeat' ((conv=>whnf);first|exact trivial|refine qe q1 ?_|refine nT_ ?_|refine aE1 ?_|refine aE0 ?_|refine rb0 ?_|refine aS ?_|fail)
 by_cases k5:k=5
 ·subst k5
  unfold uD
  rw [if_neg (by omega),if_neg (by omega),if_neg (by omega),if_neg (by omega),if_pos rfl]
  cases br <;> cases nd <;> repeat' ((conv=>whnf);first|exact trivial|refine nT_ ?_|refine aE1 ?_|refine aE0 ?_|refine rb1 ?_|refine rb0 ?_|refine aS ?_|fail)
 by_cases k6:k=6
 ·subst k6
  rw [G2]
  by_cases q1:n≥1
  ·by_cases q2:n≤65535
   ·rw [decide_eq_true q1,decide_eq_true q2,Bool.true_and,Bool.true_and]
    by_cases q3:m≥1
    ·rw [decide_eq_true q3,Bool.true_and]
     by_cases q4:m≤1073741824
     ·rw [decide_eq_true q4]
      cases e <;> repeat' ((conv=>whnf);first|exact trivial|refine nb_ _ hE ?_|refine qg q1 ?_|refine qg q2 ?_|refine qg q3 ?_|refine qg q4 ?_|refine nT_ ?_|refine aE1 ?_|refine aE0 ?_|refine rb1 ?_|refine rb0 ?_|refine aS ?_|fail)
     ·rw [decide_eq_false q4]
      cases e <;> repeat' ((conv=>whnf);first|exact trivial|refine nb_ _ hE ?_|refine qg q1 ?_|refine qg q2 ?_|refine qg q3 ?_|refine qe q4 ?_|refine nT_ ?_|refine aE1 ?_|refine aE0 ?_|refine rb0 ?_|refine aS ?_|fail)
    ·rw [decide_eq_false q3,Bool.false_and]
     cases e <;> repeat' ((conv=>whnf);first|exact trivial|refine nb_ _ hE ?_|refine qg q1 ?_|refine qg q2 ?_|refine qe q3 ?_|refine nT_ ?_|refine aE1 ?_|refine aE0 ?_|refine rb0 ?_|refine aS ?_|fail)
   ·rw [decide_eq_true q1,decide_eq_false q2,Bool.true_and,Bool.false_and]
    cases e <;> repeat' ((conv=>whnf);first|exact trivial|refine nb_ _ hE ?_|refine qg q1 ?_|refine qe q2 ?_|refine nT_ ?_|refine aE1 ?_|refine aE0 ?_|refine rb0 ?_|refine aS ?_|fail)
  ·rw [decide_eq_false q1,Bool.false_and]
   cases e <;> repeat' ((conv=>whnf);first|exact trivial|refine nb_ _ hE ?_|refine qe q1 ?_|refine nT_ ?_|refine aE1 ?_|refine aE0 ?_|refine rb0 ?_|refine aS ?_|fail)
 unfold uD
 rw [if_neg k1,if_neg k2,if_neg k3,if_neg k4,if_neg k5,if_neg k6]
 repeat' ((conv=>whnf);first|exact trivial|refine nT_ ?_|refine aE0 ?_|refine rb0 ?_|refine aS ?_|fail)
theorem yZ (s:RS) (h:SmS (2^60) s):DCalls Tryz.prog 83 [.agg (se s)] (I (sV s)):=by
 refine qF (rs:=[.tmp 2]) mixed Tryz.func83 l83 rfl rfl rfl (r:=[.int _ _]) (nlZ rfl) ?_
 have h1:=Bm s (by have:=h.var;omega) (by have:=h.field;omega) (fun k hk=>by have:=h.keys k hk;omega) h.len
 unfold sV
 generalize okS s=b at *
 cases b <;> repeat' ((conv=>whnf);first|exact trivial|refine rp _ (h1) ?_|refine rix ?_|(refine And.intro (by first|(rfl;done)|fail) ?_)|fail)
theorem Aj (gs:List RG) (hl:gs.length<2^60) (hg: ∀g∈gs,SmG (2^59) g):DCalls Tryz.prog 47 [.slice 15 (gs.map sg)] (I (tZ gs)):=by
 refine qF (rs:=[.tmp 2]) mixed Tryz.func47 l47 rfl rfl rfl (r:=[.int _ _]) (nlZ rfl) ?_
 have hlen:((gs.map sg).length:Int)=(gs.length:Int):=by rw [List.length_map]
 unfold tZ
 by_cases h8:gs.length>8
 ·rw [if_pos h8]
  have e8:((gs.map sg).length:Int)>8:=by omega
  repeat' ((conv=>whnf);first|exact trivial|refine qg e8 ?_|refine rix ?_|refine aS ?_|fail)
 rw [if_neg h8]
 have e8: ¬((gs.map sg).length:Int)>8:=by omega
 repeat' ((conv=>whnf);first|refine qe e8 ?_|refine aS ?_|fail)
 refine q7 (α:=Nat) (fun i=>{sl:=[(0,.t (.slice 15 (gs.map sg))),(3,.t (I i))],bx:=[]})
  (fun i=>i≤gs.length∧ ∀j (h:j<gs.length),j<i→sO gs[j].pol=0∧sV gs[j].st=0) (fun i=>gs.length - i) 0 (by simp) ?_ ?_
 ·repeat' (first|exact trivial|exact LeV.same _|exact rfl|exact fun _ _ _=>trivial|refine And.intro ?_ ?_)
 rintro i ⟨hi,hp⟩
 rcases Nat.lt_or_ge i gs.length with h|h
 ·have hlt:(i:Int)<((gs.map sg).length:Int):=by omega
  have hm:=hg gs[i] (List.getElem_mem h)
  have h1:=t63 gs[i].pol (by have:=hm.wt;omega) (hm.names (by omega))
  have h2:=yZ gs[i].st (hm.st.mono (by omega))
  have hx:(gs.map sg)[i]?.getD .nil= .agg (sc gs[i]):=by simp [h];rfl
  have hc1:=vL gs[i]
  have hc2:=vF gs[i]
  by_cases c1:sO gs[i].pol=0
  ·rw [c1] at h1
   by_cases c2:sV gs[i].st=0
   ·rw [c2] at h2
    repeat' ((conv=>whnf);first|refine qg hlt ?_|(refine nv_ (.agg (sc gs[i])) (by first|exact hx|fail) ?_)|(refine nv_ (.agg (r9 gs[i].pol)) (by first|exact congrArg T.agg hc1|fail) ?_)|(refine nv_ (.agg (se gs[i].st)) (by first|exact congrArg T.agg hc2|fail) ?_)|refine rp _ (h1) ?_|refine rp _ (h2) ?_|refine aN0 ?_|(refine And.intro (by first|exact uV _|exact wE _|exact vk _|fail) ?_)|refine aS ?_|fail)
    refine ⟨i+1,⟨h,fun j hj hlt=>?_⟩,by omega,?_⟩
    ·rcases Nat.lt_or_ge j i with h4|h4
     ·exact hp j hj h4
     ·obtain rfl:j=i:=by omega
      exact ⟨c1,c2⟩
    ·repeat' (first|exact trivial|exact LeV.same _|exact rfl|exact fun _ _ _=>trivial|exact lI|refine And.intro ?_ ?_)
   ·have e:=zA (f:=fun g:RG=>sO g.pol) (g:=fun g=>sV g.st) h hp c1 c2
    rw [e]
    clear e
    dsimp only
    generalize sV gs[i].st=x at *
    repeat' ((conv=>whnf);first|exact trivial|refine qg hlt ?_|(refine nv_ (.agg (sc gs[i])) (by first|exact hx|fail) ?_)|(refine nv_ (.agg (r9 gs[i].pol)) (by first|exact congrArg T.agg hc1|fail) ?_)|(refine nv_ (.agg (se gs[i].st)) (by first|exact congrArg T.agg hc2|fail) ?_)|refine rp _ (h1) ?_|refine rp _ (h2) ?_|refine qm c2 ?_|refine aN0 ?_|refine rix ?_|(refine And.intro (by first|exact uV _|exact wE _|exact vk _|fail) ?_)|refine aS ?_|fail)
  ·have e:=zz (f:=fun g:RG=>sO g.pol) (g:=fun g=>sV g.st) h hp c1
   rw [e]
   clear e
   dsimp only
   generalize sO gs[i].pol=x at *
   repeat' ((conv=>whnf);first|exact trivial|refine qg hlt ?_|(refine nv_ (.agg (sc gs[i])) (by first|exact hx|fail) ?_)|(refine nv_ (.agg (r9 gs[i].pol)) (by first|exact congrArg T.agg hc1|fail) ?_)|refine rp _ (h1) ?_|refine qm c1 ?_|refine rix ?_|(refine And.intro (by first|exact uV _|exact wE _|exact vk _|fail) ?_)|refine aS ?_|fail)
 ·have hlt: ¬(i:Int)<((gs.map sg).length:Int):=by omega
  have e:=yB (f:=fun g:RG=>sO g.pol) (g:=fun g=>sV g.st) (xs:=gs) fun j hj=>hp j hj (by omega)
  rw [e]
  repeat' ((conv=>whnf);first|exact trivial|refine qe hlt ?_|refine rix ?_|refine aS ?_|fail)
def vY (g:RG):Bool:=CU g.pol&&decide (g.st.key.length≤20)
def xM (gs:List RG):Bool:=gs.all vY&&decide (gs.length≤12)
theorem HO (g:RG):(sc g)[11]?.getD .nil= .slice 1 (g.st.key.map .str):=by
 unfold sc
 rw [List.getElem?_append_right (by rw [sd];omega),sd]
 rfl
theorem Bl (gs:List RG) (hl:gs.length<2^60) (hg: ∀g∈gs,g.pol.wt<2^60):DCalls Tryz.prog 37 [.slice 15 (gs.map sg)] (.bool (xM gs)):=by
 refine qF (rs:=[.tmp 2]) mixed Tryz.func37 l37 rfl rfl rfl (r:=[.bool _]) (nlZ rfl) ?_
 have hlen:((gs.map sg).length:Int)=(gs.length:Int):=by rw [List.length_map]
 skip
 refine qQ 0 (α:=Nat) (β:=Unit) (fun i=>{sl:=[(0,.t (.slice 15 (gs.map sg))),(3,.t (I i))],bx:=[]})
  (fun i=>i≤gs.length∧i≤12∧ ∀j (h:j<gs.length),j<i→vY gs[j]=true) (fun i=>gs.length - i)
  (fun _=>{sl:=[(0,.t (.slice 15 (gs.map sg)))],bx:=[]}) (fun _=>gs.length≤12→gs.all vY=true) 0 (by simp) ?_ ?_ ?_
 ·repeat' (first|exact trivial|exact LeV.same _|exact rfl|exact fun _ _ _=>trivial|refine And.intro ?_ ?_)
 ·rintro i ⟨hi,hi2,hp⟩
  have out:(¬ i<gs.length∨ ¬i<12)→gs.length≤12→gs.all vY=true:=fun hc h12=>by
   rw [List.all_eq_true]
   intro x hx
   obtain ⟨j,hj,rfl⟩:=List.getElem_of_mem hx
   exact hp j hj (by omega)
  rcases Nat.lt_or_ge i gs.length with h|h
  ·have hlt:(i:Int)<((gs.map sg).length:Int):=by omega
   rcases Nat.lt_or_ge i 12 with h12|h12
   ·have hlt2:(i:Int)<12:=by omega
    have h1:=Ce gs[i].pol (hg gs[i] (List.getElem_mem h))
    have hx:(gs.map sg)[i]?.getD .nil= .agg (sc gs[i]):=by simp [h];rfl
    have hc1:=vL gs[i]
    have hc2:=HO gs[i]
    have hkl:((gs[i].st.key.map T.str).length:Int)=gs[i].st.key.length:=by rw [List.length_map]
    have bad:vY gs[i]=false→xM gs=false:=fun hb=>by
     unfold xM
     rw [show gs.all vY=false from List.all_eq_false.2 ⟨gs[i],List.getElem_mem h,by rw [hb];simp⟩,Bool.false_and]
    clear out
    cases hb:CU gs[i].pol with
    |false=>
     rw [hb] at h1
     rw [bad (by unfold vY;rw [hb];rfl)]
     clear bad
     repeat' ((conv=>whnf);first|exact trivial|refine qg hlt ?_|refine qg hlt2 ?_|(refine nv_ (.agg (sc gs[i])) (by first|exact hx|fail) ?_)|(refine nv_ (.agg (r9 gs[i].pol)) (by first|exact congrArg T.agg hc1|fail) ?_)|refine rp _ (h1) ?_|refine rb0 ?_|(refine And.intro (by first|exact uV _|exact wE _|exact vk _|fail) ?_)|refine aS ?_|fail)
    |true=>
     rw [hb] at h1
     by_cases c2:gs[i].st.key.length≤20
     ·have q: ¬((gs[i].st.key.map T.str).length:Int)>20:=by omega
      have good:vY gs[i]=true:=by unfold vY;rw [hb,decide_eq_true c2];rfl
      clear bad
      repeat' ((conv=>whnf);first|refine qg hlt ?_|refine qg hlt2 ?_|refine qe q ?_|(refine nv_ (.agg (sc gs[i])) (by first|exact hx|fail) ?_)|(refine nv_ (.agg (r9 gs[i].pol)) (by first|exact congrArg T.agg hc1|fail) ?_)|(refine nv_ (.slice 1 (gs[i].st.key.map .str)) (by first|exact hc2|fail) ?_)|refine rp _ (h1) ?_|(refine And.intro (by first|exact uV _|exact wE _|exact F3 _|fail) ?_)|refine aS ?_|fail)
      refine ⟨i+1,⟨h,by omega,fun j hj hlt=>?_⟩,by omega,?_⟩
      ·rcases Nat.lt_or_ge j i with h4|h4
       ·exact hp j hj h4
       ·obtain rfl:j=i:=by omega
        exact good
      ·repeat' (first|exact trivial|exact LeV.same _|exact rfl|exact fun _ _ _=>trivial|exact lI|refine And.intro ?_ ?_)
     ·have q:((gs[i].st.key.map T.str).length:Int)>20:=by omega
      rw [bad (by unfold vY;rw [decide_eq_false c2,Bool.and_false])]
      clear bad
      repeat' ((conv=>whnf);first|exact trivial|refine qg hlt ?_|refine qg hlt2 ?_|refine qg q ?_|(refine nv_ (.agg (sc gs[i])) (by first|exact hx|fail) ?_)|(refine nv_ (.agg (r9 gs[i].pol)) (by first|exact congrArg T.agg hc1|fail) ?_)|(refine nv_ (.slice 1 (gs[i].st.key.map .str)) (by first|exact hc2|fail) ?_)|refine rp _ (h1) ?_|refine rb0 ?_|(refine And.intro (by first|exact uV _|exact wE _|exact F3 _|fail) ?_)|refine aS ?_|fail)
   ·have hlt2: ¬(i:Int)<12:=by omega
    have o:=out (Or.inr (by omega))
    repeat' ((conv=>whnf);first|refine qg hlt ?_|refine qe hlt2 ?_|(exact ⟨(),o,by (repeat' (first|exact trivial|exact LeV.same _|exact rfl|exact fun _ _ _=>trivial|refine And.intro ?_ ?_));done⟩)|refine aS ?_|fail)
  ·have hlt: ¬(i:Int)<((gs.map sg).length:Int):=by omega
   have o:=out (Or.inl (by omega))
   repeat' ((conv=>whnf);first|refine qe hlt ?_|(exact ⟨(),o,by (repeat' (first|exact trivial|exact LeV.same _|exact rfl|exact fun _ _ _=>trivial|refine And.intro ?_ ?_));done⟩)|refine aS ?_|fail)
 ·rintro _ o
  unfold xM
  by_cases c:gs.length≤12
  ·have q:((gs.map sg).length:Int)≤12:=by omega
   rw [o c,decide_eq_true c]
   repeat' ((conv=>whnf);first|exact trivial|refine qg q ?_|refine rb1 ?_|refine aS ?_|fail)
  ·have q: ¬((gs.map sg).length:Int)≤12:=by omega
   rw [decide_eq_false c,Bool.and_false]
   repeat' ((conv=>whnf);first|exact trivial|refine qe q ?_|refine rb0 ?_|refine aS ?_|fail)
end Go.TY
end
section
namespace Go.TY
open Go Go.DL Go.MM Go.Proofs
section
variable {α:Type} [DecidableEq α] {lt:α→α→Bool}
end
end Go.TY
end
noncomputable section
namespace Go.TY
open Go Go.DL Go.Proofs
def c49:aV:=(.seq (.region [oo 2 (.box 9 (tm 0)),oo 3 (.box 1 (tm 1)),⟨some 4,.alloc [Z0,Z0,S0,Z0,Z0,.nil,S0,Z0,.nil],none,[]⟩] []) (.seq (.region [oo 5 (.alloc [.nilfn])] []) (.seq (.cut (.region [oo 6 (.mkfn 103 [(tm 3),(tm 5)]),o0 (.store 1 (tm 5) (tm 6))] [])) (.seq (.region [ld 7 5,lA 8 9 2,oo 9 (.bX (tm 7) [tm 8]),o0 (.store 9 (tm 4) (tm 9))] []) .ret))))
theorem l49:(Tryz.f49.body.bind (bz Tryz.prog 10 [6000002]))=some c49:=by kernel_rfl
def Ls:aV:=(.seq (.region [oo 3 (.box 9 (tm 0)),⟨some 4,.alloc [Z0,Z0,S0,Z0,Z0,.nil,S0,Z0,.nil],none,[]⟩] []) (.seq (.region [fa 8 1 3,lA 9 5 8,ld 10 1,oo 11 (.call 52 [(tm 9),(tm 10)]),fa 12 1 3,o0 (.store 5 (tm 12) (tm 11))] []) (.seq (.region [oo 5 (.mov (.const .nil))] []) (.seq (.seq (.region [fa 13 8 3,ld 14 13,ln 15 14,oo 16 (.mov (Kc 0))] []) (.block 0 (.loop (.seq (.region [oo 17 (.bin .lss (tm 16) (tm 15))] []) (.seq (.cond (tm 17) .skip (.exit 0)) (.seq (.block 1 (.seq (.region [ix 18 9 14 16,lA 19 9 18,⟨some 7,.alloc [Z0,Z0,S0,Z0,Z0,.nil,S0,Z0,.nil],none,[]⟩,o0 (.store 9 (tm 7) (tm 19))] []) (.region [mv 20 5,ld 21 2,lA 22 9 7,oo 23 (.bX (tm 21) [tm 22]),⟨some 24,.buildS 28 9 1 [Z0,Z0,S0,Z0,Z0,.nil,S0,Z0,.nil] [(0,(tm 23))],none,[]⟩,oo 25 (.append 26 28 9 120 (tm 20) (tm 24)),mv 5 25] []))) (.region [oo 26 (.bin .add (tm 16) (Kc 1)),mv 16 26] []))))))) (.seq (.region [mv 27 5,fa 28 8 3,o0 (.store 1 (tm 28) (tm 27))] []) (.seq (.region [lA 29 9 3,o0 (.store 9 (tm 4) (tm 29))] []) .ret))))))
theorem MX:(Tryz.f103.body.bind (bz Tryz.prog 30 []))=some Ls:=by kernel_rfl
def c52:aV:=(.seq (.region [oo 2 (.box 5 (tm 0)),⟨some 4,.alloc [Z0,S0,Z0,Z0,.nil],none,[]⟩] []) (.seq (.seq (.region [fa 8 0 2,ld 9 8,oo 10 (.bin .eql (tm 9) (Kc 9))] []) (.cond (tm 10) (.seq (.seq (.region [fa 11 2 2,ld 12 11,mv 13 1,oo 14 (.bin .leq (tm 12) (tm 13)),mv 15 14,mT 16 1 15,oT 17 15 (.offA 3 (tm 2)),oT 18 15 (.load 1 false (tm 17)),oT 19 15 (.bin .lss (tm 16) (tm 18)),oo 20 (.pick (tm 15) (tm 19) kF)] []) (.cond (tm 20) (.seq (.region [⟨some 21,.build [Z0,S0,Z0,Z0,.nil] [(0,1,(Kc 1))],none,[]⟩,o0 (.store 5 (tm 4) (tm 21))] []) .ret) .skip)) (.seq (.region [⟨some 22,.build [Z0,S0,Z0,Z0,.nil] [(0,1,(Kc 2))],none,[]⟩,o0 (.store 5 (tm 4) (tm 22))] []) .ret)) .skip)) (.seq (.region [oo 5 (.mov (.const .nil))] []) (.seq (.seq (.region [fa 23 4 2,ld 24 23,ln 25 24,oo 26 (.mov (Kc 0))] []) (.block 0 (.loop (.seq (.region [oo 27 (.bin .lss (tm 26) (tm 25))] []) (.seq (.cond (tm 27) .skip (.exit 0)) (.seq (.block 1 (.seq (.region [ix 28 5 24 26,lA 29 5 28,⟨some 7,.alloc [Z0,S0,Z0,Z0,.nil],none,[]⟩,o0 (.store 5 (tm 7) (tm 29))] []) (.region [mv 30 5,lA 31 5 7,mv 32 1,oo 33 (.call 52 [(tm 31),(tm 32)]),⟨some 34,.buildS 25 5 1 [Z0,S0,Z0,Z0,.nil] [(0,(tm 33))],none,[]⟩,oo 35 (.append 23 25 5 64 (tm 30) (tm 34)),mv 5 35] []))) (.region [oo 36 (.bin .add (tm 26) (Kc 1)),mv 26 36] []))))))) (.seq (.region [mv 37 5,fa 38 4 2,o0 (.store 1 (tm 38) (tm 37))] []) (.seq (.region [lA 39 5 2,o0 (.store 5 (tm 4) (tm 39))] []) .ret))))))
theorem l52:(Tryz.f52.body.bind (bz Tryz.prog 40 []))=some c52:=by kernel_rfl
end Go.TY
end
section
namespace Go.TY
open Go Go.DL Go.MM Go.Proofs
inductive LeC:List T→List T→Prop
 |nil:LeC [] []
 |same (t:T) {ts us:List T} (h:LeC ts us):LeC (t::ts) (t::us)
 |none (n:Nat) {ts us:List T} (h:LeC ts us):LeC (.nil::ts) (.slice n []::us)
theorem LeC.len: ∀{ts us:List T},LeC ts us→ts.length=us.length
 |_,_,.nil=>rfl
 |_,_,.same _ h=>congrArg (· +1) h.len
 |_,_,.none _ h=>congrArg (· +1) h.len
theorem LeC.get: ∀{ts us:List T},LeC ts us→ ∀{i:Nat} {u:T},us[i]? =some u→ts[i]? =some u∨ ∃n,ts[i]? =some .nil∧u= .slice n []
 |_,_,.nil,i,u,h=>by simp at h
 |_,_,.same t h,i,u,hu=>by
  cases i with
  |zero=>exact .inl hu
  |succ i=>simpa using h.get (by simpa using hu)
 |_,_,.none n h,i,u,hu=>by
  cases i with
  |zero=>simp at hu;exact .inr ⟨n,rfl,hu.symm⟩
  |succ i=>simpa using h.get (by simpa using hu)
theorem Rep.leC {S:aq} {w:World} {v:Value} {ts us:List T} (h:Rep S w v (.agg ts)) (hl:LeC ts us):Rep S w v (.agg us):=by
 cases h with
 |agg cs _ hs h1 h=>
  refine .agg cs us (hs.trans hl.len) (fun t ht=>?_) fun i x u hx hu=>?_
  ·obtain ⟨i,hi⟩:=List.mem_iff_getElem?.1 ht
   rcases hl.get hi with e|⟨n,_,rfl⟩
   ·exact h1 t (List.mem_of_getElem? e)
   ·rfl
  ·rcases hl.get hu with e|⟨n,e,rfl⟩
   ·exact h i x u hx e
   ·exact Rep.kh n (h i x .nil hx e)
theorem F0 {P:Program} {f:FuncId} {xs ts us:List T} (h:DCalls P f xs (.agg ts)) (hl:LeC ts us):DCalls P f xs (.agg us):=h.res fun _ _ _ h=>Rep.leC h hl
theorem CZ {us:List T} (h:us.length=5): ∃a b c d e,us=[a,b,c,d,e]:=by
 match us,h with
 |[a,b,c,d,e],_=>exact ⟨a,b,c,d,e,rfl⟩
mutual
def s8 (tick:Int):RP→RP
 |.mk k f n m a=>if k=9 then (if n≤tick∧tick<m then .mk 1 e0 0 0 [] else .mk 2 e0 0 0 []) else .mk k f n m (tl tick a)
def tl (tick:Int):List RP→List RP
 |[]=>[]
 |r::rs=>s8 tick r::tl tick rs
end
theorem zb (tick:Int): ∀l:List RP,tl tick l=l.map (s8 tick)
 |[]=>rfl
 |r::rs=>congrArg (s8 tick r:: ·) (zb tick rs)
theorem t62 (tick:Int) (N:Nat): ∀r:RP,r.nodes≤N→N<2^40→DCalls Tryz.prog 52 [.agg (sb r),I tick] (.agg (sb (s8 tick r))):=by
 induction N with
 |zero=>intro r h;have:=r.uc;omega
 |succ N ih=>
  rintro ⟨k,f,n,m,l⟩ hr hN
  simp only [RP.nodes,s8] at hr ⊢
  have go: ∀x,wpC Tryz.prog c52 (eO [.agg (sb (.mk k f n m l)),I tick]) (nO (dz Tryz.prog) [.cell 4 25] [x])→DCalls Tryz.prog 52 [.agg (sb (.mk k f n m l)),I tick] x:=fun x h=>
   qF (rs:=[.cell 4 25]) mixed Tryz.func52 l52 rfl rfl rfl (r:=[x]) (nlZ rfl) h
  by_cases hk:k=9
  ·rw [if_pos hk]
   by_cases hc:n≤tick∧tick<m
   ·rw [if_pos hc]
    refine F0 (go (.agg [I 1,nm0,I 0,I 0,.nil]) ?_) (.same _ (.same _ (.same _ (.same _ (.none _ .nil)))))
    repeat' ((conv=>whnf);first|exact trivial|refine nT_ ?_|refine aE1 ?_|refine aD1 ?_|refine aS ?_|fail)
   ·rw [if_neg hc]
    refine F0 (go (.agg [I 2,nm0,I 0,I 0,.nil]) ?_) (.same _ (.same _ (.same _ (.same _ (.none _ .nil)))))
    repeat' ((conv=>whnf);first|exact trivial|refine nT_ ?_|refine aE1 ?_|refine aD0 ?_|refine nD_ (fun hq=>?_) (fun hq=>?_)|refine aS ?_|fail)
    all_goals (exfalso;omega)
  ·rw [if_neg hk]
   have hl:=tS l
   refine go _ ?_
   repeat' ((conv=>whnf);first|refine nT_ ?_|refine aE0 ?_|refine aS ?_|fail)
   refine qQ 0 (α:=Nat) (β:=Unit) (fun q=>{sl:=[(1,.t (I tick)),(2,.ptr 2 0),(4,.ptr 4 0),(5,.own 35 25 5 ((l.take q).map fun x=>.agg (sb (s8 tick x)))),(24,.t (.slice 5 (l.map sA))),(25,.t (I l.length)),(26,.t (I q))],bx:=[(2,.d 5 (sb (.mk k f n m l))),(4,.d 5 [I 0,nm0,I 0,I 0,.nil])]})
    (fun q=>q≤l.length) (fun q=>l.length - q) (fun _=>{sl:=[(2,.ptr 2 0),(4,.ptr 4 0),(5,.t (.slice 5 (l.map fun x=>.agg (sb (s8 tick x)))))],bx:=[(2,.d 5 (sb (.mk k f n m l))),(4,.d 5 [I 0,nm0,I 0,I 0,.nil])]}) (fun _=>True) 0 (by simp) ?_ ?_ ?_
   ·repeat' (first|exact trivial|exact LeV.same _|exact LeB.same _|exact rfl|exact fun _ _ _=>trivial|exact lI|exact LeV.nil _ _ _|refine And.intro ?_ ?_)
   ·rintro i hi
    rcases Nat.lt_or_ge i l.length with h|h
    ·have hn:=tF h
     have hm:=tE (l:=l) (j:=i+1)
     have hc:=ih l[i] (by omega) (by omega)
     have hcl:=sr (s8 tick l[i])
     have hg:(l.map sA)[i]?.getD .nil= .agg (sb l[i]):=by simp [h,si]
     have ht:l.take (i+1)=l.take i++[l[i]]:=by rw [List.take_succ_eq_append_getElem h]
     generalize l[i]=x at *
     obtain ⟨xk,xf,xn,xm,xl⟩:=x
     repeat' ((conv=>whnf);first|(refine nv_ (.agg (sb (.mk xk xf xn xm xl))) (by first|exact hg|fail) ?_)|refine rp _ (hc) ?_|refine nT_ ?_|refine aD1 ?_|(refine And.intro (by first|exact hcl|exact ⟨trivial,hcl⟩|((simp only [List.length_map,List.length_take,List.length_cons,List.length_nil];omega);done)|fail) ?_)|refine aS ?_|fail)
     refine ⟨i+1,h,by omega,?_⟩
     repeat' (first|(exact rM (by rw [ht];simp))|exact trivial|exact LeV.same _|exact LeB.same _|exact rfl|exact fun _ _ _=>trivial|exact lI|refine And.intro ?_ ?_)
    ·have:i=l.length:=by omega
     subst this
     rw [List.take_length]
     repeat' ((conv=>whnf);first|(exact ⟨(),trivial,by (repeat' (first|(exact LeV.data _ _ _ _)|exact trivial|exact LeV.same _|exact LeB.same _|exact rfl|exact fun _ _ _=>trivial|refine And.intro ?_ ?_));done⟩)|refine aD0 ?_|refine aS ?_|fail)
   ·rintro _ _
    have e:(l.map fun x=>T.agg (sb (s8 tick x)))=(tl tick l).map sA:=by rw [zb,List.map_map];exact List.map_congr_left fun x _=>(si _).symm
    rw [e]
    repeat' ((conv=>whnf);first|exact trivial|refine aS ?_|fail)
    all_goals exact ⟨congrArg some rfl,trivial⟩
mutual
def sF (tick:Int):RO→RO
 |.mk k p f n a=>.mk k (s8 tick p) f n (tx tick a)
def tx (tick:Int):List RO→List RO
 |[]=>[]
 |r::rs=>sF tick r::tx tick rs
end
theorem zc (tick:Int): ∀l:List RO,tx tick l=l.map (sF tick)
 |[]=>rfl
 |r::rs=>congrArg (sF tick r:: ·) (zc tick rs)
abbrev FE (tick:Int):T:=.knot 103 [.cptr [I tick] 0] []
theorem t61 (tick:Int) (N:Nat): ∀r:RO,r.wt≤N→N<2^40→DCalls Tryz.prog 103 [.agg (r9 r),.cptr [I tick] 0,FE tick] (.agg (r9 (sF tick r))):=by
 induction N with
 |zero=>intro r h;have:=r.wC;omega
 |succ N ih=>
  rintro ⟨k,⟨pk,pf,pn,pm,pa⟩,f,n,l⟩ hr hN
  simp only [RO.wt,sF] at hr ⊢
  have h62:=t62 tick _ (.mk pk pf pn pm pa) (Nat.le_refl _) (by omega)
  obtain ⟨c0,c1,c2,c3,c4,he⟩:=CZ (sr (s8 tick (.mk pk pf pn pm pa)))
  rw [he] at h62
  simp only [r9]
  rw [he]
  have hl:=uL l
  refine qF (rs:=[.cell 4 28]) mixed Tryz.func103 MX rfl rfl rfl (r:=[.agg (I k::([c0,c1,c2,c3,c4]++[.str f,I n,.slice 9 ((tx tick l).map sL)]))]) (nlZ rfl) ?_
  repeat' ((conv=>whnf);first|refine rp _ (h62) ?_|refine nT_ ?_|refine aS ?_|fail)
  refine qQ 0 (α:=Nat) (β:=Unit) (fun q=>{sl:=[(2,.t (FE tick)),(3,.ptr 3 0),(4,.ptr 4 0),(5,.own 25 28 9 ((l.take q).map fun x=>.agg (r9 (sF tick x)))),(14,.t (.slice 9 (l.map sL))),(15,.t (I l.length)),(16,.t (I q))],bx:=[(3,.d 9 (I k::([c0,c1,c2,c3,c4]++[.str f,I n,.slice 9 (l.map sL)]))),(4,.d 9 [I 0,I 0,nm0,I 0,I 0,.nil,nm0,I 0,.nil])]})
   (fun q=>q≤l.length) (fun q=>l.length - q) (fun _=>{sl:=[(3,.ptr 3 0),(4,.ptr 4 0),(5,.t (.slice 9 (l.map fun x=>.agg (r9 (sF tick x)))))],bx:=[(3,.d 9 (I k::([c0,c1,c2,c3,c4]++[.str f,I n,.slice 9 (l.map sL)]))),(4,.d 9 [I 0,I 0,nm0,I 0,I 0,.nil,nm0,I 0,.nil])]}) (fun _=>True) 0 (by simp) ?_ ?_ ?_
  ·repeat' (first|exact trivial|exact LeV.same _|exact LeB.same _|exact rfl|exact fun _ _ _=>trivial|exact lI|exact LeV.nil _ _ _|refine And.intro ?_ ?_)
  ·rintro i hi
   rcases Nat.lt_or_ge i l.length with h|h
   ·have hn:=uh h
    have hm:=tT (l:=l) (j:=i+1)
    have hc:=ih l[i] (by omega) (by omega)
    have hcl:=sd (sF tick l[i])
    have hg:(l.map sL)[i]?.getD .nil= .agg (r9 l[i]):=by simp [h,sy]
    have ht:l.take (i+1)=l.take i++[l[i]]:=by rw [List.take_succ_eq_append_getElem h]
    generalize l[i]=x at *
    obtain ⟨xk,⟨yk,yf,yn,ym,ya⟩,xf,xn,xl⟩:=x
    repeat' ((conv=>whnf);first|(refine nv_ (.agg (r9 (.mk xk (.mk yk yf yn ym ya) xf xn xl))) (by first|exact hg|fail) ?_)|refine rp _ (hc) ?_|refine nT_ ?_|refine aD1 ?_|(refine And.intro (by first|exact hcl|exact ⟨trivial,hcl⟩|((simp only [List.length_map,List.length_take,List.length_cons,List.length_nil];omega);done)|fail) ?_)|refine aS ?_|fail)
    refine ⟨i+1,h,by omega,?_⟩
    repeat' (first|(exact rM (by rw [ht];simp))|exact trivial|exact LeV.same _|exact LeB.same _|exact rfl|exact fun _ _ _=>trivial|exact lI|refine And.intro ?_ ?_)
   ·have:i=l.length:=by omega
    subst this
    rw [List.take_length]
    repeat' ((conv=>whnf);first|(exact ⟨(),trivial,by (repeat' (first|(exact LeV.data _ _ _ _)|exact trivial|exact LeV.same _|exact LeB.same _|exact rfl|exact fun _ _ _=>trivial|refine And.intro ?_ ?_));done⟩)|refine aD0 ?_|refine aS ?_|fail)
  ·rintro _ _
   have e:(l.map fun x=>T.agg (r9 (sF tick x)))=(tx tick l).map sL:=by rw [zc,List.map_map];exact List.map_congr_left fun x _=>(sy _).symm
   rw [e]
   repeat' ((conv=>whnf);first|exact trivial|refine aS ?_|fail)
   all_goals exact ⟨congrArg some rfl,trivial⟩
theorem t39 (tick:Int) (r:RO) (hr:r.wt<2^39):DCalls Tryz.prog 49 [.agg (r9 r),I tick] (.agg (r9 (sF tick r))):=by
 refine qF (rs:=[.cell 4 28]) mixed Tryz.func49 l49 rfl rfl rfl (r:=[.agg (r9 (sF tick r))]) (nlZ rfl) ?_
 have h61:=t61 tick _ r (Nat.le_refl _) (by omega)
 repeat' ((conv=>whnf);first|(refine And.intro (by first|exact sd _|fail) ?_)|refine aS ?_|fail)
 refine rh (β:=Unit) (fun _=>{sl:=[(2,.ptr 2 0),(4,.ptr 4 0),(5,.t (FE tick))],bx:=[(2,.d 9 (r9 r)),(4,.d 9 [I 0,I 0,nm0,I 0,I 0,.nil,nm0,I 0,.nil])]}) (fun _=>True) ?_ ?_
 ·repeat' ((conv=>whnf);first|(exact ⟨(),trivial,by (repeat' (first|(exact LeV.knot 5 103 [.ptr 3 0] [] _ [3] _ [] rfl rfl rfl (by simp [Wk.keys]))|exact trivial|exact LeV.same _|exact LeB.same _|exact rfl|exact fun _ _ _=>trivial|refine And.intro ?_ ?_));done⟩)|refine aS ?_|fail)
 rintro _ _
 obtain ⟨k,p,f,n,a⟩:=r
 generalize sF tick (.mk k p f n a)=q at *
 obtain ⟨qk,⟨pk,pf,pn,pm,pa⟩,qf,qn,qa⟩:=q
 repeat' ((conv=>whnf);first|exact trivial|refine rp _ (h61) ?_|refine aS ?_|fail)
 all_goals exact ⟨congrArg some rfl,trivial⟩
end Go.TY
end
section
namespace Go.TY
open Go Go.DL Go.MM Go.Proofs
def tA (tick:Int) (g:RG):RG:=⟨sF tick g.pol,g.st⟩
theorem Fj (g:RG) (q:RO):aK (aK z15 0 15 (sc g)) 0 9 (r9 q)=sc ⟨q,g.st⟩:=by
 rw [mL (n:=15) rfl]
 unfold sc aK
 have e:(r9 g.pol++se g.st).drop (0+9)=se g.st:=by
  rw [Nat.zero_add, ←sd g.pol,List.drop_left]
 rw [e];rfl
theorem vu (gs:List RG) (tick:Int) (hl:gs.length<2^30) (hg: ∀g∈gs,g.pol.wt<2^39):DCalls Tryz.prog 55 [.slice 15 (gs.map sg),I tick] (.slice 15 ((gs.map (tA tick)).map sg)):=by
 refine qF (rs:=[.tmp 4]) mixed Tryz.func55 l55 rfl rfl rfl (r:=[.slice 15 ((gs.map (tA tick)).map sg)]) (nlZ rfl) ?_
 skip
 refine qQ 0 (α:=Nat) (β:=Unit) (fun i=>{sl:=[(1,.t (I tick)),(5,.own 22 61 15 (((gs.take i).map (tA tick)).map sg)),(8,.t (.slice 15 (gs.map sg))),(9,.t (I gs.length)),(10,.t (I i))],bx:=[]})
  (fun i=>i≤gs.length) (fun i=>gs.length - i) (fun _=>{sl:=[(5,.t (.slice 15 ((gs.map (tA tick)).map sg)))],bx:=[]}) (fun _=>True) 0 (by simp) ?_ ?_ ?_
 ·repeat' (first|(exact leI (by simp))|exact trivial|exact LeV.same _|exact rfl|exact fun _ _ _=>trivial|exact LeV.nil _ _ _|refine And.intro ?_ ?_)
 ·rintro i hi
  rcases Nat.lt_or_ge i gs.length with h|h
  ·have hpol:=ue gs[i]
   have h1:=t39 tick gs[i].pol (hg _ (List.getElem_mem h))
   have hput:=Fj gs[i] (sF tick gs[i].pol)
   have hcl:=sd (sF tick gs[i].pol)
   have hl2:(aK (aK z15 0 15 (sc gs[i])) 0 9 (r9 (sF tick gs[i].pol))).length=15:=by rw [hput];exact sq _
   have ht:gs.take (i+1)=gs.take i++[gs[i]]:=by rw [List.take_succ_eq_append_getElem h]
   repeat' ((conv=>whnf);first|(refine nv_ (.agg (sc gs[i])) (by first|((simp [h];rfl);done)|fail) ?_)|(refine nv_ (.agg (r9 gs[i].pol)) (by first|exact congrArg T.agg hpol|fail) ?_)|refine rp _ (h1) ?_|refine aD1 ?_|(refine And.intro (by first|exact ⟨sq _,nlZ rfl⟩|exact sq _|(exact ⟨hcl,by (show 0+9≤(aK z15 0 15 (sc gs[i])).length);rw [mL (n:=15) rfl,sq];omega⟩;done)|exact hl2|exact ⟨trivial,hl2⟩|((simp only [List.length_map,List.length_take,List.length_cons,List.length_nil];omega);done)|fail) ?_)|refine aS ?_|fail)
   refine ⟨i+1,h,by omega,?_⟩
   repeat' (first|(exact rM (by rw [ht,List.map_append,List.map_append];exact congrArg (_++ ·) (congrArg (fun c=>[T.agg c]) hput.symm)))|exact trivial|exact LeV.same _|exact rfl|exact fun _ _ _=>trivial|exact lI|refine And.intro ?_ ?_)
  ·have:i=gs.length:=by omega
   subst this
   rw [List.take_length]
   repeat' ((conv=>whnf);first|(exact ⟨(),trivial,by (repeat' (first|(exact LeV.data _ _ _ _)|exact trivial|exact rfl|exact fun _ _ _=>trivial|refine And.intro ?_ ?_));done⟩)|refine aD0 ?_|refine aS ?_|fail)
 ·rintro _ _
  repeat' ((conv=>whnf);first|exact trivial|refine aS ?_|fail)
end Go.TY
end
noncomputable section
namespace Go.TY
open Go Go.DL Go.MM Go.Proofs
abbrev eni:Int→T:=I
abbrev mpi (ks:List Int) (vs:List T):T:=.mapd false [.int .i64] (ks.map eni) vs
def tJ (id:Nat) (c:Option Code):Array Oper:=match rg0 id c with
 |.region _ ops _=>ops
 |_=> #[]
abbrev fAi:Option Code:=Tryz.f159.body
abbrev fKi:Option Code:=Tryz.f136.body
theorem bAi:fAi=some (.seq (.region 0 (tJ 0 fAi) false) (.seq (.seq (.region 1 (tJ 1 fAi) false)
  (.block 0 (.rangeFunc (.tmp 6) #[7] (.region 2 (tJ 2 fAi) false) (.block 1 (.region 3 (tJ 3 fAi) false))))) (.seq (.region 4 (tJ 4 fAi) false) .ret))):=by kernel_rfl
abbrev JT:List DI:=[⟨some 5,.mov (.tmp 7),none,[]⟩]
abbrev JW:List DI:=[⟨some 8,.load 1 false (.tmp 2),none,[]⟩,⟨some 9,.mov (.tmp 5),none,[]⟩,⟨some 10,.buildS 3 1 1 [.int .i64 0] [(0,.tmp 9)],none,[1]⟩,
 ⟨some 11,.append 46 3 1 8 (.tmp 8) (.tmp 10),none,[0,2]⟩,⟨none,.store 1 (.tmp 2) (.tmp 11),none,[3,3,0,1,2,3]⟩]
theorem Jp:bT Tryz.prog 13 [] (tJ 0 fAi) (tJ 0 fAi).toList=some [⟨some 2,.box 1 (.tmp 0),none,[]⟩,⟨some 4,.mov (.const .nil),none,[]⟩]:=by kernel_rfl
theorem Js:bT Tryz.prog 13 [] (tJ 1 fAi) (tJ 1 fAi).toList=some [⟨some 6,.mov (.tmp 1),none,[]⟩]:=by kernel_rfl
theorem Jv:bT Tryz.prog 13 [] (tJ 2 fAi) (tJ 2 fAi).toList=some JT:=by kernel_rfl
theorem Jy:bT Tryz.prog 13 [] (tJ 3 fAi) (tJ 3 fAi).toList=some JW:=by kernel_rfl
theorem JB:bT Tryz.prog 13 [] (tJ 4 fAi) (tJ 4 fAi).toList=some [⟨some 12,.load 1 false (.tmp 2),none,[]⟩,⟨some 4,.mov (.tmp 12),none,[0,0]⟩]:=by kernel_rfl
abbrev yKi:Array Oper:=tJ 3 fKi
theorem bKi:rg0 3 fKi= .region 3 yKi false:=by kernel_rfl
theorem JE:dP Tryz.prog 14 yKi [0,1]=some [⟨some 10,.mov (.tmp 0),none,[]⟩,⟨some 11,.mov (.tmp 3),none,[]⟩]:=by kernel_rfl
theorem JH:dP Tryz.prog 14 yKi [3]=some [⟨some 13,.not (.tmp 12),none,[2]⟩]:=by kernel_rfl
theorem JK: ∃o ats,yKi[2]? =some o∧o.guard=none∧o.op= .call {callee:=.value (.tmp 10),args:= #[.tmp 11],argTypes:=ats }∧o.dst=some 12:=by
 refine ⟨((tJ 3 fKi)[2]?).getD default,(match (((tJ 3 fKi)[2]?).getD default).op with|.call c=>c.argTypes|_=> #[]),by kernel_rfl,by kernel_rfl,by kernel_rfl,by kernel_rfl⟩
abbrev HM (l d:Nat) (f:FuncId) (tmps:Array Value):aa→World→Prop:=nf l (cQ f tmps 7 (.region 2 (tJ 2 fAi) false) (.block 1 (.region 3 (tJ 3 fAi) false)) d)
abbrev WKi (l:Nat) (C:aa→World→Prop) (ks:List Int) (vs:List T) (ix:List Nat):Wk:=
 {sl:=[(0,.raw (.func (.yield l) #[] #[])),(5,.ptr 2005 0)],bx:=[(2,.v [.own 3011 3 1 (Ai eni 0 ks ix)]),(2005,.itd (esK eni ks vs) ix)],gh:=[(0,[(2,.ptr 2 0)])],off:=2000,cx:=C }
theorem HB (l d:Nat) (f:FuncId) (tmps:Array Value) (ht:tmps.size=13) (ks:List Int) (vs:List T) (hvs:vs.length=ks.length) (hl:ks.length<2^40) (st0:St)
  (h0:st0=({sl:=[(2,.ptr 2 0),(6,.fn 136 [.t (.cptr [mpi ks vs] 0)])],bx:=[(2,.v [.own 3011 3 1 []])]}:Wk).mk'):
  wpC Tryz.prog Hy (st0.iter l (cQ f tmps 7 (.region 2 (tJ 2 fAi) false) (.block 1 (.region 3 (tJ 3 fAi) false)) d) [.t (.cptr [mpi ks vs] 0)] 2000)
   (qB st0 fun st=>st.sl 2= .ptr 2 0∧(∃ xs,uk eni 0 ks xs∧st.bx 2=some (.v [.own 3011 3 1 xs]))∧ ∀S w,st.cx S w):=by
 subst h0
 have hes:(esK eni ks vs).length=ks.length:=by simp [hvs]
 repeat' ((conv=>whnf);first|refine nT_ ?_|refine aS ?_|fail)
 refine qQ 0 (α:=List Nat) (β:=List Nat) (fun ix=>WKi l (HM l d f tmps) ks vs ix) (fun ix=>ix.Nodup∧ ∀j∈ix,j<ks.length) (fun ix=>ks.length - ix.length)
  (fun ix=>WKi l (HM l d f tmps) ks vs ix) (fun ix=>ix.Perm (List.range ks.length)) [] ⟨List.nodup_nil,by simp⟩ ?_ ?_ ?_
 ·exact ⟨⟨.same _,.same _,trivial⟩,⟨.same _,.same _,trivial⟩,⟨⟨.same _,trivial⟩,trivial⟩,rfl,fun _ _ h=>h,rfl⟩
 ·rintro ix ⟨hnd,hix⟩
  refine And.intro (fun j hj=>by rw [hes];exact hix j hj) (And.intro ?_ ?_)
  ·intro j e he hj
   obtain ⟨he1,hjl⟩:=Af (d:=0) he
   have hent:=za _ ix j e he
   have hje:(ix++[j]).getLast?.getD 0<(esK eni ks vs).length:=by rw [List.getLast?_concat,hes];exact hjl
   obtain ⟨e1,e2⟩:=e
   dsimp only at he1 hent
   subst he1
   have hixl:ix.length≤ks.length:=by
    have:=hnd.length_le_of_subset (l₂:=List.range ks.length) (fun j hj=>List.mem_range.2 (hix j hj))
    simpa using this
   have hnd':(ix++[j]).Nodup:=by
    rw [List.nodup_append]
    exact ⟨hnd,by simp,fun a ha b hb=>by rw [List.mem_singleton.1 hb];exact fun e=>hj (e▸ha)⟩
   have hix': ∀i∈ix++[j],i<ks.length:=fun i hi=>by
    rcases List.mem_append.1 hi with h|h
    ·exact hix i h
    ·rw [List.mem_singleton.1 h];exact hjl
   have hixl':(ix++[j]).length≤ks.length:=by
    have:=hnd'.length_le_of_subset (l₂:=List.range ks.length) (fun j hj=>List.mem_range.2 (hix' j hj))
    simpa using this
   repeat' ((conv=>whnf);first|refine nv_ (.tup [eni (ks.getD j 0),e2]) hent ?_|(refine And.intro (by first|exact ⟨by simp,hje⟩|fail) ?_)|fail)
   obtain ⟨o,ats,o1,o2,o3,o4⟩:=JK
   have hsem: ∀(st:St) (Q:ax→St→Prop),pR Tryz.prog 14 (.region 3 yKi false) st Q→pR Tryz.prog 14 (rg0 3 fKi) st Q:=fun st Q h=>by rw [bKi];exact h
   refine hsem _ _ ?_
   refine qR (P:=Tryz.prog) (k1:=[0,1]) (k:=2) (k2:=[3]) (by kernel_rfl) JE rfl JH rfl o1 o2 o3 o4 (by decide) (p:=7) ht (by decide) Jv rfl Jy rfl 3000 (l:=l) (fn:=f) (dd:=d) (id1:=2) (id2:=3) (bl:=1) ?_
   refine ⟨fun _ _ h=>h,rfl,?_⟩
   repeat' ((conv=>whnf);first|(refine And.intro (by first|exact fun _ _=>trivial|exact ⟨rfl,nlZ rfl⟩|((simp;omega);done)|exact .inl rfl|fail) ?_)|refine aS ?_|fail)
   refine ⟨ix++[j],⟨hnd',hix'⟩,by rw [List.length_append];simp at hixl' ⊢;omega,?_⟩
   refine ⟨⟨.same _,.same _,trivial⟩,⟨?_,.same _,trivial⟩,⟨⟨.same _,trivial⟩,trivial⟩,rfl,fun _ _ h=>h,rfl⟩
   refine .v _ _ ⟨rM ?_,trivial⟩
   simp [Ai]
  ·intro hall
   skip
   refine ⟨ix,xT hnd hix (fun j hj=>hall j (by rw [hes];exact hj)),?_⟩
   exact ⟨⟨.same _,.same _,trivial⟩,⟨.same _,.same _,trivial⟩,⟨⟨.same _,trivial⟩,trivial⟩,rfl,fun _ _ h=>h,rfl⟩
 rintro ix hp
 repeat' ((conv=>whnf);first|refine aS ?_|fail)
 exact ⟨⟨_,⟨ix,hp,rfl⟩,rfl⟩,fun _ _=>trivial⟩
abbrev vj (ks:List Int) (vs:List T):T:=.clos 136 [.cptr [mpi ks vs] 0]
theorem A3 (ks:List Int) (vs:List T) (hvs:vs.length=ks.length) (hl:ks.length<2^40):fE Tryz.prog 159 [.nil,vj ks vs] 3 1 (uk eni 0 ks):=by
 refine p0 Tryz.func159 bAi rfl (nlZ rfl) ?_
 intro S w a0 hsr hdf
 let K0:St→Prop:=fun st=>aw Tryz.prog [⟨some 6,.mov (.tmp 1),none,[]⟩] st fun st=>
  bL {sl:=[(2,.ptr 2 0),(6,.t (vj ks vs))],bx:=[(2,.d 1 [.nil])]} st
 have hK0:aw Tryz.prog [⟨some 2,.box 1 (.tmp 0),none,[]⟩,⟨some 4,.mov (.const .nil),none,[]⟩] (eO [.nil,vj ks vs]) K0:=by
  repeat' ((conv=>whnf);first|refine aS ?_|fail)
  exact ⟨⟨.same _,.same _,trivial⟩,⟨.same _,trivial⟩,trivial,rfl,fun _ _ _=>trivial,rfl⟩
 refine wp_seq (nv (X:=[]) (N:=13) hsr Jp (fun a1 w1 h1=>?_) hK0)
 obtain ⟨E1,s1,rfl,k1,k2,k3⟩:=h1
 refine wp_seq (wp_seq (nv (X:=[]) k1 Js (fun a2 w2 h2=>?_) k3))
 obtain ⟨E2,s2,rfl,k4,k5,k6⟩:=h2
 obtain ⟨E3,e3,k7⟩:=k4.bL k6
 rw [← e3]
 have k8:=k7.rq (k:=6) (k7.sl 6).re
 obtain ⟨E4,e4,k10⟩:=SR.bL (a:=a2) (s:={sl:=[(2,.ptr 2 0),(6,.fn 136 [.t (.cptr [mpi ks vs] 0)])],bx:=[(2,.v [.own 3011 3 1 []])]}) k8 ⟨⟨.same _,.same _,trivial⟩,⟨.dv _ _ _ ⟨.nil _ _ _,trivial⟩,trivial⟩,trivial,rfl,fun _ _ _=>trivial,rfl⟩
 rw [← e4]
 refine wp_block ?_
 refine qW mixed k10 (fun _ _=>trivial) (y:=.tmp 6) rfl (gf:=136) (caps:=[.t (.cptr [mpi ks vs] 0)]) rfl Tryz.func136 Nv rfl rfl rfl (nlZ rfl) 2000
  (K:=fun st=>st.sl 2= .ptr 2 0∧(∃ xs,uk eni 0 ks xs∧st.bx 2=some (.v [.own 3011 3 1 xs]))∧ ∀S w,st.cx S w) (fun l d f tmps ht=>?_) (fun a5 w5 h5=>?_)
 ·exact HB l d f tmps ht ks vs hvs hl _ rfl
 ·obtain ⟨S0',E5,s5,D,rfl,q1,q2,q3,q4,q5,q6,r1,⟨xs,hxs,r2⟩,r3⟩:=h5
  have q6':a5.defers=[{target:=.collected D,args:= #[]}]:=by rw [q6,k5,k2,hdf]
  show Code.wp _ _ _ _ _
  refine wp_seq (nv (X:=[]) q1 JB (K:=fun st=>(∀ S w,st.cx S w)∧st.sl 4= .own 3011 3 1 xs) (fun a6 w6 h6=>?_) ?_)
  ·obtain ⟨E6,s6,rfl,p1,p2,p3,p4⟩:=h6
   obtain ⟨js,hjs,rfl⟩:=hxs
   refine wp_ret ⟨.inr rfl,S0',E6,s6,D,rfl,p1,q2,q3,q4,q5,by rw [p2,q6'],p3,_,_,⟨js,hjs,rfl⟩,va (fun _=>rfl) (fun _=>rfl) js ks,?_,.inl ⟨3011,rfl⟩⟩
   have:dJ s6 Tryz.f159.results.toList=some [s6.sl 4]:=by
    rw [show Tryz.f159.results.toList=[.tmp 4] from rfl];rfl
   rw [this,p4]
  ·obtain ⟨sl5,bx5,gh5,off5,cx5⟩:=s5
   dsimp only at r1 r2 r3
   obtain ⟨g,rfl⟩: ∃g,sl5=upd g 2 (.ptr 2 0):=⟨sl5,(uB r1).symm⟩
   obtain ⟨b,rfl⟩: ∃b,bx5=upd b 2 (some (.v [.own 3011 3 1 xs])):=⟨bx5,(uB r2).symm⟩
   exact ⟨r3,rfl⟩
theorem CS (ks:List Int) (vs:List T) (hvs:vs.length=ks.length) (hl:ks.length<2^40):fE Tryz.prog 134 [vj ks vs] 3 1 (uk eni 0 ks):=by
 refine qx (rs:=[.tmp 2]) mixed Tryz.func134 Nu rfl rfl rfl (nlZ rfl) ?_
 repeat' ((conv=>whnf);first|refine q9 (ts:=[.nil,vj ks vs]) rfl (A3 ks vs hvs hl) (fun xs hx=>?_)|fail)
 obtain ⟨js,hjs,rfl⟩:=hx
 exact ⟨_,_,⟨js,hjs,rfl⟩,va (fun _=>rfl) (fun _=>rfl) js ks,rfl,.inl ⟨_,rfl⟩⟩
theorem Fh:iq Tryz.prog 135 (Value.int .i64) (fun x y:Int=>decide (x≤y)):=iq.int Tryz.G5 rfl (bM Tryz.func135 rfl rfl)
theorem AG (ks:List Int) (vs:List T) (hvs:vs.length=ks.length) (hl:ks.length<2^40) (hn:ks.Nodup):kB Tryz.prog 91 [vj ks vs] (.slice 1 ((zi ks).map eni)):=by
 refine qJ (rs:=[.tmp 2]) mixed Tryz.func91 l91 rfl rfl rfl (nlZ rfl) ?_
 repeat' ((conv=>whnf);first|refine qV (ts:=[vj ks vs]) rfl (CS ks vs hvs hl) rfl (fun h0=>?_) (fun xs hx hc=>?_)|fail)
 ·obtain ⟨zs,hp,h0⟩:=vb h0
  have:zs=[]:=by
   cases zs with
   |nil=>rfl
   |cons z zs=>cases h0
  subst this
  have:ks=[]:=List.nil_perm.1 hp
  subst this
  repeat' ((conv=>whnf);first|refine pT Fh ?_|fail)
  exact ⟨.t .nil,rfl,.nil 1⟩
 ·obtain ⟨zs,hp,rfl⟩:=vb hx
  have hzl:zs.length<2^40:=by rw [hp.length_eq];exact hl
  have hfl:=AS (enc:=eni) (fun _=>rfl) zs
  have hle:(zs.map eni).length=zs.length:=List.length_map _
  have hsl:(zi ks).length=zs.length:=by
   have e:=congrArg List.length (congrArg (List.map I) (Cz hn hp))
   simp only [List.length_map,List.length_mergeSort] at e
   omega
  repeat' ((conv=>whnf);first|(refine qU (n:=5) (off:=0) (len:=(zs.map eni).length) (m:=(zs.map eni).length * 1) (ts:=(zs.map eni).flatMap T.cells) (encT:=I) Fh rfl zs ?_ ?_ (by omega) (fun a S w v h=>by cases h;rfl) (fun a S w=>.int _ _) (fun _=>rfl) ?_)|fail)
  ·rw [hfl,List.drop_zero,List.take_of_length_le (by omega)]
  ·simp
  ·skip
   have e:=congrArg (List.map I) (Cz hn hp)
   refine ⟨.view 5 0 (zs.map eni).length 1,rfl,.view 5 0 (zs.map eni).length 1 ((zs.map eni).length * 1) (aK ((zs.map eni).flatMap T.cells) 0 (zs.map eni).length ((zs.mergeSort (fun x y:Int=>decide (x≤y))).map I)) _ [5] rfl ?_ ?_⟩
   ·rw [vd (by rw [hfl]),e]
    intro t ht
    obtain ⟨z,_,rfl⟩:=List.mem_map.1 ht
    rfl
   ·show (cond (Nat.blt 0 1&&Nat.ble (0+(zs.map eni).length * 1) ((zs.map eni).length * 1)) (some (T.slice 1 (chunk 1 (zs.map eni).length ((aK ((zs.map eni).flatMap T.cells) 0 (zs.map eni).length ((zs.mergeSort (fun x y:Int=>decide (x≤y))).map I)).drop 0)),[5])) none)=_
    rw [vd (by rw [hfl]),e,Nat.zero_add,List.drop_zero,yx _ _ (by rw [List.length_map];omega)]
    have:Nat.ble ((zs.map eni).length * 1) ((zs.map eni).length * 1)=true:=Nat.ble_eq_true_of_le (Nat.le_refl _)
    rw [this]
    rfl
theorem CB (ks:List Int) (vs:List T):DCalls Tryz.prog 92 [mpi ks vs] (vj ks vs):=by
 refine qF (rs:=[.tmp 2]) mixed Tryz.func92 l92 rfl rfl rfl (r:=[vj ks vs]) (nlZ rfl) ?_
 repeat' ((conv=>whnf);first|exact trivial|refine aS ?_|fail)
end Go.TY
end
section
namespace Go.TY
open Go Go.DL Go.MM Go.Proofs
attribute [local irreducible] aF gL WCM YC
def bounds (gs:List RG):List Int:=gs.flatMap fun g=>vz g.pol
def tU (gs:List RG):List Int:=um ltI (bounds gs)
theorem zf {α:Type} [DecidableEq α]: ∀{a acc b:List α},once acc (a++b)=once (once acc a) b
 |[],_,_=>rfl
 |x::a,acc,b=>by
  rw [List.cons_append]
  exact zf (a:=a)
def wL (pre:List Int) (r:RO) (k:Nat):List Int:=once (once [] pre) (s4 uf (td r) k)
def wc (pre:List Int) (r:RO) (k:Nat):List (Nat×BX):=[(3,.v [.mp 7]),(7,.m false [.int .i64] (esI (wL pre r k)) none)]
theorem I3 (pre:List Int) (r:RO):oW (fun n=>10≤n∧n<100) 100 (fun _ _=>True) (wc pre r) (fun _ cx _=>cx=(fun _ _=>True)∧False) where
 fh:=fun n h=>h.2
 nm:=fun k p hp=>by
  simp only [wc,List.mem_cons,List.not_mem_nil,or_false] at hp
  rcases hp with rfl|rfl <;> exact ⟨by dsimp only;omega,by dsimp only;omega⟩
 nms:=fun c cx o ho=>ho.2.elim
 cov:=fun k k' p hp=>by
  simp only [wc,List.mem_cons,List.not_mem_nil,or_false] at hp ⊢
  rcases hp with rfl|rfl
  ·exact ⟨_,Or.inl rfl,rfl⟩
  ·exact ⟨_,Or.inr rfl,rfl⟩
 covs:=fun c cx o ho=>ho.2.elim
 safe:=fun k p hp=>by
  simp only [wc,List.mem_cons,List.not_mem_nil,or_false] at hp
  rcases hp with rfl|rfl
  ·intro c hc
   rw [List.mem_singleton.1 hc]
   exact .mp 7 ⟨(7,_),List.mem_cons_of_mem _ (List.mem_singleton.2 rfl),rfl⟩
  ·exact trivial
 safes:=fun c cx o ho=>ho.2.elim
 cxd:=fun c cx o ho=>ho.2.elim
 cxo_:=rI
 nd:=fun k=>by show ([3,7]:List Nat).Nodup;decide
abbrev SB (gs:List RG) (i:Nat):Wk:={sl:=[(3,.ptr 3 0),(8,.t (.slice 15 (gs.map sg))),(9,.t (I gs.length)),(10,.t (I i))],bx:=[(3,.v [.mp 7]),(7,.m false [.int .i64] (esI (once [] (bounds (gs.take i)))) none)]}
theorem wY (gs:List RG) (hl:gs.length<2^39) (hg: ∀g∈gs,g.pol.wt<2^39) (hb:(bounds gs).length<2^40):DCalls Tryz.prog 57 [.slice 15 (gs.map sg)] (.slice 1 ((tU gs).map I)):=by
 refine qG Tryz.func57 ML rfl (r:=[.slice 1 ((tU gs).map I)]) (nlZ rfl) ?_
 rw [show Tryz.f57.ntmps=31 from rfl,show Tryz.f57.results.toList=[.tmp 2] from rfl,k57]
 have hgl:((gs.map sg).length:Int)=(gs.length:Int):=by rw [List.length_map]
 refine aF.seq (J7 ?_)
 skip
 refine aF.seq (Ke ?_)
 repeat' ((conv=>whnf);first|refine aS ?_|fail)
 refine aF.seq (aF.seq (Kk ?_))
 skip
 refine aF.bL (s:=SB gs 0) (by repeat' (first|(exact leI (by simp))|exact trivial|exact LeV.same _|exact LeB.same _|exact rfl|exact fun _ _ _=>trivial|refine And.intro ?_ ?_)) ?_
 refine aF.block (aF.loop (fun m s=> ∃i,i≤gs.length∧m=gs.length - i∧s=(SB gs i).mk') gs.length ⟨0,by omega,by omega,rfl⟩ ?_)
 rintro m s ⟨i,hi,rfl,rfl⟩
 refine aF.seq (Kq ?_)
 rcases Nat.lt_or_ge i gs.length with h|h
 case inr=>
  have:i=gs.length:=by omega
  subst this
  have e:SB gs gs.length=({sl:=[(3,.ptr 3 0),(8,.t (.slice 15 (gs.map sg))),(9,.t (I gs.length)),(10,.t (I gs.length))],bx:=[(3,.v [.mp 7]),(7,.m false [.int .i64] (esI (once [] (bounds gs))) none)]}:Wk):=by unfold SB;rw [List.take_length]
  rw [e]
  clear e
  have hol:=vM (l:=bounds gs) (acc:=[])
  have hnd:=uO (l:=bounds gs) (acc:=[]) List.nodup_nil
  have hfin:zi (once [] (bounds gs))=tU gs:=by
   unfold zi tU
   refine w7 FG fun x=>?_
   rw [vI]
   simp only [List.not_mem_nil,false_or]
  simp only [List.length_nil,Nat.zero_add] at hol
  generalize once [] (bounds gs)=ks at *
  have hk1:=CB ks (ks.map fun _=>T.bool true)
  have hk2:=(AG ks (ks.map fun _=>T.bool true) (by simp) (by omega) hnd).rm
  rw [hfin] at hk2
  repeat' ((conv=>whnf);first|refine aD0 ?_|refine aS ?_|fail)
  refine aF.seq (F4 ?_)
  skip
  refine aF.bL (s:={sl:=[(3,.ptr 3 0)],bx:=[(3,.v [.t (mpi ks (ks.map fun _=>T.bool true))])]}) ⟨⟨.same _,trivial⟩,⟨.v _ _ ⟨.conv _ _ [7] ?_ (by simp [Wk.keys]),trivial⟩,trivial⟩,trivial,rfl,fun _ _ _=>trivial,rfl⟩ ?_
  ·show some (T.mapd false [.int .i64] ((esI ks).map (·.1)) ((esI ks).map (·.2)),[7])=_
   unfold esI
   rw [List.map_map,List.map_map];rfl
  refine HZ ?_
  repeat' ((conv=>whnf);first|refine rp _ (hk1) ?_|refine rp _ (hk2) ?_|fail)
  exact ⟨⟨rfl,trivial⟩,fun _ _=>trivial⟩
 obtain ⟨pre,hpre0⟩: ∃pre,pre=bounds (gs.take i):=⟨_,rfl⟩
 have e:SB gs i=({sl:=[(3,.ptr 3 0),(8,.t (.slice 15 (gs.map sg))),(9,.t (I gs.length)),(10,.t (I i))],bx:=[(3,.v [.mp 7]),(7,.m false [.int .i64] (esI (once [] pre)) none)]}:Wk):=by rw [hpre0]
 rw [e]
 clear e
 repeat' ((conv=>whnf);first|refine aD1 ?_|refine aS ?_|fail)
 refine aF.seq (F4 ?_)
 skip
 have hgi:=hg gs[i] (List.getElem_mem h)
 have hpol:=ue gs[i]
 have hG:sg gs[i]= .agg (sc gs[i]):=rfl
 have hpre:bounds (gs.take (i+1))=bounds (gs.take i)++vz gs[i].pol:=by
  unfold bounds
  rw [List.take_succ_eq_append_getElem h,List.flatMap_append];simp
 rw [← hpre0] at hpre
 clear hpre0
 refine aF.seq (aF.block (aF.seq (KB ?_)))
 repeat' ((conv=>whnf);first|(refine nv_ (.agg (sc gs[i])) (by first|((simp [h];rfl);done)|fail) ?_)|(refine And.intro (by first|exact ⟨sq _,nlZ rfl⟩|exact sq _|fail) ?_)|refine aS ?_|fail)
 have ht:=CE gs[i].pol
 rw [sI,uE] at ht
 refine aF.seq (KC ?_)
 repeat' ((conv=>whnf);first|(refine nv_ (.agg (r9 gs[i].pol)) (by first|exact congrArg T.agg hpol|fail) ?_)|refine rp _ (ht) ?_|refine aS ?_|fail)
 generalize gs[i].pol=r at *
 rw [← uE]
 refine aF.bL (s:={sl:=[(3,.ptr 3 0),(8,.t (.slice 15 (gs.map sg))),(9,.t (I gs.length)),(10,.t (I i)),(16,.t (.clos 130 [.cptr (sU r) 0]))],bx:=[(3,.v [.mp 7]),(7,.m false [.int .i64] (esI (once [] pre)) none)]}) (by repeat' (first|exact trivial|exact LeV.same _|exact LeB.same _|exact rfl|exact fun _ _ _=>trivial|refine And.intro ?_ ?_)) ?_
 have hlen:(sj r).length≤r.wt:=by rw [s9,tR];exact r.ve
 have hwt: ∀o∈sj r,o.wt≤r.wt:=by rw [s9];exact uo r
 refine aF.block (y0 (N:=31) rfl r rfl 100 (fun n=>10≤n∧n<100) 100 (Nat.le_refl _) (by omega) (fun o ho=>by have h1:=hwt o ho;rw [uy,uw];obtain ⟨k,p,f,n,a⟩:=o;simp only [RO.wt] at h1;show p.nodes<_;omega) (fun n h=>rf fun p hp=>?_) (fun n h=>rf fun p hp=>?_) (by exact rJ) (outs:=wc pre r) (stop:=fun _ cx _=>cx=(fun _ _=>True)∧False) ?_ (fun l0 D fn tmps hN=>?_) ?_ (fun c cx o h=>h.2.elim))
 ·simp only [List.mem_cons,List.not_mem_nil,or_false] at hp
  rcases hp with rfl|rfl <;> (dsimp only;omega)
 ·simp only [List.mem_cons,List.not_mem_nil,or_false] at hp
  rcases hp with rfl|rfl <;> (dsimp only;omega)
 ·intro q hq
  simp only [wc,List.mem_cons,List.not_mem_nil,or_false] at hq
  rcases hq with rfl|rfl <;> rfl
 ·refine dL.top (d:=6) (n:=5) (lo:=10) (hi:=100) (stop:=fun _ _=>False) (I3 pre r) (fun n h1 h2=>⟨h1,h2⟩) hN (by decide) (fun hw=>KD hw) rfl (by decide) (by decide) (fun x hx=>?_) (fun k cs b G C hk hcs=>?_)
  ·obtain ⟨t,_,rfl⟩:=List.mem_map.1 hx
   exact ⟨_,si t,sr t⟩
  rw [List.getElem?_map,Option.map_eq_some_iff] at hk
  obtain ⟨t,htk,hte⟩:=hk
  rw [si] at hte
  obtain rfl:sb t=cs:=T.agg.inj hte
  have hfs:=vZ (g:=uf) htk
  have hos:wc pre r k=[(3,.v [.mp 7]),(7,.m false [.int .i64] (esI (wL pre r k)) none)]:=rfl
  rw [hos]
  have hks:wL pre r (k+1)=once (wL pre r k) (uf t):=by unfold wL;rw [hfs,zf]
  have endN: ∀s:St,s.gh=G→s.cx=C→(∀ q, ¬(10≤q∧q<100)→s.bx q=aH b [(3,.v [.mp 7]),(7,.m false [.int .i64] (esI (wL pre r (k+1))) none)] q)→RB b G C 10 100 (wc pre r (k+1)) (fun _ _=>False) .normal s:=fun s h1 h2 h3=>⟨h1,h2,_,h3,rfl⟩
  generalize wL pre r (k+1)=ks' at *
  generalize wL pre r k=ks at *
  clear hte hos hfs
  refine KE ?_
  obtain ⟨kd,f,n,m,args⟩:=t
  by_cases k9:kd=9
  ·have hmr:ks'=once ks [n,m]:=by rw [hks];unfold uf;exact congrArg (once ks) (if_pos k9)
   repeat' ((conv=>whnf);first|refine qi k9 ?_|refine nT_ ?_|(refine And.intro (by first|exact ⟨rfl,rfl,trivial⟩|fail) ?_)|refine aS ?_|fail)
   (conv=>whnf)
   refine endN _ rfl rfl fun q hq=>?_
   have hm:=qO (b:=b) hq
   by_cases h5:q=7
   ·subst h5
    show some (BX.m false [.int .i64] (bG (T.int .i64 m) (T.bool true) (bG (T.int .i64 n) (T.bool true) _)) none)=some (BX.m false [.int .i64] _ none)
    rw [zD,zD,hmr]
    rfl
   show cond (Nat.beq q 7) _ (cond (Nat.beq q 7) _ (cond (Nat.beq q 16) _ (cond (Nat.beq q 3) _ (cond (Nat.beq q 7) _ (gy 10 100 b q)))))=cond (Nat.beq q 3) _ (cond (Nat.beq q 7) _ (b q))
   rw [eM h5,eM (show q≠16 by omega),hm];rfl
  ·have hmr:ks'=ks:=by rw [hks];unfold uf;exact congrArg (once ks) (if_neg k9)
   subst hmr
   repeat' ((conv=>whnf);first|refine qh k9 ?_|refine nT_ ?_|refine aS ?_|fail)
   (conv=>whnf)
   refine endN _ rfl rfl fun q hq=>?_
   have hm:=qO (b:=b) hq
   show cond (Nat.beq q 16) _ (cond (Nat.beq q 3) _ (cond (Nat.beq q 7) _ (gy 10 100 b q)))=cond (Nat.beq q 3) _ (cond (Nat.beq q 7) _ (b q))
   rw [eM (show q≠16 by omega),hm];rfl
 ·have hes:wc pre r (td r).length=[(3,.v [.mp 7]),(7,.m false [.int .i64] (esI (once [] (bounds (gs.take (i+1))))) none)]:=by
   unfold wc wL
   rw [wI,hpre,zf]
   unfold vz
   rw [zg]
  rw [hes]
  refine KF ?_
  skip
  exact ⟨gs.length - (i+1),SB gs (i+1),by omega,by (repeat' (first|exact trivial|exact LeV.same _|exact LeB.same _|exact rfl|exact fun _ _ _=>trivial|exact lI|refine And.intro ?_ ?_)),i+1,by omega,rfl,rfl⟩
end Go.TY
end
section
namespace Go.TY
open Go Go.DL Go.MM
theorem I2:sa e0 e0=true:=by decide+kernel
theorem D3 (t:Int) (a:List RP):(tl t a).length=a.length:=by rw [zb,List.length_map]
theorem D4 (t:Int) (a:List RO):(tx t a).length=a.length:=by rw [zc,List.length_map]
mutual
theorem xN (t:Int): ∀r:RP,(s8 t r).nodes≤r.nodes
 |.mk k f n m a=>by
  have h:=yQ t a
  rw [s8]
  split
  ·split <;> (simp only [RP.nodes,sB];omega)
  ·simp only [RP.nodes];omega
theorem yQ (t:Int): ∀l:List RP,sB (tl t l)≤sB l
 |[]=>Nat.le_refl _
 |r::rs=>by
  have h1:=xN t r
  have h2:=yQ t rs
  simp only [tl,sB];omega
end
mutual
theorem zn (t:Int): ∀r:RP,(s8 t r).depth≤r.depth
 |.mk k f n m a=>by
  have h:=yO t a
  rw [s8]
  split
  ·split <;> (simp only [RP.depth,ti];omega)
  ·simp only [RP.depth];omega
theorem yO (t:Int): ∀l:List RP,ti (tl t l)≤ti l
 |[]=>Nat.le_refl _
 |r::rs=>by
  have h1:=zn t r
  have h2:=yO t rs
  simp only [tl,ti];omega
end
mutual
theorem yM (t:Int): ∀r:RP,sD r=true→sD (s8 t r)=true
 |.mk k f n m a=>fun h=>by
  have h2:=x7 t a
  simp only [sD,Bool.and_eq_true] at h
  rw [s8]
  split
  ·split <;> decide+kernel
  ·simp only [sD,Bool.and_eq_true]
   rw [D3]
   exact ⟨h.1,h2 h.2⟩
theorem x7 (t:Int): ∀l:List RP,tf l=true→tf (tl t l)=true
 |[]=>fun _=>rfl
 |r::rs=>fun h=>by
  simp only [tf,Bool.and_eq_true,tl] at h ⊢
  exact ⟨yM t r h.1,x7 t rs h.2⟩
end
theorem Cn {l:List Fd} {k n m:Int} {a:List RP}:ui l (.mk k e0 n m a)=0:=by
 simp only [ui]
 rw [if_pos I2]
mutual
theorem zp (t:Int) {l:List Fd}: ∀r:RP,(∀ x∈sP r,ui l x=0)→ ∀x∈sP (s8 t r),ui l x=0∧x.kind≠9
 |.mk k f n m a=>fun h x hx=>by
  have h2:=yR t (l:=l) a fun y hy=>h y (by rw [sP];exact List.mem_cons_of_mem _ hy)
  have h0:=h (.mk k f n m a) (by rw [sP];exact List.mem_cons_self)
  rw [s8] at hx
  split at hx
  ·split at hx
   ·simp only [sP,sH,List.mem_cons,List.not_mem_nil,or_false] at hx
    subst hx
    exact ⟨Cn,by show ¬(1:Int)=9;omega⟩
   ·simp only [sP,sH,List.mem_cons,List.not_mem_nil,or_false] at hx
    subst hx
    exact ⟨Cn,by show ¬(2:Int)=9;omega⟩
  ·rename_i hk
   rw [sP] at hx
   rcases List.mem_cons.1 hx with rfl|hx
   ·exact ⟨h0,hk⟩
   ·exact h2 x hx
theorem yR (t:Int) {l:List Fd}: ∀rs:List RP,(∀ x∈sH rs,ui l x=0)→ ∀x∈sH (tl t rs),ui l x=0∧x.kind≠9
 |[]=>fun _ x hx=>by simp [tl,sH] at hx
 |r::rs=>fun h x hx=>by
  rw [tl,sH] at hx
  rcases List.mem_append.1 hx with hx|hx
  ·exact zp t r (fun y hy=>h y (by rw [sH];exact List.mem_append_left _ hy)) x hx
  ·exact yR t rs (fun y hy=>h y (by rw [sH];exact List.mem_append_right _ hy)) x hx
end
mutual
theorem Az (t:Int): ∀r:RP, ∀x∈sP (s8 t r),x.kind≠9
 |.mk k f n m a=>fun x hx=>by
  have h2:=zq t a
  rw [s8] at hx
  split at hx
  ·split at hx
   ·simp only [sP,sH,List.mem_cons,List.not_mem_nil,or_false] at hx
    subst hx
    show ¬(1:Int)=9;omega
   ·simp only [sP,sH,List.mem_cons,List.not_mem_nil,or_false] at hx
    subst hx
    show ¬(2:Int)=9;omega
  ·rename_i hk
   rw [sP] at hx
   rcases List.mem_cons.1 hx with rfl|hx
   ·exact hk
   ·exact h2 x hx
theorem zq (t:Int): ∀rs:List RP, ∀x∈sH (tl t rs),x.kind≠9
 |[]=>fun x hx=>by simp [tl,sH] at hx
 |r::rs=>fun x hx=>by
  rw [tl,sH] at hx
  rcases List.mem_append.1 hx with hx|hx
  ·exact Az t r x hx
  ·exact zq t rs x hx
end
mutual
theorem zm (t s:Int): ∀r:RP,s8 t (s8 s r)=s8 s r
 |.mk k f n m a=>by
  have h:=yN t s a
  rw [s8]
  split
  ·split <;> rfl
  ·rename_i hk
   rw [s8,if_neg hk,h]
theorem yN (t s:Int): ∀l:List RP,tl t (tl s l)=tl s l
 |[]=>rfl
 |r::rs=>by rw [tl,tl,zm t s r,yN t s rs]
end
def vT (s t:Int) (b:Int):Prop:= ¬(b>min s t∧b≤max s t)
mutual
theorem AA {s t:Int}: ∀r:RP,(∀ x∈sP r, ∀b∈uf x,vT s t b)→s8 s r=s8 t r
 |.mk k f n m a=>fun h=>by
  have h2:=zr (s:=s) (t:=t) a fun y hy=>h y (by rw [sP];exact List.mem_cons_of_mem _ hy)
  have h0:=h (.mk k f n m a) (by rw [sP];exact List.mem_cons_self)
  rw [s8,s8]
  by_cases hk:k=9
  ·rw [if_pos hk,if_pos hk]
   have ht:uf (.mk k f n m a)=[n,m]:=by
    unfold uf;rw [if_pos (show (RP.mk k f n m a).kind=9 from hk)];rfl
   rw [ht] at h0
   have hn:=h0 n (by simp)
   have hm:=h0 m (by simp)
   unfold vT at hn hm
   by_cases c:n≤s∧s<m
   ·rw [if_pos c,if_pos (by omega)]
   ·rw [if_neg c,if_neg (by omega)]
  ·rw [if_neg hk,if_neg hk,h2]
theorem zr {s t:Int}: ∀l:List RP,(∀ x∈sH l, ∀b∈uf x,vT s t b)→tl s l=tl t l
 |[]=>fun _=>rfl
 |r::rs=>fun h=>by
  rw [tl,tl,AA r fun y hy=>h y (by rw [sH];exact List.mem_append_left _ hy),zr rs fun y hy=>h y (by rw [sH];exact List.mem_append_right _ hy)]
end
mutual
theorem xO (t:Int): ∀r:RO,sY (sF t r)=(sY r).map (sF t)
 |.mk k p f n a=>by
  have h:=yV t a
  rw [sF,sY,sY,h,List.map_cons,sF]
theorem yV (t:Int): ∀l:List RO,sR (tx t l)=(sR l).map (sF t)
 |[]=>rfl
 |r::rs=>by rw [tx,sR,sR,xO t r,yV t rs,List.map_append]
end
mutual
theorem AE (t:Int): ∀r:RO,(sF t r).size≤r.size
 |.mk k p f n a=>by
  have h:=zy t a
  have hp:=xN t p
  rw [sF]
  simp only [RO.size]
  split <;> omega
theorem zy (t:Int): ∀l:List RO,tk (tx t l)≤tk l
 |[]=>Nat.le_refl _
 |r::rs=>by
  have h1:=AE t r
  have h2:=zy t rs
  simp only [tx,tk];omega
end
mutual
theorem AB (t:Int): ∀r:RO,(sF t r).deep≤r.deep
 |.mk k p f n a=>by
  have h:=zw t a
  have hp:=zn t p
  rw [sF]
  simp only [RO.deep]
  split <;> omega
theorem zw (t:Int): ∀l:List RO,tj (tx t l)≤tj l
 |[]=>Nat.le_refl _
 |r::rs=>by
  have h1:=AB t r
  have h2:=zw t rs
  simp only [tx,tj];omega
end
mutual
theorem Cp (t:Int): ∀r:RO,(sF t r).wt≤r.wt
 |.mk k p f n a=>by
  have h:=A9 t a
  have hp:=xN t p
  rw [sF]
  simp only [RO.wt]
  omega
theorem A9 (t:Int): ∀l:List RO,th (tx t l)≤th l
 |[]=>Nat.le_refl _
 |r::rs=>by
  have h1:=Cp t r
  have h2:=A9 t rs
  simp only [tx,th];omega
end
theorem Ay {p:RP} (h:tQ p=true):p=wq:=by
 obtain ⟨k,f,n,m,a⟩:=p
 simp only [tQ,Bool.and_eq_true,beq_iff_eq] at h
 obtain ⟨⟨⟨⟨h1,h2⟩,h3⟩,h4⟩,h5⟩:=h
 have h5:=List.eq_nil_of_length_eq_zero h5
 rw [h1,BP h2,h3,h4,h5]
theorem AI {k:Int} {p:RP} {f:ByteArray} {n:Int} (h:okO k p f n=true) (hk:k≠1):tQ p=true:=by
 unfold okO at h
 rw [if_neg hk] at h
 split at h
 ·simp only [Bool.and_eq_true] at h;exact h.1.1.2
 ·split at h
  ·simp only [Bool.and_eq_true] at h;exact h.1
  ·cases h
theorem GZ (t:Int) {k:Int} {p:RP} {f:ByteArray} {n:Int} (h:okO k p f n=true):okO k (s8 t p) f n=true:=by
 by_cases hk:k=1
 ·unfold okO at h ⊢
  rw [if_pos hk,Bool.and_eq_true] at h ⊢
  exact ⟨yM t p h.1,h.2⟩
 ·have:=Ay (AI h hk)
  subst this
  exact h
mutual
theorem yS (t:Int): ∀r:RO,sC r=true→sC (sF t r)=true
 |.mk k p f n a=>fun h=>by
  have h2:=x8 t a
  rw [sF]
  simp only [sC,Bool.and_eq_true] at h ⊢
  rw [D4]
  exact ⟨⟨GZ t h.1.1,h.1.2⟩,h2 h.2⟩
theorem x8 (t:Int): ∀l:List RO,s7 l=true→s7 (tx t l)=true
 |[]=>fun _=>rfl
 |r::rs=>fun h=>by
  simp only [s7,Bool.and_eq_true,tx] at h ⊢
  exact ⟨yS t r h.1,x8 t rs h.2⟩
end
mutual
theorem zt (t s:Int): ∀r:RO,sF t (sF s r)=sF s r
 |.mk k p f n a=>by rw [sF,sF,zm,yT t s a]
theorem yT (t s:Int): ∀l:List RO,tx t (tx s l)=tx s l
 |[]=>rfl
 |r::rs=>by rw [tx,tx,zt t s r,yT t s rs]
end
theorem GY {l:List Fd} (t:Int) {x:RO} (h:uu l x=0):uu l (sF t x)=0:=by
 obtain ⟨k,p,f,n,a⟩:=x
 rw [sF]
 simp only [uu] at h ⊢
 by_cases h1:k=1
 ·rw [if_pos h1] at h ⊢
  unfold wJ at h ⊢
  rw [xi] at h ⊢
  intro y hy
  obtain ⟨z,hz,rfl⟩:=List.mem_map.1 hy
  exact (zp t p (fun x hx=>h _ (List.mem_map.2 ⟨x,hx,rfl⟩)) z hz).1
 ·rw [if_neg h1] at h ⊢
  exact h
theorem FJ {l:List Fd} (t:Int) {r:RO} (h:tu l r=0):tu l (sF t r)=0:=by
 rw [EO] at h ⊢
 obtain ⟨⟨h1,h2⟩,h3⟩:=h
 rw [HR] at h1 ⊢
 have a1:=AE t r
 have a2:=AB t r
 refine ⟨⟨⟨by omega,by omega⟩,yS t r h2⟩,fun x hx=>?_⟩
 rw [xO] at hx
 obtain ⟨y,hy,rfl⟩:=List.mem_map.1 hx
 exact GY t (h3 y hy)
theorem Bh (t:Int) {r:RO} {x:RP} (hx:x∈vq (sF t r)):x.kind≠9:=by
 unfold vq at hx
 rw [xO] at hx
 obtain ⟨y,hy,hx⟩:=List.mem_flatMap.1 hx
 obtain ⟨z,_,rfl⟩:=List.mem_map.1 hy
 obtain ⟨k,p,f,n,a⟩:=z
 rw [sF] at hx
 unfold vN at hx
 split at hx
 ·exact Az t p x hx
 ·cases hx
def yw (r:RO):Bool:=(vq r).any fun x=>x.kind==9
theorem Fu (t:Int) (r:RO):yw (sF t r)=false:=by
 unfold yw
 rw [List.any_eq_false]
 intro x hx
 have:=Bh t hx
 simpa using this
theorem Fv (t:Int) (r:RO):vz (sF t r)=[]:=by
 unfold vz
 rw [List.flatMap_eq_nil_iff]
 intro x hx
 unfold uf
 rw [if_neg (Bh t hx)]
mutual
theorem AD {s t:Int}: ∀r:RO,(∀ y∈sY r,s8 s y.pred=s8 t y.pred)→sF s r=sF t r
 |.mk k p f n a=>fun h=>by
  have h2:=zx (s:=s) (t:=t) a fun y hy=>h y (by rw [sY];exact List.mem_cons_of_mem _ hy)
  have h0:s8 s p=s8 t p:=h (.mk k p f n a) (by rw [sY];exact List.mem_cons_self)
  rw [sF,sF,h0,h2]
theorem zx {s t:Int}: ∀l:List RO,(∀ y∈sR l,s8 s y.pred=s8 t y.pred)→tx s l=tx t l
 |[]=>fun _=>rfl
 |r::rs=>fun h=>by
  rw [tx,tx,AD r fun y hy=>h y (by rw [sR];exact List.mem_append_left _ hy),zx rs fun y hy=>h y (by rw [sR];exact List.mem_append_right _ hy)]
end
theorem B8 {s t:Int} {r:RO} (hf:sC r=true) (h: ∀b∈vz r,vT s t b):sF s r=sF t r:=by
 refine AD r fun y hy=>?_
 have hy2:=wD r hf y hy
 by_cases hk:y.kind=1
 ·refine AA y.pred fun x hx b hb=>h b ?_
  unfold vz vq
  refine List.mem_flatMap.2 ⟨x,List.mem_flatMap.2 ⟨y,hy,?_⟩,hb⟩
  unfold vN
  rw [if_pos hk];exact hx
 ·obtain ⟨k,p,f,n,a⟩:=y
  simp only [sC,Bool.and_eq_true] at hy2
  have:=Ay (AI hy2.1.1 hk)
  subst this
  rfl
theorem zd {α:Type} {f g:α→Int} {xs:List α}:fz2 f g xs=0↔ ∀x∈xs,f x=0∧g x=0:=
 ⟨Ag,fun h=>yB fun _ hj=>h _ (List.getElem_mem hj)⟩
theorem DY {l:List Fd} {r:RO} (h:tu l r=0):sO r=0:=by
 unfold tu at h
 by_cases c:sO r≠0
 ·rw [if_pos c] at h;exact absurd h c
 ·exact Decidable.not_not.1 c
theorem DZ {l:List Fd} {s:RS} (h:ta l s=0):sV s=0:=by
 unfold ta at h
 by_cases c:sV s≠0
 ·rw [if_pos c] at h;exact absurd h c
 ·exact Decidable.not_not.1 c
theorem Cx {l:List Fd} {gs:List RG}:uW l gs=0↔gs.length≤8∧(∀ g∈gs,tu l g.pol=0∧ta l g.st=0)∧PW l (sJ (gs.map (·.st))):=by
 unfold uW
 constructor
 ·intro h
  by_cases c:tZ gs≠0
  ·rw [if_pos c] at h;exact absurd h c
  rw [if_neg c] at h
  have c:=Decidable.not_not.1 c
  by_cases d:fz2 (fun g=>tu l g.pol) (fun g=>ta l g.st) gs≠0
  ·rw [if_pos d] at h;exact absurd h d
  rw [if_neg d] at h
  have d:=Decidable.not_not.1 d
  refine ⟨?_,zd.1 d,?_⟩
  ·unfold tZ at c
   by_cases e:gs.length>8
   ·rw [if_pos e] at c;cases c
   ·omega
  ·cases hv:(tG l gs).isNone with
   |true=>rw [hv] at h;simp at h
   |false=>
    apply Classical.byContradiction
    intro hp
    rw [w9.2 hp] at hv;cases hv
 ·rintro ⟨h1,h2,h3⟩
  have c:tZ gs=0:=by
   unfold tZ
   rw [if_neg (by omega)]
   exact zd.2 fun g hg=>⟨DY (h2 g hg).1,DZ (h2 g hg).2⟩
  have d:=zd.2 h2
  rw [if_neg (by rw [c];simp),if_neg (by rw [d];simp)]
  have:(tG l gs).isNone=false:=by
   cases hv:(tG l gs).isNone with
   |true=>exact absurd h3 (w9.1 hv)
   |false=>rfl
  rw [this];rfl
theorem E0 {l:List Fd} (t:Int) {gs:List RG} (h:uW l gs=0):uW l (gs.map (tA t))=0:=by
 rw [Cx] at h ⊢
 obtain ⟨h1,h2,h3⟩:=h
 refine ⟨by rw [List.length_map];exact h1,fun g hg=>?_,?_⟩
 ·obtain ⟨x,hx,rfl⟩:=List.mem_map.1 hg
  exact ⟨FJ t (h2 x hx).1,(h2 x hx).2⟩
 ·have e:(gs.map (tA t)).map (·.st)=gs.map (·.st):=by rw [List.map_map];rfl
  rw [e];exact h3
theorem CJ (t:Int) (gs:List RG):bounds (gs.map (tA t))=[]:=by
 unfold bounds
 rw [List.flatMap_eq_nil_iff]
 intro g hg
 obtain ⟨x,_,rfl⟩:=List.mem_map.1 hg
 exact Fv t x.pol
theorem DU (s t:Int) (gs:List RG):(gs.map (tA s)).map (tA t)=gs.map (tA s):=by
 rw [List.map_map]
 refine List.map_congr_left fun g _=>?_
 show RG.mk (sF t (sF s g.pol)) g.st=RG.mk (sF s g.pol) g.st
 rw [zt]
theorem FO {l:List Fd} {s t:Int} {gs:List RG} (h:uW l gs=0) (hb: ∀b∈tU gs,vT s t b):gs.map (tA t)=gs.map (tA s):=by
 obtain ⟨_,h2,_⟩:=Cx.1 h
 refine List.map_congr_left fun g hg=>?_
 have hf:=(EO.1 (h2 g hg).1).1.2
 have:=B8 (s:=s) (t:=t) hf fun b hb'=>hb b (by
  unfold tU
  rw [vo]
  exact List.mem_flatMap.2 ⟨g,hg,hb'⟩)
 show RG.mk (sF t g.pol) g.st=RG.mk (sF s g.pol) g.st
 rw [this]
end Go.TY
end
section
namespace Go.TY
open Go Go.DL Go.MM Go.Proofs
theorem zh (r:RO):(vq r).length≤r.wt:=by rw [← zg];exact wW r
theorem EN (r:RO):(sY r).length≤r.wt:=by rw [tR];exact r.ve
theorem D0 {α β:Type} {f:α→List β} {l:List α} {i:Nat} (h:i<l.length):(l.take (i+1)).flatMap f=(l.take i).flatMap f++f l[i]:=by
 rw [List.take_succ_eq_append_getElem h,List.flatMap_append];simp
theorem AP {α β:Type} {f:α→List β} {l:List α} {i:Nat}:((l.take i).flatMap f).length≤(l.flatMap f).length:=by
 have:l.flatMap f=(l.take i).flatMap f++(l.drop i).flatMap f:=by rw [← List.flatMap_append,List.take_append_drop]
 rw [this,List.length_append];omega
theorem Hf (r:RO) (hr:r.wt<2^40):DCalls Tryz.prog 89 [.agg (r9 r)] (.slice 5 ((vq r).map sA)):=by
 refine qF (rs:=[.tmp 2]) mixed Tryz.func89 l89 rfl rfl rfl (r:=[.slice 5 ((vq r).map sA)]) (nlZ rfl) ?_
 have h1:=t64 _ r (Nat.le_refl _) hr
 have hpl:=zh r
 have hwt:=uo r
 have hpa:=EN r
 have hcl:=sd r
 unfold vq at hpl ⊢
 generalize sY r=ps at *
 have hlen:((ps.map sL).length:Int)=(ps.length:Int):=by rw [List.length_map]
 repeat' ((conv=>whnf);first|refine rp _ (h1) ?_|refine aS ?_|fail)
 refine q7 (α:=Nat) (fun i=>{sl:=[(3,.own 27 25 5 (((ps.take i).flatMap vN).map sA)),(4,.t (.slice 9 (ps.map sL))),(5,.t (I i))],bx:=[]})
  (fun i=>i≤ps.length) (fun i=>ps.length - i) 0 (by simp) ?_ ?_
 ·repeat' (first|exact trivial|exact LeV.same _|exact rfl|exact fun _ _ _=>trivial|exact LeV.nil _ _ _|refine And.intro ?_ ?_)
 rintro i hi
 rcases Nat.lt_or_ge i ps.length with h|h
 ·have hlt:(i:Int)<((ps.map sL).length:Int):=by omega
  have hx:(ps.map sL)[i]?.getD .nil= .agg (r9 ps[i]):=by simp [h,sy]
  have ht:=D0 (f:=vN) h
  have htl:=AP (f:=vN) (l:=ps) (i:=i+1)
  have hw:=hwt ps[i] (List.getElem_mem h)
  generalize ps[i]=x at *
  obtain ⟨k,⟨pk,pf,pn,pm,pa⟩,f,n,a⟩:=x
  simp only [RO.wt] at hw
  by_cases hk:k=1
  ·have e:vN (.mk k (.mk pk pf pn pm pa) f n a)=sP (.mk pk pf pn pm pa):=by unfold vN;exact if_pos hk
   rw [e] at ht
   rw [ht,List.length_append] at htl
   have h2:=t91 _ (RP.mk pk pf pn pm pa) (Nat.le_refl _) (by omega)
   have e2:((ps.take (i+1)).flatMap vN).map sA=((ps.take i).flatMap vN).map sA++(sP (.mk pk pf pn pm pa)).map sA:=by rw [ht,List.map_append]
   repeat' ((conv=>whnf);first|refine qg hlt ?_|(refine nv_ (.agg (r9 (.mk k (.mk pk pf pn pm pa) f n a))) (by first|exact hx|fail) ?_)|refine qi hk ?_|refine rp _ (h2) ?_|refine nT_ ?_|(refine And.intro (by first|((simp only [List.length_map];omega);done)|fail) ?_)|refine aS ?_|fail)
   refine ⟨i+1,h,by omega,?_⟩
   repeat' (first|(exact rM e2)|exact trivial|exact LeV.same _|exact rfl|exact fun _ _ _=>trivial|exact lI|refine And.intro ?_ ?_)
  ·have e:vN (.mk k (.mk pk pf pn pm pa) f n a)=[]:=by unfold vN;exact if_neg hk
   rw [e,List.append_nil] at ht
   repeat' ((conv=>whnf);first|refine qg hlt ?_|(refine nv_ (.agg (r9 (.mk k (.mk pk pf pn pm pa) f n a))) (by first|exact hx|fail) ?_)|refine qh hk ?_|refine nT_ ?_|refine aS ?_|fail)
   refine ⟨i+1,h,by omega,?_⟩
   repeat' (first|(exact rM (by rw [ht]))|exact trivial|exact LeV.same _|exact rfl|exact fun _ _ _=>trivial|exact lI|refine And.intro ?_ ?_)
 ·have hlt: ¬(i:Int)<((ps.map sL).length:Int):=by omega
  have:i=ps.length:=by omega
  subst this
  rw [List.take_length]
  repeat' ((conv=>whnf);first|exact trivial|refine qe hlt ?_|refine aS ?_|fail)
theorem Hd (r:RO) (hr:r.wt<2^40):DCalls Tryz.prog 59 [.agg (r9 r)] (.bool (yw r)):=by
 refine qF (rs:=[.tmp 2]) mixed Tryz.func59 l59 rfl rfl rfl (r:=[.bool _]) (nlZ rfl) ?_
 have h1:=Hf r (by omega)
 have hpl:=zh r
 have hcl:=sd r
 unfold yw
 generalize vq r=ps at *
 have hlen:((ps.map sA).length:Int)=(ps.length:Int):=by rw [List.length_map]
 repeat' ((conv=>whnf);first|refine rp _ (h1) ?_|refine aS ?_|fail)
 refine q7 (α:=Nat) (fun i=>{sl:=[(3,.t (.slice 5 (ps.map sA))),(4,.t (I i))],bx:=[]})
  (fun i=>i≤ps.length∧ ∀j (h:j<ps.length),j<i→ps[j].kind≠9) (fun i=>ps.length - i) 0 (by simp) ?_ ?_
 ·repeat' (first|exact trivial|exact LeV.same _|exact rfl|exact fun _ _ _=>trivial|refine And.intro ?_ ?_)
 rintro i ⟨hi,hp⟩
 rcases Nat.lt_or_ge i ps.length with h|h
 ·have hlt:(i:Int)<((ps.map sA).length:Int):=by omega
  have hx:(ps.map sA)[i]?.getD .nil= .agg (sb ps[i]):=by simp [h,si]
  by_cases hk:ps[i].kind=9
  ·have e:(ps.any fun x=>x.kind==9)=true:=List.any_eq_true.2 ⟨ps[i],List.getElem_mem h,by simp [hk]⟩
   rw [e]
   clear e
   generalize ps[i]=x at *
   obtain ⟨k,f,n,m,a⟩:=x
   have hk:k=9:=hk
   repeat' ((conv=>whnf);first|exact trivial|refine qg hlt ?_|(refine nv_ (.agg (sb (.mk k f n m a))) (by first|exact hx|fail) ?_)|refine qi hk ?_|refine nT_ ?_|refine rb1 ?_|refine aS ?_|fail)
  ·have hk':=hk
   obtain ⟨x,hxe⟩: ∃x,ps[i]=x:=⟨_,rfl⟩
   rw [hxe] at hx hk'
   obtain ⟨k,f,n,m,a⟩:=x
   have hk':k≠9:=hk'
   repeat' ((conv=>whnf);first|refine qg hlt ?_|(refine nv_ (.agg (sb (.mk k f n m a))) (by first|exact hx|fail) ?_)|refine qh hk' ?_|refine nT_ ?_|refine aS ?_|fail)
   refine ⟨i+1,⟨h,fun j hj hlt=>?_⟩,by omega,?_⟩
   ·rcases Nat.lt_or_ge j i with h4|h4
    ·exact hp j hj h4
    ·obtain rfl:j=i:=by omega
     exact hk
   ·repeat' (first|exact trivial|exact LeV.same _|exact rfl|exact fun _ _ _=>trivial|exact lI|refine And.intro ?_ ?_)
 ·have hlt: ¬(i:Int)<((ps.map sA).length:Int):=by omega
  have e:(ps.any fun x=>x.kind==9)=false:=by
   rw [List.any_eq_false]
   intro x hx
   obtain ⟨j,hj,rfl⟩:=List.getElem_of_mem hx
   have:=hp j hj (by omega)
   simpa using this
  rw [e]
  repeat' ((conv=>whnf);first|exact trivial|refine qe hlt ?_|refine rb0 ?_|refine aS ?_|fail)
end Go.TY
end
section
namespace Go.TY
open Go Go.DL Go.MM Go.Proofs
end Go.TY
end
section
namespace Go.TY
open Go Go.DL Go.MM
theorem v7 {gs:List RG} {s:RS}:s∈sJ (gs.map (·.st))↔ ∃g∈gs,g.st=s∧s.kind≠0:=by
 unfold sJ
 rw [List.mem_filter,List.mem_map]
 simp only [bne_iff_ne,ne_eq]
 exact ⟨fun ⟨⟨g,h1,h2⟩,h3⟩=>⟨g,h1,h2,h3⟩,fun ⟨g,h1,h2,h3⟩=>⟨⟨g,h1,h2⟩,h3⟩⟩
end Go.TY
end
section
namespace Go.TY
open Go Go.DL Go.MM
end Go.TY
end
section
namespace Go.TY
open Go Go.DL Go.MM Go.Proofs
theorem zU (a b:ByteArray):sa a b=sa b a:=by
 cases h:sa b a with
 |true=>rw [sE.1 h];exact sE.2 rfl
 |false=>exact sK sE fun e=>by rw [e,sE.2 rfl] at h;cases h
def xz (s:RS):List ByteArray:=s.key++(if sa s.field e0 then [] else [s.field])
theorem Eh (l:List Fd) (s:RS):((!sa s.field e0&& !sX l s.field)|| !s.key.all (sX l))= !(xz s).all (sX l):=by
 unfold xz
 rw [List.all_append]
 cases sa s.field e0 <;> cases s.key.all (sX l) <;> simp
theorem Ax {ks:List ByteArray} {i:Nat} (h:i<ks.length):vV ks i=false↔ ∀j (_:j<i),sa (ks.getD j e0) ks[i]=false:=by
 unfold vV
 rw [List.any_eq_false,show ks.getD i e0=ks[i] from by rw [List.getD_eq_getElem?_getD,ggZ h];rfl]
 constructor
 ·intro hh j hj
  have hjl:j<ks.length:=by omega
  have hm:ks[j]∈ks.take i:=by
   rw [List.mem_iff_getElem]
   exact ⟨j,by rw [List.length_take];omega,by rw [List.getElem_take]⟩
  have:=hh ks[j] hm
  rw [show ks.getD j e0=ks[j] from by rw [List.getD_eq_getElem?_getD,ggZ hjl];rfl,zU]
  simpa using this
 ·intro hh x hx
  obtain ⟨j,hj,rfl⟩:=List.getElem_of_mem hx
  rw [List.length_take] at hj
  rw [List.getElem_take]
  have:=hh j (by omega)
  rw [show ks.getD j e0=ks[j] from by rw [List.getD_eq_getElem?_getD,ggZ (show j<ks.length by omega)];rfl,zU] at this
  rw [this];simp
theorem IV (l:List Fd) (hl:LOk l) (s:RS) (h:SmS (2^39) s):DCalls Tryz.prog 20 [fds l,.agg (se s)] (I (ta l s)):=by
 refine qF (rs:=[.tmp 4]) mixed Tryz.func20 l20 rfl rfl rfl (r:=[.int _ _]) (nlZ rfl) ?_
 have h1:=yZ s (h.mono (by omega))
 have h4f:=fun h hk=>@AY s h hk
 have hkl:=h.len
 unfold ta
 by_cases c0:sV s=0
 case neg=>
  rw [if_pos c0]
  generalize sV s=e at *
  obtain ⟨k,v,ks,f,n,m⟩:=s
  repeat' ((conv=>whnf);first|exact trivial|refine rp _ (h1) ?_|refine qm c0 ?_|refine nT_ ?_|refine aE1 ?_|refine aE0 ?_|refine aN1 ?_|refine aN0 ?_|refine aD1 ?_|refine aD0 ?_|refine nE_ (fun hq=>?_) (fun hq=>?_)|refine nN_ (fun hq=>?_) (fun hq=>?_)|refine nD_ (fun hq=>?_) (fun hq=>?_)|refine rb1 ?_|refine rb0 ?_|refine rbx ?_|refine rix ?_|refine aS ?_|fail)
 rw [c0] at h1
 have h4f:=h4f c0
 rw [if_neg (by simpa using c0)]
 clear c0
 have hbad:=Eh l s
 rw [hbad]
 have hnames:xz s=s.key++(if sa s.field e0 then [] else [s.field]):=rfl
 have hnl:(xz s).length≤s.key.length+1:=by
  rw [hnames,List.length_append]
  split <;> simp
 have hmem:sa s.field e0=false→s.field∈xz s:=fun hf=>by
  rw [hnames,hf];simp
 generalize xz s=ns at *
 obtain ⟨k,v,ks,f,n,m⟩:=s
 dsimp only at hkl h4f hnames hnl hmem ⊢
 have hkk:((ks.map T.str).length:Int)=(ks.length:Int):=by rw [List.length_map]
 have hnn:((ns.map T.str).length:Int)=(ns.length:Int):=by rw [List.length_map]
 by_cases k0:k=0
 ·rw [if_pos k0]
  repeat' ((conv=>whnf);first|exact trivial|refine rp _ (h1) ?_|refine qi k0 ?_|refine nT_ ?_|refine aE1 ?_|refine aE0 ?_|refine aN1 ?_|refine aN0 ?_|refine aD1 ?_|refine aD0 ?_|refine nE_ (fun hq=>?_) (fun hq=>?_)|refine nN_ (fun hq=>?_) (fun hq=>?_)|refine nD_ (fun hq=>?_) (fun hq=>?_)|refine rb1 ?_|refine rb0 ?_|refine rbx ?_|refine rix ?_|refine aS ?_|fail)
 rw [if_neg k0]
 have hE:(!(f.toList==e0.toList))= !sa f e0:=by rw [su]
 repeat' ((conv=>whnf);first|exact trivial|refine rp _ (h1) ?_|refine qh k0 ?_|refine nT_ ?_|refine aE1 ?_|refine aE0 ?_|refine aN1 ?_|refine aN0 ?_|refine aD1 ?_|refine aD0 ?_|refine nE_ (fun hq=>?_) (fun hq=>?_)|refine nN_ (fun hq=>?_) (fun hq=>?_)|refine nD_ (fun hq=>?_) (fun hq=>?_)|refine rb1 ?_|refine rb0 ?_|refine rbx ?_|refine rix ?_|(refine And.intro (by first|((simp only [List.length_map];omega);done)|fail) ?_)|refine aS ?_|fail)
 refine rh (β:=Unit) (fun _=>{sl:=[(0,.t (fds l)),(3,.ptr 3 0),(6,.t (.slice 1 (ns.map .str)))],bx:=[(3,.d 6 (se ⟨k,v,ks,f,n,m⟩))]}) (fun _=>True) ?_ ?_
 ·clear hmem h4f
  cases hs:sa f e0 with
  |true=>
   rw [hs] at hE hnames
   have hn2:ks.map T.str=ns.map T.str:=by rw [hnames];simp
   repeat' ((conv=>whnf);first|exact trivial|refine nb_ _ hE ?_|(exact ⟨(),trivial,by (repeat' (first|(exact wy (by rw [List.nil_append];exact hn2.symm))|(exact wy hn2.symm)|(exact wy hn2)|exact trivial|exact LeV.same _|exact LeB.same _|exact rfl|exact fun _ _ _=>trivial|exact lI|exact LeV.nil _ _ _|exact lB|refine r7 ?_|refine rM ?_|refine And.intro ?_ ?_));done⟩)|refine nT_ ?_|refine aE1 ?_|refine aE0 ?_|refine aN1 ?_|refine aN0 ?_|refine aD1 ?_|refine aD0 ?_|refine nE_ (fun hq=>?_) (fun hq=>?_)|refine nN_ (fun hq=>?_) (fun hq=>?_)|refine nD_ (fun hq=>?_) (fun hq=>?_)|refine rb1 ?_|refine rb0 ?_|refine rbx ?_|refine rix ?_|refine aS ?_|fail)
  |false=>
   rw [hs] at hE hnames
   have hn2:ks.map T.str++[T.str f]=ns.map T.str:=by rw [hnames];simp
   repeat' ((conv=>whnf);first|exact trivial|refine nb_ _ hE ?_|(exact ⟨(),trivial,by (repeat' (first|(exact wy hn2.symm)|(exact wy hn2)|exact trivial|exact LeV.same _|exact LeB.same _|exact rfl|exact fun _ _ _=>trivial|exact lI|exact LeV.nil _ _ _|exact lB|refine r7 ?_|refine rM ?_|refine And.intro ?_ ?_));done⟩)|refine nT_ ?_|refine aE1 ?_|refine aE0 ?_|refine aN1 ?_|refine aN0 ?_|refine aD1 ?_|refine aD0 ?_|refine nE_ (fun hq=>?_) (fun hq=>?_)|refine nN_ (fun hq=>?_) (fun hq=>?_)|refine nD_ (fun hq=>?_) (fun hq=>?_)|refine rb1 ?_|refine rb0 ?_|refine rbx ?_|refine rix ?_|(refine And.intro (by first|((simp only [List.length_map,List.length_append];omega);done)|fail) ?_)|refine aS ?_|fail)
 rintro _ _
 repeat' ((conv=>whnf);first|exact trivial|refine nT_ ?_|refine aE1 ?_|refine aE0 ?_|refine aN1 ?_|refine aN0 ?_|refine aD1 ?_|refine aD0 ?_|refine nE_ (fun hq=>?_) (fun hq=>?_)|refine nN_ (fun hq=>?_) (fun hq=>?_)|refine nD_ (fun hq=>?_) (fun hq=>?_)|refine rb1 ?_|refine rb0 ?_|refine rbx ?_|refine rix ?_|refine aS ?_|fail)
 refine qQ 0 (α:=Nat) (β:=Unit) (fun i=>{sl:=[(0,.t (fds l)),(3,.ptr 3 0),(6,.t (.slice 1 (ns.map .str))),(7,.t (I i))],bx:=[(3,.d 6 (se ⟨k,v,ks,f,n,m⟩))]})
  (fun i=>i≤ns.length∧ ∀j (h:j<ns.length),j<i→sX l ns[j]=true) (fun i=>ns.length - i)
  (fun _=>{sl:=[(0,.t (fds l)),(3,.ptr 3 0)],bx:=[(3,.d 6 (se ⟨k,v,ks,f,n,m⟩))]}) (fun _=>ns.all (sX l)=true) 0 (by simp) ?_ ?_ ?_
 ·repeat' (first|exact trivial|exact LeV.same _|exact LeB.same _|exact rfl|exact fun _ _ _=>trivial|exact lI|exact LeV.nil _ _ _|exact lB|refine r7 ?_|refine rM ?_|refine And.intro ?_ ?_)
 ·rintro i ⟨hi,hp⟩
  rcases Nat.lt_or_ge i ns.length with h|h
  ·have hlt:(i:Int)<((ns.map T.str).length:Int):=by omega
   have hn:=Bo l hl ns[i]
   have hx:(ns.map T.str)[i]?.getD .nil= .str ns[i]:=by simp [h]
   cases hb:sX l ns[i] with
   |true=>
    rw [hb] at hn
    repeat' ((conv=>whnf);first|exact trivial|refine qg hlt ?_|(refine nv_ (.str ns[i]) (by first|exact hx|fail) ?_)|refine rp _ (hn) ?_|refine nT_ ?_|refine aE1 ?_|refine aE0 ?_|refine aN1 ?_|refine aN0 ?_|refine aD1 ?_|refine aD0 ?_|refine nE_ (fun hq=>?_) (fun hq=>?_)|refine nN_ (fun hq=>?_) (fun hq=>?_)|refine nD_ (fun hq=>?_) (fun hq=>?_)|refine rb1 ?_|refine rb0 ?_|refine rbx ?_|refine rix ?_|refine aS ?_|fail)
    refine ⟨i+1,⟨h,fun j hj hlt=>?_⟩,by omega,?_⟩
    ·rcases Nat.lt_or_ge j i with h4|h4
     ·exact hp j hj h4
     ·obtain rfl:j=i:=by omega
      exact hb
    ·repeat' (first|exact trivial|exact LeV.same _|exact LeB.same _|exact rfl|exact fun _ _ _=>trivial|exact lI|exact LeV.nil _ _ _|exact lB|refine r7 ?_|refine rM ?_|refine And.intro ?_ ?_)
   |false=>
    rw [hb] at hn
    have e:ns.all (sX l)=false:=by
     rw [List.all_eq_false]
     exact ⟨ns[i],List.getElem_mem h,by rw [hb];simp⟩
    rw [e]
    clear e hmem
    repeat' ((conv=>whnf);first|exact trivial|refine qg hlt ?_|(refine nv_ (.str ns[i]) (by first|exact hx|fail) ?_)|refine rp _ (hn) ?_|refine nT_ ?_|refine aE1 ?_|refine aE0 ?_|refine aN1 ?_|refine aN0 ?_|refine aD1 ?_|refine aD0 ?_|refine nE_ (fun hq=>?_) (fun hq=>?_)|refine nN_ (fun hq=>?_) (fun hq=>?_)|refine nD_ (fun hq=>?_) (fun hq=>?_)|refine rb1 ?_|refine rb0 ?_|refine rbx ?_|refine rix ?_|refine aS ?_|fail)
  ·have hlt: ¬(i:Int)<((ns.map T.str).length:Int):=by omega
   have hall:ns.all (sX l)=true:=by
    rw [List.all_eq_true]
    intro x hx
    obtain ⟨j,hj,rfl⟩:=List.getElem_of_mem hx
    exact hp j hj (by omega)
   repeat' ((conv=>whnf);first|exact trivial|refine qe hlt ?_|(exact ⟨(),hall,by (repeat' (first|exact trivial|exact LeV.same _|exact LeB.same _|exact rfl|exact fun _ _ _=>trivial|exact lI|exact LeV.nil _ _ _|exact lB|refine r7 ?_|refine rM ?_|refine And.intro ?_ ?_));done⟩)|refine nT_ ?_|refine aE1 ?_|refine aE0 ?_|refine aN1 ?_|refine aN0 ?_|refine aD1 ?_|refine aD0 ?_|refine nE_ (fun hq=>?_) (fun hq=>?_)|refine nN_ (fun hq=>?_) (fun hq=>?_)|refine nD_ (fun hq=>?_) (fun hq=>?_)|refine rb1 ?_|refine rb0 ?_|refine rbx ?_|refine rix ?_|refine aS ?_|fail)
 rintro _ hall
 rw [hall]
 simp only [Bool.not_true,Bool.false_eq_true,if_false]
 have hfd:k=4→sX l f=true:=fun k4=>List.all_eq_true.1 hall f (hmem (h4f k4))
 clear hall hmem h4f hnames hE hbad
 repeat' ((conv=>whnf);first|exact trivial|refine nT_ ?_|refine aE1 ?_|refine aE0 ?_|refine aN1 ?_|refine aN0 ?_|refine aD1 ?_|refine aD0 ?_|refine nE_ (fun hq=>?_) (fun hq=>?_)|refine nN_ (fun hq=>?_) (fun hq=>?_)|refine nD_ (fun hq=>?_) (fun hq=>?_)|refine rb1 ?_|refine rb0 ?_|refine rbx ?_|refine rix ?_|refine aS ?_|fail)
 refine qQ 2 (α:=Nat) (β:=Unit) (fun i=>{sl:=[(0,.t (fds l)),(3,.ptr 3 0),(10,.t (I i))],bx:=[(3,.d 6 (se ⟨k,v,ks,f,n,m⟩))]})
  (fun i=>i≤ks.length∧ ∀j (h:j<ks.length),j<i→vV ks j=false) (fun i=>ks.length - i)
  (fun _=>{sl:=[(0,.t (fds l)),(3,.ptr 3 0)],bx:=[(3,.d 6 (se ⟨k,v,ks,f,n,m⟩))]}) (fun _=>xL ks=false) 0 (by simp) ?_ ?_ ?_
 ·repeat' (first|exact trivial|exact LeV.same _|exact LeB.same _|exact rfl|exact fun _ _ _=>trivial|exact lI|exact LeV.nil _ _ _|exact lB|refine r7 ?_|refine rM ?_|refine And.intro ?_ ?_)
 ·rintro i ⟨hi,hp⟩
  rcases Nat.lt_or_ge i ks.length with h|h
  ·have hlt:(i:Int)<((ks.map T.str).length:Int):=by omega
   have hx:(ks.map T.str)[i]?.getD .nil= .str ks[i]:=by simp [h]
   repeat' ((conv=>whnf);first|exact trivial|refine qg hlt ?_|refine nT_ ?_|refine aE1 ?_|refine aE0 ?_|refine aN1 ?_|refine aN0 ?_|refine aD1 ?_|refine aD0 ?_|refine nE_ (fun hq=>?_) (fun hq=>?_)|refine nN_ (fun hq=>?_) (fun hq=>?_)|refine nD_ (fun hq=>?_) (fun hq=>?_)|refine rb1 ?_|refine rb0 ?_|refine rbx ?_|refine rix ?_|refine aS ?_|fail)
   refine qQ 4 (α:=Nat) (β:=Unit) (fun q=>{sl:=[(0,.t (fds l)),(3,.ptr 3 0),(10,.t (I i)),(11,.t (I q))],bx:=[(3,.d 6 (se ⟨k,v,ks,f,n,m⟩))]})
    (fun q=>q≤i∧ ∀j (_:j<i),j<q→sa (ks.getD j e0) ks[i]=false) (fun q=>i - q)
    (fun _=>{sl:=[(0,.t (fds l)),(3,.ptr 3 0),(10,.t (I i))],bx:=[(3,.d 6 (se ⟨k,v,ks,f,n,m⟩))]}) (fun _=>vV ks i=false) 0 (by simp) ?_ ?_ ?_
   ·repeat' (first|exact trivial|exact LeV.same _|exact LeB.same _|exact rfl|exact fun _ _ _=>trivial|exact lI|exact LeV.nil _ _ _|exact lB|refine r7 ?_|refine rM ?_|refine And.intro ?_ ?_)
   ·rintro q ⟨hq,hp2⟩
    rcases Nat.lt_or_ge q i with h2|h2
    ·have hlt2:(q:Int)<(i:Int):=by omega
     have hql:q<ks.length:=by omega
     have hy:(ks.map T.str)[q]?.getD .nil= .str ks[q]:=by simp [hql]
     have hg:ks.getD q e0=ks[q]:=by rw [List.getD_eq_getElem?_getD,ggZ hql];rfl
     have hE2:=su ks[q] ks[i]
     have hqlt:(q:Int)<((ks.map T.str).length:Int):=by omega
     cases hb:sa ks[q] ks[i] with
     |true=>
      rw [hb] at hE2
      have e:xL ks=true:=by
       unfold xL
       refine List.any_eq_true.2 ⟨i,List.mem_range.2 h,?_⟩
       cases hd:vV ks i with
       |true=>rfl
       |false=>
        have:=(Ax h).1 hd q h2
        rw [hg,hb] at this;cases this
      rw [e]
      clear e hp hp2 hfd
      repeat' ((conv=>whnf);first|exact trivial|refine qg hlt2 ?_|(refine nv_ (.str ks[q]) (by first|exact hy|fail) ?_)|(refine nv_ (.str ks[i]) (by first|exact hx|fail) ?_)|refine nb_ _ hE2 ?_|refine nT_ ?_|refine aE1 ?_|refine aE0 ?_|refine aN1 ?_|refine aN0 ?_|refine aD1 ?_|refine aD0 ?_|refine nE_ (fun hq=>?_) (fun hq=>?_)|refine nN_ (fun hq=>?_) (fun hq=>?_)|refine nD_ (fun hq=>?_) (fun hq=>?_)|refine rb1 ?_|refine rb0 ?_|refine rbx ?_|refine rix ?_|refine aS ?_|fail)
     |false=>
      rw [hb] at hE2
      repeat' ((conv=>whnf);first|exact trivial|refine qg hlt2 ?_|(refine nv_ (.str ks[q]) (by first|exact hy|fail) ?_)|(refine nv_ (.str ks[i]) (by first|exact hx|fail) ?_)|refine nb_ _ hE2 ?_|refine nT_ ?_|refine aE1 ?_|refine aE0 ?_|refine aN1 ?_|refine aN0 ?_|refine aD1 ?_|refine aD0 ?_|refine nE_ (fun hq=>?_) (fun hq=>?_)|refine nN_ (fun hq=>?_) (fun hq=>?_)|refine nD_ (fun hq=>?_) (fun hq=>?_)|refine rb1 ?_|refine rb0 ?_|refine rbx ?_|refine rix ?_|refine aS ?_|fail)
      refine ⟨q+1,⟨h2,fun j hj hlt=>?_⟩,by omega,?_⟩
      ·rcases Nat.lt_or_ge j q with h4|h4
       ·exact hp2 j hj h4
       ·obtain rfl:j=q:=by omega
        rw [hg];exact hb
      ·repeat' (first|exact trivial|exact LeV.same _|exact LeB.same _|exact rfl|exact fun _ _ _=>trivial|exact lI|exact LeV.nil _ _ _|exact lB|refine r7 ?_|refine rM ?_|refine And.intro ?_ ?_)
    ·have hlt2: ¬(q:Int)<(i:Int):=by omega
     have hd:=(Ax h).2 fun j hj=>hp2 j hj (by omega)
     repeat' ((conv=>whnf);first|exact trivial|refine qe hlt2 ?_|(exact ⟨(),hd,by (repeat' (first|exact trivial|exact LeV.same _|exact LeB.same _|exact rfl|exact fun _ _ _=>trivial|exact lI|exact LeV.nil _ _ _|exact lB|refine r7 ?_|refine rM ?_|refine And.intro ?_ ?_));done⟩)|refine nT_ ?_|refine aE1 ?_|refine aE0 ?_|refine aN1 ?_|refine aN0 ?_|refine aD1 ?_|refine aD0 ?_|refine nE_ (fun hq=>?_) (fun hq=>?_)|refine nN_ (fun hq=>?_) (fun hq=>?_)|refine nD_ (fun hq=>?_) (fun hq=>?_)|refine rb1 ?_|refine rb0 ?_|refine rbx ?_|refine rix ?_|refine aS ?_|fail)
   ·rintro _ hd
    repeat' ((conv=>whnf);first|exact trivial|refine nT_ ?_|refine aE1 ?_|refine aE0 ?_|refine aN1 ?_|refine aN0 ?_|refine aD1 ?_|refine aD0 ?_|refine nE_ (fun hq=>?_) (fun hq=>?_)|refine nN_ (fun hq=>?_) (fun hq=>?_)|refine nD_ (fun hq=>?_) (fun hq=>?_)|refine rb1 ?_|refine rb0 ?_|refine rbx ?_|refine rix ?_|refine aS ?_|fail)
    refine ⟨i+1,⟨h,fun j hj hlt=>?_⟩,by omega,?_⟩
    ·rcases Nat.lt_or_ge j i with h4|h4
     ·exact hp j hj h4
     ·obtain rfl:j=i:=by omega
      exact hd
    ·repeat' (first|exact trivial|exact LeV.same _|exact LeB.same _|exact rfl|exact fun _ _ _=>trivial|exact lI|exact LeV.nil _ _ _|exact lB|refine r7 ?_|refine rM ?_|refine And.intro ?_ ?_)
  ·have hlt: ¬(i:Int)<((ks.map T.str).length:Int):=by omega
   have hd:xL ks=false:=by
    unfold xL
    rw [List.any_eq_false]
    intro j hj
    rw [hp j (List.mem_range.1 hj) (by have:=List.mem_range.1 hj;omega)];simp
   repeat' ((conv=>whnf);first|exact trivial|refine qe hlt ?_|(exact ⟨(),hd,by (repeat' (first|exact trivial|exact LeV.same _|exact LeB.same _|exact rfl|exact fun _ _ _=>trivial|exact lI|exact LeV.nil _ _ _|exact lB|refine r7 ?_|refine rM ?_|refine And.intro ?_ ?_));done⟩)|refine nT_ ?_|refine aE1 ?_|refine aE0 ?_|refine aN1 ?_|refine aN0 ?_|refine aD1 ?_|refine aD0 ?_|refine nE_ (fun hq=>?_) (fun hq=>?_)|refine nN_ (fun hq=>?_) (fun hq=>?_)|refine nD_ (fun hq=>?_) (fun hq=>?_)|refine rb1 ?_|refine rb0 ?_|refine rbx ?_|refine rix ?_|refine aS ?_|fail)
 ·rintro _ hd
  rw [hd]
  simp only [Bool.false_eq_true,if_false]
  have hn:=Bo l hl f
  have hy:Bd l k f m=match findF l f with
   |none=>0
   |some F=>if k=4∧m>((2^F.w - 1:Nat):Int) then 1 else 0:=rfl
  generalize Bd l k f m=y at *
  by_cases k4:k=4
  ·have hf:=hfd k4
   unfold sX at hf
   obtain ⟨F,hF⟩:=Option.isSome_iff_exists.1 hf
   rw [hF] at hy
   dsimp only at hy
   have h97:=t66 F (hl.find hF)
   have hfe:=HK hF
   rw [hfe] at hn
   generalize (2^F.w - 1:Nat)=M at *
   have h97:DCalls Tryz.prog 78 [.agg [.str F.name,I F.a,I F.w]] (I (M:Int)):=h97
   repeat' ((conv=>whnf);first|exact trivial|refine rp _ (hn) ?_|refine nT_ ?_|refine aE1 ?_|refine aE0 ?_|refine aN1 ?_|refine aN0 ?_|refine aD1 ?_|refine aD0 ?_|refine nE_ (fun hq=>?_) (fun hq=>?_)|refine nN_ (fun hq=>?_) (fun hq=>?_)|refine nD_ (fun hq=>?_) (fun hq=>?_)|refine rb1 ?_|refine rb0 ?_|refine rbx ?_|refine rix ?_|refine aS ?_|fail)
   refine rh (β:=Unit) (fun _=>{sl:=[(3,.ptr 3 0),(12,.ptr 12 0)],bx:=[(3,.d 6 (se ⟨k,v,ks,f,n,m⟩)),(12,.d 3 [.str F.name,I F.a,I F.w])]}) (fun _=>True) ?_ ?_
   ·repeat' ((conv=>whnf);first|exact trivial|refine rp _ (hn) ?_|(exact ⟨(),trivial,by (repeat' (first|exact trivial|exact LeV.same _|exact LeB.same _|exact rfl|exact fun _ _ _=>trivial|exact lI|exact LeV.nil _ _ _|exact lB|refine r7 ?_|refine rM ?_|refine And.intro ?_ ?_));done⟩)|refine nT_ ?_|refine aE1 ?_|refine aE0 ?_|refine aN1 ?_|refine aN0 ?_|refine aD1 ?_|refine aD0 ?_|refine nE_ (fun hq=>?_) (fun hq=>?_)|refine nN_ (fun hq=>?_) (fun hq=>?_)|refine nD_ (fun hq=>?_) (fun hq=>?_)|refine rb1 ?_|refine rb0 ?_|refine rbx ?_|refine rix ?_|refine aS ?_|fail)
   rintro _ _
   by_cases hm:m>(M:Int)
   ·rw [if_pos ⟨k4,hm⟩] at hy
    subst hy
    repeat' ((conv=>whnf);first|exact trivial|refine qi k4 ?_|refine rp _ (h97) ?_|refine qg hm ?_|refine nT_ ?_|refine aE1 ?_|refine aE0 ?_|refine aN1 ?_|refine aN0 ?_|refine aD1 ?_|refine aD0 ?_|refine nE_ (fun hq=>?_) (fun hq=>?_)|refine nN_ (fun hq=>?_) (fun hq=>?_)|refine nD_ (fun hq=>?_) (fun hq=>?_)|refine rb1 ?_|refine rb0 ?_|refine rbx ?_|refine rix ?_|refine aS ?_|fail)
   ·rw [if_neg (fun h=>hm h.2)] at hy
    subst hy
    repeat' ((conv=>whnf);first|exact trivial|refine qi k4 ?_|refine rp _ (h97) ?_|refine qe hm ?_|refine nT_ ?_|refine aE1 ?_|refine aE0 ?_|refine aN1 ?_|refine aN0 ?_|refine aD1 ?_|refine aD0 ?_|refine nE_ (fun hq=>?_) (fun hq=>?_)|refine nN_ (fun hq=>?_) (fun hq=>?_)|refine nD_ (fun hq=>?_) (fun hq=>?_)|refine rb1 ?_|refine rb0 ?_|refine rbx ?_|refine rix ?_|refine aS ?_|fail)
  ·have hy:y=0:=by
    rw [hy]
    cases findF l f with
    |none=>rfl
    |some F=>exact if_neg (fun h=>k4 h.1)
   subst hy
   generalize fld l f=F at *
   repeat' ((conv=>whnf);first|exact trivial|refine rp _ (hn) ?_|refine nT_ ?_|refine aE1 ?_|refine aE0 ?_|refine aN1 ?_|refine aN0 ?_|refine aD1 ?_|refine aD0 ?_|refine nE_ (fun hq=>?_) (fun hq=>?_)|refine nN_ (fun hq=>?_) (fun hq=>?_)|refine nD_ (fun hq=>?_) (fun hq=>?_)|refine rb1 ?_|refine rb0 ?_|refine rbx ?_|refine rix ?_|refine aS ?_|fail)
   refine rh (β:=Unit) (fun _=>{sl:=[(3,.ptr 3 0),(12,.ptr 12 0)],bx:=[(3,.d 6 (se ⟨k,v,ks,f,n,m⟩)),(12,.d 3 [.str F.name,I F.a,I F.w])]}) (fun _=>True) ?_ ?_
   ·repeat' ((conv=>whnf);first|exact trivial|refine rp _ (hn) ?_|(exact ⟨(),trivial,by (repeat' (first|exact trivial|exact LeV.same _|exact LeB.same _|exact rfl|exact fun _ _ _=>trivial|exact lI|exact LeV.nil _ _ _|exact lB|refine r7 ?_|refine rM ?_|refine And.intro ?_ ?_));done⟩)|refine nT_ ?_|refine aE1 ?_|refine aE0 ?_|refine aN1 ?_|refine aN0 ?_|refine aD1 ?_|refine aD0 ?_|refine nE_ (fun hq=>?_) (fun hq=>?_)|refine nN_ (fun hq=>?_) (fun hq=>?_)|refine nD_ (fun hq=>?_) (fun hq=>?_)|refine rb1 ?_|refine rb0 ?_|refine rbx ?_|refine rix ?_|refine aS ?_|fail)
   rintro _ _
   repeat' ((conv=>whnf);first|exact trivial|refine qh k4 ?_|refine nT_ ?_|refine aE1 ?_|refine aE0 ?_|refine aN1 ?_|refine aN0 ?_|refine aD1 ?_|refine aD0 ?_|refine nE_ (fun hq=>?_) (fun hq=>?_)|refine nN_ (fun hq=>?_) (fun hq=>?_)|refine nD_ (fun hq=>?_) (fun hq=>?_)|refine rb1 ?_|refine rb0 ?_|refine rbx ?_|refine rix ?_|refine aS ?_|fail)
end Go.TY
end
section
namespace Go.TY
open Go Go.DL Go.MM Go.Proofs
def vg (l:List Fd) (s t:RS):Bool:= !((s.kind !=0)&&((t.kind !=0)&&(sa s.var t.var&& !tV l s t)))
theorem x9 {l:List Fd} {s t:RS}:vg l s t=true↔(s.kind≠0→t.kind≠0→s.var=t.var→tV l s t=true):=by
 unfold vg
 rw [Bool.not_eq_true',Bool.and_eq_false_iff,Bool.and_eq_false_iff,Bool.and_eq_false_iff]
 constructor
 ·intro h h1 h2 h3
  rcases h with h|h|h|h
  ·simp [h1] at h
  ·simp [h2] at h
  ·rw [sE.2 h3] at h;cases h
  ·simpa using h
 ·intro h
  by_cases h1:s.kind=0
  ·left;simp [h1]
  by_cases h2:t.kind=0
  ·right;left;simp [h2]
  cases h3:sa s.var t.var with
  |false=>right;right;left;rfl
  |true=>right;right;right;rw [h h1 h2 (sE.1 h3)];rfl
theorem Cj {l:List Fd} {gs:List RG}:PW l (sJ (gs.map (·.st)))↔ ∀i (hi:i<gs.length) j (_:j<i),vg l (gs[j]'(by omega)).st gs[i].st=true:=by
 constructor
 ·intro h i hi j hj
  rw [x9]
  intro h1 h2 h3
  exact Hw.1 h _ (v7.2 ⟨gs[j]'(by omega),List.getElem_mem _,rfl,h1⟩) _ (v7.2 ⟨gs[i],List.getElem_mem hi,rfl,h2⟩) h3
 ·intro h
  refine PW.of fun s hs t ht e=>?_
  obtain ⟨g,g1,g2,g3⟩:=v7.1 hs
  obtain ⟨g',k1,k2,k3⟩:=v7.1 ht
  obtain ⟨a,ha,rfl⟩:=List.getElem_of_mem g1
  obtain ⟨b,hb,rfl⟩:=List.getElem_of_mem k1
  subst g2;subst k2
  rcases Nat.lt_trichotomy a b with h1|h1|h1
  ·exact x9.1 (h b hb a h1) g3 k3 e
  ·subst h1;exact yJ _
  ·exact yK (x9.1 (h a ha b h1) k3 g3 e.symm)
theorem E7 (l:List Fd) (hl:LOk l) (gs:List RG) (hgl:gs.length<2^40) (hg: ∀g∈gs,SmG (2^39) g):DCalls Tryz.prog 43 [fds l,.slice 15 (gs.map sg)] (I (uW l gs)):=by
 refine qF (rs:=[.tmp 4]) mixed Tryz.func43 l43 rfl rfl rfl (r:=[.int _ _]) (nlZ rfl) ?_
 have hlen:((gs.map sg).length:Int)=(gs.length:Int):=by rw [List.length_map]
 have hc:=Aj gs (by omega) fun g hgm=>⟨(hg g hgm).st.mono (by omega),by have:=(hg g hgm).wt;omega,fun _=>(hg g hgm).names (by omega)⟩
 unfold uW
 by_cases c0:tZ gs=0
 case neg=>
  rw [if_pos c0]
  generalize tZ gs=x at *
  repeat' ((conv=>whnf);first|exact trivial|refine rp _ (hc) ?_|refine qm c0 ?_|refine rix ?_|refine aS ?_|fail)
 rw [if_neg (by simpa using c0)]
 rw [c0] at hc
 repeat' ((conv=>whnf);first|refine rp _ (hc) ?_|refine aN0 ?_|refine aS ?_|fail)
 refine qQ 0 (α:=Nat) (β:=Unit) (fun i=>{sl:=[(0,.t (fds l)),(1,.t (.slice 15 (gs.map sg))),(6,.t (I i))],bx:=[]})
  (fun i=>i≤gs.length∧ ∀j (h:j<gs.length),j<i→tu l gs[j].pol=0∧ta l gs[j].st=0) (fun i=>gs.length - i)
  (fun _=>{sl:=[(0,.t (fds l)),(1,.t (.slice 15 (gs.map sg)))],bx:=[]}) (fun _=>fz2 (fun g=>tu l g.pol) (fun g=>ta l g.st) gs=0) 0 (by simp) ?_ ?_ ?_
 ·repeat' (first|exact trivial|exact LeV.same _|exact rfl|exact fun _ _ _=>trivial|refine And.intro ?_ ?_)
 ·rintro i ⟨hi,hp⟩
  rcases Nat.lt_or_ge i gs.length with h|h
  ·have hlt:(i:Int)<((gs.map sg).length:Int):=by omega
   have hm:=hg gs[i] (List.getElem_mem h)
   have h1:=t40 l hl gs[i].pol (by have:=hm.wt;omega) (hm.names (by omega))
   rw [← Ha] at h1
   have h2:=IV l hl gs[i].st (hm.st.mono (by omega))
   have hx:(gs.map sg)[i]?.getD .nil= .agg (sc gs[i]):=by simp [h];rfl
   have hc1:=vL gs[i]
   have hc2:=vF gs[i]
   by_cases c1:tu l gs[i].pol=0
   ·rw [c1] at h1
    by_cases c2:ta l gs[i].st=0
    ·rw [c2] at h2
     repeat' ((conv=>whnf);first|refine qg hlt ?_|(refine nv_ (.agg (sc gs[i])) (by first|exact hx|fail) ?_)|(refine nv_ (.agg (r9 gs[i].pol)) (by first|exact congrArg T.agg hc1|fail) ?_)|(refine nv_ (.agg (se gs[i].st)) (by first|exact congrArg T.agg hc2|fail) ?_)|refine rp _ (h1) ?_|refine rp _ (h2) ?_|refine aN0 ?_|(refine And.intro (by first|exact uV _|exact wE _|exact vk _|fail) ?_)|refine aS ?_|fail)
     refine ⟨i+1,⟨h,fun j hj hlt=>?_⟩,by omega,?_⟩
     ·rcases Nat.lt_or_ge j i with h4|h4
      ·exact hp j hj h4
      ·obtain rfl:j=i:=by omega
       exact ⟨c1,c2⟩
     ·repeat' (first|exact trivial|exact LeV.same _|exact rfl|exact fun _ _ _=>trivial|exact lI|refine And.intro ?_ ?_)
    ·have e:=zA (f:=fun g:RG=>tu l g.pol) (g:=fun g=>ta l g.st) h hp c1 c2
     have e2:fz2 (fun g:RG=>tu l g.pol) (fun g=>ta l g.st) gs≠0:=by rw [e];exact c2
     rw [if_pos e2,e]
     clear e e2
     dsimp only
     generalize ta l gs[i].st=x at *
     repeat' ((conv=>whnf);first|exact trivial|refine qg hlt ?_|(refine nv_ (.agg (sc gs[i])) (by first|exact hx|fail) ?_)|(refine nv_ (.agg (r9 gs[i].pol)) (by first|exact congrArg T.agg hc1|fail) ?_)|(refine nv_ (.agg (se gs[i].st)) (by first|exact congrArg T.agg hc2|fail) ?_)|refine rp _ (h1) ?_|refine rp _ (h2) ?_|refine qm c2 ?_|refine aN0 ?_|refine rix ?_|(refine And.intro (by first|exact uV _|exact wE _|exact vk _|fail) ?_)|refine aS ?_|fail)
   ·have e:=zz (f:=fun g:RG=>tu l g.pol) (g:=fun g=>ta l g.st) h hp c1
    have e2:fz2 (fun g:RG=>tu l g.pol) (fun g=>ta l g.st) gs≠0:=by rw [e];exact c1
    rw [if_pos e2,e]
    clear e e2
    dsimp only
    generalize tu l gs[i].pol=x at *
    repeat' ((conv=>whnf);first|exact trivial|refine qg hlt ?_|(refine nv_ (.agg (sc gs[i])) (by first|exact hx|fail) ?_)|(refine nv_ (.agg (r9 gs[i].pol)) (by first|exact congrArg T.agg hc1|fail) ?_)|refine rp _ (h1) ?_|refine qm c1 ?_|refine rix ?_|(refine And.intro (by first|exact uV _|exact wE _|exact vk _|fail) ?_)|refine aS ?_|fail)
  ·have hlt: ¬(i:Int)<((gs.map sg).length:Int):=by omega
   have e:=yB (f:=fun g:RG=>tu l g.pol) (g:=fun g=>ta l g.st) (xs:=gs) fun j hj=>hp j hj (by omega)
   repeat' ((conv=>whnf);first|refine qe hlt ?_|(exact ⟨(),e,by (repeat' (first|exact trivial|exact LeV.same _|exact rfl|exact fun _ _ _=>trivial|refine And.intro ?_ ?_));done⟩)|refine aS ?_|fail)
 ·rintro _ hz
  rw [if_neg (by simpa using hz)]
  clear hz hc c0
  have bad: ¬PW l (sJ (gs.map (·.st)))→(if (tG l gs).isNone=true then (11:Int) else 0)=11:=fun h=>if_pos (w9.2 h)
  have fine:PW l (sJ (gs.map (·.st)))→(if (tG l gs).isNone=true then (11:Int) else 0)=0:=fun h=>if_neg fun e=>w9.1 e h
  generalize (if (tG l gs).isNone=true then (11:Int) else 0)=res at *
  skip
  refine q7 (α:=Nat) (fun i=>{sl:=[(0,.t (fds l)),(1,.t (.slice 15 (gs.map sg))),(9,.t (I i))],bx:=[]})
   (fun i=>i≤gs.length∧ ∀a (ha:a<gs.length) b (_:b<a),a<i→vg l (gs[b]'(by omega)).st gs[a].st=true) (fun i=>gs.length - i) 0 (by simp) ?_ ?_
  ·repeat' (first|exact trivial|exact LeV.same _|exact rfl|exact fun _ _ _=>trivial|refine And.intro ?_ ?_)
  rintro i ⟨hi,hp⟩
  rcases Nat.lt_or_ge i gs.length with h|h
  ·have hlt:(i:Int)<((gs.map sg).length:Int):=by omega
   have hx:(gs.map sg)[i]?.getD .nil= .agg (sc gs[i]):=by simp [h];rfl
   have hc2:=vF gs[i]
   have hm:=hg gs[i] (List.getElem_mem h)
   repeat' ((conv=>whnf);first|refine qg hlt ?_|refine aS ?_|fail)
   refine qQ 4 (α:=Nat) (β:=Unit) (fun q=>{sl:=[(0,.t (fds l)),(1,.t (.slice 15 (gs.map sg))),(9,.t (I i)),(10,.t (I q))],bx:=[]})
    (fun q=>q≤i∧ ∀b (_:b<i),b<q→vg l (gs[b]'(by omega)).st gs[i].st=true) (fun q=>i - q)
    (fun _=>{sl:=[(0,.t (fds l)),(1,.t (.slice 15 (gs.map sg))),(9,.t (I i))],bx:=[]}) (fun _=> ∀b (_:b<i),vg l (gs[b]'(by omega)).st gs[i].st=true) 0 (by simp) ?_ ?_ ?_
   ·repeat' (first|exact trivial|exact LeV.same _|exact rfl|exact fun _ _ _=>trivial|refine And.intro ?_ ?_)
   ·rintro q ⟨hq,hp2⟩
    rcases Nat.lt_or_ge q i with h2|h2
    ·have hlt2:(q:Int)<(i:Int):=by omega
     have hql:q<gs.length:=by omega
     have hqlt:(q:Int)<((gs.map sg).length:Int):=by omega
     have hy:(gs.map sg)[q]?.getD .nil= .agg (sc gs[q]):=by simp [hql];rfl
     have hd2:=vF gs[q]
     have hm2:=hg gs[q] (List.getElem_mem hql)
     have ha:=He l hl gs[q].st gs[i].st (by have:=hm2.st.len;omega) (by have:=hm.st.len;omega)
     have nextI:vg l gs[q].st gs[i].st=true→q+1≤i∧ ∀b (_:b<i),b<q+1→vg l (gs[b]'(by omega)).st gs[i].st=true:=fun hgd=>⟨h2,fun b hb hlt=>by
      rcases Nat.lt_or_ge b q with h4|h4
      ·exact hp2 b hb h4
      ·obtain rfl:b=q:=by omega
       exact hgd⟩
     have badI:vg l gs[q].st gs[i].st=false→res=11:=fun hgd=>bad fun hpw=>by
      have:=Cj.1 hpw i h q h2
      rw [hgd] at this;cases this
     have hmu:i - (q+1)<i - q:=by omega
     clear bad fine hp hp2
     unfold vg at nextI badI
     generalize tV l gs[q].st gs[i].st=ag at *
     generalize gs[q]=gq at *
     generalize gs[i]=gi at *
     obtain ⟨qp,qs⟩:=gq
     obtain ⟨ip,is⟩:=gi
     obtain ⟨k,v,ks,f,n,m⟩:=qs
     obtain ⟨k',v',ks',f',n',m'⟩:=is
     dsimp only at hd2 hc2 ha nextI badI
     have hE:=su v v'
     repeat' ((conv=>whnf);first|refine qg hlt2 ?_|refine aS ?_|fail)
     refine rh (β:=Unit) (fun _=>{sl:=[(0,.t (fds l)),(1,.t (.slice 15 (gs.map sg))),(9,.t (I i)),(10,.t (I q)),(11,.ptr 11 0)],bx:=[(11,.d 6 (se ⟨k,v,ks,f,n,m⟩))]}) (fun _=>True) ?_ ?_
     ·repeat' ((conv=>whnf);first|(refine nv_ (.agg (sc ⟨qp,⟨k,v,ks,f,n,m⟩⟩)) (by first|exact hy|fail) ?_)|(refine nv_ (.agg (se ⟨k,v,ks,f,n,m⟩)) (by first|exact congrArg T.agg hd2|fail) ?_)|(exact ⟨(),trivial,by (repeat' (first|exact trivial|exact LeV.same _|exact LeB.same _|exact rfl|exact fun _ _ _=>trivial|refine And.intro ?_ ?_));done⟩)|(refine And.intro (by first|exact vk _|fail) ?_)|refine aS ?_|fail)
     rintro _ _
     skip
     refine rh (β:=Unit) (fun _=>{sl:=[(0,.t (fds l)),(1,.t (.slice 15 (gs.map sg))),(9,.t (I i)),(10,.t (I q)),(11,.ptr 11 0),(12,.ptr 12 0)],bx:=[(11,.d 6 (se ⟨k,v,ks,f,n,m⟩)),(12,.d 6 (se ⟨k',v',ks',f',n',m'⟩))]}) (fun _=>True) ?_ ?_
     ·repeat' ((conv=>whnf);first|(refine nv_ (.agg (sc ⟨ip,⟨k',v',ks',f',n',m'⟩⟩)) (by first|exact hx|fail) ?_)|(refine nv_ (.agg (se ⟨k',v',ks',f',n',m'⟩)) (by first|exact congrArg T.agg hc2|fail) ?_)|(exact ⟨(),trivial,by (repeat' (first|exact trivial|exact LeV.same _|exact LeB.same _|exact rfl|exact fun _ _ _=>trivial|refine And.intro ?_ ?_));done⟩)|(refine And.intro (by first|exact vk _|fail) ?_)|refine aS ?_|fail)
     rintro _ _
     clear hx hy hc2 hd2 hm hm2 hlt hlt2 hqlt
     by_cases c1:k=0
     ·have inv:=nextI (by simp [c1])
      repeat' ((conv=>whnf);first|refine qj c1 ?_|(exact ⟨q+1,inv,hmu,by (repeat' (first|exact trivial|exact LeV.same _|exact rfl|exact fun _ _ _=>trivial|exact lI|refine And.intro ?_ ?_));done⟩)|refine nT_ ?_|refine aS ?_|fail)
     by_cases c2:k'=0
     ·have inv:=nextI (by simp [c2])
      repeat' ((conv=>whnf);first|refine qm c1 ?_|refine qj c2 ?_|(exact ⟨q+1,inv,hmu,by (repeat' (first|exact trivial|exact LeV.same _|exact rfl|exact fun _ _ _=>trivial|exact lI|refine And.intro ?_ ?_));done⟩)|refine nT_ ?_|refine aS ?_|fail)
     cases c3:sa v v' with
     |false=>
      rw [c3] at hE
      have inv:=nextI (by simp [c3])
      repeat' ((conv=>whnf);first|refine qm c1 ?_|refine qm c2 ?_|refine nb_ _ hE ?_|(exact ⟨q+1,inv,hmu,by (repeat' (first|exact trivial|exact LeV.same _|exact rfl|exact fun _ _ _=>trivial|exact lI|refine And.intro ?_ ?_));done⟩)|refine nT_ ?_|refine aS ?_|fail)
     |true=>
      rw [c3] at hE
      cases ag with
      |true=>
       have inv:=nextI (by simp)
       repeat' ((conv=>whnf);first|refine qm c1 ?_|refine qm c2 ?_|refine nb_ _ hE ?_|refine rp _ (ha) ?_|(exact ⟨q+1,inv,hmu,by (repeat' (first|exact trivial|exact LeV.same _|exact rfl|exact fun _ _ _=>trivial|exact lI|refine And.intro ?_ ?_));done⟩)|refine nT_ ?_|refine aS ?_|fail)
      |false=>
       have hres:=badI (by simp [c1,c2,c3])
       clear nextI badI
       rw [hres]
       repeat' ((conv=>whnf);first|exact trivial|refine qm c1 ?_|refine qm c2 ?_|refine nb_ _ hE ?_|refine rp _ (ha) ?_|refine nT_ ?_|refine rix ?_|refine aS ?_|fail)
    ·have hlt2: ¬(q:Int)<(i:Int):=by omega
     have hgd: ∀b (_:b<i),vg l (gs[b]'(by omega)).st gs[i].st=true:=fun b hb=>hp2 b hb (by omega)
     repeat' ((conv=>whnf);first|refine qe hlt2 ?_|(exact ⟨(),hgd,by (repeat' (first|exact trivial|exact LeV.same _|exact rfl|exact fun _ _ _=>trivial|refine And.intro ?_ ?_));done⟩)|refine aS ?_|fail)
   ·rintro _ hgd
    skip
    refine ⟨i+1,⟨h,fun a ha b hb hlt=>?_⟩,by omega,?_⟩
    ·rcases Nat.lt_or_ge a i with h4|h4
     ·exact hp a ha b hb h4
     ·obtain rfl:a=i:=by omega
      exact hgd b hb
    ·repeat' (first|exact trivial|exact LeV.same _|exact rfl|exact fun _ _ _=>trivial|exact lI|refine And.intro ?_ ?_)
  ·have hlt: ¬(i:Int)<((gs.map sg).length:Int):=by omega
   rw [fine (Cj.2 fun a ha b hb=>hp a ha b hb (by omega))]
   clear hp bad fine
   repeat' ((conv=>whnf);first|exact trivial|refine qe hlt ?_|refine rix ?_|refine aS ?_|fail)
end Go.TY
end
section
namespace Go.TY
open Go Go.DL Go.MM Go.Proofs
end Go.TY
end
noncomputable section
namespace Go.TY
open Go Go.DL Go.Proofs
def c60:aV:=(.seq (.region [oo 0 (.mov (.const .nil))] []) (.seq (.region [⟨some 1,.build [S0,Z0,Z0] [(0,1,(.const (.str ⟨#[100,115,116]⟩))),(1,1,(Kc 16)),(2,1,(Kc 8))],none,[]⟩,⟨some 2,.build [S0,Z0,Z0] [(0,1,(.const (.str ⟨#[115,114,99]⟩))),(1,1,(Kc 24)),(2,1,(Kc 8))],none,[]⟩,⟨some 3,.build [S0,Z0,Z0] [(0,1,(.const (.str ⟨#[107,105,110,100]⟩))),(1,1,(Kc 33)),(2,1,(Kc 3))],none,[]⟩,⟨some 4,.buildS 88 3 3 [S0,Z0,Z0] [(0,(tm 1)),(1,(tm 2)),(2,(tm 3))],none,[]⟩,mv 0 4] []) .ret))
theorem l60:(Tryz.f60.body.bind (bz Tryz.prog 5 []))=some c60:=by kernel_rfl
def c62:aV:=(.seq (.region [⟨some 4,.alloc [Z0,S0,Z0,Z0,.nil],none,[]⟩] []) (.seq (.region [mv 5 0,mv 6 1,⟨some 7,.build [Z0,S0,Z0,Z0,.nil] [(0,1,(Kc 3)),(1,1,(tm 5)),(2,1,(tm 6))],none,[]⟩,o0 (.store 5 (tm 4) (tm 7))] []) .ret))
theorem l62:(Tryz.f62.body.bind (bz Tryz.prog 8 []))=some c62:=by kernel_rfl
def c63:aV:=(.seq (.region [⟨some 4,.alloc [Z0,Z0,S0,Z0,Z0,.nil,S0,Z0,.nil],none,[]⟩] []) (.seq (.region [mv 5 0,mv 6 1,⟨some 7,.build [Z0,Z0,S0,Z0,Z0,.nil,S0,Z0,.nil] [(0,1,(Kc 2)),(6,1,(tm 5)),(7,1,(tm 6))],none,[]⟩,o0 (.store 9 (tm 4) (tm 7))] []) .ret))
theorem l63:(Tryz.f63.body.bind (bz Tryz.prog 8 []))=some c63:=by kernel_rfl
def c61:aV:=(.seq (.region [oo 1 (.box 5 (tm 0)),⟨some 2,.alloc [Z0,Z0,S0,Z0,Z0,.nil,S0,Z0,.nil],none,[]⟩] []) (.seq (.region [lA 3 5 1,⟨some 4,.build [Z0,Z0,S0,Z0,Z0,.nil,S0,Z0,.nil] [(0,1,(Kc 1)),(1,5,(tm 3))],none,[]⟩,o0 (.store 9 (tm 2) (tm 4))] []) .ret))
theorem l61:(Tryz.f61.body.bind (bz Tryz.prog 5 []))=some c61:=by kernel_rfl
def c32:aV:=(.seq (.region [oo 2 (.box 9 (tm 0)),oo 3 (.box 9 (tm 1)),⟨some 4,.alloc [Z0,Z0,S0,Z0,Z0,.nil,S0,Z0,.nil],none,[]⟩] []) (.seq (.region [lA 5 9 2,lA 6 9 3,⟨some 7,.buildS 28 9 2 [Z0,Z0,S0,Z0,Z0,.nil,S0,Z0,.nil] [(0,(tm 5)),(1,(tm 6))],none,[]⟩,⟨some 8,.build [Z0,Z0,S0,Z0,Z0,.nil,S0,Z0,.nil] [(0,1,(Kc 4)),(8,1,(tm 7))],none,[]⟩,o0 (.store 9 (tm 4) (tm 8))] []) .ret))
theorem l32:(Tryz.f32.body.bind (bz Tryz.prog 9 []))=some c32:=by kernel_rfl
def c33:aV:=(.seq (.region [oo 2 (.box 9 (tm 0)),oo 3 (.box 9 (tm 1)),⟨some 4,.alloc [Z0,Z0,S0,Z0,Z0,.nil,S0,Z0,.nil],none,[]⟩] []) (.seq (.region [lA 5 9 2,lA 6 9 3,⟨some 7,.buildS 28 9 2 [Z0,Z0,S0,Z0,Z0,.nil,S0,Z0,.nil] [(0,(tm 5)),(1,(tm 6))],none,[]⟩,⟨some 8,.build [Z0,Z0,S0,Z0,Z0,.nil,S0,Z0,.nil] [(0,1,(Kc 3)),(8,1,(tm 7))],none,[]⟩,o0 (.store 9 (tm 4) (tm 8))] []) .ret))
theorem l33:(Tryz.f33.body.bind (bz Tryz.prog 9 []))=some c33:=by kernel_rfl
def c36:aV:=(.seq (.region [oo 4 (.mov kF)] []) (.seq (.region [mv 6 1,oo 7 (.call 37 [tm 6]),mv 5 7] []) (.seq (.region [mv 8 5,mv 9 8,mT 10 0 9,oT 11 9 (.call 11 [tm 10]),oT 12 9 (.bin .eql (tm 11) (Kc 0)),oo 13 (.pick (tm 9) (tm 12) kF),mv 4 13] []) .ret)))
theorem l36:(Tryz.f36.body.bind (bz Tryz.prog 14 []))=some c36:=by kernel_rfl
def c10:aV:=(.seq (.region [oo 0 (.mov kF)] []) (.seq (.region [oo 17 (.call 60 []),mv 1 17] []) (.seq (.region [⟨some 18,.build [Z0,S0,Z0,Z0,.nil] [(0,1,(Kc 1))],none,[]⟩,oo 19 (.call 61 [tm 18]),⟨some 2,.alloc [Z0,Z0,S0,Z0,Z0,.nil,S0,Z0,.nil],none,[]⟩,o0 (.store 9 (tm 2) (tm 19))] []) (.seq (.cut (.region [mv 20 1,⟨some 21,.call 62 [(.const (.str ⟨#[100,115,116]⟩)),(Kc 300)],none,[]⟩,oo 22 (.call 15 [(tm 20),(tm 21)]),oo 23 (.bin .eql (tm 22) (Kc 1)),mv 24 23,mT 25 1 24,⟨some 26,.call 62 [(.const (.str ⟨#[116,111,112]⟩)),(Kc 1)],some (24,true),[]⟩,oT 27 24 (.call 15 [(tm 25),(tm 26)]),oT 28 24 (.bin .eql (tm 27) (Kc 4)),oo 29 (.pick (tm 24) (tm 28) kF),mv 30 29,mT 31 1 30,⟨some 32,.build [Z0,S0,Z0,Z0,.nil] [(0,1,(Kc 4)),(1,1,(.const (.str ⟨#[107,105,110,100]⟩))),(2,1,(Kc 1)),(3,1,(Kc 4))],some (30,true),[]⟩,oT 33 30 (.call 15 [(tm 31),(tm 32)]),oT 34 30 (.bin .eql (tm 33) (Kc 1)),oo 35 (.pick (tm 30) (tm 34) kF),mv 3 35] [])) (.seq (.cut (.region [mv 36 1,⟨some 37,.call 62 [(.const (.str ⟨#[100,115,116]⟩)),(Kc 5)],none,[]⟩,oo 38 (.call 61 [tm 37]),⟨some 39,.call 63 [(.const (.str ⟨#[107,105,110,100]⟩)),(Kc 7)],none,[]⟩,oo 40 (.call 32 [(tm 38),(tm 39)]),oo 41 (.call 17 [(tm 36),(tm 40)]),oo 42 (.bin .eql (tm 41) (Kc 0)),mv 43 42,mT 44 1 43,⟨some 45,.call 63 [(.const (.str ⟨#[107,105,110,100]⟩)),(Kc 8)],some (43,true),[]⟩,oT 46 43 (.call 17 [(tm 44),(tm 45)]),oT 47 43 (.bin .eql (tm 46) (Kc 1)),oo 48 (.pick (tm 43) (tm 47) kF),mv 4 48] [])) (.seq (.cut (.region [mv 49 1,⟨some 50,.buildS 9 1 2 [S0] [(0,(.const (.str ⟨#[115,114,99]⟩))),(1,(.const (.str ⟨#[115,114,99]⟩)))],none,[]⟩,⟨some 51,.build [Z0,S0,.nil,S0,Z0,Z0] [(0,1,(Kc 1)),(1,1,(.const (.str ⟨#[99]⟩))),(2,1,(tm 50))],none,[]⟩,oo 52 (.call 19 [(tm 49),(tm 51)]),oo 53 (.bin .eql (tm 52) (Kc 1)),mv 54 53,mT 55 1 54,⟨some 56,.buildS 9 1 1 [S0] [(0,(.const (.str ⟨#[115,114,99]⟩)))],some (54,true),[]⟩,⟨some 57,.build [Z0,S0,.nil,S0,Z0,Z0] [(0,1,(Kc 4)),(1,1,(.const (.str ⟨#[116]⟩))),(2,1,(tm 56)),(3,1,(.const (.str ⟨#[107,105,110,100]⟩))),(4,1,(Kc 1)),(5,1,(Kc 9))],some (54,true),[]⟩,oT 58 54 (.call 19 [(tm 55),(tm 57)]),oT 59 54 (.bin .eql (tm 58) (Kc 1)),oo 60 (.pick (tm 54) (tm 59) kF),mv 5 60] [])) (.seq (.cut (.region [lA 61 9 2,⟨some 62,.buildS 9 1 1 [S0] [(0,(.const (.str ⟨#[115,114,99]⟩)))],none,[]⟩,⟨some 63,.build [Z0,S0,.nil,S0,Z0,Z0] [(0,1,(Kc 2)),(1,1,(.const (.str ⟨#[99]⟩))),(2,1,(tm 62))],none,[]⟩,⟨some 64,.build [Z0,Z0,S0,Z0,Z0,.nil,S0,Z0,.nil,Z0,S0,.nil,S0,Z0,Z0] [(0,9,(tm 61)),(9,6,(tm 63))],none,[]⟩,⟨some 6,.alloc [Z0,Z0,S0,Z0,Z0,.nil,S0,Z0,.nil,Z0,S0,.nil,S0,Z0,Z0],none,[]⟩,o0 (.store 15 (tm 6) (tm 64))] [])) (.seq (.cut (.region [lA 65 9 2,⟨some 66,.buildS 9 1 1 [S0] [(0,(.const (.str ⟨#[100,115,116]⟩)))],none,[]⟩,⟨some 67,.build [Z0,S0,.nil,S0,Z0,Z0] [(0,1,(Kc 3)),(1,1,(.const (.str ⟨#[99]⟩))),(2,1,(tm 66)),(4,1,(Kc 5))],none,[]⟩,⟨some 68,.build [Z0,Z0,S0,Z0,Z0,.nil,S0,Z0,.nil,Z0,S0,.nil,S0,Z0,Z0] [(0,9,(tm 65)),(9,6,(tm 67))],none,[]⟩,⟨some 7,.alloc [Z0,Z0,S0,Z0,Z0,.nil,S0,Z0,.nil,Z0,S0,.nil,S0,Z0,Z0],none,[]⟩,o0 (.store 15 (tm 7) (tm 68))] [])) (.seq (.cut (.region [lA 69 9 2,⟨some 70,.buildS 9 1 1 [S0] [(0,(.const (.str ⟨#[107,105,110,100]⟩)))],none,[]⟩,⟨some 71,.build [Z0,S0,.nil,S0,Z0,Z0] [(0,1,(Kc 3)),(1,1,(.const (.str ⟨#[99]⟩))),(2,1,(tm 70)),(4,1,(Kc 5))],none,[]⟩,⟨some 72,.build [Z0,Z0,S0,Z0,Z0,.nil,S0,Z0,.nil,Z0,S0,.nil,S0,Z0,Z0] [(0,9,(tm 69)),(9,6,(tm 71))],none,[]⟩,⟨some 8,.alloc [Z0,Z0,S0,Z0,Z0,.nil,S0,Z0,.nil,Z0,S0,.nil,S0,Z0,Z0],none,[]⟩,o0 (.store 15 (tm 8) (tm 72))] [])) (.seq (.cut (.region [lA 73 9 2,⟨some 74,.buildS 9 1 1 [S0] [(0,(.const (.str ⟨#[115,114,99]⟩)))],none,[]⟩,⟨some 75,.build [Z0,S0,.nil,S0,Z0,Z0] [(0,1,(Kc 1)),(1,1,(.const (.str ⟨#[99]⟩))),(2,1,(tm 74))],none,[]⟩,⟨some 76,.build [Z0,Z0,S0,Z0,Z0,.nil,S0,Z0,.nil,Z0,S0,.nil,S0,Z0,Z0] [(0,9,(tm 73)),(9,6,(tm 75))],none,[]⟩,⟨some 9,.alloc [Z0,Z0,S0,Z0,Z0,.nil,S0,Z0,.nil,Z0,S0,.nil,S0,Z0,Z0],none,[]⟩,o0 (.store 15 (tm 9) (tm 76))] [])) (.seq (.cut (.region [lA 77 9 2,⟨some 78,.buildS 9 1 1 [S0] [(0,(.const (.str ⟨#[115,114,99]⟩)))],none,[]⟩,⟨some 79,.build [Z0,S0,.nil,S0,Z0,Z0] [(0,1,(Kc 6)),(1,1,(.const (.str ⟨#[99]⟩))),(2,1,(tm 78)),(4,1,(Kc 1)),(5,1,(Kc 1))],none,[]⟩,⟨some 80,.build [Z0,Z0,S0,Z0,Z0,.nil,S0,Z0,.nil,Z0,S0,.nil,S0,Z0,Z0] [(0,9,(tm 77)),(9,6,(tm 79))],none,[]⟩,⟨some 10,.alloc [Z0,Z0,S0,Z0,Z0,.nil,S0,Z0,.nil,Z0,S0,.nil,S0,Z0,Z0],none,[]⟩,o0 (.store 15 (tm 10) (tm 80))] [])) (.seq (.cut (.region [mv 81 1,lA 82 15 6,lA 83 15 7,⟨some 84,.buildS 61 15 2 [Z0,Z0,S0,Z0,Z0,.nil,S0,Z0,.nil,Z0,S0,.nil,S0,Z0,Z0] [(0,(tm 82)),(1,(tm 83))],none,[]⟩,oo 85 (.call 38 [(tm 81),(tm 84)]),oo 86 (.bin .eql (tm 85) (Kc 0)),mv 87 86,mT 88 1 87,oT 89 87 (.load 15 true (tm 6)),oT 90 87 (.load 15 true (tm 8)),⟨some 91,.buildS 61 15 2 [Z0,Z0,S0,Z0,Z0,.nil,S0,Z0,.nil,Z0,S0,.nil,S0,Z0,Z0] [(0,(tm 89)),(1,(tm 90))],some (87,true),[]⟩,oT 92 87 (.call 38 [(tm 88),(tm 91)]),oT 93 87 (.bin .eql (tm 92) (Kc 11)),oo 94 (.pick (tm 87) (tm 93) kF),mv 95 94,mT 96 1 95,oT 97 95 (.load 15 true (tm 9)),oT 98 95 (.load 15 true (tm 10)),⟨some 99,.buildS 61 15 2 [Z0,Z0,S0,Z0,Z0,.nil,S0,Z0,.nil,Z0,S0,.nil,S0,Z0,Z0] [(0,(tm 97)),(1,(tm 98))],some (95,true),[]⟩,oT 100 95 (.call 38 [(tm 96),(tm 99)]),oT 101 95 (.bin .eql (tm 100) (Kc 11)),oo 102 (.pick (tm 95) (tm 101) kF),mv 11 102] [])) (.seq (.cut (.region [mv 103 1,lA 104 15 6,lA 105 15 7,⟨some 106,.buildS 61 15 2 [Z0,Z0,S0,Z0,Z0,.nil,S0,Z0,.nil,Z0,S0,.nil,S0,Z0,Z0] [(0,(tm 104)),(1,(tm 105))],none,[]⟩,oo 107 (.call 39 [(tm 103),(tm 106)]),mv 12 107] [])) (.seq (.cut (.region [⟨some 108,.build [Z0,S0,Z0,Z0,.nil] [(0,1,(Kc 9)),(2,1,(Kc 3)),(3,1,(Kc 7))],none,[]⟩,oo 109 (.call 61 [tm 108]),⟨some 13,.alloc [Z0,Z0,S0,Z0,Z0,.nil,S0,Z0,.nil],none,[]⟩,o0 (.store 9 (tm 13) (tm 109))] [])) (.seq (.cut (.region [lA 110 9 13,oo 111 (.call 49 [(tm 110),(Kc 3)]),lA 112 9 2,oo 113 (.call 48 [(tm 111),(tm 112)]),mv 114 113,oT 115 114 (.load 9 true (tm 13)),oT 116 114 (.call 49 [(tm 115),(Kc 7)]),⟨some 117,.build [Z0,S0,Z0,Z0,.nil] [(0,1,(Kc 2))],some (114,true),[]⟩,oT 118 114 (.call 61 [tm 117]),oT 119 114 (.call 48 [(tm 116),(tm 118)]),oo 120 (.pick (tm 114) (tm 119) kF),mv 14 120] [])) (.seq (.cut (.region [⟨some 121,.call 62 [(.const (.str ⟨#[100,115,116]⟩)),(Kc 5)],none,[]⟩,oo 122 (.call 61 [tm 121]),⟨some 123,.call 63 [(.const (.str ⟨#[112,111,114,116]⟩)),(Kc 2)],none,[]⟩,oo 124 (.call 32 [(tm 122),(tm 123)]),⟨some 125,.call 63 [(.const (.str ⟨#[112,111,114,116]⟩)),(Kc 1)],none,[]⟩,⟨some 126,.call 63 [(.const (.str ⟨#[115,114,99]⟩)),(Kc 0)],none,[]⟩,⟨some 127,.buildS 28 9 1 [Z0,Z0,S0,Z0,Z0,.nil,S0,Z0,.nil] [(0,(tm 126))],none,[]⟩,⟨some 128,.build [Z0,Z0,S0,Z0,Z0,.nil,S0,Z0,.nil] [(0,1,(Kc 5)),(8,1,(tm 127))],none,[]⟩,oo 129 (.call 32 [(tm 125),(tm 128)]),oo 130 (.call 33 [(tm 124),(tm 129)]),⟨some 15,.alloc [Z0,Z0,S0,Z0,Z0,.nil,S0,Z0,.nil],none,[]⟩,o0 (.store 9 (tm 15) (tm 130))] [])) (.seq (.cut (.region [lA 131 9 15,oo 132 (.call 23 [tm 131]),⟨some 133,.buildS 9 1 1 [S0] [(0,(.const (.str ⟨#[100,115,116]⟩)))],none,[]⟩,oo 134 (.call 22 [(tm 132),(tm 133)]),mv 135 134,oT 136 135 (.load 9 true (tm 15)),oT 137 135 (.call 25 [tm 136]),⟨some 138,.buildS 9 1 2 [S0] [(0,(.const (.str ⟨#[112,111,114,116]⟩))),(1,(.const (.str ⟨#[115,114,99]⟩)))],some (135,true),[]⟩,oT 139 135 (.call 22 [(tm 137),(tm 138)]),oo 140 (.pick (tm 135) (tm 139) kF),mv 141 140,oT 142 141 (.load 9 true (tm 15)),oT 143 141 (.call 28 [tm 142]),oT 144 141 (.buildS 3 1 2 [Z0] [(0,(Kc 1)),(1,(Kc 2))]),oT 145 141 (.call 27 [(tm 143),(tm 144)]),oo 146 (.pick (tm 141) (tm 145) kF),mv 147 146,oT 148 147 (.load 9 true (tm 15)),oT 149 147 (.call 30 [tm 148]),oT 150 147 (.bin .eql (tm 149) (Kc 65536)),oo 151 (.pick (tm 147) (tm 150) kF),mv 16 151] [])) (.seq (.region [mv 152 3,mv 153 152,mT 154 4 153,oo 155 (.pick (tm 153) (tm 154) kF),mv 156 155,mT 157 5 156,oo 158 (.pick (tm 156) (tm 157) kF),mv 159 158,mT 160 11 159,oo 161 (.pick (tm 159) (tm 160) kF),mv 162 161,mT 163 14 162,oo 164 (.pick (tm 162) (tm 163) kF),mv 165 164,mT 166 16 165,oo 167 (.pick (tm 165) (tm 166) kF),mv 168 167,mT 169 12 168,oT 170 168 (.buildS 3 1 1 [Z0] [(0,(Kc 8))]),⟨some 171,.build [S0,Z0,.nil,Z0,Z0] [(0,1,(.const (.str ⟨#[99]⟩))),(1,1,(Kc 2)),(2,1,(tm 170))],some (168,true),[]⟩,⟨some 172,.buildS 66 5 1 [S0,Z0,.nil,Z0,Z0] [(0,(tm 171))],some (168,true),[]⟩,oT 173 168 (.call 45 [(tm 169),(tm 172)]),oo 174 (.pick (tm 168) (tm 173) kF),mv 175 174,oT 176 175 (.load 9 true (tm 13)),⟨some 177,.build [Z0,Z0,S0,Z0,Z0,.nil,S0,Z0,.nil,Z0,S0,.nil,S0,Z0,Z0] [(0,9,(tm 176))],some (175,true),[]⟩,⟨some 178,.buildS 61 15 1 [Z0,Z0,S0,Z0,Z0,.nil,S0,Z0,.nil,Z0,S0,.nil,S0,Z0,Z0] [(0,(tm 177))],some (175,true),[]⟩,oT 179 175 (.call 57 [tm 178]),oT 180 175 (.buildS 3 1 2 [Z0] [(0,(Kc 3)),(1,(Kc 7))]),oT 181 175 (.call 27 [(tm 179),(tm 180)]),oo 182 (.pick (tm 175) (tm 181) kF),mv 0 182] []) .ret))))))))))))))))))
theorem l10:(Tryz.f10.body.bind (bz Tryz.prog 183 [6000003,6000004,6000005,6000006,6000007,6000008,6000009,6000010,6000011,6000012,6000013,6000014,6000015,6000016]))=some c10:=by kernel_rfl
end Go.TY
end
noncomputable section
namespace Go.TY
open Go Go.DL Go.MM Go.Proofs
abbrev enb:ByteArray→T:=T.str
abbrev mpb (ks:List ByteArray) (vs:List T):T:=.mapd false [.str] (ks.map enb) vs
def tI (id:Nat) (c:Option Code):Array Oper:=match rg0 id c with
 |.region _ ops _=>ops
 |_=> #[]
abbrev fAb:Option Code:=Tryz.f156.body
abbrev fKb:Option Code:=Tryz.f133.body
theorem bAb:fAb=some (.seq (.region 0 (tI 0 fAb) false) (.seq (.seq (.region 1 (tI 1 fAb) false)
  (.block 0 (.rangeFunc (.tmp 6) #[7] (.region 2 (tI 2 fAb) false) (.block 1 (.region 3 (tI 3 fAb) false))))) (.seq (.region 4 (tI 4 fAb) false) .ret))):=by kernel_rfl
abbrev JS:List DI:=[⟨some 5,.mov (.tmp 7),none,[]⟩]
abbrev JV:List DI:=[⟨some 8,.load 1 false (.tmp 2),none,[]⟩,⟨some 9,.mov (.tmp 5),none,[]⟩,⟨some 10,.buildS 9 1 1 [.str ⟨#[]⟩] [(0,.tmp 9)],none,[1]⟩,
 ⟨some 11,.append 29 9 1 16 (.tmp 8) (.tmp 10),none,[0,2]⟩,⟨none,.store 1 (.tmp 2) (.tmp 11),none,[3,3,0,1,2,3]⟩]
theorem Jo:bT Tryz.prog 13 [] (tI 0 fAb) (tI 0 fAb).toList=some [⟨some 2,.box 1 (.tmp 0),none,[]⟩,⟨some 4,.mov (.const .nil),none,[]⟩]:=by kernel_rfl
theorem Jr:bT Tryz.prog 13 [] (tI 1 fAb) (tI 1 fAb).toList=some [⟨some 6,.mov (.tmp 1),none,[]⟩]:=by kernel_rfl
theorem Ju:bT Tryz.prog 13 [] (tI 2 fAb) (tI 2 fAb).toList=some JS:=by kernel_rfl
theorem Jx:bT Tryz.prog 13 [] (tI 3 fAb) (tI 3 fAb).toList=some JV:=by kernel_rfl
theorem JA:bT Tryz.prog 13 [] (tI 4 fAb) (tI 4 fAb).toList=some [⟨some 12,.load 1 false (.tmp 2),none,[]⟩,⟨some 4,.mov (.tmp 12),none,[0,0]⟩]:=by kernel_rfl
abbrev yKb:Array Oper:=tI 3 fKb
theorem bKb:rg0 3 fKb= .region 3 yKb false:=by kernel_rfl
theorem JD:dP Tryz.prog 14 yKb [0,1]=some [⟨some 10,.mov (.tmp 0),none,[]⟩,⟨some 11,.mov (.tmp 3),none,[]⟩]:=by kernel_rfl
theorem JG:dP Tryz.prog 14 yKb [3]=some [⟨some 13,.not (.tmp 12),none,[2]⟩]:=by kernel_rfl
theorem JJ: ∃o ats,yKb[2]? =some o∧o.guard=none∧o.op= .call {callee:=.value (.tmp 10),args:= #[.tmp 11],argTypes:=ats }∧o.dst=some 12:=by
 refine ⟨((tI 3 fKb)[2]?).getD default,(match (((tI 3 fKb)[2]?).getD default).op with|.call c=>c.argTypes|_=> #[]),by kernel_rfl,by kernel_rfl,by kernel_rfl,by kernel_rfl⟩
abbrev HL (l d:Nat) (f:FuncId) (tmps:Array Value):aa→World→Prop:=nf l (cQ f tmps 7 (.region 2 (tI 2 fAb) false) (.block 1 (.region 3 (tI 3 fAb) false)) d)
abbrev WKb (l:Nat) (C:aa→World→Prop) (ks:List ByteArray) (vs:List T) (ix:List Nat):Wk:=
 {sl:=[(0,.raw (.func (.yield l) #[] #[])),(5,.ptr 2005 0)],bx:=[(2,.v [.own 3011 9 1 (Ai enb e0 ks ix)]),(2005,.itd (esK enb ks vs) ix)],gh:=[(0,[(2,.ptr 2 0)])],off:=2000,cx:=C }
theorem HA (l d:Nat) (f:FuncId) (tmps:Array Value) (ht:tmps.size=13) (ks:List ByteArray) (vs:List T) (hvs:vs.length=ks.length) (hl:ks.length<2^40) (st0:St)
  (h0:st0=({sl:=[(2,.ptr 2 0),(6,.fn 133 [.t (.cptr [mpb ks vs] 0)])],bx:=[(2,.v [.own 3011 9 1 []])]}:Wk).mk'):
  wpC Tryz.prog Hx (st0.iter l (cQ f tmps 7 (.region 2 (tI 2 fAb) false) (.block 1 (.region 3 (tI 3 fAb) false)) d) [.t (.cptr [mpb ks vs] 0)] 2000)
   (qB st0 fun st=>st.sl 2= .ptr 2 0∧(∃ xs,uk enb e0 ks xs∧st.bx 2=some (.v [.own 3011 9 1 xs]))∧ ∀S w,st.cx S w):=by
 subst h0
 have hes:(esK enb ks vs).length=ks.length:=by simp [hvs]
 repeat' ((conv=>whnf);first|refine nT_ ?_|refine aS ?_|fail)
 refine qQ 0 (α:=List Nat) (β:=List Nat) (fun ix=>WKb l (HL l d f tmps) ks vs ix) (fun ix=>ix.Nodup∧ ∀j∈ix,j<ks.length) (fun ix=>ks.length - ix.length)
  (fun ix=>WKb l (HL l d f tmps) ks vs ix) (fun ix=>ix.Perm (List.range ks.length)) [] ⟨List.nodup_nil,by simp⟩ ?_ ?_ ?_
 ·exact ⟨⟨.same _,.same _,trivial⟩,⟨.same _,.same _,trivial⟩,⟨⟨.same _,trivial⟩,trivial⟩,rfl,fun _ _ h=>h,rfl⟩
 ·rintro ix ⟨hnd,hix⟩
  refine And.intro (fun j hj=>by rw [hes];exact hix j hj) (And.intro ?_ ?_)
  ·intro j e he hj
   obtain ⟨he1,hjl⟩:=Af (d:=e0) he
   have hent:=za _ ix j e he
   have hje:(ix++[j]).getLast?.getD 0<(esK enb ks vs).length:=by rw [List.getLast?_concat,hes];exact hjl
   obtain ⟨e1,e2⟩:=e
   dsimp only at he1 hent
   subst he1
   have hixl:ix.length≤ks.length:=by
    have:=hnd.length_le_of_subset (l₂:=List.range ks.length) (fun j hj=>List.mem_range.2 (hix j hj))
    simpa using this
   have hnd':(ix++[j]).Nodup:=by
    rw [List.nodup_append]
    exact ⟨hnd,by simp,fun a ha b hb=>by rw [List.mem_singleton.1 hb];exact fun e=>hj (e▸ha)⟩
   have hix': ∀i∈ix++[j],i<ks.length:=fun i hi=>by
    rcases List.mem_append.1 hi with h|h
    ·exact hix i h
    ·rw [List.mem_singleton.1 h];exact hjl
   have hixl':(ix++[j]).length≤ks.length:=by
    have:=hnd'.length_le_of_subset (l₂:=List.range ks.length) (fun j hj=>List.mem_range.2 (hix' j hj))
    simpa using this
   repeat' ((conv=>whnf);first|refine nv_ (.tup [enb (ks.getD j e0),e2]) hent ?_|(refine And.intro (by first|exact ⟨by simp,hje⟩|fail) ?_)|fail)
   obtain ⟨o,ats,o1,o2,o3,o4⟩:=JJ
   have hsem: ∀(st:St) (Q:ax→St→Prop),pR Tryz.prog 14 (.region 3 yKb false) st Q→pR Tryz.prog 14 (rg0 3 fKb) st Q:=fun st Q h=>by rw [bKb];exact h
   refine hsem _ _ ?_
   refine qR (P:=Tryz.prog) (k1:=[0,1]) (k:=2) (k2:=[3]) (by kernel_rfl) JD rfl JG rfl o1 o2 o3 o4 (by decide) (p:=7) ht (by decide) Ju rfl Jx rfl 3000 (l:=l) (fn:=f) (dd:=d) (id1:=2) (id2:=3) (bl:=1) ?_
   refine ⟨fun _ _ h=>h,rfl,?_⟩
   repeat' ((conv=>whnf);first|(refine And.intro (by first|exact fun _ _=>trivial|exact ⟨rfl,nlZ rfl⟩|((simp;omega);done)|exact .inl rfl|fail) ?_)|refine aS ?_|fail)
   refine ⟨ix++[j],⟨hnd',hix'⟩,by rw [List.length_append];simp at hixl' ⊢;omega,?_⟩
   refine ⟨⟨.same _,.same _,trivial⟩,⟨?_,.same _,trivial⟩,⟨⟨.same _,trivial⟩,trivial⟩,rfl,fun _ _ h=>h,rfl⟩
   refine .v _ _ ⟨rM ?_,trivial⟩
   simp [Ai]
  ·intro hall
   skip
   refine ⟨ix,xT hnd hix (fun j hj=>hall j (by rw [hes];exact hj)),?_⟩
   exact ⟨⟨.same _,.same _,trivial⟩,⟨.same _,.same _,trivial⟩,⟨⟨.same _,trivial⟩,trivial⟩,rfl,fun _ _ h=>h,rfl⟩
 rintro ix hp
 repeat' ((conv=>whnf);first|refine aS ?_|fail)
 exact ⟨⟨_,⟨ix,hp,rfl⟩,rfl⟩,fun _ _=>trivial⟩
abbrev vi (ks:List ByteArray) (vs:List T):T:=.clos 133 [.cptr [mpb ks vs] 0]
theorem A2 (ks:List ByteArray) (vs:List T) (hvs:vs.length=ks.length) (hl:ks.length<2^40):fE Tryz.prog 156 [.nil,vi ks vs] 9 1 (uk enb e0 ks):=by
 refine p0 Tryz.func156 bAb rfl (nlZ rfl) ?_
 intro S w a0 hsr hdf
 let K0:St→Prop:=fun st=>aw Tryz.prog [⟨some 6,.mov (.tmp 1),none,[]⟩] st fun st=>
  bL {sl:=[(2,.ptr 2 0),(6,.t (vi ks vs))],bx:=[(2,.d 1 [.nil])]} st
 have hK0:aw Tryz.prog [⟨some 2,.box 1 (.tmp 0),none,[]⟩,⟨some 4,.mov (.const .nil),none,[]⟩] (eO [.nil,vi ks vs]) K0:=by
  repeat' ((conv=>whnf);first|refine aS ?_|fail)
  exact ⟨⟨.same _,.same _,trivial⟩,⟨.same _,trivial⟩,trivial,rfl,fun _ _ _=>trivial,rfl⟩
 refine wp_seq (nv (X:=[]) (N:=13) hsr Jo (fun a1 w1 h1=>?_) hK0)
 obtain ⟨E1,s1,rfl,k1,k2,k3⟩:=h1
 refine wp_seq (wp_seq (nv (X:=[]) k1 Jr (fun a2 w2 h2=>?_) k3))
 obtain ⟨E2,s2,rfl,k4,k5,k6⟩:=h2
 obtain ⟨E3,e3,k7⟩:=k4.bL k6
 rw [← e3]
 have k8:=k7.rq (k:=6) (k7.sl 6).re
 obtain ⟨E4,e4,k10⟩:=SR.bL (a:=a2) (s:={sl:=[(2,.ptr 2 0),(6,.fn 133 [.t (.cptr [mpb ks vs] 0)])],bx:=[(2,.v [.own 3011 9 1 []])]}) k8 ⟨⟨.same _,.same _,trivial⟩,⟨.dv _ _ _ ⟨.nil _ _ _,trivial⟩,trivial⟩,trivial,rfl,fun _ _ _=>trivial,rfl⟩
 rw [← e4]
 refine wp_block ?_
 refine qW mixed k10 (fun _ _=>trivial) (y:=.tmp 6) rfl (gf:=133) (caps:=[.t (.cptr [mpb ks vs] 0)]) rfl Tryz.func133 Nt rfl rfl rfl (nlZ rfl) 2000
  (K:=fun st=>st.sl 2= .ptr 2 0∧(∃ xs,uk enb e0 ks xs∧st.bx 2=some (.v [.own 3011 9 1 xs]))∧ ∀S w,st.cx S w) (fun l d f tmps ht=>?_) (fun a5 w5 h5=>?_)
 ·exact HA l d f tmps ht ks vs hvs hl _ rfl
 ·obtain ⟨S0',E5,s5,D,rfl,q1,q2,q3,q4,q5,q6,r1,⟨xs,hxs,r2⟩,r3⟩:=h5
  have q6':a5.defers=[{target:=.collected D,args:= #[]}]:=by rw [q6,k5,k2,hdf]
  show Code.wp _ _ _ _ _
  refine wp_seq (nv (X:=[]) q1 JA (K:=fun st=>(∀ S w,st.cx S w)∧st.sl 4= .own 3011 9 1 xs) (fun a6 w6 h6=>?_) ?_)
  ·obtain ⟨E6,s6,rfl,p1,p2,p3,p4⟩:=h6
   obtain ⟨js,hjs,rfl⟩:=hxs
   refine wp_ret ⟨.inr rfl,S0',E6,s6,D,rfl,p1,q2,q3,q4,q5,by rw [p2,q6'],p3,_,_,⟨js,hjs,rfl⟩,va (fun _=>rfl) (fun _=>rfl) js ks,?_,.inl ⟨3011,rfl⟩⟩
   have:dJ s6 Tryz.f156.results.toList=some [s6.sl 4]:=by
    rw [show Tryz.f156.results.toList=[.tmp 4] from rfl];rfl
   rw [this,p4]
  ·obtain ⟨sl5,bx5,gh5,off5,cx5⟩:=s5
   dsimp only at r1 r2 r3
   obtain ⟨g,rfl⟩: ∃g,sl5=upd g 2 (.ptr 2 0):=⟨sl5,(uB r1).symm⟩
   obtain ⟨b,rfl⟩: ∃b,bx5=upd b 2 (some (.v [.own 3011 9 1 xs])):=⟨bx5,(uB r2).symm⟩
   exact ⟨r3,rfl⟩
theorem CR (ks:List ByteArray) (vs:List T) (hvs:vs.length=ks.length) (hl:ks.length<2^40):fE Tryz.prog 131 [vi ks vs] 9 1 (uk enb e0 ks):=by
 refine qx (rs:=[.tmp 2]) mixed Tryz.func131 HP rfl rfl rfl (nlZ rfl) ?_
 repeat' ((conv=>whnf);first|refine q9 (ts:=[.nil,vi ks vs]) rfl (A2 ks vs hvs hl) (fun xs hx=>?_)|fail)
 obtain ⟨js,hjs,rfl⟩:=hx
 exact ⟨_,_,⟨js,hjs,rfl⟩,va (fun _=>rfl) (fun _=>rfl) js ks,rfl,.inl ⟨_,rfl⟩⟩
theorem Fg:iq Tryz.prog 132 encStr (fun x y:List UInt8=>decide (x≤y)):=iq.str Tryz.Cr rfl (bM Tryz.func132 rfl rfl)
theorem AF (ks:List ByteArray) (vs:List T) (hvs:vs.length=ks.length) (hl:ks.length<2^40) (hn:ks.Nodup):kB Tryz.prog 87 [vi ks vs] (.slice 1 ((vR ks).map enb)):=by
 refine qJ (rs:=[.tmp 2]) mixed Tryz.func87 l87 rfl rfl rfl (nlZ rfl) ?_
 repeat' ((conv=>whnf);first|refine qV (ts:=[vi ks vs]) rfl (CR ks vs hvs hl) rfl (fun h0=>?_) (fun xs hx hc=>?_)|fail)
 ·obtain ⟨zs,hp,h0⟩:=vb h0
  have:zs=[]:=by
   cases zs with
   |nil=>rfl
   |cons z zs=>cases h0
  subst this
  have:ks=[]:=List.nil_perm.1 hp
  subst this
  repeat' ((conv=>whnf);first|refine pT Fg ?_|fail)
  exact ⟨.t .nil,rfl,.nil 1⟩
 ·obtain ⟨zs,hp,rfl⟩:=vb hx
  have hzl:zs.length<2^40:=by rw [hp.length_eq];exact hl
  have hfl:=AS (enc:=enb) (fun _=>rfl) zs
  have hle:(zs.map enb).length=zs.length:=List.length_map _
  have hsl:(vR ks).length=zs.length:=by
   have e:=congrArg List.length (yF hn hp)
   simp only [List.length_map,List.length_mergeSort] at e
   omega
  repeat' ((conv=>whnf);first|(refine qU (n:=5) (off:=0) (len:=(zs.map enb).length) (m:=(zs.map enb).length * 1) (ts:=(zs.map enb).flatMap T.cells) (encT:=xh) Fg rfl (zs.map ByteArray.toList) ?_ ?_ (by omega) (fun a S w v h=>by cases h;rfl) (fun a S w=>.str _) (fun _=>rfl) ?_)|fail)
  ·rw [hfl,List.drop_zero,List.take_of_length_le (by omega)]
   exact (by rw [List.map_map];exact List.map_congr_left fun z _=>(Cm z).symm)
  ·simp
  ·skip
   have e:=yF hn hp
   refine ⟨.view 5 0 (zs.map enb).length 1,rfl,.view 5 0 (zs.map enb).length 1 ((zs.map enb).length * 1) (aK ((zs.map enb).flatMap T.cells) 0 (zs.map enb).length (((zs.map ByteArray.toList).mergeSort (fun x y:List UInt8=>decide (x≤y))).map xh)) _ [5] rfl ?_ ?_⟩
   ·rw [vd (by rw [hfl]),e]
    intro t ht
    obtain ⟨z,_,rfl⟩:=List.mem_map.1 ht
    rfl
   ·show (cond (Nat.blt 0 1&&Nat.ble (0+(zs.map enb).length * 1) ((zs.map enb).length * 1)) (some (T.slice 1 (chunk 1 (zs.map enb).length ((aK ((zs.map enb).flatMap T.cells) 0 (zs.map enb).length (((zs.map ByteArray.toList).mergeSort (fun x y:List UInt8=>decide (x≤y))).map xh)).drop 0)),[5])) none)=_
    rw [vd (by rw [hfl]),e,Nat.zero_add,List.drop_zero,yx _ _ (by rw [List.length_map];omega)]
    have:Nat.ble ((zs.map enb).length * 1) ((zs.map enb).length * 1)=true:=Nat.ble_eq_true_of_le (Nat.le_refl _)
    rw [this]
    rfl
theorem CA (ks:List ByteArray) (vs:List T):DCalls Tryz.prog 88 [mpb ks vs] (vi ks vs):=by
 refine qF (rs:=[.tmp 2]) mixed Tryz.func88 l88 rfl rfl rfl (r:=[vi ks vs]) (nlZ rfl) ?_
 repeat' ((conv=>whnf);first|exact trivial|refine aS ?_|fail)
end Go.TY
end
section
namespace Go.TY
open Go Go.DL Go.MM Go.Proofs
attribute [local irreducible] aF gL WCM YC
def gr:RP→List ByteArray:=fun x=>if sa x.field e0 then [] else [x.field]
def wg (r:RO) (k:Nat):List (Nat×BX):=[(3,.v [.mp 5]),(5,.m false [.str] (esS (once [] (s4 gr (td r) k))) none)]
theorem I5 (r:RO):oW (fun n=>10≤n∧n<100) 100 (fun _ _=>True) (wg r) (fun _ cx _=>cx=(fun _ _=>True)∧False) where
 fh:=fun n h=>h.2
 nm:=fun k p hp=>by
  simp only [wg,List.mem_cons,List.not_mem_nil,or_false] at hp
  rcases hp with rfl|rfl <;> exact ⟨by dsimp only;omega,by dsimp only;omega⟩
 nms:=fun c cx o ho=>ho.2.elim
 cov:=fun k k' p hp=>by
  simp only [wg,List.mem_cons,List.not_mem_nil,or_false] at hp ⊢
  rcases hp with rfl|rfl
  ·exact ⟨_,Or.inl rfl,rfl⟩
  ·exact ⟨_,Or.inr rfl,rfl⟩
 covs:=fun c cx o ho=>ho.2.elim
 safe:=fun k p hp=>by
  simp only [wg,List.mem_cons,List.not_mem_nil,or_false] at hp
  rcases hp with rfl|rfl
  ·intro c hc
   rw [List.mem_singleton.1 hc]
   exact .mp 5 ⟨(5,_),List.mem_cons_of_mem _ (List.mem_singleton.2 rfl),rfl⟩
  ·exact trivial
 safes:=fun c cx o ho=>ho.2.elim
 cxd:=fun c cx o ho=>ho.2.elim
 cxo_:=rI
 nd:=fun k=>by show ([3,5]:List Nat).Nodup;decide
theorem Ht (r:RO) (hr:r.wt<2^39):DCalls Tryz.prog 23 [.agg (r9 r)] (.slice 1 ((reads r).map T.str)):=by
 rw [← uE]
 refine qG Tryz.func23 MI rfl (r:=[.slice 1 ((reads r).map T.str)]) (nlZ rfl) ?_
 have hlen:(sj r).length≤r.wt:=by rw [s9,tR];exact r.ve
 have hwt: ∀o∈sj r,o.wt≤r.wt:=by rw [s9];exact uo r
 have hpl:(td r).length≤r.wt:=wW r
 rw [show Tryz.f23.ntmps=18 from rfl,show Tryz.f23.results.toList=[.tmp 2] from rfl,k23]
 have ht:=CE r
 rw [sI] at ht
 refine aF.seq (J4 ?_)
 repeat' ((conv=>whnf);first|(refine And.intro (by first|exact tz _|fail) ?_)|fail)
 refine aF.seq (Ka ?_)
 repeat' ((conv=>whnf);first|refine aS ?_|fail)
 refine aF.seq (aF.seq (Kh ?_))
 repeat' ((conv=>whnf);first|refine rp _ (ht) ?_|fail)
 refine aF.bL (s:={sl:=[(3,.ptr 3 0),(7,.t (.clos 130 [.cptr (sU r) 0]))],bx:=[(3,.v [.mp 5]),(5,.m false [.str] [] none)]}) (by repeat' (first|exact trivial|exact LeV.same _|exact LeB.same _|exact rfl|exact fun _ _ _=>trivial|refine And.intro ?_ ?_)) ?_
 refine aF.block (y0 (N:=18) rfl r rfl 100 (fun n=>10≤n∧n<100) 100 (Nat.le_refl _) (by omega) (fun o ho=>by have h1:=hwt o ho;rw [uy,uw];obtain ⟨k,p,f,n,a⟩:=o;simp only [RO.wt] at h1;show p.nodes<_;omega) (fun n h=>rf fun p hp=>?_) (fun n h=>rf fun p hp=>?_) (by exact rJ) (outs:=wg r) (stop:=fun _ cx _=>cx=(fun _ _=>True)∧False) ?_ (fun l0 D fn tmps hN=>?_) ?_ (fun c cx o h=>h.2.elim))
 ·simp only [List.mem_cons,List.not_mem_nil,or_false] at hp
  rcases hp with rfl|rfl <;> (dsimp only;omega)
 ·simp only [List.mem_cons,List.not_mem_nil,or_false] at hp
  rcases hp with rfl|rfl <;> (dsimp only;omega)
 ·intro q hq
  simp only [wg,List.mem_cons,List.not_mem_nil,or_false] at hq
  rcases hq with rfl|rfl <;> rfl
 ·refine dL.top (d:=4) (n:=5) (lo:=10) (hi:=100) (stop:=fun _ _=>False) (I5 r) (fun n h1 h2=>⟨h1,h2⟩) hN (by decide) (fun hw=>Kn hw) rfl (by decide) (by decide) (fun x hx=>?_) (fun k cs b G C hk hcs=>?_)
  ·obtain ⟨t,_,rfl⟩:=List.mem_map.1 hx
   exact ⟨_,si t,sr t⟩
  rw [List.getElem?_map,Option.map_eq_some_iff] at hk
  obtain ⟨t,htk,hte⟩:=hk
  rw [si] at hte
  obtain rfl:sb t=cs:=T.agg.inj hte
  have hfs:=vZ (g:=gr) htk
  have hos:wg r k=[(3,.v [.mp 5]),(5,.m false [.str] (esS (once [] (s4 gr (td r) k))) none)]:=rfl
  rw [hos]
  generalize hks:once [] (s4 gr (td r) k)=ks
  have endN: ∀s:St,s.gh=G→s.cx=C→(∀ q, ¬(10≤q∧q<100)→s.bx q=aH b [(3,.v [.mp 5]),(5,.m false [.str] (esS (once [] (s4 gr (td r) (k+1)))) none)] q)→RB b G C 10 100 (wg r (k+1)) (fun _ _=>False) .normal s:=fun s h1 h2 h3=>⟨h1,h2,_,h3,rfl⟩
  have same:gr t=[]→once [] (s4 gr (td r) (k+1))=ks:=fun h=>by rw [hfs,h,List.append_nil,hks]
  have more: ∀s,gr t=[s]→once [] (s4 gr (td r) (k+1))=if s∈ks then ks else ks++[s]:=fun s h=>by rw [hfs,h,u9,hks]
  generalize once [] (s4 gr (td r) (k+1))=ks' at *
  clear hte hks hos hfs
  refine Kt ?_
  obtain ⟨kd,f,n,m,args⟩:=t
  have hE:=su f e0
  have hN:(!(f.toList==e0.toList))= !(sa f e0):=by rw [hE]
  cases hb:sa f e0 with
  |true=>
   have hg:=same (by unfold gr;exact if_pos hb)
   subst hg
   rw [hb] at hN
   repeat' ((conv=>whnf);first|refine nb_ _ hN ?_|refine nT_ ?_|refine aS ?_|fail)
   (conv=>whnf)
   refine endN _ rfl rfl fun q hq=>?_
   have hm:=qO (b:=b) hq
   show cond (Nat.beq q 14) _ (cond (Nat.beq q 3) _ (cond (Nat.beq q 5) _ (gy 10 100 b q)))=cond (Nat.beq q 3) _ (cond (Nat.beq q 5) _ (b q))
   rw [eM (show q≠14 by omega),hm];rfl
  |false=>
   have hmr:=more f (by unfold gr;exact if_neg (show ¬(sa f e0=true) by rw [hb];simp))
   rw [hb] at hN
   repeat' ((conv=>whnf);first|refine nb_ _ hN ?_|refine nT_ ?_|(refine And.intro (by first|exact ⟨rfl,trivial⟩|fail) ?_)|refine aS ?_|fail)
   (conv=>whnf)
   refine endN _ rfl rfl fun q hq=>?_
   have hm:=qO (b:=b) hq
   by_cases h5:q=5
   ·subst h5
    show some (BX.m false [.str] (bG (T.str f) (T.bool true) _) none)=some (BX.m false [.str] _ none)
    rw [Be,hmr]
   show cond (Nat.beq q 5) _ (cond (Nat.beq q 14) _ (cond (Nat.beq q 3) _ (cond (Nat.beq q 5) _ (gy 10 100 b q))))=cond (Nat.beq q 3) _ (cond (Nat.beq q 5) _ (b q))
   rw [eM h5,eM (show q≠14 by omega),hm];rfl
 ·have hes:wg r (td r).length=[(3,.v [.mp 5]),(5,.m false [.str] (esS (once [] ((td r).flatMap gr))) none)]:=by unfold wg;rw [wI]
  have hll:((td r).flatMap gr).length≤(td r).length:=w3 fun x _=>by unfold gr;split <;> simp
  have hol:=vM (l:=(td r).flatMap gr) (acc:=[])
  have hnd:=uO (l:=(td r).flatMap gr) (acc:=[]) List.nodup_nil
  have hfin:vR (once [] ((td r).flatMap gr))=reads r:=by
   unfold vR reads
   refine w7 Bc fun x=>?_
   rw [vI]
   simp only [List.not_mem_nil,false_or]
   rw [show (td r).flatMap gr=Fa r by rw [zg];rfl]
  rw [hes]
  simp only [List.length_nil,Nat.zero_add] at hol
  generalize once [] ((td r).flatMap gr)=ks at *
  have hk1:=CA ks (ks.map fun _=>T.bool true)
  have hk2:=(AF ks (ks.map fun _=>T.bool true) (by simp) (by omega) hnd).rm
  rw [hfin] at hk2
  refine aF.bL (s:={sl:=[(3,.ptr 3 0)],bx:=[(3,.v [.t (mpb ks (ks.map fun _=>T.bool true))])]}) ⟨⟨.same _,trivial⟩,⟨.v _ _ ⟨.conv _ _ [5] ?_ (by simp [Wk.keys]),trivial⟩,trivial⟩,trivial,rfl,fun _ _ _=>trivial,rfl⟩ ?_
  ·show some (T.mapd false [.str] ((esS ks).map (·.1)) ((esS ks).map (·.2)),[5])=_
   unfold esS
   rw [List.map_map,List.map_map];rfl
  refine Ky ?_
  repeat' ((conv=>whnf);first|refine rp _ (hk1) ?_|refine rp _ (hk2) ?_|fail)
  exact ⟨⟨rfl,trivial⟩,fun _ _=>trivial⟩
end Go.TY
end
section
namespace Go.TY
open Go Go.DL Go.MM Go.Proofs
attribute [local irreducible] aF gL WCM YC
def gw:RO→List ByteArray:=fun x=>if x.kind=2 then [x.field] else []
def wh (r:RO) (k:Nat):List (Nat×BX):=[(3,.v [.mp 5]),(5,.m false [.str] (esS (once [] (s4 gw (sj r) k))) none)]
theorem I6 (r:RO):oW (fun n=>10≤n∧n<100) 100 (fun _ _=>True) (wh r) (fun _ cx _=>cx=(fun _ _=>True)∧False) where
 fh:=fun n h=>h.2
 nm:=fun k p hp=>by
  simp only [wh,List.mem_cons,List.not_mem_nil,or_false] at hp
  rcases hp with rfl|rfl <;> exact ⟨by dsimp only;omega,by dsimp only;omega⟩
 nms:=fun c cx o ho=>ho.2.elim
 cov:=fun k k' p hp=>by
  simp only [wh,List.mem_cons,List.not_mem_nil,or_false] at hp ⊢
  rcases hp with rfl|rfl
  ·exact ⟨_,Or.inl rfl,rfl⟩
  ·exact ⟨_,Or.inr rfl,rfl⟩
 covs:=fun c cx o ho=>ho.2.elim
 safe:=fun k p hp=>by
  simp only [wh,List.mem_cons,List.not_mem_nil,or_false] at hp
  rcases hp with rfl|rfl
  ·intro c hc
   rw [List.mem_singleton.1 hc]
   exact .mp 5 ⟨(5,_),List.mem_cons_of_mem _ (List.mem_singleton.2 rfl),rfl⟩
  ·exact trivial
 safes:=fun c cx o ho=>ho.2.elim
 cxd:=fun c cx o ho=>ho.2.elim
 cxo_:=rI
 nd:=fun k=>by show ([3,5]:List Nat).Nodup;decide
theorem FR (r:RO) (hr:r.wt<2^39):DCalls Tryz.prog 25 [.agg (r9 r)] (.slice 1 ((writes r).map T.str)):=by
 rw [← uE]
 refine qG Tryz.func25 MJ rfl (r:=[.slice 1 ((writes r).map T.str)]) (nlZ rfl) ?_
 have hlen:(sj r).length≤r.wt:=by rw [s9,tR];exact r.ve
 have hwt: ∀o∈sj r,o.wt≤r.wt:=by rw [s9];exact uo r
 have hpl:(td r).length≤r.wt:=wW r
 rw [show Tryz.f25.ntmps=18 from rfl,show Tryz.f25.results.toList=[.tmp 2] from rfl,k25]
 have ht:=yG r
 rw [sI] at ht
 refine aF.seq (J5 ?_)
 repeat' ((conv=>whnf);first|(refine And.intro (by first|exact tz _|fail) ?_)|fail)
 refine aF.seq (Kb ?_)
 repeat' ((conv=>whnf);first|refine aS ?_|fail)
 refine aF.seq (aF.seq (Ki ?_))
 repeat' ((conv=>whnf);first|refine rp _ (ht) ?_|fail)
 refine aF.bL (s:={sl:=[(3,.ptr 3 0),(7,.t (.clos 116 [.cptr (sU r) 0]))],bx:=[(3,.v [.mp 5]),(5,.m false [.str] [] none)]}) (by repeat' (first|exact trivial|exact LeV.same _|exact LeB.same _|exact rfl|exact fun _ _ _=>trivial|refine And.intro ?_ ?_)) ?_
 refine aF.block (wk (N:=18) rfl r rfl 100 (fun n=>10≤n∧n<100) 100 (Nat.le_refl _) (by omega) (fun n h=>rf fun p hp=>?_) (fun n h=>rf fun p hp=>?_) (by exact rJ) (outs:=wh r) (stop:=fun _ cx _=>cx=(fun _ _=>True)∧False) ?_ (fun l0 D fn tmps hN=>?_) ?_ (fun c cx o h=>h.2.elim))
 ·simp only [List.mem_cons,List.not_mem_nil,or_false] at hp
  rcases hp with rfl|rfl <;> (dsimp only;omega)
 ·simp only [List.mem_cons,List.not_mem_nil,or_false] at hp
  rcases hp with rfl|rfl <;> (dsimp only;omega)
 ·intro q hq
  simp only [wh,List.mem_cons,List.not_mem_nil,or_false] at hq
  rcases hq with rfl|rfl <;> rfl
 ·refine dL.top (d:=4) (n:=9) (lo:=10) (hi:=100) (stop:=fun _ _=>False) (I6 r) (fun n h1 h2=>⟨h1,h2⟩) hN (by decide) (fun hw=>Ko hw) rfl (by decide) (by decide) (fun x hx=>?_) (fun k cs b G C hk hcs=>?_)
  ·obtain ⟨t,_,rfl⟩:=List.mem_map.1 hx
   exact ⟨_,sI t,tz t⟩
  rw [List.getElem?_map,Option.map_eq_some_iff] at hk
  obtain ⟨t,htk,hte⟩:=hk
  rw [sI] at hte
  obtain rfl:sU t=cs:=T.agg.inj hte
  have hfs:=vZ (g:=gw) htk
  have hos:wh r k=[(3,.v [.mp 5]),(5,.m false [.str] (esS (once [] (s4 gw (sj r) k))) none)]:=rfl
  rw [hos]
  generalize hks:once [] (s4 gw (sj r) k)=ks
  have endN: ∀s:St,s.gh=G→s.cx=C→(∀ q, ¬(10≤q∧q<100)→s.bx q=aH b [(3,.v [.mp 5]),(5,.m false [.str] (esS (once [] (s4 gw (sj r) (k+1)))) none)] q)→RB b G C 10 100 (wh r (k+1)) (fun _ _=>False) .normal s:=fun s h1 h2 h3=>⟨h1,h2,_,h3,rfl⟩
  have same:gw t=[]→once [] (s4 gw (sj r) (k+1))=ks:=fun h=>by rw [hfs,h,List.append_nil,hks]
  have more: ∀s,gw t=[s]→once [] (s4 gw (sj r) (k+1))=if s∈ks then ks else ks++[s]:=fun s h=>by rw [hfs,h,u9,hks]
  generalize once [] (s4 gw (sj r) (k+1))=ks' at *
  clear hte hks hos hfs
  refine Ku ?_
  obtain ⟨kd,p,f,n,args⟩:=t
  by_cases k2:kd=2
  ·have hmr:=more f (by unfold gw;exact if_pos k2)
   repeat' ((conv=>whnf);first|refine qi k2 ?_|refine nT_ ?_|(refine And.intro (by first|exact ⟨rfl,trivial⟩|fail) ?_)|refine aS ?_|fail)
   (conv=>whnf)
   refine endN _ rfl rfl fun q hq=>?_
   have hm:=qO (b:=b) hq
   by_cases h5:q=5
   ·subst h5
    show some (BX.m false [.str] (bG (T.str f) (T.bool true) _) none)=some (BX.m false [.str] _ none)
    rw [Be,hmr]
   show cond (Nat.beq q 5) _ (cond (Nat.beq q 14) _ (cond (Nat.beq q 3) _ (cond (Nat.beq q 5) _ (gy 10 100 b q))))=cond (Nat.beq q 3) _ (cond (Nat.beq q 5) _ (b q))
   rw [eM h5,eM (show q≠14 by omega),hm];rfl
  ·have hg:=same (by unfold gw;exact if_neg k2)
   subst hg
   repeat' ((conv=>whnf);first|refine qh k2 ?_|refine nT_ ?_|refine aS ?_|fail)
   (conv=>whnf)
   refine endN _ rfl rfl fun q hq=>?_
   have hm:=qO (b:=b) hq
   show cond (Nat.beq q 14) _ (cond (Nat.beq q 3) _ (cond (Nat.beq q 5) _ (gy 10 100 b q)))=cond (Nat.beq q 3) _ (cond (Nat.beq q 5) _ (b q))
   rw [eM (show q≠14 by omega),hm];rfl
 ·have hes:wh r (sj r).length=[(3,.v [.mp 5]),(5,.m false [.str] (esS (once [] ((sj r).flatMap gw))) none)]:=by unfold wh;rw [wI]
  have hll:((sj r).flatMap gw).length≤(sj r).length:=w3 fun x _=>by unfold gw;split <;> simp
  have hol:=vM (l:=(sj r).flatMap gw) (acc:=[])
  have hnd:=uO (l:=(sj r).flatMap gw) (acc:=[]) List.nodup_nil
  have hfin:vR (once [] ((sj r).flatMap gw))=writes r:=by
   unfold vR writes
   refine w7 Bc fun x=>?_
   rw [vI]
   simp only [List.not_mem_nil,false_or]
   rw [show (sj r).flatMap gw=CI r by rw [s9];rfl]
  rw [hes]
  simp only [List.length_nil,Nat.zero_add] at hol
  generalize once [] ((sj r).flatMap gw)=ks at *
  have hk1:=CA ks (ks.map fun _=>T.bool true)
  have hk2:=(AF ks (ks.map fun _=>T.bool true) (by simp) (by omega) hnd).rm
  rw [hfin] at hk2
  refine aF.bL (s:={sl:=[(3,.ptr 3 0)],bx:=[(3,.v [.t (mpb ks (ks.map fun _=>T.bool true))])]}) ⟨⟨.same _,trivial⟩,⟨.v _ _ ⟨.conv _ _ [5] ?_ (by simp [Wk.keys]),trivial⟩,trivial⟩,trivial,rfl,fun _ _ _=>trivial,rfl⟩ ?_
  ·show some (T.mapd false [.str] ((esS ks).map (·.1)) ((esS ks).map (·.2)),[5])=_
   unfold esS
   rw [List.map_map,List.map_map];rfl
  refine Kz ?_
  repeat' ((conv=>whnf);first|refine rp _ (hk1) ?_|refine rp _ (hk2) ?_|fail)
  exact ⟨⟨rfl,trivial⟩,fun _ _=>trivial⟩
end Go.TY
end
section
namespace Go.TY
open Go Go.DL Go.MM Go.Proofs
attribute [local irreducible] aF gL WCM YC
def gp:RO→List Int:=fun x=>if x.kind=2∧sa x.field sZ=true then [x.n] else []
def we (r:RO) (k:Nat):List (Nat×BX):=[(3,.v [.mp 5]),(5,.m false [.int .i64] (esI (once [] (s4 gp (sj r) k))) none)]
theorem I4 (r:RO):oW (fun n=>10≤n∧n<100) 100 (fun _ _=>True) (we r) (fun _ cx _=>cx=(fun _ _=>True)∧False) where
 fh:=fun n h=>h.2
 nm:=fun k p hp=>by
  simp only [we,List.mem_cons,List.not_mem_nil,or_false] at hp
  rcases hp with rfl|rfl <;> exact ⟨by dsimp only;omega,by dsimp only;omega⟩
 nms:=fun c cx o ho=>ho.2.elim
 cov:=fun k k' p hp=>by
  simp only [we,List.mem_cons,List.not_mem_nil,or_false] at hp ⊢
  rcases hp with rfl|rfl
  ·exact ⟨_,Or.inl rfl,rfl⟩
  ·exact ⟨_,Or.inr rfl,rfl⟩
 covs:=fun c cx o ho=>ho.2.elim
 safe:=fun k p hp=>by
  simp only [we,List.mem_cons,List.not_mem_nil,or_false] at hp
  rcases hp with rfl|rfl
  ·intro c hc
   rw [List.mem_singleton.1 hc]
   exact .mp 5 ⟨(5,_),List.mem_cons_of_mem _ (List.mem_singleton.2 rfl),rfl⟩
  ·exact trivial
 safes:=fun c cx o ho=>ho.2.elim
 cxd:=fun c cx o ho=>ho.2.elim
 cxo_:=rI
 nd:=fun k=>by show ([3,5]:List Nat).Nodup;decide
theorem Hs (r:RO) (hr:r.wt<2^39):DCalls Tryz.prog 28 [.agg (r9 r)] (.slice 1 ((zG r).map I)):=by
 rw [← uE]
 refine qG Tryz.func28 MK rfl (r:=[.slice 1 ((zG r).map I)]) (nlZ rfl) ?_
 have hlen:(sj r).length≤r.wt:=by rw [s9,tR];exact r.ve
 have hwt: ∀o∈sj r,o.wt≤r.wt:=by rw [s9];exact uo r
 have hpl:(td r).length≤r.wt:=wW r
 rw [show Tryz.f28.ntmps=23 from rfl,show Tryz.f28.results.toList=[.tmp 2] from rfl,k28]
 have ht:=yG r
 rw [sI] at ht
 refine aF.seq (J6 ?_)
 repeat' ((conv=>whnf);first|(refine And.intro (by first|exact tz _|fail) ?_)|fail)
 refine aF.seq (Kd ?_)
 repeat' ((conv=>whnf);first|refine aS ?_|fail)
 refine aF.seq (aF.seq (Kj ?_))
 repeat' ((conv=>whnf);first|refine rp _ (ht) ?_|fail)
 refine aF.bL (s:={sl:=[(3,.ptr 3 0),(7,.t (.clos 116 [.cptr (sU r) 0]))],bx:=[(3,.v [.mp 5]),(5,.m false [.int .i64] [] none)]}) (by repeat' (first|exact trivial|exact LeV.same _|exact LeB.same _|exact rfl|exact fun _ _ _=>trivial|refine And.intro ?_ ?_)) ?_
 refine aF.block (wk (N:=23) rfl r rfl 100 (fun n=>10≤n∧n<100) 100 (Nat.le_refl _) (by omega) (fun n h=>rf fun p hp=>?_) (fun n h=>rf fun p hp=>?_) (by exact rJ) (outs:=we r) (stop:=fun _ cx _=>cx=(fun _ _=>True)∧False) ?_ (fun l0 D fn tmps hN=>?_) ?_ (fun c cx o h=>h.2.elim))
 ·simp only [List.mem_cons,List.not_mem_nil,or_false] at hp
  rcases hp with rfl|rfl <;> (dsimp only;omega)
 ·simp only [List.mem_cons,List.not_mem_nil,or_false] at hp
  rcases hp with rfl|rfl <;> (dsimp only;omega)
 ·intro q hq
  simp only [we,List.mem_cons,List.not_mem_nil,or_false] at hq
  rcases hq with rfl|rfl <;> rfl
 ·refine dL.top (d:=4) (n:=9) (lo:=10) (hi:=100) (stop:=fun _ _=>False) (I4 r) (fun n h1 h2=>⟨h1,h2⟩) hN (by decide) (fun hw=>Kp hw) rfl (by decide) (by decide) (fun x hx=>?_) (fun k cs b G C hk hcs=>?_)
  ·obtain ⟨t,_,rfl⟩:=List.mem_map.1 hx
   exact ⟨_,sI t,tz t⟩
  rw [List.getElem?_map,Option.map_eq_some_iff] at hk
  obtain ⟨t,htk,hte⟩:=hk
  rw [sI] at hte
  obtain rfl:sU t=cs:=T.agg.inj hte
  have hfs:=vZ (g:=gp) htk
  have hos:we r k=[(3,.v [.mp 5]),(5,.m false [.int .i64] (esI (once [] (s4 gp (sj r) k))) none)]:=rfl
  rw [hos]
  generalize hks:once [] (s4 gp (sj r) k)=ks
  have endN: ∀s:St,s.gh=G→s.cx=C→(∀ q, ¬(10≤q∧q<100)→s.bx q=aH b [(3,.v [.mp 5]),(5,.m false [.int .i64] (esI (once [] (s4 gp (sj r) (k+1)))) none)] q)→RB b G C 10 100 (we r (k+1)) (fun _ _=>False) .normal s:=fun s h1 h2 h3=>⟨h1,h2,_,h3,rfl⟩
  have same:gp t=[]→once [] (s4 gp (sj r) (k+1))=ks:=fun h=>by rw [hfs,h,List.append_nil,hks]
  have more: ∀s,gp t=[s]→once [] (s4 gp (sj r) (k+1))=if s∈ks then ks else ks++[s]:=fun s h=>by rw [hfs,h,u9,hks]
  generalize once [] (s4 gp (sj r) (k+1))=ks' at *
  clear hte hks hos hfs
  refine Kv ?_
  obtain ⟨kd,p,f,n,args⟩:=t
  have hE:=su f sZ
  by_cases k2:kd=2
  ·cases hb:sa f sZ with
   |true=>
    have hmr:=more n (by unfold gp;exact if_pos ⟨k2,hb⟩)
    rw [hb] at hE
    repeat' ((conv=>whnf);first|refine qi k2 ?_|refine nb_ _ hE ?_|refine nT_ ?_|(refine And.intro (by first|exact ⟨rfl,rfl,trivial⟩|fail) ?_)|refine aS ?_|fail)
    (conv=>whnf)
    refine endN _ rfl rfl fun q hq=>?_
    have hm:=qO (b:=b) hq
    by_cases h5:q=5
    ·subst h5
     show some (BX.m false [.int .i64] (bG (T.int .i64 n) (T.bool true) _) none)=some (BX.m false [.int .i64] _ none)
     rw [zD,hmr]
    show cond (Nat.beq q 5) _ (cond (Nat.beq q 14) _ (cond (Nat.beq q 3) _ (cond (Nat.beq q 5) _ (gy 10 100 b q))))=cond (Nat.beq q 3) _ (cond (Nat.beq q 5) _ (b q))
    rw [eM h5,eM (show q≠14 by omega),hm];rfl
   |false=>
    have hg:=same (by unfold gp;exact if_neg (fun h=>by rw [show sa f sZ=true from h.2] at hb;cases hb))
    subst hg
    rw [hb] at hE
    repeat' ((conv=>whnf);first|refine qi k2 ?_|refine nb_ _ hE ?_|refine nT_ ?_|refine aS ?_|fail)
    (conv=>whnf)
    refine endN _ rfl rfl fun q hq=>?_
    have hm:=qO (b:=b) hq
    show cond (Nat.beq q 14) _ (cond (Nat.beq q 3) _ (cond (Nat.beq q 5) _ (gy 10 100 b q)))=cond (Nat.beq q 3) _ (cond (Nat.beq q 5) _ (b q))
    rw [eM (show q≠14 by omega),hm];rfl
  ·have hg:=same (by unfold gp;exact if_neg (fun h=>k2 h.1))
   subst hg
   repeat' ((conv=>whnf);first|refine qh k2 ?_|refine nT_ ?_|refine aS ?_|fail)
   (conv=>whnf)
   refine endN _ rfl rfl fun q hq=>?_
   have hm:=qO (b:=b) hq
   show cond (Nat.beq q 14) _ (cond (Nat.beq q 3) _ (cond (Nat.beq q 5) _ (gy 10 100 b q)))=cond (Nat.beq q 3) _ (cond (Nat.beq q 5) _ (b q))
   rw [eM (show q≠14 by omega),hm];rfl
 ·have hes:we r (sj r).length=[(3,.v [.mp 5]),(5,.m false [.int .i64] (esI (once [] ((sj r).flatMap gp))) none)]:=by unfold we;rw [wI]
  have hll:((sj r).flatMap gp).length≤(sj r).length:=w3 fun x _=>by unfold gp;split <;> simp
  have hol:=vM (l:=(sj r).flatMap gp) (acc:=[])
  have hnd:=uO (l:=(sj r).flatMap gp) (acc:=[]) List.nodup_nil
  have hfin:zi (once [] ((sj r).flatMap gp))=zG r:=by
   unfold zi zG
   refine w7 FG fun x=>?_
   rw [vI]
   simp only [List.not_mem_nil,false_or]
   rw [show (sj r).flatMap gp=EP r by rw [s9];rfl]
  rw [hes]
  simp only [List.length_nil,Nat.zero_add] at hol
  generalize once [] ((sj r).flatMap gp)=ks at *
  have hk1:=CB ks (ks.map fun _=>T.bool true)
  have hk2:=(AG ks (ks.map fun _=>T.bool true) (by simp) (by omega) hnd).rm
  rw [hfin] at hk2
  refine aF.bL (s:={sl:=[(3,.ptr 3 0)],bx:=[(3,.v [.t (mpi ks (ks.map fun _=>T.bool true))])]}) ⟨⟨.same _,trivial⟩,⟨.v _ _ ⟨.conv _ _ [5] ?_ (by simp [Wk.keys]),trivial⟩,trivial⟩,trivial,rfl,fun _ _ _=>trivial,rfl⟩ ?_
  ·show some (T.mapd false [.int .i64] ((esI ks).map (·.1)) ((esI ks).map (·.2)),[5])=_
   unfold esI
   rw [List.map_map,List.map_map];rfl
  refine KA ?_
  repeat' ((conv=>whnf);first|refine rp _ (hk1) ?_|refine rp _ (hk2) ?_|fail)
  exact ⟨⟨rfl,trivial⟩,fun _ _=>trivial⟩
end Go.TY
end
section
namespace Go.TY
open Go Go.DL Go.MM Go.Proofs
theorem DCalls.to {P:Program} {f:FuncId} {xs:List T} {r r':T} (h:DCalls P f xs r) (hl:Les r r'):DCalls P f xs r':=h.res fun S w v k=>hl S w v k
theorem CX (k:Int) (f:ByteArray) (n m:Int):Les (.agg [I k,.str f,I n,I m,.nil]) (.agg (sb (.mk k f n m []))):=
 Les.agg (.cons (Les.refl _) rfl (.cons (Les.refl _) rfl (.cons (Les.refl _) rfl (.cons (Les.refl _) rfl (.cons (Les.nil 5) rfl .nil)))))
theorem J0 (k:Int) (f:ByteArray) (n:Int):Les (.agg [I k,I 0,.str e0,I 0,I 0,.nil,.str f,I n,.nil]) (.agg (r9 (.mk k wq f n []))):=
 Les.agg (.cons (Les.refl _) rfl (.cons (Les.refl _) rfl (.cons (Les.refl _) rfl (.cons (Les.refl _) rfl (.cons (Les.refl _) rfl (.cons (Les.nil 5) rfl (.cons (Les.refl _) rfl (.cons (Les.refl _) rfl (.cons (Les.nil 9) rfl .nil)))))))))
theorem JZ {p:RP} (f:ByteArray) (n:Int):Les (.agg (I 1::(sb p++[.str f,I n,.nil]))) (.agg (r9 (.mk 1 p f n []))):=by
 obtain ⟨k,pf,pn,pm,pa⟩:=p
 exact Les.agg (.cons (Les.refl _) rfl (.cons (Les.refl _) rfl (.cons (Les.refl _) rfl (.cons (Les.refl _) rfl (.cons (Les.refl _) rfl (.cons (Les.refl _) rfl (.cons (Les.refl _) rfl (.cons (Les.refl _) rfl (.cons (Les.nil 9) rfl .nil)))))))))
theorem CY (k:Int) (xs:List RO):Les (.agg [I k,I 0,.str e0,I 0,I 0,.nil,.str e0,I 0,.slice 9 (xs.map sL)]) (.agg (r9 (.mk k wq e0 0 xs))):=
 Les.agg (.cons (Les.refl _) rfl (.cons (Les.refl _) rfl (.cons (Les.refl _) rfl (.cons (Les.refl _) rfl (.cons (Les.refl _) rfl (.cons (Les.nil 5) rfl (.cons (Les.refl _) rfl (.cons (Les.refl _) rfl (.cons (Les.refl _) rfl .nil)))))))))
theorem CV (f:ByteArray) (n:Int):DCalls Tryz.prog 62 [.str f,I n] (.agg (sb (.mk 3 f n 0 []))):=by
 refine DCalls.to (r:=.agg [I 3,.str f,I n,I 0,.nil]) ?_ (CX _ _ _ _)
 refine qF (rs:=[.cell 4 25]) mixed Tryz.func62 l62 rfl rfl rfl (r:=[.agg [I 3,.str f,I n,I 0,.nil]]) (nlZ rfl) ?_
 repeat' ((conv=>whnf);first|exact trivial|refine aS ?_|fail)
 all_goals exact ⟨congrArg some rfl,trivial⟩
theorem zC (f:ByteArray) (n:Int):DCalls Tryz.prog 63 [.str f,I n] (.agg (r9 (.mk 2 wq f n []))):=by
 refine DCalls.to (r:=.agg [I 2,I 0,.str e0,I 0,I 0,.nil,.str f,I n,.nil]) ?_ (J0 _ _ _)
 refine qF (rs:=[.cell 4 28]) mixed Tryz.func63 l63 rfl rfl rfl (r:=[.agg [I 2,I 0,.str e0,I 0,I 0,.nil,.str f,I n,.nil]]) (nlZ rfl) ?_
 repeat' ((conv=>whnf);first|exact trivial|refine aS ?_|fail)
 all_goals exact ⟨congrArg some rfl,trivial⟩
theorem ze (p:RP):DCalls Tryz.prog 61 [.agg (sb p)] (.agg (r9 (.mk 1 p e0 0 []))):=by
 refine DCalls.to (r:=.agg (I 1::(sb p++[.str e0,I 0,.nil]))) ?_ (JZ _ _)
 obtain ⟨k,pf,pn,pm,pa⟩:=p
 refine qF (rs:=[.cell 2 28]) mixed Tryz.func61 l61 rfl rfl rfl (r:=[.agg (I 1::(sb (.mk k pf pn pm pa)++[.str e0,I 0,.nil]))]) (nlZ rfl) ?_
 repeat' ((conv=>whnf);first|exact trivial|refine aS ?_|fail)
 all_goals exact ⟨congrArg some rfl,trivial⟩
theorem CW (x y:RO):DCalls Tryz.prog 32 [.agg (r9 x),.agg (r9 y)] (.agg (r9 (xW 4 x y))):=by
 refine DCalls.to (r:=.agg [I 4,I 0,.str e0,I 0,I 0,.nil,.str e0,I 0,.slice 9 ([x,y].map sL)]) ?_ (CY _ _)
 have e:([x,y].map sL)=[.agg (r9 x),.agg (r9 y)]:=by simp [sy]
 rw [e]
 have h1:=sd x
 have h2:=sd y
 generalize r9 x=a at *
 generalize r9 y=b at *
 refine qF (rs:=[.cell 4 28]) mixed Tryz.func32 l32 rfl rfl rfl (r:=[.agg [I 4,I 0,.str e0,I 0,I 0,.nil,.str e0,I 0,.slice 9 [.agg a,.agg b]]]) (nlZ rfl) ?_
 repeat' ((conv=>whnf);first|exact trivial|(refine And.intro (by first|exact h1|exact h2|exact ⟨⟨trivial,h1⟩,h2⟩|fail) ?_)|refine aS ?_|fail)
 all_goals exact ⟨congrArg some rfl,trivial⟩
theorem G4 (x y:RO):DCalls Tryz.prog 33 [.agg (r9 x),.agg (r9 y)] (.agg (r9 (xW 3 x y))):=by
 refine DCalls.to (r:=.agg [I 3,I 0,.str e0,I 0,I 0,.nil,.str e0,I 0,.slice 9 ([x,y].map sL)]) ?_ (CY _ _)
 have e:([x,y].map sL)=[.agg (r9 x),.agg (r9 y)]:=by simp [sy]
 rw [e]
 have h1:=sd x
 have h2:=sd y
 generalize r9 x=a at *
 generalize r9 y=b at *
 refine qF (rs:=[.cell 4 28]) mixed Tryz.func33 l33 rfl rfl rfl (r:=[.agg [I 3,I 0,.str e0,I 0,I 0,.nil,.str e0,I 0,.slice 9 [.agg a,.agg b]]]) (nlZ rfl) ?_
 repeat' ((conv=>whnf);first|exact trivial|(refine And.intro (by first|exact h1|exact h2|exact ⟨⟨trivial,h1⟩,h2⟩|fail) ?_)|refine aS ?_|fail)
 all_goals exact ⟨congrArg some rfl,trivial⟩
def u4:ByteArray:=⟨#[100,115,116]⟩
def vQ:ByteArray:=⟨#[115,114,99]⟩
def wM:ByteArray:=⟨#[107,105,110,100]⟩
def L3:List Fd:=[⟨u4,16,8⟩,⟨vQ,24,8⟩,⟨wM,33,3⟩]
theorem FF:DCalls Tryz.prog 60 [] (fds L3):=by
 refine qF (rs:=[.tmp 0]) mixed Tryz.func60 l60 rfl rfl rfl (r:=[fds L3]) (nlZ rfl) ?_
 repeat' ((conv=>whnf);first|exact trivial|refine aS ?_|fail)
theorem Bg:LOk L3:=⟨by decide,fun f hf=>by
 simp only [L3,List.mem_cons,List.not_mem_nil,or_false] at hf
 rcases hf with rfl|rfl|rfl <;> exact ⟨by decide,by decide,by decide⟩⟩
def yo (l:List RF) (gs:List RG):Bool:=xM gs&&(wO l==0)
theorem G3 (l:List RF) (hl:l.length<2^60) (hn: ∀f∈l,f.name.size<2^62) (gs:List RG) (hgl:gs.length<2^60) (hg: ∀g∈gs,g.pol.wt<2^60):DCalls Tryz.prog 36 [vW l,.slice 15 (gs.map sg)] (.bool (yo l gs)):=by
 refine qF (rs:=[.tmp 4]) mixed Tryz.func36 l36 rfl rfl rfl (r:=[.bool _]) (nlZ rfl) ?_
 have h1:=Bl gs hgl hg
 have h2:=t47 l hl hn
 unfold yo
 generalize xM gs=b at *
 generalize wO l=c at *
 by_cases hc:c=0
 ·rw [show (c==0)=true by simp [hc]]
  cases b <;> repeat' ((conv=>whnf);first|exact trivial|refine rp _ (h1) ?_|refine rp _ (h2) ?_|refine qi hc ?_|refine rb1 ?_|refine rb0 ?_|refine aS ?_|fail)
 ·rw [show (c==0)=false by simp [hc]]
  cases b <;> repeat' ((conv=>whnf);first|exact trivial|refine rp _ (h1) ?_|refine rp _ (h2) ?_|refine qh hc ?_|refine rb0 ?_|refine aS ?_|fail)
end Go.TY
end
section
namespace Go.TY
open Go Go.DL Go.MM Go.Proofs
def Jf:ByteArray:=⟨#[116,111,112]⟩
def cN:ByteArray:=⟨#[99]⟩
def tN:ByteArray:=⟨#[116]⟩
abbrev idF:RO:=.mk 1 (.mk 1 e0 0 0 []) e0 0 []
abbrev CO:RO:=.mk 1 (.mk 2 e0 0 0 []) e0 0 []
abbrev wo:RO:=.mk 1 (.mk 9 e0 3 7 []) e0 0 []
abbrev uv:RG:=⟨idF,⟨2,cN,[vQ],e0,0,0⟩⟩
abbrev uN:RG:=⟨idF,⟨3,cN,[u4],e0,5,0⟩⟩
abbrev Ba:RG:=⟨idF,⟨3,cN,[wM],e0,5,0⟩⟩
abbrev zB:RG:=⟨idF,⟨1,cN,[vQ],e0,0,0⟩⟩
abbrev Bb:RG:=⟨idF,⟨6,cN,[vQ],e0,1,1⟩⟩
abbrev JM:RG:=⟨wo,⟨0,e0,[],e0,0,0⟩⟩
abbrev eqF (f:ByteArray) (n:Int):RP:=.mk 3 f n 0 []
abbrev fiF (p:RP):RO:=.mk 1 p e0 0 []
abbrev seF (f:ByteArray) (n:Int):RO:=.mk 2 wq f n []
abbrev xF:RO:=xW 3 (xW 4 (fiF (eqF u4 5)) (seF sZ 2)) (xW 4 (seF sZ 1) (.mk 5 wq e0 0 [seF vQ 0]))
abbrev VL:List RV:=[⟨cN,2,[8],0,0⟩]
theorem sm1 (g:RG) (h:g=uv∨g=uN∨g=Ba∨g=zB∨g=Bb):SmG (2^39) g:=by
 rcases h with rfl|rfl|rfl|rfl|rfl
 all_goals refine ⟨⟨by decide,by decide,fun k hk=>?_,by decide⟩,by decide,fun _=>⟨⟨by decide,trivial⟩,by decide,trivial⟩⟩
 all_goals (rw [List.mem_singleton.1 hk];decide)
theorem DK (p:RP) (x:Int) (hr:p.nodes<2^40) (hn:uI p) (h:AU L3 p=x):DCalls Tryz.prog 15 [fds L3,.agg (sb p)] (I x):=h▸I8 L3 Bg p hr hn
theorem I0 (k:Int) (f:ByteArray) (n m x:Int) (hn:f.size<2^62) (h:AU L3 (.mk k f n m [])=x):DCalls Tryz.prog 15 [fds L3,.agg [I k,.str f,I n,I m,.nil]] (I x):=
 (DK (.mk k f n m []) x (by simp [RP.nodes,sB]) ⟨hn,trivial⟩ h).lesAll ⟨Les.refl _,CX k f n m,trivial⟩
theorem yc (k:Int) (f:ByteArray) (n m:Int):DCalls Tryz.prog 61 [.agg [I k,.str f,I n,I m,.nil]] (.agg (r9 (.mk 1 (.mk k f n m []) e0 0 []))):=
 (ze (.mk k f n m [])).lesAll ⟨CX k f n m,trivial⟩
theorem HQ (x:RO) (k:Int) (ys:List RO):DCalls Tryz.prog 32 [.agg (r9 x),.agg [I k,I 0,.str e0,I 0,I 0,.nil,.str e0,I 0,.slice 9 (ys.map sL)]] (.agg (r9 (xW 4 x (.mk k wq e0 0 ys)))):=
 (CW x (.mk k wq e0 0 ys)).lesAll ⟨Les.refl _,CY k ys,trivial⟩
theorem IY (r:RO) (x:Int) (hr:r.wt<2^40) (hn:uj r) (h:tu L3 r=x):DCalls Tryz.prog 17 [fds L3,.agg (r9 r)] (I x):=h▸BT L3 Bg r hr hn
theorem GN (s:RS) (x:Int) (hs:SmS (2^59) s) (h:ta L3 s=x):DCalls Tryz.prog 19 [fds L3,.agg (se s)] (I x):=h▸Fl L3 Bg s hs
theorem DM (gs:List RG) (x:Int) (hl:gs.length<2^40) (hs: ∀g∈gs,SmG (2^39) g) (h:uW L3 gs=x):DCalls Tryz.prog 38 [fds L3,.slice 15 (gs.map sg)] (I x):=h▸AL L3 Bg gs hl hs
theorem xH {α:Type} {a b:α} {p:α→Prop} (ha:p a) (hb:p b): ∀x∈[a,b],p x:=fun x hx=>by
 simp only [List.mem_cons,List.not_mem_nil,or_false] at hx
 rcases hx with rfl|rfl
 ·exact ha
 ·exact hb
theorem Ll:DCalls Tryz.prog 39 [fds L3,.slice 15 ([uv,uN].map sg)] (.slice 5 (VL.map sQ)):=by
 have h:(tG L3 [uv,uN]).isNone=false:=by decide+kernel
 have e:AV L3 [uv,uN]=VL:=by decide+kernel
 cases hv:tG L3 [uv,uN] with
 |none=>rw [hv] at h;cases h
 |some st=>
  have:=Ch L3 Bg [uv,uN] (by decide) (xH ⟨(sm1 uv (by simp)).st.mono (by decide),by decide,by decide⟩ ⟨(sm1 uN (by simp)).st.mono (by decide),by decide,by decide⟩) st hv
  rwa [e] at this
theorem IX (tick:Int) (r q:RO) (hr:r.wt<2^39) (h:sF tick r=q):DCalls Tryz.prog 49 [.agg (r9 r),I tick] (.agg (r9 q)):=h▸t39 tick r hr
theorem GM (a b:RO) (x:Bool) (hr:a.wt<2^60) (h:uK a b=x):DCalls Tryz.prog 48 [.agg (r9 a),.agg (r9 b)] (.bool x):=h▸yj _ a b (Nat.le_refl _) hr
theorem I1 (r:RO) (x:List ByteArray) (hr:r.wt<2^39) (h:reads r=x):DCalls Tryz.prog 23 [.agg (r9 r)] (.slice 1 (x.map T.str)):=h▸Ht r hr
theorem Hn (r:RO) (x:List ByteArray) (hr:r.wt<2^39) (h:writes r=x):DCalls Tryz.prog 25 [.agg (r9 r)] (.slice 1 (x.map T.str)):=h▸FR r hr
theorem IZ (r:RO) (x:List Int) (hr:r.wt<2^39) (h:zG r=x):DCalls Tryz.prog 28 [.agg (r9 r)] (.slice 1 (x.map I)):=h▸Hs r hr
theorem Lk (r:RO) (x:Nat) (hr:sC r=true) (h:ua r=x):DCalls Tryz.prog 30 [.agg (r9 r)] (I x):=h▸Jb _ r (Nat.le_refl _) hr
theorem IW (gs:List RG) (x:List Int) (hl:gs.length<2^39) (hg: ∀g∈gs,g.pol.wt<2^39) (hb:(bounds gs).length<2^40) (h:tU gs=x):DCalls Tryz.prog 57 [.slice 15 (gs.map sg)] (.slice 1 (x.map I)):=h▸wY gs hl hg hb
theorem Fb (a:List ByteArray) (h:a.length<2^60):DCalls Tryz.prog 22 [.slice 1 (a.map .str),.slice 1 (a.map .str)] (.bool true):=by
 have:=Cf a a (Or.inl h)
 rwa [wB.2 rfl] at this
theorem GL (a:List Int) (h:a.length<2^60):DCalls Tryz.prog 27 [.slice 1 (a.map I),.slice 1 (a.map I)] (.bool true):=by
 have:=xS a a (Or.inl h)
 rwa [show (a==a)=true by simp] at this
theorem Oj:DCalls Tryz.prog 45 [.slice 5 (VL.map sQ),.slice 5 (VL.map sQ)] (.bool true):=by
 have:=zM VL VL (Or.inl (by decide)) (Or.inl fun v hv=>by rw [List.mem_singleton.1 hv];decide)
 rwa [wN.2 rfl] at this
theorem MT {P:Program} {i:DI} {is:List DI} {st:St} {K:St→Prop} (v:V) (h:wpI P i st (fun s=>s=st.set i.dst v)) (hk:aw P is (st.set i.dst v) K):aw P (i::is) st K:=cS (fun s e=>by rw [e];exact hk) h
theorem JY {P:Program} {is:List DI} {B:PT} {st:St} {Q:ax→St→Prop} (h:aw P is st fun st'=>B st' Q):qY (qX P is []) B st Q:=h
theorem FX:DCalls Tryz.prog 10 [] (.bool true):=by
 refine qF (rs:=[.tmp 0]) mixed Tryz.func10 l10 rfl rfl rfl (r:=[.bool true]) (nlZ rfl) ?_
 have k1:=FF
 have k2:=CV u4 300
 have k3:=CV Jf 1
 have k4:=yc 1 e0 0 0
 have k5:=DK (eqF u4 300) 1 (by decide) ⟨by decide,trivial⟩ (by decide+kernel)
 have k6:=DK (eqF Jf 1) 4 (by decide) ⟨by decide,trivial⟩ (by decide+kernel)
 have k7:=I0 4 wM 1 4 1 (by decide) (by decide+kernel)
 repeat' ((conv=>whnf);first|refine rp _ (k1) ?_|refine rp _ (k4) ?_|refine aS ?_|fail)
 refine rh (β:=Unit) (fun _=>{sl:=[(1,.t (fds L3)),(2,.ptr 2 0),(3,.t (.bool true))],bx:=[(2,.d 9 (r9 idF))]}) (fun _=>True) ?_ ?_
 ·repeat' ((conv=>whnf);first|refine rp _ (k2) ?_|refine rp _ (k3) ?_|refine rp _ (k5) ?_|refine rp _ (k6) ?_|refine rp _ (k7) ?_|(exact ⟨(),trivial,by (repeat' (first|exact trivial|exact LeV.same _|exact LeB.same _|exact rfl|exact fun _ _ _=>trivial|refine And.intro ?_ ?_));done⟩)|refine aE1 ?_|refine aS ?_|fail)
 rintro _ _
 clear k1 k2 k3 k4 k5 k6 k7
 have k8:=CV u4 5
 have k9:=ze (eqF u4 5)
 have k10:=zC wM 7
 have k11:=zC wM 8
 have k12:=CW (fiF (eqF u4 5)) (seF wM 7)
 have k13:=IY (xW 4 (fiF (eqF u4 5)) (seF wM 7)) 0 (by decide) ⟨⟨by decide,trivial⟩,by decide,⟨⟨by decide,trivial⟩,by decide,trivial⟩,⟨⟨by decide,trivial⟩,by decide,trivial⟩,trivial⟩ (by decide+kernel)
 have k14:=IY (seF wM 8) 1 (by decide) ⟨⟨by decide,trivial⟩,by decide,trivial⟩ (by decide+kernel)
 skip
 refine rh (β:=Unit) (fun _=>{sl:=[(1,.t (fds L3)),(2,.ptr 2 0),(3,.t (.bool true)),(4,.t (.bool true))],bx:=[(2,.d 9 (r9 idF))]}) (fun _=>True) ?_ ?_
 ·repeat' ((conv=>whnf);first|refine rp _ (k8) ?_|refine rp _ (k9) ?_|refine rp _ (k10) ?_|refine rp _ (k11) ?_|refine rp _ (k12) ?_|refine rp _ (k13) ?_|refine rp _ (k14) ?_|(exact ⟨(),trivial,by (repeat' (first|exact trivial|exact LeV.same _|exact LeB.same _|exact rfl|exact fun _ _ _=>trivial|refine And.intro ?_ ?_));done⟩)|refine aE1 ?_|refine aS ?_|fail)
 rintro _ _
 clear k8 k9 k10 k11 k12 k13 k14
 have k15:=GN ⟨1,cN,[vQ,vQ],e0,0,0⟩ 1 ⟨by decide,by decide,xH (p:=fun k:ByteArray=>k.size<2^59) (by decide) (by decide),by decide⟩ (by decide+kernel)
 have k16:=GN ⟨4,tN,[vQ],wM,1,9⟩ 1 ⟨by decide,by decide,fun k hk=>by rw [List.mem_singleton.1 hk];decide,by decide⟩ (by decide+kernel)
 skip
 refine rh (β:=Unit) (fun _=>{sl:=[(1,.t (fds L3)),(2,.ptr 2 0),(3,.t (.bool true)),(4,.t (.bool true)),(5,.t (.bool true))],bx:=[(2,.d 9 (r9 idF))]}) (fun _=>True) ?_ ?_
 ·repeat' ((conv=>whnf);first|refine rp _ (k15) ?_|refine rp _ (k16) ?_|(exact ⟨(),trivial,by (repeat' (first|exact trivial|exact LeV.same _|exact LeB.same _|exact rfl|exact fun _ _ _=>trivial|refine And.intro ?_ ?_));done⟩)|refine aE1 ?_|refine aS ?_|fail)
 rintro _ _
 clear k15 k16
 skip
 refine rh (β:=Unit) (fun _=>{sl:=[(1,.t (fds L3)),(2,.ptr 2 0),(3,.t (.bool true)),(4,.t (.bool true)),(5,.t (.bool true)),(6,.ptr 6 0)],bx:=[(2,.d 9 (r9 idF)),(6,.d 15 (sc uv))]}) (fun _=>True) ?_ ?_
 ·repeat' ((conv=>whnf);first|(exact ⟨(),trivial,by (repeat' (first|exact trivial|exact LeV.same _|exact LeB.same _|exact rfl|exact fun _ _ _=>trivial|refine And.intro ?_ ?_));done⟩)|refine aS ?_|fail)
 rintro _ _
 skip
 refine rh (β:=Unit) (fun _=>{sl:=[(1,.t (fds L3)),(2,.ptr 2 0),(3,.t (.bool true)),(4,.t (.bool true)),(5,.t (.bool true)),(6,.ptr 6 0),(7,.ptr 7 0)],bx:=[(2,.d 9 (r9 idF)),(6,.d 15 (sc uv)),(7,.d 15 (sc uN))]}) (fun _=>True) ?_ ?_
 ·repeat' ((conv=>whnf);first|(exact ⟨(),trivial,by (repeat' (first|exact trivial|exact LeV.same _|exact LeB.same _|exact rfl|exact fun _ _ _=>trivial|refine And.intro ?_ ?_));done⟩)|refine aS ?_|fail)
 rintro _ _
 skip
 refine rh (β:=Unit) (fun _=>{sl:=[(1,.t (fds L3)),(2,.ptr 2 0),(3,.t (.bool true)),(4,.t (.bool true)),(5,.t (.bool true)),(6,.ptr 6 0),(7,.ptr 7 0),(8,.ptr 8 0)],bx:=[(2,.d 9 (r9 idF)),(6,.d 15 (sc uv)),(7,.d 15 (sc uN)),(8,.d 15 (sc Ba))]}) (fun _=>True) ?_ ?_
 ·repeat' ((conv=>whnf);first|(exact ⟨(),trivial,by (repeat' (first|exact trivial|exact LeV.same _|exact LeB.same _|exact rfl|exact fun _ _ _=>trivial|refine And.intro ?_ ?_));done⟩)|refine aS ?_|fail)
 rintro _ _
 skip
 refine rh (β:=Unit) (fun _=>{sl:=[(1,.t (fds L3)),(2,.ptr 2 0),(3,.t (.bool true)),(4,.t (.bool true)),(5,.t (.bool true)),(6,.ptr 6 0),(7,.ptr 7 0),(8,.ptr 8 0),(9,.ptr 9 0)],bx:=[(2,.d 9 (r9 idF)),(6,.d 15 (sc uv)),(7,.d 15 (sc uN)),(8,.d 15 (sc Ba)),(9,.d 15 (sc zB))]}) (fun _=>True) ?_ ?_
 ·repeat' ((conv=>whnf);first|(exact ⟨(),trivial,by (repeat' (first|exact trivial|exact LeV.same _|exact LeB.same _|exact rfl|exact fun _ _ _=>trivial|refine And.intro ?_ ?_));done⟩)|refine aS ?_|fail)
 rintro _ _
 skip
 refine rh (β:=Unit) (fun _=>{sl:=[(1,.t (fds L3)),(2,.ptr 2 0),(3,.t (.bool true)),(4,.t (.bool true)),(5,.t (.bool true)),(6,.ptr 6 0),(7,.ptr 7 0),(8,.ptr 8 0),(9,.ptr 9 0),(10,.ptr 10 0)],bx:=[(2,.d 9 (r9 idF)),(6,.d 15 (sc uv)),(7,.d 15 (sc uN)),(8,.d 15 (sc Ba)),(9,.d 15 (sc zB)),(10,.d 15 (sc Bb))]}) (fun _=>True) ?_ ?_
 ·repeat' ((conv=>whnf);first|(exact ⟨(),trivial,by (repeat' (first|exact trivial|exact LeV.same _|exact LeB.same _|exact rfl|exact fun _ _ _=>trivial|refine And.intro ?_ ?_));done⟩)|refine aS ?_|fail)
 rintro _ _
 have k17:=DM [uv,uN] 0 (by decide) (xH (sm1 _ (by simp)) (sm1 _ (by simp))) (by decide+kernel)
 have k18:=DM [uv,Ba] 11 (by decide) (xH (sm1 _ (by simp)) (sm1 _ (by simp))) (by decide+kernel)
 have k19:=DM [zB,Bb] 11 (by decide) (xH (sm1 _ (by simp)) (sm1 _ (by simp))) (by decide+kernel)
 skip
 refine rh (β:=Unit) (fun _=>{sl:=[(1,.t (fds L3)),(2,.ptr 2 0),(3,.t (.bool true)),(4,.t (.bool true)),(5,.t (.bool true)),(6,.ptr 6 0),(7,.ptr 7 0),(11,.t (.bool true))],bx:=[(2,.d 9 (r9 idF)),(6,.d 15 (sc uv)),(7,.d 15 (sc uN))]}) (fun _=>True) ?_ ?_
 ·repeat' ((conv=>whnf);first|refine rp _ (k17) ?_|refine rp _ (k18) ?_|refine rp _ (k19) ?_|(exact ⟨(),trivial,by (repeat' (first|exact trivial|exact LeV.same _|exact LeB.same _|exact rfl|exact fun _ _ _=>trivial|refine And.intro ?_ ?_));done⟩)|refine aE1 ?_|refine aS ?_|fail)
 rintro _ _
 clear k17 k18 k19
 have k20:=Ll
 skip
 refine rh (β:=Unit) (fun _=>{sl:=[(1,.t (fds L3)),(2,.ptr 2 0),(3,.t (.bool true)),(4,.t (.bool true)),(5,.t (.bool true)),(11,.t (.bool true)),(12,.t (.slice 5 (VL.map sQ)))],bx:=[(2,.d 9 (r9 idF))]}) (fun _=>True) ?_ ?_
 ·repeat' ((conv=>whnf);first|refine rp _ (k20) ?_|(exact ⟨(),trivial,by (repeat' (first|exact trivial|exact LeV.same _|exact LeB.same _|exact rfl|exact fun _ _ _=>trivial|refine And.intro ?_ ?_));done⟩)|refine aS ?_|fail)
 rintro _ _
 clear k20
 have k21:=yc 9 e0 3 7
 skip
 refine rh (β:=Unit) (fun _=>{sl:=[(1,.t (fds L3)),(2,.ptr 2 0),(3,.t (.bool true)),(4,.t (.bool true)),(5,.t (.bool true)),(11,.t (.bool true)),(12,.t (.slice 5 (VL.map sQ))),(13,.ptr 13 0)],bx:=[(2,.d 9 (r9 idF)),(13,.d 9 (r9 wo))]}) (fun _=>True) ?_ ?_
 ·repeat' ((conv=>whnf);first|refine rp _ (k21) ?_|(exact ⟨(),trivial,by (repeat' (first|exact trivial|exact LeV.same _|exact LeB.same _|exact rfl|exact fun _ _ _=>trivial|refine And.intro ?_ ?_));done⟩)|refine aS ?_|fail)
 rintro _ _
 clear k21
 have k22:=IX 3 wo idF (by decide) rfl
 have k23:=IX 7 wo CO (by decide) rfl
 have k24:=yc 2 e0 0 0
 have k25:=GM idF idF true (by decide) (by decide+kernel)
 have k26:=GM CO CO true (by decide) (by decide+kernel)
 skip
 refine rh (β:=Unit) (fun _=>{sl:=[(1,.t (fds L3)),(3,.t (.bool true)),(4,.t (.bool true)),(5,.t (.bool true)),(11,.t (.bool true)),(12,.t (.slice 5 (VL.map sQ))),(13,.ptr 13 0),(14,.t (.bool true))],bx:=[(13,.d 9 (r9 wo))]}) (fun _=>True) ?_ ?_
 ·repeat' ((conv=>whnf);first|refine rp _ (k22) ?_|refine rp _ (k23) ?_|refine rp _ (k24) ?_|refine rp _ (k25) ?_|refine rp _ (k26) ?_|(exact ⟨(),trivial,by (repeat' (first|exact trivial|exact LeV.same _|exact LeB.same _|exact rfl|exact fun _ _ _=>trivial|refine And.intro ?_ ?_));done⟩)|refine aS ?_|fail)
 rintro _ _
 clear k22 k23 k24 k25 k26
 have k27:=CV u4 5
 have k28:=ze (eqF u4 5)
 have k29:=zC sZ 2
 have k30:=zC sZ 1
 have k31:=zC vQ 0
 have k32:=CW (fiF (eqF u4 5)) (seF sZ 2)
 have k33:=HQ (seF sZ 1) 5 [seF vQ 0]
 have k34:=G4 (xW 4 (fiF (eqF u4 5)) (seF sZ 2)) (xW 4 (seF sZ 1) (.mk 5 wq e0 0 [seF vQ 0]))
 skip
 refine rh (β:=Unit) (fun _=>{sl:=[(1,.t (fds L3)),(3,.t (.bool true)),(4,.t (.bool true)),(5,.t (.bool true)),(11,.t (.bool true)),(12,.t (.slice 5 (VL.map sQ))),(13,.ptr 13 0),(14,.t (.bool true)),(15,.ptr 15 0)],bx:=[(13,.d 9 (r9 wo)),(15,.d 9 (r9 xF))]}) (fun _=>True) ?_ ?_
 ·repeat' ((conv=>whnf);first|refine rp _ (k27) ?_|refine rp _ (k28) ?_|refine rp _ (k29) ?_|refine rp _ (k30) ?_|refine rp _ (k31) ?_|refine rp _ (k32) ?_|refine rp _ (k33) ?_|refine rp _ (k34) ?_|(exact ⟨(),trivial,by (repeat' (first|exact trivial|exact LeV.same _|exact LeB.same _|exact rfl|exact fun _ _ _=>trivial|refine And.intro ?_ ?_));done⟩)|refine aS ?_|fail)
 rintro _ _
 clear k27 k28 k29 k30 k31 k32 k33 k34
 have k35:=I1 xF [u4] (by decide) (by decide+kernel)
 have k36:=Hn xF [sZ,vQ] (by decide) (by decide+kernel)
 have k37:=IZ xF [1,2] (by decide) (by decide+kernel)
 have k38:=Lk xF 65536 (by decide+kernel) (by decide+kernel)
 have k39:=Fb [u4] (by decide)
 have k40:=Fb [sZ,vQ] (by decide)
 have k41:=GL [1,2] (by decide)
 skip
 refine rh (β:=Unit) (fun _=>{sl:=[(1,.t (fds L3)),(3,.t (.bool true)),(4,.t (.bool true)),(5,.t (.bool true)),(11,.t (.bool true)),(12,.t (.slice 5 (VL.map sQ))),(13,.ptr 13 0),(14,.t (.bool true)),(16,.t (.bool true))],bx:=[(13,.d 9 (r9 wo))]}) (fun _=>True) ?_ ?_
 ·repeat' ((conv=>whnf);first|refine rp _ (k35) ?_|refine rp _ (k36) ?_|refine rp _ (k37) ?_|refine rp _ (k38) ?_|refine rp _ (k39) ?_|refine rp _ (k40) ?_|refine rp _ (k41) ?_|(exact ⟨(),trivial,by (repeat' (first|exact trivial|exact LeV.same _|exact LeB.same _|exact rfl|exact fun _ _ _=>trivial|refine And.intro ?_ ?_));done⟩)|refine aE1 ?_|refine aS ?_|fail)
 rintro _ _
 clear k35 k36 k37 k38 k39 k40 k41
 have q1:=Oj
 have q2:=(IW [JM] [3,7] (by decide) (fun g hg=>by rw [List.mem_singleton.1 hg];decide) (by decide) (by decide+kernel)).lesAll (ts:=[.slice 15 [.agg (r9 wo++[I 0,.str e0,.nil,.str e0,I 0,I 0])]]) ⟨Les.slice rfl (fun i x y hx hy=>by
  cases i with
  |zero=>
   cases hx;cases hy
   exact ⟨df.append (ts:=r9 wo) (us:=r9 wo) ⟨rfl,by decide,fun i t u h1 h2=>by rw [h1] at h2;cases h2;exact Les.refl _⟩ (.cons (Les.refl _) rfl (.cons (Les.refl _) rfl (.cons (Les.nil 1) rfl (.cons (Les.refl _) rfl (.cons (Les.refl _) rfl (.cons (Les.refl _) rfl .nil)))))),rfl⟩
  |succ i=>cases hx),trivial⟩
 have q3:=GL [3,7] (by decide)
 dsimp only
 refine JY ?_
 iterate 17 (refine MT (.t (.bool true)) ?_ ?_; ·(conv=>whnf);rfl)
 repeat' ((conv=>whnf);first|exact trivial|refine rp _ (q1) ?_|refine rp _ (q2) ?_|refine rp _ (q3) ?_|refine rb1 ?_|refine aS ?_|fail)
end Go.TY
end
section
namespace Go.TY
open Go Go.DL Go.Proofs
noncomputable def c9:aV:=(.seq (.region [oo 8 (.mov kF)] []) (.seq (.region [oo 15 (.call 10 []),mv 9 15] []) (.seq (.seq (.region [mv 16 0,mv 17 1,oo 18 (.call 36 [(tm 16),(tm 17)]),oo 19 (.not (tm 18)),mv 20 19,mF 21 0 20,mF 22 1 20,oF 23 20 (.call 43 [(tm 21),(tm 22)]),oF 24 20 (.bin .neq (tm 23) (Kc 0)),oo 25 (.pick (tm 20) kT (tm 24))] []) (.cond (tm 25) (.seq (.region [mv 26 9,mv 8 26] []) .ret) .skip)) (.seq (.region [mv 27 1,mv 28 2,oo 29 (.call 55 [(tm 27),(tm 28)]),mv 10 29] []) (.seq (.seq (.region [mv 30 0,mv 31 10,oo 32 (.call 38 [(tm 30),(tm 31)]),oo 33 (.bin .neq (tm 32) (Kc 0)),mv 34 33,mF 35 10 34,oF 36 34 (.call 57 [tm 35]),oF 37 34 (.len (tm 36)),oF 38 34 (.bin .neq (tm 37) (Kc 0)),oo 39 (.pick (tm 34) kT (tm 38)),mv 40 39,mF 41 10 40,mF 42 3 40,oF 43 40 (.call 55 [(tm 41),(tm 42)]),mF 44 10 40,oF 45 40 (.call 54 [(tm 43),(tm 44)]),oF 46 40 (.not (tm 45)),oo 47 (.pick (tm 40) kT (tm 46))] []) (.cond (tm 47) (.seq (.region [oo 8 (.mov kF)] []) .ret) .skip)) (.seq (.seq (.region [oo 11 (.mov (Kc 0))] []) (.block 0 (.loop (.seq (.seq (.region [mv 48 11,mv 49 10,ln 50 49,oo 51 (.bin .lss (tm 48) (tm 50))] []) (.cond (tm 51) .skip (.exit 0))) (.seq (.block 1 (.seq (.region [mv 54 10,mv 55 11,ix 56 15 54 55,oo 57 (.nar 9 (tm 56)),lA 58 9 57,oo 59 (.call 59 [tm 58])] []) (.cond (tm 59) (.seq (.region [oo 8 (.mov kF)] []) .ret) .skip))) (.region [mv 52 11,oo 53 (.bin .add (tm 52) (Kc 1)),mv 11 53] [])))))) (.seq (.region [mv 60 1,oo 61 (.call 57 [tm 60]),mv 12 61] []) (.seq (.region [oo 13 (.mov kF)] []) (.seq (.seq (.region [oo 14 (.mov (Kc 0))] []) (.block 2 (.loop (.seq (.seq (.region [mv 62 14,mv 63 12,ln 64 63,oo 65 (.bin .lss (tm 62) (tm 64))] []) (.cond (tm 65) .skip (.exit 2))) (.seq (.block 3 (.region [mv 68 13,mv 69 68,mF 70 12 69,mF 71 14 69,oF 72 69 (.idxL 1 (tm 70) (tm 71)),oF 73 69 (.load 1 false (tm 72)),mF 74 2 69,mF 75 3 69,oF 76 69 (.minI (tm 74) (tm 75)),oF 77 69 (.bin .gtr (tm 73) (tm 76)),mF 78 77 69,mT 79 12 78,mT 80 14 78,oT 81 78 (.idxL 1 (tm 79) (tm 80)),oT 82 78 (.load 1 false (tm 81)),mT 83 2 78,mT 84 3 78,oT 85 78 (.maxI (tm 83) (tm 84)),oT 86 78 (.bin .leq (tm 82) (tm 85)),oF 87 69 (.pick (tm 78) (tm 86) kF),oo 88 (.pick (tm 69) kT (tm 87)),mv 13 88] [])) (.region [mv 66 14,oo 67 (.bin .add (tm 66) (Kc 1)),mv 14 67] [])))))) (.seq (.region [mv 89 9,mv 90 89,mT 91 13 90,mT 92 91 90,mF 93 1 92,mF 94 3 92,oF 95 92 (.call 55 [(tm 93),(tm 94)]),mF 96 10 92,oF 97 92 (.call 54 [(tm 95),(tm 96)]),oT 98 90 (.pick (tm 92) kT (tm 97)),oo 99 (.pick (tm 90) (tm 98) kF),mv 8 99] []) .ret))))))))))
theorem l9:(Tryz.f9.body.bind (bz Tryz.prog 100 [2000057000009]))=some c9:=by kernel_rfl
end Go.TY
end
section
namespace Go.TY
open Go Go.DL Go.MM Go.Proofs
theorem Hm {l:List RF} {gs:List RG} (h:yo l gs=true):xM gs=true∧wO l=0:=by
 unfold yo at h
 rw [Bool.and_eq_true] at h
 exact ⟨h.1,by simpa using h.2⟩
theorem GW {gs:List RG} (h:xM gs=true):gs.length≤12:=by
 unfold xM at h
 rw [Bool.and_eq_true,decide_eq_true_eq] at h
 exact h.2
end Go.TY
end
section
namespace Go.TY
open Go Go.DL Go.MM Go.Proofs
theorem DS (r:RO):(vz r).length≤2 * r.wt:=by
 have h: ∀ps:List RP,(ps.flatMap uf).length≤2 * ps.length:=fun ps=>by
  induction ps with
  |nil=>simp
  |cons x xs ih=>
   have:(uf x).length≤2:=by unfold uf;split <;> simp
   simp only [List.flatMap_cons,List.length_append,List.length_cons];omega
 have h1:=h (vq r)
 have h2:=zh r
 unfold vz;omega
theorem CK {gs:List RG} {B:Nat} (h: ∀g∈gs,g.pol.wt≤B):(bounds gs).length≤gs.length * (2 * B):=by
 induction gs with
 |nil=>simp [bounds]
 |cons g gs ih=>
  have h1:=DS g.pol
  have h2:=h g (by simp)
  have h3:=ih fun x hx=>h x (by simp [hx])
  unfold bounds at h3 ⊢
  simp only [List.flatMap_cons,List.length_append,List.length_cons]
  rw [Nat.add_mul]
  omega
theorem SmG.up {B B':Nat} {g:RG} (h:SmG B g) (hb:B≤B') (hB:B≤2^61):SmG B' g:=⟨h.st.mono hb,by have:=h.wt;omega,fun _=>h.names hB⟩
mutual
theorem zo (t:Int): ∀r:RP,uI r→uI (s8 t r)
 |.mk k f n m a=>fun h=>by
  rw [s8]
  split
  ·split <;> exact ⟨by decide,trivial⟩
  ·exact ⟨h.1,yP t a h.2⟩
theorem yP (t:Int): ∀l:List RP,vK l→vK (tl t l)
 |[]=>fun _=>trivial
 |r::rs=>fun h=>⟨zo t r h.1,yP t rs h.2⟩
end
mutual
theorem zu (t:Int): ∀r:RO,uj r→uj (sF t r)
 |.mk k p f n a=>fun h=>by
  rw [sF]
  exact ⟨zo t p h.1,h.2.1,yU t a h.2.2⟩
theorem yU (t:Int): ∀l:List RO,vJ l→vJ (tx t l)
 |[]=>fun _=>trivial
 |r::rs=>fun h=>⟨zu t r h.1,yU t rs h.2⟩
end
theorem law9 (l:List RF) (hl:l.length<2^60) (hn: ∀f∈l,f.name.size<2^62) (gs:List RG) (hgl:gs.length<2^30) (hg: ∀g∈gs,SmG (2^30) g) (s t:Int):DCalls Tryz.prog 9 [vW l,.slice 15 (gs.map sg),I s,I t] (.bool true):=by
 refine qF (rs:=[.tmp 8]) mixed Tryz.func9 l9 rfl rfl rfl (r:=[.bool true]) (nlZ rfl) ?_
 have h0:=FX
 have hwt: ∀g∈gs,g.pol.wt≤2^30:=fun g h=>(hg g h).wt
 have h1:=G3 l hl hn gs (by omega) fun g hgm=>by have:=hwt g hgm;omega
 cases hR:yo l gs with
 |false=>
  rw [hR] at h1
  repeat' ((conv=>whnf);first|exact trivial|refine rp _ (h0) ?_|refine rp _ (h1) ?_|refine rb1 ?_|fail)
 |true=>
 rw [hR] at h1
 obtain ⟨hf,hc⟩:=Hm hR
 have hle:=GW hf
 have ck:=CL hc
 have hok:=ck.ok
 have hfd:=ck.fds
 generalize l.map RF.fd=L at *
 rw [hfd] at h1 ⊢
 have hg2: ∀g∈gs,SmG (2^39) g:=fun g hgm=>(hg g hgm).up (by decide) (by decide)
 have a2:=E7 L hok gs (by omega) hg2
 by_cases hp:uW L gs=0
 case neg=>
  generalize uW L gs=pv at *
  generalize MM.fds L=FL at *
  repeat' ((conv=>whnf);first|exact trivial|refine rp _ (h0) ?_|refine rp _ (h1) ?_|refine rp _ (a2) ?_|refine qm hp ?_|refine rb1 ?_|refine aS ?_|fail)
 rw [hp] at a2
 have hbl:=CK hwt
 have hbm:gs.length * (2 * 2^30)≤12 * (2 * 2^30):=Nat.mul_le_mul_right _ hle
 have wtF: ∀u:Int, ∀g∈gs.map (tA u),SmG (2^30) g:=fun u g hgm=>by
  obtain ⟨x,hx,rfl⟩:=List.mem_map.1 hgm
  have h1:=Cp u x.pol
  have h2:=hg x hx
  exact ⟨h2.st,by have:=h2.wt;show (sF u x.pol).wt≤_;omega,fun hh=>zu u _ (h2.names hh)⟩
 have q1:=E0 s hp
 have q2:=CJ s gs
 have q3:=DU s t gs
 have q4: ∀g∈gs.map (tA s),yw g.pol=false:=fun g hgm=>by
  obtain ⟨x,hx,rfl⟩:=List.mem_map.1 hgm
  exact Fu s x.pol
 have q5:=fun hb=>FO (s:=s) (t:=t) hp hb
 have wS:=wtF s
 have wT:=wtF t
 have hfl:(gs.map (tA s)).length=gs.length:=List.length_map _
 have hfl2:(gs.map (tA t)).length=gs.length:=List.length_map _
 have c1:=vu gs s hgl fun g hgm=>by have:=hwt g hgm;omega
 have c1t:=vu gs t hgl fun g hgm=>by have:=hwt g hgm;omega
 have c2:=AL L hok (gs.map (tA s)) (by omega) fun g hgm=>(wS g hgm).up (by decide) (by decide)
 have c3:=wY (gs.map (tA s)) (by omega) (fun g hgm=>by have:=(wS g hgm).wt;omega) (by rw [q2];decide)
 have c4:=vu (gs.map (tA s)) t (by omega) fun g hgm=>by have:=(wS g hgm).wt;omega
 have c5:=xZ (gs.map (tA s)) (gs.map (tA s)) (by omega) fun g hgm=>⟨by have:=(wS g hgm).wt;omega,by have:=(wS g hgm).st.len;omega⟩
 rw [uA.2 rfl] at c5
 rw [q1] at c2
 have e0:tU (gs.map (tA s))=[]:=by unfold tU;rw [q2];rfl
 rw [e0] at c3
 rw [q3] at c4
 have c6:=wY gs (by omega) (fun g hgm=>by have:=hwt g hgm;omega) (by omega)
 have c7:=xZ (gs.map (tA t)) (gs.map (tA s)) (by omega) fun g hgm=>⟨by have:=(wT g hgm).wt;omega,by have:=(wT g hgm).st.len;omega⟩
 have hbsl:(tU gs).length<2^60:=by
  have:=zJ (lt:=ltI) (l:=bounds gs)
  unfold tU;omega
 have c8:=fun g (hgm:g∈gs.map (tA s))=>Hd g.pol (by have:=(wS g hgm).wt;omega)
 have q6:(∀ b∈tU gs,vT s t b)→uP (gs.map (tA t)) (gs.map (tA s))=true:=fun hb=>uA.2 (q5 hb)
 clear q5 q3 q2 q1 wtF wS wT hg2 hwt hg hf ck hok hfd hbl hbm e0 hp
 generalize uP (gs.map (tA t)) (gs.map (tA s))=sm at *
 generalize gs.map (tA t)=ft at *
 generalize gs.map (tA s)=fs at *
 generalize tU gs=bs at *
 generalize MM.fds L=FL at *
 have hlen:((fs.map sg).length:Int)=(fs.length:Int):=by rw [List.length_map]
 have hbs:((bs.map I).length:Int)=(bs.length:Int):=by rw [List.length_map]
 repeat' ((conv=>whnf);first|refine rp _ (h0) ?_|refine rp _ (h1) ?_|refine rp _ (a2) ?_|refine rp _ (c1) ?_|refine rp _ (c2) ?_|refine rp _ (c3) ?_|refine rp _ (c4) ?_|refine rp _ (c5) ?_|refine qj rfl ?_|refine aS ?_|fail)
 refine qQ 0 (α:=Nat) (β:=Unit) (fun i=>{sl:=[(1,.t (.slice 15 (gs.map sg))),(2,.t (I s)),(3,.t (I t)),(9,.t (.bool true)),(10,.t (.slice 15 (fs.map sg))),(11,.t (I i))],bx:=[]})
  (fun i=>i≤fs.length) (fun i=>fs.length - i) (fun _=>{sl:=[(1,.t (.slice 15 (gs.map sg))),(2,.t (I s)),(3,.t (I t)),(9,.t (.bool true)),(10,.t (.slice 15 (fs.map sg)))],bx:=[]}) (fun _=>True) 0 (by simp) ?_ ?_ ?_
 ·repeat' (first|exact trivial|exact LeV.same _|exact rfl|exact fun _ _ _=>trivial|refine And.intro ?_ ?_)
 ·rintro i hi
  rcases Nat.lt_or_ge i fs.length with h|h
  ·have hlt:(i:Int)<((fs.map sg).length:Int):=by omega
   have hx:(fs.map sg)[i]?.getD .nil= .agg (sc fs[i]):=by simp [h];rfl
   have hc1:=vL fs[i]
   have ht:=c8 fs[i] (List.getElem_mem h)
   rw [q4 fs[i] (List.getElem_mem h)] at ht
   repeat' ((conv=>whnf);first|refine qg hlt ?_|(refine nv_ (.agg (sc fs[i])) (by first|exact hx|fail) ?_)|(refine nv_ (.agg (r9 fs[i].pol)) (by first|exact congrArg T.agg hc1|fail) ?_)|refine rp _ (ht) ?_|(refine And.intro (by first|exact uV _|exact wE _|fail) ?_)|refine aS ?_|fail)
   refine ⟨i+1,h,by omega,?_⟩
   repeat' (first|exact trivial|exact LeV.same _|exact rfl|exact fun _ _ _=>trivial|exact lI|refine And.intro ?_ ?_)
  ·have hlt: ¬(i:Int)<((fs.map sg).length:Int):=by omega
   repeat' ((conv=>whnf);first|refine qe hlt ?_|(exact ⟨(),trivial,by (repeat' (first|exact trivial|exact LeV.same _|exact rfl|exact fun _ _ _=>trivial|refine And.intro ?_ ?_));done⟩)|refine aS ?_|fail)
 rintro _ _
 repeat' ((conv=>whnf);first|refine rp _ (c6) ?_|fail)
 refine qQ 2 (α:=Nat×Bool) (β:=Bool) (fun p=>{sl:=[(1,.t (.slice 15 (gs.map sg))),(2,.t (I s)),(3,.t (I t)),(9,.t (.bool true)),(10,.t (.slice 15 (fs.map sg))),(12,.t (.slice 1 (bs.map I))),(13,.t (.bool p.2)),(14,.t (I p.1))],bx:=[]})
  (fun p=>p.1≤bs.length∧(p.2=false→ ∀j (h:j<bs.length),j<p.1→vT s t bs[j])) (fun p=>bs.length - p.1)
  (fun b=>{sl:=[(1,.t (.slice 15 (gs.map sg))),(3,.t (I t)),(9,.t (.bool true)),(10,.t (.slice 15 (fs.map sg))),(13,.t (.bool b))],bx:=[]}) (fun b=>b=false→sm=true) (0,false) ⟨by simp,by simp⟩ ?_ ?_ ?_
 ·repeat' (first|exact trivial|exact LeV.same _|exact rfl|exact fun _ _ _=>trivial|refine And.intro ?_ ?_)
 ·rintro ⟨i,bt⟩ ⟨hi,hinv⟩
  dsimp only at hi hinv
  rcases Nat.lt_or_ge i bs.length with h|h
  ·have hlt:(i:Int)<((bs.map I).length:Int):=by omega
   have hx:(bs.map I)[i]?.getD .nil=I bs[i]:=by simp [h]
   have hmu:bs.length - (i+1)<bs.length - i:=by omega
   cases bt with
   |true=>
    repeat' ((conv=>whnf);first|refine qg hlt ?_|(exact ⟨(i+1,true),⟨h,by simp⟩,hmu,by (repeat' (first|exact trivial|exact LeV.same _|exact rfl|exact fun _ _ _=>trivial|exact lI|refine And.intro ?_ ?_));done⟩)|refine aS ?_|fail)
   |false=>
    have hap:vT s t bs[i]→ ∀j (h:j<bs.length),j<i+1→vT s t bs[j]:=fun ha j hj hlt=>by
     rcases Nat.lt_or_ge j i with h4|h4
     ·exact hinv rfl j hj h4
     ·obtain rfl:j=i:=by omega
      exact ha
    clear hinv
    generalize bs[i]=b at *
    have e1:(if t<s then t else s)=min s t:=by split <;> omega
    have e2:(if t>s then t else s)=max s t:=by split <;> omega
    replace hap:=fun hh: ¬(b>(if t<s then t else s)∧b≤(if t>s then t else s))=>hap (by unfold vT;rw [← e1, ←e2];exact hh)
    clear e1 e2
    by_cases c1:b>(if t<s then t else s)
    ·by_cases c2:b≤(if t>s then t else s)
     ·repeat' ((conv=>whnf);first|refine qg hlt ?_|(refine nv_ (I b) (by first|exact hx|fail) ?_)|refine qg c1 ?_|refine qg c2 ?_|(exact ⟨(i+1,true),⟨h,by simp⟩,hmu,by (repeat' (first|exact trivial|exact LeV.same _|exact rfl|exact fun _ _ _=>trivial|exact lI|refine And.intro ?_ ?_));done⟩)|refine nT_ ?_|refine aS ?_|fail)
     ·have inv:=hap (fun hc=>c2 hc.2)
      repeat' ((conv=>whnf);first|refine qg hlt ?_|(refine nv_ (I b) (by first|exact hx|fail) ?_)|refine qg c1 ?_|refine qe c2 ?_|(exact ⟨(i+1,false),⟨h,fun _=>inv⟩,hmu,by (repeat' (first|exact trivial|exact LeV.same _|exact rfl|exact fun _ _ _=>trivial|exact lI|refine And.intro ?_ ?_));done⟩)|refine nT_ ?_|refine aS ?_|fail)
    ·have inv:=hap (fun hc=>c1 hc.1)
     repeat' ((conv=>whnf);first|refine qg hlt ?_|(refine nv_ (I b) (by first|exact hx|fail) ?_)|refine qe c1 ?_|(exact ⟨(i+1,false),⟨h,fun _=>inv⟩,hmu,by (repeat' (first|exact trivial|exact LeV.same _|exact rfl|exact fun _ _ _=>trivial|exact lI|refine And.intro ?_ ?_));done⟩)|refine nT_ ?_|refine aS ?_|fail)
  ·have hlt: ¬(i:Int)<((bs.map I).length:Int):=by omega
   have hsm:bt=false→sm=true:=fun hb=>q6 fun b hbm=>by
    obtain ⟨j,hj,rfl⟩:=List.getElem_of_mem hbm
    exact hinv hb j hj (by omega)
   repeat' ((conv=>whnf);first|refine qe hlt ?_|(exact ⟨bt,hsm,by (repeat' (first|exact trivial|exact LeV.same _|exact rfl|exact fun _ _ _=>trivial|refine And.intro ?_ ?_));done⟩)|refine aS ?_|fail)
 ·rintro bt hsm
  clear q6 q4 c8
  cases bt with
  |true=>repeat' ((conv=>whnf);first|exact trivial|refine rb1 ?_|fail)
  |false=>
   rw [hsm rfl] at c7
   repeat' ((conv=>whnf);first|exact trivial|refine rp _ (c1t) ?_|refine rp _ (c7) ?_|refine rb1 ?_|fail)
end Go.TY
end
