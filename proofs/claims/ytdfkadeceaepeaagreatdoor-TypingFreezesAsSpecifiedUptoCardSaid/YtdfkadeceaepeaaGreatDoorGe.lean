/- Joined by program: parts of a data level over the model, of the program's functions over it, and of the statement's proof. -/
import Derived.Test.YtdfkadeceaepeaaGreatDoorGd
import Derived.Test.YtdfkadeceaepeaaGreatDoorGc
import Derived.Test.YtdfkadeceaepeaaGreatDoorProg
import Derived.KernelRfl
import Derived.Shelf.Sort.Plain
import Derived.Shelf.Slices.In.SortNone
set_option maxRecDepth 100000
set_option maxHeartbeats 8000000
section
namespace Go.TY
open Go Go.DL Go.MM Go.Proofs
theorem Bl (a b c d:Nat) (h1:a+c<2^62) (_:b<2^62) (h3:d<2^62):DCalls Tryz.prog 148 [sz a b,sz c d] (sz (a+c) (max b (d+1))):=by
 refine qO (rs:=[.cell 4 131]) mixed Tryz.func148 Mb rfl rfl rfl (r:=[sz (a+c) (max b (d+1))]) (nlZ rfl) ?_
 repeat' ((conv=>whnf);first|refine nT_ ?_|refine aS ?_|fail)
 refine And.intro (congrArg some ?_) trivial
 simp (disch:=omega) only [mG,aN,List.take,List.drop,List.nil_append,List.cons_append]
 unfold sz I
 have e:(if (d:Int)+1>(b:Int) then (d:Int)+1 else (b:Int))=((max b (d+1):Nat):Int):=by split <;> omega
 rw [e,Int.natCast_add]
theorem Gm (n d:Nat):DCalls Tryz.prog 140 [sz n d] (I (wF n d)):=by
 refine qO (rs:=[.tmp 2]) mixed Tryz.func140 L5 rfl rfl rfl (r:=[.int _ _]) (nlZ rfl) ?_
 unfold wF
 by_cases h:n≤200
 ·by_cases h2:d≤20
  ·rw [if_pos ⟨h,h2⟩];repeat' ((conv=>whnf);first|exact trivial|refine nT_ ?_|refine aD0 ?_|refine rix ?_|refine aS ?_|fail)
  ·rw [if_neg (by omega)];repeat' ((conv=>whnf);first|exact trivial|refine nT_ ?_|refine aD1 ?_|refine aD0 ?_|refine rix ?_|refine aS ?_|fail)
 ·rw [if_neg (by omega)];repeat' ((conv=>whnf);first|exact trivial|refine nT_ ?_|refine aD1 ?_|refine rix ?_|refine aS ?_|fail)
theorem HR (l:List RP) (hl:sN l<2^60) (ih: ∀(i:Nat) (h:i<l.length),DCalls Tryz.prog 105 [.agg (sB l[i])] (sz l[i].nodes l[i].depth)):
  DCalls Tryz.prog 139 [.slice 5 (l.map sM),.clos 105 []] (sz (1+sN l) (1+tI l)):=by
 refine qO (rs:=[.cell 4 131]) mixed Tryz.func139 L0 rfl rfl rfl (r:=[sz _ _]) (nlZ rfl) ?_
 repeat' ((conv=>whnf);first|refine aS ?_|fail)
 refine rq (α:=Nat) (fun i=>{sl:=[(1,.t (.clos 105 [])),(4,.ptr 4 0),(5,.ptr 5 0),(9,.t (.slice 5 (l.map sM))),(10,.t (I l.length)),(11,.t (I i))],bx:=[(4,.d 2 [I 0,I 0]),(5,.d 2 [I (1+sN (l.take i):Nat),I (1+tI (l.take i):Nat)])]})
  (fun i=>i≤l.length) (fun i=>l.length - i) 0 (by omega) ?_ ?_
 ·repeat' (first|(exact leI (by simp))|exact trivial|exact LeV.same _|exact LeB.same _|exact rfl|exact fun _ _ _=>trivial|refine And.intro ?_ ?_)
 rintro i hi
 rcases Nat.lt_or_ge i l.length with h|h
 ·have hn:=tz h
  have hd:=wA h
  have hm:=tx (l:=l) (j:=i+1)
  have hdn:=l[i].vt
  have hd1:=wg (l.take i)
  have hln:=tP l
  have hw:=Bl (1+sN (l.take i)) (1+tI (l.take i)) l[i].nodes l[i].depth (by omega) (by omega) (by omega)
  have hi0:DCalls Tryz.prog 105 [.agg (aN [I 0,.str ⟨#[]⟩,I 0,I 0,.nil] 0 5 (sB l[i]))] (sz l[i].nodes l[i].depth):=by rw [mU (n:=5) rfl];exact ih i h
  repeat' ((conv=>whnf);first|(refine nv_ (.agg (sB l[i])) (by first|(simp [h,sG];done)|fail) ?_)|refine rE _ (hi0) ?_|refine rE _ (hw) ?_|refine nT_ ?_|refine aD1 ?_|(refine And.intro (by first|exact sJ _|exact ⟨sJ _,nlZ rfl⟩|fail) ?_)|refine aS ?_|fail)
  refine ⟨i+1,by omega,by omega,?_⟩
  repeat' (first|exact trivial|exact LeV.same _|exact LeB.same _|exact rfl|exact fun _ _ _=>trivial|exact lI|refine su ?_|refine And.intro ?_ ?_)
  rw [hn,hd,show 1+(sN (l.take i)+l[i].nodes)=1+sN (l.take i)+l[i].nodes by omega,show 1+max (tI (l.take i)) l[i].depth=max (1+tI (l.take i)) (l[i].depth+1) by omega]
  rfl
 ·have:i=l.length:=by omega
  subst this
  rw [List.take_length]
  repeat' ((conv=>whnf);first|exact trivial|refine aD0 ?_|refine aS ?_|fail)
theorem BV (N:Nat): ∀r:RP,r.nodes≤N→N<2^60→DCalls Tryz.prog 105 [.agg (sB r)] (sz r.nodes r.depth):=by
 induction N with
 |zero=>intro r h;have:=r.tV;omega
 |succ N ih=>
  rintro ⟨k,f,n,m,l⟩ hr hN
  refine qO (rs:=[.cell 2 131]) mixed Tryz.func105 Lz rfl rfl rfl (r:=[sz _ _]) (nlZ rfl) ?_
  simp only [RP.nodes,RP.depth] at hr ⊢
  have h1:=HR l (by omega) fun i h=>ih l[i] (by
   have hn:=tz h
   have hm:=tx (l:=l) (j:=i+1)
   omega) (by omega)
  repeat' ((conv=>whnf);first|exact trivial|refine rE _ (h1) ?_|refine nT_ ?_|(refine And.intro (by first|exact sJ _|fail) ?_)|refine aS ?_|fail)
theorem HQ (l:List RO) (hl:ti l<2^60) (ih: ∀(i:Nat) (h:i<l.length),DCalls Tryz.prog 113 [.agg (sA l[i])] (sz l[i].size l[i].deep)):
  DCalls Tryz.prog 147 [.slice 9 (l.map sP),.clos 113 []] (sz (1+tF l) (1+tD l)):=by
 refine qO (rs:=[.cell 4 131]) mixed Tryz.func147 Ma rfl rfl rfl (r:=[sz _ _]) (nlZ rfl) ?_
 repeat' ((conv=>whnf);first|refine aS ?_|fail)
 refine rq (α:=Nat) (fun i=>{sl:=[(1,.t (.clos 113 [])),(4,.ptr 4 0),(5,.ptr 5 0),(9,.t (.slice 9 (l.map sP))),(10,.t (I l.length)),(11,.t (I i))],bx:=[(4,.d 2 [I 0,I 0]),(5,.d 2 [I (1+tF (l.take i):Nat),I (1+tD (l.take i):Nat)])]})
  (fun i=>i≤l.length) (fun i=>l.length - i) 0 (by omega) ?_ ?_
 ·repeat' (first|(exact leI (by simp))|exact trivial|exact LeV.same _|exact LeB.same _|exact rfl|exact fun _ _ _=>trivial|refine And.intro ?_ ?_)
 rintro i hi
 rcases Nat.lt_or_ge i l.length with h|h
 ·have hn:=vR h
  have hd:=vI h
  have hsz:=uo l
  have hsm:=uo (l.take (i+1))
  have hwm:=tR (l:=l) (j:=i+1)
  have hdn:=l[i].x9
  have hsn:=l[i].size_le
  have hd1:=uX (l.take i)
  have hs1:=uo (l.take i)
  have hwm1:=tR (l:=l) (j:=i)
  have hwt:=tW h
  have hln:=ux l
  have hw:=Bl (1+tF (l.take i)) (1+tD (l.take i)) l[i].size l[i].deep (by omega) (by omega) (by omega)
  have hi0:DCalls Tryz.prog 113 [.agg (aN [I 0,I 0,.str ⟨#[]⟩,I 0,I 0,.nil,.str ⟨#[]⟩,I 0,.nil] 0 9 (sA l[i]))] (sz l[i].size l[i].deep):=by rw [mU (n:=9) rfl];exact ih i h
  repeat' ((conv=>whnf);first|(refine nv_ (.agg (sA l[i])) (by first|(simp [h,sL];done)|fail) ?_)|refine rE _ (hi0) ?_|refine rE _ (hw) ?_|refine nT_ ?_|refine aD1 ?_|(refine And.intro (by first|exact sE _|exact ⟨sE _,nlZ rfl⟩|fail) ?_)|refine aS ?_|fail)
  refine ⟨i+1,by omega,by omega,?_⟩
  repeat' (first|exact trivial|exact LeV.same _|exact LeB.same _|exact rfl|exact fun _ _ _=>trivial|exact lI|refine su ?_|refine And.intro ?_ ?_)
  rw [hn,hd,show 1+(tF (l.take i)+l[i].size)=1+tF (l.take i)+l[i].size by omega,show 1+max (tD (l.take i)) l[i].deep=max (1+tD (l.take i)) (l[i].deep+1) by omega]
  rfl
 ·have:i=l.length:=by omega
  subst this
  rw [List.take_length]
  repeat' ((conv=>whnf);first|exact trivial|refine aD0 ?_|refine aS ?_|fail)
theorem Gn (N:Nat): ∀r:RO,r.wt≤N→N<2^60→DCalls Tryz.prog 113 [.agg (sA r)] (sz r.size r.deep):=by
 induction N with
 |zero=>intro r h;obtain ⟨k,p,f,n,a⟩:=r;simp only [RO.wt] at h;omega
 |succ N ih=>
  rintro ⟨k,⟨pk,pf,pn,pm,pa⟩,f,n,l⟩ hr hN
  refine qO (rs:=[.cell 2 131]) mixed Tryz.func113 LH rfl rfl rfl (r:=[sz _ _]) (nlZ rfl) ?_
  simp only [RO.wt] at hr
  have h1:=HQ l (by omega) fun i h=>ih l[i] (by
   have hn:=tW h
   have hm:=tR (l:=l) (j:=i+1)
   omega) (by omega)
  have h2:=BV _ (.mk pk pf pn pm pa) (Nat.le_refl _) (by omega)
  have hs:=uo l
  have hd:=uX l
  have hdp:=(RP.mk pk pf pn pm pa).vt
  by_cases hk:k=1
  ·subst hk
   have h3:=Bl (1+tF l) (1+tD l) (RP.mk pk pf pn pm pa).nodes (RP.mk pk pf pn pm pa).depth (by omega) (by omega) (by omega)
   have e1:(RO.mk 1 (.mk pk pf pn pm pa) f n l).size=1+tF l+(RP.mk pk pf pn pm pa).nodes:=by rw [RO.size,if_pos rfl];omega
   have e2:(RO.mk 1 (.mk pk pf pn pm pa) f n l).deep=max (1+tD l) ((RP.mk pk pf pn pm pa).depth+1):=by rw [RO.deep,if_pos rfl];omega
   rw [e1,e2]
   repeat' ((conv=>whnf);first|exact trivial|refine rE _ (h1) ?_|refine rE _ (h2) ?_|refine rE _ (h3) ?_|refine nT_ ?_|refine aE1 ?_|(refine And.intro (by first|exact sE _|fail) ?_)|refine aS ?_|fail)
  ·have e1:(RO.mk k (.mk pk pf pn pm pa) f n l).size=1+tF l:=by rw [RO.size,if_neg hk]
   have e2:(RO.mk k (.mk pk pf pn pm pa) f n l).deep=1+tD l:=by rw [RO.deep,if_neg hk];omega
   rw [e1,e2]
   repeat' ((conv=>whnf);first|exact trivial|refine rE _ (h1) ?_|refine nT_ ?_|refine aE0 ?_|(refine And.intro (by first|exact sE _|fail) ?_)|refine aS ?_|fail)
def ve {α:Type} (p:α→Bool) (xs:List α):Int:=match xs.findIdx? p with
 |some i=>(i:Int)
 |none=> -1
theorem yg {α:Type} {p:α→Bool} {xs:List α} {i:Nat} (h:i<xs.length) (hb:p xs[i]=true) (hp: ∀j (h:j<xs.length),j<i→p xs[j]=false):ve p xs=i:=by
 unfold ve
 have:xs.findIdx? p=some i:=List.findIdx?_eq_some_iff_getElem.2 ⟨h,hb,fun j hj=>by simp [hp j (by omega) hj]⟩
 rw [this]
theorem yh {α:Type} {p:α→Bool} {xs:List α} (hp: ∀j (h:j<xs.length),p xs[j]=false):ve p xs= -1:=by
 unfold ve
 have:xs.findIdx? p=none:=List.findIdx?_eq_none_iff.2 fun x hx=>by
  obtain ⟨j,hj,rfl⟩:=List.getElem_of_mem hx
  exact hp j hj
 rw [this]
theorem xB {α:Type} (p:α→Bool) (xs:List α):xs.any p=decide (ve p xs≥0):=by
 unfold ve
 cases h:xs.findIdx? p with
 |none=>
  have:=List.findIdx?_eq_none_iff.1 h
  simpa using this
 |some i=>
  obtain ⟨h1,h2,_⟩:=List.findIdx?_eq_some_iff_getElem.1 h
  have:xs.any p=true:=List.any_eq_true.2 ⟨xs[i],List.getElem_mem h1,h2⟩
  rw [this];simp
theorem C2 (xs:List RP) (f:FuncId) (c:T) (p:RP→Bool) (hl:xs.length<2^60) (hc: ∀(i:Nat) (h:i<xs.length),DCalls Tryz.prog f [.agg (sB xs[i]),c] (.bool (p xs[i]))):
  DCalls Tryz.prog 190 [.slice 5 (xs.map sM),.clos f [c]] (I (ve p xs)):=by
 refine qO (rs:=[.tmp 4]) mixed Tryz.func190 Mt rfl rfl rfl (r:=[.int _ _]) (nlZ rfl) ?_
 skip
 refine rq (α:=Nat) (fun i=>{sl:=[(0,.t (.slice 5 (xs.map sM))),(1,.t (.clos f [c])),(6,.t (.slice 5 (xs.map sM))),(7,.t (I xs.length)),(8,.t (I i))],bx:=[]})
  (fun i=>i≤xs.length∧ ∀j (h:j<xs.length),j<i→p xs[j]=false) (fun i=>xs.length - i) 0 (by simp) ?_ ?_
 ·repeat' (first|(exact leI (by simp))|exact trivial|exact LeV.same _|exact rfl|exact fun _ _ _=>trivial|refine And.intro ?_ ?_)
 rintro i ⟨hi,hp⟩
 rcases Nat.lt_or_ge i xs.length with h|h
 ·have h0:=hc i h
  cases hb:p xs[i] with
  |true=>
   rw [hb] at h0
   rw [yg h hb hp]
   repeat' ((conv=>whnf);first|exact trivial|(refine nv_ (.agg (sB xs[i])) (by first|(simp [h,sG];done)|fail) ?_)|refine rE _ (h0) ?_|refine nT_ ?_|refine aD1 ?_|refine rix ?_|(refine And.intro (by first|exact sJ _|fail) ?_)|refine aS ?_|fail)
  |false=>
   rw [hb] at h0
   repeat' ((conv=>whnf);first|(refine nv_ (.agg (sB xs[i])) (by first|(simp [h,sG];done)|fail) ?_)|refine rE _ (h0) ?_|refine nT_ ?_|refine aD1 ?_|(refine And.intro (by first|exact sJ _|fail) ?_)|refine aS ?_|fail)
   refine ⟨i+1,⟨h,fun j hj hlt=>?_⟩,by omega,?_⟩
   ·rcases Nat.lt_or_ge j i with h4|h4
    ·exact hp j hj h4
    ·obtain rfl:j=i:=by omega
     exact hb
   ·repeat' (first|exact trivial|exact LeV.same _|exact rfl|exact fun _ _ _=>trivial|exact lI|refine And.intro ?_ ?_)
 ·rw [yh fun j hj=>hp j hj (by omega)]
  repeat' ((conv=>whnf);first|exact trivial|refine aD0 ?_|refine rix ?_|refine aS ?_|fail)
theorem C1 (xs:List RP) (f:FuncId) (c:T) (p:RP→Bool) (hl:xs.length<2^60) (hc: ∀(i:Nat) (h:i<xs.length),DCalls Tryz.prog f [.agg (sB xs[i]),c] (.bool (p xs[i]))):
  DCalls Tryz.prog 161 [.slice 5 (xs.map sM),.clos f [c]] (.bool (xs.any p)):=by
 refine qO (rs:=[.tmp 4]) mixed Tryz.func161 Mj rfl rfl rfl (r:=[.bool _]) (nlZ rfl) ?_
 have h1:=C2 xs f c p hl hc
 rw [xB p xs]
 generalize ve p xs=k at *
 repeat' ((conv=>whnf);first|exact trivial|refine rE _ (h1) ?_|refine nD_ (fun hq=>?_) (fun hq=>?_)|refine rb1 ?_|refine rb0 ?_|refine aS ?_|fail)
theorem BE (x:RP) (f:FuncId) (b:Bool) (hc:DCalls Tryz.prog f [.agg (sB x)] (.bool b)):
  DCalls Tryz.prog 162 [.agg (sB x),.cptr [.clos f []] 0] (.bool !b):=by
 refine qO (rs:=[.tmp 3]) mixed Tryz.func162 Mk rfl rfl rfl (r:=[.bool _]) (nlZ rfl) ?_
 repeat' ((conv=>whnf);first|exact trivial|refine rE _ (hc) ?_|refine nT_ ?_|refine rbx ?_|(refine And.intro (by first|exact sJ _|fail) ?_)|refine aS ?_|fail)
theorem Be (xs:List RP) (f:FuncId) (n:Int) (p:RP→Bool) (hl:xs.length<2^60) (hc: ∀(i:Nat) (h:i<xs.length),DCalls Tryz.prog f [.agg (sB xs[i])] (.bool (p xs[i]))):
  DCalls Tryz.prog 144 [.slice 5 (xs.map sM),I n,.clos f []] (.bool (((xs.length:Int)==n)&&xs.all p)):=by
 refine qO (rs:=[.tmp 6]) mixed Tryz.func144 L9 rfl rfl rfl (r:=[.bool _]) (nlZ rfl) ?_
 have h1:=C1 xs 162 (.cptr [.clos f []] 0) (fun x=> !p x) hl fun i h=>BE xs[i] f (p xs[i]) (hc i h)
 have e:xs.all p= !(xs.any fun x=> !p x):=by rw [List.all_eq_not_any_not]
 rw [e]
 generalize (xs.any fun x=> !p x)=b at *
 by_cases hn:(xs.length:Int)=n
 ·repeat' ((conv=>whnf);first|exact trivial|refine rE _ (h1) ?_|refine aE1 ?_|refine rbx ?_|refine aS ?_|fail)
 ·repeat' ((conv=>whnf);first|exact trivial|refine aE0 ?_|refine rb0 ?_|refine aS ?_|fail)
theorem Bg (xs:List RO) (f:FuncId) (c:T) (p:RO→Bool) (hl:xs.length<2^60) (hc: ∀(i:Nat) (h:i<xs.length),DCalls Tryz.prog f [.agg (sA xs[i]),c] (.bool (p xs[i]))):
  DCalls Tryz.prog 191 [.slice 9 (xs.map sP),.clos f [c]] (I (ve p xs)):=by
 refine qO (rs:=[.tmp 4]) mixed Tryz.func191 Mu rfl rfl rfl (r:=[.int _ _]) (nlZ rfl) ?_
 skip
 refine rq (α:=Nat) (fun i=>{sl:=[(0,.t (.slice 9 (xs.map sP))),(1,.t (.clos f [c])),(6,.t (.slice 9 (xs.map sP))),(7,.t (I xs.length)),(8,.t (I i))],bx:=[]})
  (fun i=>i≤xs.length∧ ∀j (h:j<xs.length),j<i→p xs[j]=false) (fun i=>xs.length - i) 0 (by simp) ?_ ?_
 ·repeat' (first|(exact leI (by simp))|exact trivial|exact LeV.same _|exact rfl|exact fun _ _ _=>trivial|refine And.intro ?_ ?_)
 rintro i ⟨hi,hp⟩
 rcases Nat.lt_or_ge i xs.length with h|h
 ·have h0:=hc i h
  cases hb:p xs[i] with
  |true=>
   rw [hb] at h0
   rw [yg h hb hp]
   repeat' ((conv=>whnf);first|exact trivial|(refine nv_ (.agg (sA xs[i])) (by first|(simp [h,sL];done)|fail) ?_)|refine rE _ (h0) ?_|refine nT_ ?_|refine aD1 ?_|refine rix ?_|(refine And.intro (by first|exact sE _|fail) ?_)|refine aS ?_|fail)
  |false=>
   rw [hb] at h0
   repeat' ((conv=>whnf);first|(refine nv_ (.agg (sA xs[i])) (by first|(simp [h,sL];done)|fail) ?_)|refine rE _ (h0) ?_|refine nT_ ?_|refine aD1 ?_|(refine And.intro (by first|exact sE _|fail) ?_)|refine aS ?_|fail)
   refine ⟨i+1,⟨h,fun j hj hlt=>?_⟩,by omega,?_⟩
   ·rcases Nat.lt_or_ge j i with h4|h4
    ·exact hp j hj h4
    ·obtain rfl:j=i:=by omega
     exact hb
   ·repeat' (first|exact trivial|exact LeV.same _|exact rfl|exact fun _ _ _=>trivial|exact lI|refine And.intro ?_ ?_)
 ·rw [yh fun j hj=>hp j hj (by omega)]
  repeat' ((conv=>whnf);first|exact trivial|refine aD0 ?_|refine rix ?_|refine aS ?_|fail)
theorem Bf (xs:List RO) (f:FuncId) (c:T) (p:RO→Bool) (hl:xs.length<2^60) (hc: ∀(i:Nat) (h:i<xs.length),DCalls Tryz.prog f [.agg (sA xs[i]),c] (.bool (p xs[i]))):
  DCalls Tryz.prog 164 [.slice 9 (xs.map sP),.clos f [c]] (.bool (xs.any p)):=by
 refine qO (rs:=[.tmp 4]) mixed Tryz.func164 Mm rfl rfl rfl (r:=[.bool _]) (nlZ rfl) ?_
 have h1:=Bg xs f c p hl hc
 rw [xB p xs]
 generalize ve p xs=k at *
 repeat' ((conv=>whnf);first|exact trivial|refine rE _ (h1) ?_|refine nD_ (fun hq=>?_) (fun hq=>?_)|refine rb1 ?_|refine rb0 ?_|refine aS ?_|fail)
theorem zW (x:RO) (f:FuncId) (b:Bool) (hc:DCalls Tryz.prog f [.agg (sA x)] (.bool b)):
  DCalls Tryz.prog 165 [.agg (sA x),.cptr [.clos f []] 0] (.bool !b):=by
 refine qO (rs:=[.tmp 3]) mixed Tryz.func165 Mn rfl rfl rfl (r:=[.bool _]) (nlZ rfl) ?_
 repeat' ((conv=>whnf);first|exact trivial|refine rE _ (hc) ?_|refine nT_ ?_|refine rbx ?_|(refine And.intro (by first|exact sE _|fail) ?_)|refine aS ?_|fail)
theorem zF (xs:List RO) (f:FuncId) (n:Int) (p:RO→Bool) (hl:xs.length<2^60) (hc: ∀(i:Nat) (h:i<xs.length),DCalls Tryz.prog f [.agg (sA xs[i])] (.bool (p xs[i]))):
  DCalls Tryz.prog 150 [.slice 9 (xs.map sP),I n,.clos f []] (.bool (((xs.length:Int)==n)&&xs.all p)):=by
 refine qO (rs:=[.tmp 6]) mixed Tryz.func150 Md rfl rfl rfl (r:=[.bool _]) (nlZ rfl) ?_
 have h1:=Bf xs 165 (.cptr [.clos f []] 0) (fun x=> !p x) hl fun i h=>zW xs[i] f (p xs[i]) (hc i h)
 have e:xs.all p= !(xs.any fun x=> !p x):=by rw [List.all_eq_not_any_not]
 rw [e]
 generalize (xs.any fun x=> !p x)=b at *
 by_cases hn:(xs.length:Int)=n
 ·repeat' ((conv=>whnf);first|exact trivial|refine rE _ (h1) ?_|refine aE1 ?_|refine rbx ?_|refine aS ?_|fail)
 ·repeat' ((conv=>whnf);first|exact trivial|refine aE0 ?_|refine rb0 ?_|refine aS ?_|fail)
theorem Bh (xs:List ByteArray) (f:FuncId) (c:T) (p:ByteArray→Bool) (hl:xs.length<2^60) (hc: ∀(i:Nat) (h:i<xs.length),DCalls Tryz.prog f [.str xs[i],c] (.bool (p xs[i]))):
  DCalls Tryz.prog 154 [.slice 1 (xs.map T.str),.clos f [c]] (I (ve p xs)):=by
 refine qO (rs:=[.tmp 4]) mixed Tryz.func154 Mh rfl rfl rfl (r:=[.int _ _]) (nlZ rfl) ?_
 skip
 refine rq (α:=Nat) (fun i=>{sl:=[(0,.t (.slice 1 (xs.map T.str))),(1,.t (.clos f [c])),(6,.t (.slice 1 (xs.map T.str))),(7,.t (I xs.length)),(8,.t (I i))],bx:=[]})
  (fun i=>i≤xs.length∧ ∀j (h:j<xs.length),j<i→p xs[j]=false) (fun i=>xs.length - i) 0 (by simp) ?_ ?_
 ·repeat' (first|(exact leI (by simp))|exact trivial|exact LeV.same _|exact rfl|exact fun _ _ _=>trivial|refine And.intro ?_ ?_)
 rintro i ⟨hi,hp⟩
 rcases Nat.lt_or_ge i xs.length with h|h
 ·have h0:=hc i h
  cases hb:p xs[i] with
  |true=>
   rw [hb] at h0
   rw [yg h hb hp]
   repeat' ((conv=>whnf);first|exact trivial|(refine nv_ (.str xs[i]) (by first|(simp [h];done)|fail) ?_)|refine rE _ (h0) ?_|refine nT_ ?_|refine aD1 ?_|refine rix ?_|refine aS ?_|fail)
  |false=>
   rw [hb] at h0
   repeat' ((conv=>whnf);first|(refine nv_ (.str xs[i]) (by first|(simp [h];done)|fail) ?_)|refine rE _ (h0) ?_|refine nT_ ?_|refine aD1 ?_|refine aS ?_|fail)
   refine ⟨i+1,⟨h,fun j hj hlt=>?_⟩,by omega,?_⟩
   ·rcases Nat.lt_or_ge j i with h4|h4
    ·exact hp j hj h4
    ·obtain rfl:j=i:=by omega
     exact hb
   ·repeat' (first|exact trivial|exact LeV.same _|exact rfl|exact fun _ _ _=>trivial|exact lI|refine And.intro ?_ ?_)
 ·rw [yh fun j hj=>hp j hj (by omega)]
  repeat' ((conv=>whnf);first|exact trivial|refine aD0 ?_|refine rix ?_|refine aS ?_|fail)
theorem x6 (xs:List ByteArray) (f:FuncId) (c:T) (p:ByteArray→Bool) (hl:xs.length<2^60) (hc: ∀(i:Nat) (h:i<xs.length),DCalls Tryz.prog f [.str xs[i],c] (.bool (p xs[i]))):
  DCalls Tryz.prog 124 [.slice 1 (xs.map T.str),.clos f [c]] (.bool (xs.any p)):=by
 refine qO (rs:=[.tmp 4]) mixed Tryz.func124 LO rfl rfl rfl (r:=[.bool _]) (nlZ rfl) ?_
 have h1:=Bh xs f c p hl hc
 rw [xB p xs]
 generalize ve p xs=k at *
 repeat' ((conv=>whnf);first|exact trivial|refine rE _ (h1) ?_|refine nD_ (fun hq=>?_) (fun hq=>?_)|refine rb1 ?_|refine rb0 ?_|refine aS ?_|fail)
theorem zX (x:ByteArray) (f:FuncId) (b:Bool) (hc:DCalls Tryz.prog f [.str x] (.bool b)):
  DCalls Tryz.prog 168 [.str x,.cptr [.clos f []] 0] (.bool !b):=by
 refine qO (rs:=[.tmp 3]) mixed Tryz.func168 Mq rfl rfl rfl (r:=[.bool _]) (nlZ rfl) ?_
 repeat' ((conv=>whnf);first|exact trivial|refine rE _ (hc) ?_|refine nT_ ?_|refine rbx ?_|refine aS ?_|fail)
theorem zG (xs:List ByteArray) (f:FuncId) (n:Int) (p:ByteArray→Bool) (hl:xs.length<2^60) (hc: ∀(i:Nat) (h:i<xs.length),DCalls Tryz.prog f [.str xs[i]] (.bool (p xs[i]))):
  DCalls Tryz.prog 153 [.slice 1 (xs.map T.str),I n,.clos f []] (.bool (((xs.length:Int)==n)&&xs.all p)):=by
 refine qO (rs:=[.tmp 6]) mixed Tryz.func153 Mg rfl rfl rfl (r:=[.bool _]) (nlZ rfl) ?_
 have h1:=x6 xs 168 (.cptr [.clos f []] 0) (fun x=> !p x) hl fun i h=>zX xs[i] f (p xs[i]) (hc i h)
 have e:xs.all p= !(xs.any fun x=> !p x):=by rw [List.all_eq_not_any_not]
 rw [e]
 generalize (xs.any fun x=> !p x)=b at *
 by_cases hn:(xs.length:Int)=n
 ·repeat' ((conv=>whnf);first|exact trivial|refine rE _ (h1) ?_|refine aE1 ?_|refine rbx ?_|refine aS ?_|fail)
 ·repeat' ((conv=>whnf);first|exact trivial|refine aE0 ?_|refine rb0 ?_|refine aS ?_|fail)
end Go.TY
end
section
namespace Go.TY
open Go Go.DL Go.MM Go.Proofs
theorem xq (n:Int):DCalls Tryz.prog 142 [I n] (.bool (tS n)):=by
 refine qO (rs:=[.tmp 2]) mixed Tryz.func142 L7 rfl rfl rfl (r:=[.bool _]) (nlZ rfl) ?_
 unfold tS
 repeat' ((conv=>whnf);first|exact trivial|refine nD_ (fun hq=>?_) (fun hq=>?_)|refine rb1 ?_|refine rb0 ?_|refine aS ?_|fail)
def uM (n:Int):Bool:=decide (0≤n)&&decide (n≤1073741824)
theorem zi (n:Int):DCalls Tryz.prog 143 [I n] (.bool (uM n)):=by
 refine qO (rs:=[.tmp 2]) mixed Tryz.func143 L8 rfl rfl rfl (r:=[.bool _]) (nlZ rfl) ?_
 unfold uM
 repeat' ((conv=>whnf);first|exact trivial|refine nD_ (fun hq=>?_) (fun hq=>?_)|refine rb1 ?_|refine rb0 ?_|refine aS ?_|fail)
theorem xO: ∀l:List RP,tO l=l.all s7
 |[]=>rfl
 |r::rs=>by rw [tO,xO rs];rfl
theorem xN: ∀l:List RO,tB l=l.all s8
 |[]=>rfl
 |r::rs=>by rw [tB,xN rs];rfl
def B3 (k:Int) (br b nd:Bool) (n m:Int) (len:Nat) (al:Bool):Bool:=
 if k=1∨k=2 then br&&(len==0)
 else if k=3 then nd&&tS n&&(m==0)&&(len==0)
 else if k=4 then nd&&tS n&&decide (m≥0)&&decide (m≤16)&&(len==0)
 else if k=5 then nd&&tS n&&tS m&&decide (n≤m)&&(len==0)
 else if k=9 then b&&uM n&&uM m&&decide (n<m)&&(len==0)
 else if k=6 then br&&(((len:Int)==1)&&al)
 else if k=7∨k=8 then br&&(((len:Int)==2)&&al)
 else false
theorem xv (a:Nat) (b:Nat):((a:Int)==(b:Int))=(a==b):=by
 rw [Bool.eq_iff_iff];simp;omega
theorem Ap (k:Int) (f:ByteArray) (n m:Int) (l:List RP):s7 (.mk k f n m l)=B3 k (wu f n m) (sC f e0) (sS f) n m l.length (l.all s7):=by
 rw [s7,xO]
 have hall:l.length=0→l.all s7=true:=fun h=>by rw [List.eq_nil_of_length_eq_zero h];rfl
 have leaf: ∀(x:Bool),(x&&(l.length==0)&&l.all s7)=(x&&(l.length==0)):=fun x=>by
  by_cases h0:l.length=0
  ·rw [hall h0,Bool.and_true]
  ·rw [show (l.length==0)=false from beq_false_of_ne h0,Bool.and_false,Bool.false_and]
 generalize l.all s7=al at *
 unfold B3 okP xu
 by_cases h1:k=1∨k=2
 ·rw [if_pos h1,if_pos h1,if_neg (by omega),if_neg (by omega),leaf]
 rw [if_neg h1,if_neg h1]
 by_cases h3:k=3
 ·rw [if_pos h3,if_pos h3,if_neg (by omega),if_neg (by omega),leaf]
 rw [if_neg h3,if_neg h3]
 by_cases h4:k=4
 ·rw [if_pos h4,if_pos h4,if_neg (by omega),if_neg (by omega),leaf]
 rw [if_neg h4,if_neg h4]
 by_cases h5:k=5
 ·rw [if_pos h5,if_pos h5,if_neg (by omega),if_neg (by omega),leaf]
  refine congrArg (fun x=>x&&(l.length==0)) ?_
  rw [Bool.eq_iff_iff]
  simp only [tS,Bool.and_eq_true,decide_eq_true_eq]
  exact ⟨fun h=>⟨⟨⟨h.1.1.1,by omega,by omega⟩,by omega,by omega⟩,by omega⟩,fun h=>⟨⟨⟨h.1.1.1,by omega⟩,by omega⟩,by omega⟩⟩
 rw [if_neg h5,if_neg h5]
 by_cases h9:k=9
 ·rw [if_pos h9,if_neg (show ¬(k=6∨k=7∨k=8) by omega),if_pos h9,if_neg (by omega),if_neg (by omega),leaf]
  refine congrArg (fun x=>x&&(l.length==0)) ?_
  rw [Bool.eq_iff_iff]
  simp only [uM,Bool.and_eq_true,decide_eq_true_eq]
  exact ⟨fun h=>⟨⟨⟨h.1.1.1,by omega,by omega⟩,by omega,by omega⟩,by omega⟩,fun h=>⟨⟨⟨h.1.1.1,by omega⟩,by omega⟩,by omega⟩⟩
 simp only [h9,if_false]
 by_cases h6:k=6
 ·rw [if_pos (Or.inl h6),if_pos h6,if_pos h6,Bool.and_assoc,show ((l.length:Int)==1)=(l.length==1) from xv _ 1]
 rw [if_neg h6,if_neg h6]
 by_cases h7:k=7∨k=8
 ·rw [if_pos (Or.inr h7),if_pos h7,if_pos h7,Bool.and_assoc,show ((l.length:Int)==2)=(l.length==2) from xv _ 2]
 rw [if_neg (show ¬(k=6∨k=7∨k=8) by omega),if_neg h7,if_neg h7]
 simp
theorem zQ (N:Nat): ∀r:RP,r.nodes≤N→N<2^60→vi r→DCalls Tryz.prog 108 [.agg (sB r)] (.bool (s7 r)):=by
 induction N with
 |zero=>intro r h;have:=r.tV;omega
 |succ N ih=>
  rintro ⟨k,f,n,m,l⟩ hr hN hnm
  refine qO (rs:=[.tmp 2]) mixed Tryz.func108 LC rfl rfl rfl (r:=[.bool _]) (nlZ rfl) ?_
  simp only [RP.nodes] at hr
  have hll:=tP l
  have h104:=xI f hnm.1
  have hvn:=xq n
  have hvm:=xq m
  have htn:=zi n
  have htm:=zi m
  have hev:=fun n=>Be l 108 n s7 (by omega) fun i h=>ih l[i] (by
   have hn:=tz h
   have hm:=tx (l:=l) (j:=i+1)
   omega) (by omega) (wY hnm.2 i h)
  have h1:=hev 1
  have h2:=hev 2
  have hE:=sO f e0
  rw [Ap]
  clear ih hev hr
  repeat' ((conv=>whnf);first|refine aS ?_|fail)
  refine rA (β:=Unit) (fun _=>{sl:=[(1,.ptr 1 0),(3,.t (.bool (wu f n m)))],bx:=[(1,.d 5 (sB (.mk k f n m l)))]}) (fun _=>True) ?_ ?_
  ·unfold wu
   generalize sC f e0=b at *
   repeat' ((conv=>whnf);first|refine nb_ b hE ?_|(exact ⟨(),trivial,by (repeat' (first|exact trivial|exact LeV.same _|exact LeB.same _|exact rfl|exact fun _ _ _=>trivial|exact lB|refine And.intro ?_ ?_));done⟩)|refine nT_ ?_|refine nE_ (fun hq=>?_) (fun hq=>?_)|refine aS ?_|(cases b)|fail)
  rintro _ _
  generalize wu f n m=br at *
  generalize sC f e0=b at *
  generalize sS f=nd at *
  generalize l.all s7=al at *
  have hlen:(l.map sM).length=l.length:=List.length_map _
  have key: ∀(z:Bool),(l.length==0)=z→(z=true∧((l.map sM).length:Int)=0)∨(z=false∧((l.map sM).length:Int)≠0):=fun z hz=>by
   cases z with
   |true=>
    have h0:l.length=0:=by simpa using hz
    exact Or.inl ⟨rfl,by omega⟩
   |false=>
    have h0:l.length≠0:=by simpa using hz
    exact Or.inr ⟨rfl,by omega⟩
  unfold B3
  generalize hz:(l.length==0)=z at *
  generalize tS n=vn at *
  generalize tS m=vm at *
  generalize uM n=tn at *
  generalize uM m=tm at *
  by_cases k1:k=1∨k=2
  ·rw [if_pos k1]
   rcases key z rfl with ⟨rfl,e1⟩|⟨rfl,e1⟩ <;> rcases k1 with rfl|rfl <;> cases br <;> repeat' ((conv=>whnf);first|exact trivial|refine qx e1 ?_|refine qw e1 ?_|refine nT_ ?_|refine aE1 ?_|refine aE0 ?_|refine rb1 ?_|refine rb0 ?_|refine aS ?_|fail)
  rw [if_neg k1]
  by_cases k3:k=3
  ·subst k3
   rw [if_pos rfl]
   rcases key z rfl with ⟨rfl,e1⟩|⟨rfl,e1⟩ <;> cases nd <;> cases vn <;> repeat' ((conv=>whnf);first|exact trivial|refine rE _ (h104) ?_|refine rE _ (hvn) ?_|refine qx e1 ?_|refine qw e1 ?_|refine nT_ ?_|refine aE1 ?_|refine aE0 ?_|refine nE_ (fun hq=>?_) (fun hq=>?_)|refine rb1 ?_|refine rb0 ?_|refine aS ?_|fail)
  rw [if_neg k3]
  by_cases k4:k=4
  ·subst k4
   rw [if_pos rfl]
   rcases key z rfl with ⟨rfl,e1⟩|⟨rfl,e1⟩ <;> cases nd <;> cases vn <;> repeat' ((conv=>whnf);first|exact trivial|refine rE _ (h104) ?_|refine rE _ (hvn) ?_|refine qx e1 ?_|refine qw e1 ?_|refine nT_ ?_|refine aE1 ?_|refine aE0 ?_|refine nD_ (fun hq=>?_) (fun hq=>?_)|refine rb1 ?_|refine rb0 ?_|refine aS ?_|fail)
  rw [if_neg k4]
  by_cases k5:k=5
  ·subst k5
   rw [if_pos rfl]
   rcases key z rfl with ⟨rfl,e1⟩|⟨rfl,e1⟩ <;> cases nd <;> cases vn <;> cases vm <;> repeat' ((conv=>whnf);first|exact trivial|refine rE _ (h104) ?_|refine rE _ (hvn) ?_|refine rE _ (hvm) ?_|refine qx e1 ?_|refine qw e1 ?_|refine nT_ ?_|refine aE1 ?_|refine aE0 ?_|refine nD_ (fun hq=>?_) (fun hq=>?_)|refine rb1 ?_|refine rb0 ?_|refine aS ?_|fail)
  rw [if_neg k5]
  by_cases k9:k=9
  ·subst k9
   rw [if_pos rfl]
   rcases key z rfl with ⟨rfl,e1⟩|⟨rfl,e1⟩ <;> cases b <;> cases tn <;> cases tm <;> repeat' ((conv=>whnf);first|exact trivial|refine nb_ _ hE ?_|refine rE _ (htn) ?_|refine rE _ (htm) ?_|refine qx e1 ?_|refine qw e1 ?_|refine nT_ ?_|refine aE1 ?_|refine aE0 ?_|refine nD_ (fun hq=>?_) (fun hq=>?_)|refine rb1 ?_|refine rb0 ?_|refine aS ?_|fail)
  rw [if_neg k9]
  by_cases k6:k=6
  ·subst k6
   rw [if_pos rfl]
   cases br <;> repeat' ((conv=>whnf);first|exact trivial|refine rE _ (h1) ?_|refine nT_ ?_|refine aE1 ?_|refine aE0 ?_|refine rb0 ?_|refine rbx ?_|refine aS ?_|fail)
  rw [if_neg k6]
  by_cases k7:k=7∨k=8
  ·rw [if_pos k7]
   rcases k7 with rfl|rfl <;> cases br <;> repeat' ((conv=>whnf);first|exact trivial|refine rE _ (h2) ?_|refine nT_ ?_|refine aE1 ?_|refine aE0 ?_|refine rb0 ?_|refine rbx ?_|refine aS ?_|fail)
  rw [if_neg k7]
  repeat' ((conv=>whnf);first|exact trivial|refine nT_ ?_|refine aE0 ?_|refine rb0 ?_|refine aS ?_|fail)
end Go.TY
end
section
namespace Go.TY
open Go Go.DL Go.MM Go.Proofs
theorem En (l:List RP):DCalls Tryz.prog 163 [.slice 5 (l.map sM),.nil,.clos 149 []] (.bool (l.length==0)):=by
 refine qO (rs:=[.tmp 6]) mixed Tryz.func163 Ml rfl rfl rfl (r:=[.bool _]) (nlZ rfl) ?_
 cases l with
 |cons a l=>
  repeat' ((conv=>whnf);first|exact trivial|refine aN1 ?_|refine rb0 ?_|refine aS ?_|fail)
 |nil=>
  repeat' ((conv=>whnf);first|refine aN0 ?_|refine aS ?_|fail)
  refine rq (α:=Unit) (fun _=>{sl:=[(15,.t (.slice 5 [])),(16,.t (I 0)),(17,.t (I 0))],bx:=[]}) (fun _=>True) (fun _=>0) () trivial ?_ ?_
  ·repeat' (first|exact trivial|exact LeV.same _|exact rfl|exact fun _ _ _=>trivial|refine And.intro ?_ ?_)
  rintro _ _
  repeat' ((conv=>whnf);first|exact trivial|refine aD0 ?_|refine rb1 ?_|refine aS ?_|fail)
theorem ER (r:RP):DCalls Tryz.prog 149 [.agg (sB r),.agg [I 0,.str e0,I 0,I 0,.nil]] (.bool (uk r)):=by
 obtain ⟨k,f,n,m,l⟩:=r
 refine qO (rs:=[.tmp 4]) mixed Tryz.func149 Mc rfl rfl rfl (r:=[.bool _]) (nlZ rfl) ?_
 simp only [uk]
 have h2:=sO f e0
 have h3:=En l
 generalize sC f e0=b at *
 generalize (l.length==0)=z at *
 cases b <;> repeat' ((conv=>whnf);first|exact trivial|refine nb_ _ h2 ?_|refine rE _ (h3) ?_|refine nT_ ?_|refine nE_ (fun hq=>?_) (fun hq=>?_)|refine rb0 ?_|refine rbx ?_|refine aS ?_|fail)
def B1 (k:Int) (emp br nd vn fp:Bool) (len:Nat) (al:Bool):Bool:=
 if k=1 then br&&(len==0)&&fp
 else if k=2 then emp&&(len==0)&&nd&&vn
 else if k=5 then emp&&br&&(((len:Int)==1)&&al)
 else if k=3∨k=4 then emp&&br&&(((len:Int)==2)&&al)
 else false
theorem Ao (k:Int) (p:RP) (f:ByteArray) (n:Int) (l:List RO):s8 (.mk k p f n l)=B1 k (uk p) (vL f n) (sS f) (tS n) (s7 p) l.length (l.all s8):=by
 rw [s8,xN]
 have hall:l.length=0→l.all s8=true:=fun h=>by rw [List.eq_nil_of_length_eq_zero h];rfl
 have leaf: ∀(x:Bool),(x&&(l.length==0)&&l.all s8)=(x&&(l.length==0)):=fun x=>by
  by_cases h0:l.length=0
  ·rw [hall h0,Bool.and_true]
  ·rw [show (l.length==0)=false from beq_false_of_ne h0,Bool.and_false,Bool.false_and]
 generalize l.all s8=al at *
 unfold B1 okO we
 by_cases h1:k=1
 ·subst h1
  simp only [if_true,show ¬((1:Int)=3∨(1:Int)=4) by omega,show ¬((1:Int)=5) by omega,if_false]
  rw [leaf]
  generalize s7 p=a
  generalize vL f n=b
  cases a <;> cases b <;> simp
 rw [if_neg h1,if_neg h1]
 by_cases h2:k=2
 ·subst h2
  simp only [if_true,show ¬((2:Int)=3∨(2:Int)=4) by omega,show ¬((2:Int)=5) by omega,if_false]
  rw [leaf]
  unfold tS
  generalize sS f=a
  generalize uk p=b
  generalize (l.length==0)=z
  cases a <;> cases b <;> cases z <;> simp
 rw [if_neg h2,if_neg h2]
 by_cases h5:k=5
 ·subst h5
  simp only [if_true,show ¬((5:Int)=3∨(5:Int)=4) by omega,or_true,if_false]
  rw [show ((l.length:Int)==1)=(l.length==1) from xv _ 1,Bool.and_assoc]
 simp only [h5,if_false,or_false]
 by_cases h3:k=3∨k=4
 ·rw [if_pos h3,if_pos h3,if_pos h3,show ((l.length:Int)==2)=(l.length==2) from xv _ 2,Bool.and_assoc]
 ·rw [if_neg h3,if_neg h3,if_neg h3]
  simp
theorem Er (N:Nat): ∀r:RO,r.wt≤N→N<2^60→uP r→DCalls Tryz.prog 115 [.agg (sA r)] (.bool (s8 r)):=by
 induction N with
 |zero=>intro r h;obtain ⟨k,p,f,n,a⟩:=r;simp only [RO.wt] at h;omega
 |succ N ih=>
  rintro ⟨k,⟨pk,pf,pn,pm,pa⟩,f,n,l⟩ hr hN hnm
  refine qO (rs:=[.tmp 2]) mixed Tryz.func115 LJ rfl rfl rfl (r:=[.bool _]) (nlZ rfl) ?_
  simp only [RO.wt] at hr
  have hll:=ux l
  have h104:=xI f hnm.2.1
  have hvn:=xq n
  have hsp:=ER (.mk pk pf pn pm pa)
  have hfp:=zQ _ (.mk pk pf pn pm pa) (Nat.le_refl _) (by omega) hnm.1
  have hev:=fun n=>zF l 115 n s8 (by omega) fun i h=>ih l[i] (by
   have hn:=tW h
   have hm:=tR (l:=l) (j:=i+1)
   omega) (by omega) (wX hnm.2.2 i h)
  have h1:=hev 1
  have h2:=hev 2
  have hE:=sO f e0
  rw [Ao]
  clear ih hev hr
  repeat' ((conv=>whnf);first|refine aS ?_|fail)
  refine rA (β:=Unit) (fun _=>{sl:=[(1,.ptr 1 0),(3,.t (.bool (uk (.mk pk pf pn pm pa)))),(4,.t (.bool (vL f n)))],bx:=[(1,.d 9 (sA (.mk k (.mk pk pf pn pm pa) f n l)))]}) (fun _=>True) ?_ ?_
  ·unfold vL
   generalize sC f e0=b at *
   generalize uk (.mk pk pf pn pm pa)=em at *
   cases b <;> repeat' ((conv=>whnf);first|refine nb_ _ hE ?_|refine rE _ (hsp) ?_|(exact ⟨(),trivial,by (repeat' (first|exact trivial|exact LeV.same _|exact LeB.same _|exact rfl|exact fun _ _ _=>trivial|exact lB|refine And.intro ?_ ?_));done⟩)|refine nT_ ?_|refine nE_ (fun hq=>?_) (fun hq=>?_)|refine aS ?_|fail)
  rintro _ _
  generalize vL f n=br at *
  generalize sS f=nd at *
  generalize uk (.mk pk pf pn pm pa)=em at *
  generalize s7 (.mk pk pf pn pm pa)=fp at *
  generalize l.all s8=al at *
  have hlen:(l.map sP).length=l.length:=List.length_map _
  have key: ∀(z:Bool),(l.length==0)=z→(z=true∧((l.map sP).length:Int)=0)∨(z=false∧((l.map sP).length:Int)≠0):=fun z hz=>by
   cases z with
   |true=>
    have h0:l.length=0:=by simpa using hz
    exact Or.inl ⟨rfl,by omega⟩
   |false=>
    have h0:l.length≠0:=by simpa using hz
    exact Or.inr ⟨rfl,by omega⟩
  unfold B1
  generalize hz:(l.length==0)=z at *
  generalize tS n=vn at *
  by_cases k1:k=1
  ·subst k1
   rw [if_pos rfl]
   rcases key z rfl with ⟨rfl,e1⟩|⟨rfl,e1⟩ <;> cases br <;> repeat' ((conv=>whnf);first|exact trivial|refine rE _ (hfp) ?_|refine qx e1 ?_|refine qw e1 ?_|refine nT_ ?_|refine aE1 ?_|refine rb0 ?_|refine rbx ?_|refine aS ?_|fail)
  rw [if_neg k1]
  by_cases k2:k=2
  ·subst k2
   rw [if_pos rfl]
   rcases key z rfl with ⟨rfl,e1⟩|⟨rfl,e1⟩ <;> cases em <;> cases nd <;> repeat' ((conv=>whnf);first|exact trivial|refine rE _ (h104) ?_|refine rE _ (hvn) ?_|refine qx e1 ?_|refine qw e1 ?_|refine nT_ ?_|refine aE1 ?_|refine aE0 ?_|refine rb0 ?_|refine rbx ?_|refine aS ?_|fail)
  rw [if_neg k2]
  by_cases k5:k=5
  ·subst k5
   rw [if_pos rfl]
   cases em <;> cases br <;> repeat' ((conv=>whnf);first|exact trivial|refine rE _ (h1) ?_|refine nT_ ?_|refine aE1 ?_|refine aE0 ?_|refine rb0 ?_|refine rbx ?_|refine aS ?_|fail)
  rw [if_neg k5]
  by_cases k3:k=3∨k=4
  ·rw [if_pos k3]
   rcases k3 with rfl|rfl <;> cases em <;> cases br <;> repeat' ((conv=>whnf);first|exact trivial|refine rE _ (h2) ?_|refine nT_ ?_|refine aE1 ?_|refine aE0 ?_|refine rb0 ?_|refine rbx ?_|refine aS ?_|fail)
  rw [if_neg k3]
  repeat' ((conv=>whnf);first|exact trivial|refine nT_ ?_|refine aE0 ?_|refine rb0 ?_|refine aS ?_|fail)
theorem BT (n d:Nat) (f:FuncId) (c:T) (b:Bool) (h:DCalls Tryz.prog f [c] (.bool b)):DCalls Tryz.prog 106 [sz n d,.clos f [c]] (I (ye (wF n d) b)):=by
 refine qO (rs:=[.tmp 4]) mixed Tryz.func106 LA rfl rfl rfl (r:=[.int _ _]) (nlZ rfl) ?_
 have h1:=Gm n d
 unfold ye
 by_cases hl:wF n d=0
 ·rw [hl] at h1 ⊢
  rw [if_pos rfl]
  cases b <;> repeat' ((conv=>whnf);first|exact trivial|refine rE _ (h1) ?_|refine rE _ (h) ?_|refine aN0 ?_|refine rix ?_|refine aS ?_|fail)
 ·rw [if_neg hl]
  generalize wF n d=e at *
  repeat' ((conv=>whnf);first|exact trivial|refine rE _ (h1) ?_|refine aN1 ?_|refine rix ?_|refine aS ?_|fail)
theorem BC (r:RP) (hr:r.nodes<2^60) (hn:vi r):DCalls Tryz.prog 68 [.agg (sB r)] (I (xc r)):=by
 refine qO (rs:=[.tmp 2]) mixed Tryz.func68 l68 rfl rfl rfl (r:=[.int _ _]) (nlZ rfl) ?_
 unfold xc
 have h1:=BV _ r (Nat.le_refl _) hr
 have h2:DCalls Tryz.prog 107 [.cptr (sB r) 0] (.bool (s7 r)):=by
  refine qO (rs:=[.tmp 1]) mixed Tryz.func107 LB rfl rfl rfl (r:=[.bool _]) (nlZ rfl) ?_
  have h:=zQ _ r (Nat.le_refl _) hr hn
  repeat' ((conv=>whnf);first|exact trivial|refine rE _ (h) ?_|refine nT_ ?_|refine rbx ?_|(refine And.intro (by first|exact sJ _|fail) ?_)|fail)
 have h3:=BT r.nodes r.depth 107 _ _ h2
 repeat' ((conv=>whnf);first|exact trivial|refine rE _ (h1) ?_|refine rE _ (h3) ?_|refine rix ?_|(refine And.intro (by first|exact sJ _|fail) ?_)|refine aS ?_|fail)
theorem xK (r:RO) (hr:r.wt<2^60) (hn:uP r):DCalls Tryz.prog 72 [.agg (sA r)] (I (tC r)):=by
 refine qO (rs:=[.tmp 2]) mixed Tryz.func72 l72 rfl rfl rfl (r:=[.int _ _]) (nlZ rfl) ?_
 unfold tC
 have h1:=Gn _ r (Nat.le_refl _) hr
 have h2:DCalls Tryz.prog 114 [.cptr (sA r) 0] (.bool (s8 r)):=by
  refine qO (rs:=[.tmp 1]) mixed Tryz.func114 LI rfl rfl rfl (r:=[.bool _]) (nlZ rfl) ?_
  have h:=Er _ r (Nat.le_refl _) hr hn
  repeat' ((conv=>whnf);first|exact trivial|refine rE _ (h) ?_|refine nT_ ?_|refine rbx ?_|(refine And.intro (by first|exact sE _|fail) ?_)|fail)
 have h3:=BT r.size r.deep 114 _ _ h2
 repeat' ((conv=>whnf);first|exact trivial|refine rE _ (h1) ?_|refine rE _ (h3) ?_|refine rix ?_|(refine And.intro (by first|exact sE _|fail) ?_)|refine aS ?_|fail)
end Go.TY
end
noncomputable section
namespace Go.TY
open Go Go.DL Go.Proofs
def c15:aY:=(.seq (.region [oo 3 (.box 5 (tm 1)),oo 4 (.mov (Kc 0))] []) (.seq (.seq (.region [lA 6 5 3,oo 7 (.call 68 [tm 6]),mv 5 7] []) (.seq (.region [mv 8 5,oo 9 (.bin .neq (tm 8) (Kc 0))] []) (.cond (tm 9) (.seq (.region [mv 10 5,mv 4 10] []) .ret) .skip))) (.seq (.region [mv 11 0,lA 12 5 3,oo 13 (.call 69 [(tm 11),(tm 12)]),mv 4 13] []) .ret)))
theorem l15:(Tryz.f15.body.bind (bD Tryz.prog 14 []))=some c15:=by kernel_rfl
def c19:aY:=(.seq (.region [oo 2 (.box 1 (tm 0)),oo 3 (.box 6 (tm 1)),oo 4 (.mov (Kc 0))] []) (.seq (.seq (.region [lA 11 6 3,oo 12 (.call 79 [tm 11]),mv 5 12] []) (.seq (.region [mv 13 5,oo 14 (.bin .neq (tm 13) (Kc 0)),mv 15 14,oF 16 15 (.offA 0 (tm 3)),oF 17 15 (.load 1 false (tm 16)),oF 18 15 (.bin .eql (tm 17) (Kc 0)),oo 19 (.pick (tm 15) kT (tm 18))] []) (.cond (tm 19) (.seq (.region [mv 20 5,mv 4 20] []) .ret) .skip))) (.seq (.region [oo 21 (.mkfn 80 [tm 2]),mv 6 21] []) (.seq (.seq (.cut (.region [fa 22 3 3,ld 23 22,⟨some 24,.bin .neq (tm 23) (.const S0),none,[]⟩,mv 25 24,mT 26 6 25,oT 27 25 (.offA 3 (tm 3)),oT 28 25 (.load 1 false (tm 27)),oT 29 25 (.b8 (tm 26) [tm 28]),oT 30 25 (.not (tm 29)),oo 31 (.pick (tm 25) (tm 30) kF),mv 32 31,oF 33 32 (.offA 2 (tm 3)),oF 34 32 (.load 1 false (tm 33)),mF 35 6 32,oF 36 32 (.call 81 [(tm 34),(tm 35)]),oF 37 32 (.not (tm 36)),oo 38 (.pick (tm 32) kT (tm 37))] [])) (.cond (tm 38) (.seq (.region [oo 4 (.mov (Kc 4))] []) .ret) .skip)) (.seq (.seq (.region [fa 39 2 3,ld 40 39,ln 41 40,oo 42 (.mov (Kc 0))] []) (.block 0 (.loop (.seq (.region [oo 43 (.bin .lss (tm 42) (tm 41))] []) (.seq (.cond (tm 43) .skip (.exit 0)) (.seq (.block 1 (.seq (.region [mv 44 42,ix 45 1 40 42,ld 46 45,mv 7 44,mv 8 46] []) (.seq (.region [fa 47 2 3,ld 48 47,mv 49 7,oo 50 (.slice 1 (tm 48) none (some (tm 49))),mv 51 8,oo 52 (.call 82 [(tm 50),(tm 51)])] []) (.cond (tm 52) (.seq (.region [oo 4 (.mov (Kc 1))] []) .ret) .skip)))) (.region [oo 53 (.bin .add (tm 42) (Kc 1)),mv 42 53] []))))))) (.seq (.seq (.region [ld 55 2,fa 56 3 3,ld 57 56,oo 58 (.call 74 [(tm 55),(tm 57)]),mv 54 58,oo 59 (.ext (tm 54) 0),oo 60 (.ext (tm 54) 1),⟨some 9,.alloc [S0,Z0,Z0],none,[]⟩,o0 (.store 3 (tm 9) (tm 59)),mv 10 60] []) (.seq (.region [fa 61 0 3,ld 62 61,oo 63 (.bin .eql (tm 62) (Kc 4)),mv 64 63,oT 65 64 (.offA 5 (tm 3)),oT 66 64 (.load 1 false (tm 65)),oT 67 64 (.load 3 true (tm 9)),oT 68 64 (.call 75 [tm 67]),oT 69 64 (.bin .gtr (tm 66) (tm 68)),oo 70 (.pick (tm 64) (tm 69) kF)] []) (.cond (tm 70) (.seq (.region [oo 4 (.mov (Kc 1))] []) .ret) .skip))) (.seq (.region [oo 4 (.mov (Kc 0))] []) .ret)))))))
theorem l19:(Tryz.f19.body.bind (bD Tryz.prog 71 [6000005]))=some c19:=by kernel_rfl
def c80:aY:=(.seq (.region [oo 3 (.mov kF)] []) (.seq (.region [ld 7 1,mv 8 0,oo 9 (.call 74 [(tm 7),(tm 8)]),mv 6 9,oo 10 (.ext (tm 6) 0),oo 11 (.ext (tm 6) 1),⟨some 4,.alloc [S0,Z0,Z0],none,[]⟩,o0 (.store 3 (tm 4) (tm 10)),mv 5 11] []) (.seq (.region [mv 12 5,mv 3 12] []) .ret)))
theorem l80:(Tryz.f80.body.bind (bD Tryz.prog 13 []))=some c80:=by kernel_rfl
def c81:aY:=(.seq (.region [oo 3 (.box 1 (tm 1)),oo 4 (.mov kF)] []) (.seq (.region [mv 5 0,oo 6 (.mkfn 125 [tm 3]),oo 7 (.call 124 [(tm 5),(tm 6)]),oo 8 (.not (tm 7)),mv 4 8] []) .ret))
theorem l81:(Tryz.f81.body.bind (bD Tryz.prog 9 []))=some c81:=by kernel_rfl
def Kw:aY:=(.seq (.region [oo 3 (.mov kF)] []) (.seq (.region [ld 4 1,mv 5 0,oo 6 (.b8 (tm 4) [tm 5]),oo 7 (.not (tm 6)),mv 3 7] []) .ret))
theorem LP:(Tryz.f125.body.bind (bD Tryz.prog 8 []))=some Kw:=by kernel_rfl
def c82:aY:=(.seq (.region [oo 4 (.mov kF)] []) (.seq (.region [mv 5 0,mv 6 1,oo 7 (.call 126 [(tm 5),(tm 6)]),oo 8 (.bin .geq (tm 7) (Kc 0)),mv 4 8] []) .ret))
theorem l82:(Tryz.f82.body.bind (bD Tryz.prog 9 []))=some c82:=by kernel_rfl
def Kx:aY:=(.seq (.region [oo 4 (.mov (Kc 0))] []) (.seq (.seq (.region [mv 6 0,ln 7 6,oo 8 (.mov (Kc 0))] []) (.block 0 (.loop (.seq (.region [oo 9 (.bin .lss (tm 8) (tm 7))] []) (.seq (.cond (tm 9) .skip (.exit 0)) (.seq (.block 1 (.seq (.region [mv 10 8,mv 5 10] []) (.seq (.region [mv 11 1,mv 12 0,mv 13 5,ix 14 1 12 13,ld 15 14,oo 16 (.bin .eql (tm 11) (tm 15))] []) (.cond (tm 16) (.seq (.region [mv 17 5,mv 4 17] []) .ret) .skip)))) (.region [oo 18 (.bin .add (tm 8) (Kc 1)),mv 8 18] []))))))) (.seq (.region [oo 4 (.mov (.const (.int .i64 (-1))))] []) .ret)))
theorem LQ:(Tryz.f126.body.bind (bD Tryz.prog 19 []))=some Kx:=by kernel_rfl
def KD:aY:=(.seq (.region [oo 2 (.mov (Kc 0))] []) (.seq (.region [oo 3 (.buildS 3 1 7 [Z0] [(0,(Kc 0)),(1,(Kc 1)),(2,(Kc 2)),(3,(Kc 2)),(4,(Kc 3)),(5,(Kc 3)),(6,(Kc 4))]),mv 4 0,ix 5 1 3 4,ld 6 5,mv 2 6] []) .ret))
theorem LY:(Tryz.f137.body.bind (bD Tryz.prog 7 []))=some KD:=by kernel_rfl
def c38:aY:=(.seq (.region [oo 4 (.mov (Kc 0))] []) (.seq (.seq (.region [mv 12 1,oo 13 (.call 95 [tm 12]),mv 5 13] []) (.seq (.region [mv 14 5,oo 15 (.bin .neq (tm 14) (Kc 0))] []) (.cond (tm 15) (.seq (.region [mv 16 5,mv 4 16] []) .ret) .skip))) (.seq (.seq (.region [mv 17 1,ln 18 17,oo 19 (.mov (Kc 0))] []) (.block 0 (.loop (.seq (.region [oo 20 (.bin .lss (tm 19) (tm 18))] []) (.seq (.cond (tm 20) .skip (.exit 0)) (.seq (.block 1 (.seq (.region [ix 21 15 17 19,lA 22 15 21,⟨some 7,.alloc [Z0,Z0,S0,Z0,Z0,.nil,S0,Z0,.nil,Z0,S0,.nil,S0,Z0,Z0],none,[]⟩,o0 (.store 15 (tm 7) (tm 22))] []) (.seq (.seq (.region [mv 23 0,fa 24 0 7,lA 25 9 24,oo 26 (.call 17 [(tm 23),(tm 25)]),mv 8 26] []) (.seq (.region [mv 27 8,oo 28 (.bin .neq (tm 27) (Kc 0))] []) (.cond (tm 28) (.seq (.region [mv 29 8,mv 4 29] []) .ret) .skip))) (.seq (.region [mv 30 0,fa 31 9 7,lA 32 6 31,oo 33 (.call 19 [(tm 30),(tm 32)]),mv 9 33] []) (.seq (.region [mv 34 9,oo 35 (.bin .neq (tm 34) (Kc 0))] []) (.cond (tm 35) (.seq (.region [mv 36 9,mv 4 36] []) .ret) .skip)))))) (.region [oo 37 (.bin .add (tm 19) (Kc 1)),mv 19 37] []))))))) (.seq (.seq (.region [mv 39 0,mv 40 1,oo 41 (.call 96 [(tm 39),(tm 40)]),mv 38 41,oo 42 (.ext (tm 38) 0),oo 43 (.ext (tm 38) 1),mv 10 42,mv 11 43] []) (.seq (.region [mv 44 11,oo 45 (.not (tm 44))] []) (.cond (tm 45) (.seq (.region [oo 4 (.mov (Kc 11))] []) .ret) .skip))) (.seq (.region [oo 4 (.mov (Kc 0))] []) .ret)))))
theorem l38:(Tryz.f38.body.bind (bD Tryz.prog 46 []))=some c38:=by kernel_rfl
def c39:aY:=(.seq (.region [oo 4 (.mov (.const .nil))] []) (.seq (.region [mv 11 0,mv 12 1,oo 13 (.call 96 [(tm 11),(tm 12)]),mv 10 13,oo 14 (.ext (tm 10) 0),oo 15 (.ext (tm 10) 1),mv 5 14,mv 6 15] []) (.seq (.region [oo 7 (.mov (.const .nil))] []) (.seq (.seq (.region [mv 16 5,oo 17 (.call 97 [tm 16]),oo 18 (.call 87 [tm 17]),ln 19 18,oo 20 (.mov (Kc 0))] []) (.block 0 (.loop (.seq (.region [oo 21 (.bin .lss (tm 20) (tm 19))] []) (.seq (.cond (tm 21) .skip (.exit 0)) (.seq (.block 1 (.seq (.region [ix 22 1 18 20,ld 23 22,mv 9 23] []) (.region [mv 24 7,mv 25 5,mv 26 9,⟨some 27,.mlook false [.str] (.agg [S0,Z0,.nil,Z0,Z0]) false (tm 25) (tm 26),none,[]⟩,⟨some 28,.buildF 5 1 [S0,Z0,.nil,Z0,Z0] [(0,(tm 27))],none,[]⟩,oo 29 (.append 62 66 5 64 (tm 24) (tm 28)),mv 7 29] []))) (.region [oo 30 (.bin .add (tm 20) (Kc 1)),mv 20 30] []))))))) (.seq (.region [mv 31 7,mv 4 31] []) .ret)))))
theorem l39:(Tryz.f39.body.bind (bD Tryz.prog 32 [8000028]))=some c39:=by kernel_rfl
def c55:aY:=(.seq (.region [oo 4 (.mov (.const .nil))] []) (.seq (.region [oo 5 (.mov (.const .nil))] []) (.seq (.seq (.region [mv 8 0,ln 9 8,oo 10 (.mov (Kc 0))] []) (.block 0 (.loop (.seq (.region [oo 11 (.bin .lss (tm 10) (tm 9))] []) (.seq (.cond (tm 11) .skip (.exit 0)) (.seq (.block 1 (.seq (.region [ix 12 15 8 10,lA 13 15 12,⟨some 7,.alloc [Z0,Z0,S0,Z0,Z0,.nil,S0,Z0,.nil,Z0,S0,.nil,S0,Z0,Z0],none,[]⟩,o0 (.store 15 (tm 7) (tm 13))] []) (.seq (.region [fa 14 0 7,lA 15 9 14,mv 16 1,oo 17 (.call 49 [(tm 15),(tm 16)]),fa 18 0 7,o0 (.store 9 (tm 18) (tm 17))] []) (.region [mv 19 5,lA 20 15 7,⟨some 21,.buildF 15 1 [Z0,Z0,S0,Z0,Z0,.nil,S0,Z0,.nil,Z0,S0,.nil,S0,Z0,Z0] [(0,(tm 20))],none,[]⟩,oo 22 (.append 56 61 15 200 (tm 19) (tm 21)),mv 5 22] [])))) (.region [oo 23 (.bin .add (tm 10) (Kc 1)),mv 10 23] []))))))) (.seq (.region [mv 24 5,mv 4 24] []) .ret))))
theorem l55:(Tryz.f55.body.bind (bD Tryz.prog 25 [8000021]))=some c55:=by kernel_rfl
def c30:aY:=(.seq (.region [oo 1 (.box 9 (tm 0)),oo 2 (.mov (Kc 0))] []) (.seq (.seq (.region [fa 3 0 1,ld 4 3] []) (.block 0 (.seq (.region [oo 6 (.bin .eql (tm 4) (Kc 3)),mv 5 6] []) (.cond (tm 5) (.seq (.region [fa 7 8 1,ld 8 7,oo 9 (.idxL 9 (tm 8) (Kc 0)),lA 10 9 9,oo 11 (.call 30 [tm 10]),fa 12 8 1,ld 13 12,oo 14 (.idxL 9 (tm 13) (Kc 1)),lA 15 9 14,oo 16 (.call 30 [tm 15]),oo 17 (.bin .add (tm 11) (tm 16)),oo 18 (.minI (tm 17) (Kc 65536)),mv 2 18] []) .ret) (.seq (.region [oo 20 (.bin .eql (tm 4) (Kc 4)),mv 19 20] []) (.cond (tm 19) (.seq (.region [fa 21 8 1,ld 22 21,oo 23 (.idxL 9 (tm 22) (Kc 0)),lA 24 9 23,oo 25 (.call 30 [tm 24]),fa 26 8 1,ld 27 26,oo 28 (.idxL 9 (tm 27) (Kc 1)),lA 29 9 28,oo 30 (.call 30 [tm 29]),oo 31 (.bin .mul (tm 25) (tm 30)),oo 32 (.minI (tm 31) (Kc 65536)),mv 2 32] []) .ret) (.seq (.region [oo 34 (.bin .eql (tm 4) (Kc 5)),mv 33 34] []) (.cond (tm 33) (.seq (.seq (.region [fa 35 8 1,ld 36 35,oo 37 (.idxL 9 (tm 36) (Kc 0)),lA 38 9 37,oo 39 (.call 30 [tm 38]),oo 40 (.bin .eql (tm 39) (Kc 0))] []) (.cond (tm 40) (.seq (.region [oo 2 (.mov (Kc 1))] []) .ret) .skip)) (.seq (.region [oo 2 (.mov (Kc 65536))] []) .ret)) .skip)))))))) (.seq (.seq (.region [fa 41 0 1,ld 42 41,oo 43 (.bin .eql (tm 42) (Kc 1)),mv 44 43,oT 45 44 (.offA 1 (tm 1)),oT 46 44 (.offA 0 (tm 45)),oT 47 44 (.load 1 false (tm 46)),oT 48 44 (.bin .eql (tm 47) (Kc 2)),oo 49 (.pick (tm 44) (tm 48) kF)] []) (.cond (tm 49) (.seq (.region [oo 2 (.mov (Kc 0))] []) .ret) .skip)) (.seq (.region [oo 2 (.mov (Kc 1))] []) .ret))))
theorem l30:(Tryz.f30.body.bind (bD Tryz.prog 50 []))=some c30:=by kernel_rfl
def c99:aY:=(.seq (.region [oo 4 (.mov kF)] []) (.seq (.seq (.region [mv 6 0,ln 7 6,mv 8 1,ln 9 8,oo 10 (.bin .neq (tm 7) (tm 9))] []) (.cond (tm 10) (.seq (.region [oo 4 (.mov kF)] []) .ret) .skip)) (.seq (.seq (.region [mv 11 0,ln 12 11,oo 13 (.mov (Kc 0))] []) (.block 0 (.loop (.seq (.region [oo 14 (.bin .lss (tm 13) (tm 12))] []) (.seq (.cond (tm 14) .skip (.exit 0)) (.seq (.block 1 (.seq (.region [mv 15 13,mv 5 15] []) (.seq (.region [mv 16 0,mv 17 5,ix 18 1 16 17,ld 19 18,mv 20 1,mv 21 5,ix 22 1 20 21,ld 23 22,oo 24 (.bin .neq (tm 19) (tm 23))] []) (.cond (tm 24) (.seq (.region [oo 4 (.mov kF)] []) .ret) .skip)))) (.region [oo 25 (.bin .add (tm 13) (Kc 1)),mv 13 25] []))))))) (.seq (.region [oo 4 (.mov kT)] []) .ret))))
theorem l99:(Tryz.f99.body.bind (bD Tryz.prog 26 []))=some c99:=by kernel_rfl
end Go.TY
end
section
namespace Go.TY
open Go Go.DL Go.MM Go.Proofs
theorem HP (l:List Fd) (hl:LOk l) (r:RP) (hr:r.nodes<2^40) (hn:vi r):DCalls Tryz.prog 15 [fds l,.agg (sB r)] (I (Ad l r)):=by
 refine qO (rs:=[.tmp 4]) mixed Tryz.func15 l15 rfl rfl rfl (r:=[.int _ _]) (nlZ rfl) ?_
 have h1:=BC r (by omega) hn
 have h2:=Ep l hl r hr
 unfold Ad
 by_cases hc:xc r=0
 ·rw [hc] at h1
  rw [if_neg (by simpa using hc)]
  repeat' ((conv=>whnf);first|exact trivial|refine rE _ (h1) ?_|refine rE _ (h2) ?_|refine aN0 ?_|refine rix ?_|(refine And.intro (by first|exact sJ _|fail) ?_)|refine aS ?_|fail)
 ·rw [if_pos hc]
  generalize xc r=e at *
  repeat' ((conv=>whnf);first|exact trivial|refine rE _ (h1) ?_|refine aN1 ?_|refine rix ?_|(refine And.intro (by first|exact sJ _|fail) ?_)|refine aS ?_|fail)
attribute [local irreducible] aI gR WCM YC
theorem Bd (l:List Fd) (hl:LOk l) (r:RO) (hr:r.wt<2^40) (hn:uP r):DCalls Tryz.prog 17 [fds l,.agg (sA r)] (I (uW l r)):=by
 rw [← uE]
 refine qP Tryz.func17 Ll rfl (r:=[I (uW l r)]) (nlZ rfl) ?_
 have hlen:(sH r).length≤r.wt:=by rw [s9,uf];exact r.vV
 have hwt: ∀o∈sH r,o.wt≤r.wt:=by rw [s9];exact uG r
 have hcp:=xK r (by omega) hn
 rw [← uE] at hcp
 unfold uW
 rw [← s9]
 rw [show Tryz.f17.ntmps=47 from rfl,show Tryz.f17.results.toList=[.cell 4 33] from rfl,k17]
 have ht:=yo r
 rw [sQ] at ht
 generalize hv:(sH r).map (wk l)=v at *
 refine aI.seq (IS ?_)
 repeat' ((conv=>whnf);first|(refine And.intro (by first|exact tA _|fail) ?_)|refine aS ?_|fail)
 refine aI.seq (IY ?_)
 by_cases hc:tC r=0
 case neg=>
  rw [if_pos hc]
  generalize tC r=e at *
  repeat' ((conv=>whnf);first|refine rE _ (hcp) ?_|refine aN1 ?_|refine aS ?_|fail)
  exact ⟨⟨⟨Nat.lt_succ_self 0,rfl⟩,trivial⟩,fun _ _=>trivial⟩
 rw [hc] at hcp
 rw [if_neg (by simpa using hc)]
 repeat' ((conv=>whnf);first|refine rE _ (hcp) ?_|refine aN0 ?_|refine aS ?_|fail)
 refine aI.seq (aI.seq (I4 ?_))
 repeat' ((conv=>whnf);first|refine rE _ (ht) ?_|fail)
 refine aI.bP (s:={sl:=[(2,.ptr 2 0),(4,.ptr 4 0),(16,.t (.clos 116 [.cptr (sW r) 0]))],bx:=[(2,.d 1 [fds l]),(4,.d 1 [I 0])]}) (by repeat' (first|exact trivial|exact LeV.same _|exact LeB.same _|exact rfl|exact fun _ _ _=>trivial|refine And.intro ?_ ?_)) ?_
 refine aI.block (vQ (N:=47) rfl r rfl 100 (fun n=>10≤n∧n<100) 100 (Nat.le_refl _) (by omega) (fun n h=>rz fun p hp=>?_) (fun n h=>rz fun p hp=>?_) (by exact rU) (outs:=tH l v) (stop:=fun c cx o=>cx=(fun _ _=>True)∧wP l v c o) ?_ (fun l0 D fn tmps hN=>?_) ?_ ?_)
 ·simp only [List.mem_cons,List.not_mem_nil,or_false] at hp
  rcases hp with rfl|rfl <;> (dsimp only;omega)
 ·simp only [List.mem_cons,List.not_mem_nil,or_false] at hp
  rcases hp with rfl|rfl <;> (dsimp only;omega)
 ·intro q hq
  simp only [tH,List.mem_cons,List.not_mem_nil,or_false] at hq
  rcases hq with rfl|rfl <;> rfl
 ·refine dR.top (d:=6) (n:=9) (lo:=10) (hi:=100) (Ef l v) (fun n h1 h2=>⟨h1,h2⟩) hN (by decide) (fun hw=>Ja hw) rfl (by decide) (by decide) (fun x hx=>?_) (fun k cs b G C hk hcs=>?_)
  ·obtain ⟨t,_,rfl⟩:=List.mem_map.1 hx
   exact ⟨_,sQ t,tA t⟩
  rw [List.getElem?_map,Option.map_eq_some_iff] at hk
  obtain ⟨t,htk,hte⟩:=hk
  rw [sQ] at hte
  obtain rfl:sW t=cs:=T.agg.inj hte
  have hvk:v[k]? =some (wk l t):=by rw [← hv,List.getElem?_map,htk];rfl
  have hs:=Ax hvk
  have hfst:=zN hvk
  have htw:=hwt t (List.mem_of_getElem? htk)
  cases hok:okB v k with
  |false=>exact aI.absurd (n:=4) (m:=1) (ts:=[]) (by show some (BX.d 1 (if okB v k=true then [I 0] else []))=_;rw [hok];rfl) (by decide)
  |true=>
  have ho:tH l v k=[(2,.d 1 [fds l]),(4,.d 1 [I 0])]:=by unfold tH;rw [hok];rfl
  rw [ho]
  rw [hok,Bool.true_and] at hs
  have hfst:=hfst hok
  clear hok ho
  refine Jg ?_
  clear hte
  obtain ⟨kd,⟨pk,pf,pn,pm,pa⟩,f,n,args⟩:=t
  have endN: ∀s:St,s.gh=G→s.cx=C→(∀ q, ¬(10≤q∧q<100)→s.bx q=aK b [(2,.d 1 [fds l]),(4,.d 1 [I 0])] q)→wk l (.mk kd (.mk pk pf pn pm pa) f n args)=0→RB b G C 10 100 (tH l v (k+1)) (wP l v) .normal s:=fun s h1 h2 h3 h4=>by
   refine ⟨h1,h2,_,h3,?_⟩
   unfold tH
   rw [hs,h4];rfl
  have endR: ∀s:St,s.gh=G→s.cx=C→(∀ q, ¬(10≤q∧q<100)→s.bx q=aK b [(2,.d 1 [fds l]),(4,.d 1 [I (wk l (.mk kd (.mk pk pf pn pm pa) f n args))])] q)→wk l (.mk kd (.mk pk pf pn pm pa) f n args)≠0→RB b G C 10 100 (tH l v (k+1)) (wP l v) .ret s:=fun s h1 h2 h3 h4=>by
   have e:=hfst h4
   exact ⟨h1,h2,_,h3,rfl,by rw [e];exact h4,by rw [e]⟩
  have hq:wk l (.mk kd (.mk pk pf pn pm pa) f n args)=(if kd=1 then yd l (.mk pk pf pn pm pa) else if kd=2 then Am l f n else 0):=by simp only [wk]
  generalize wk l (.mk kd (.mk pk pf pn pm pa) f n args)=x at *
  by_cases k1:kd=1
  ·rw [if_pos k1] at hq
   have hf:=Ep l hl (.mk pk pf pn pm pa) (by simp only [RO.wt] at htw;omega)
   rw [← hq] at hf
   by_cases hx:x=0
   ·repeat' ((conv=>whnf);first|refine qx k1 ?_|(refine nv_ (.agg (sB (.mk pk pf pn pm pa))) (by first|(rfl;done)|fail) ?_)|refine rE _ (hf) ?_|refine qy hx ?_|refine nT_ ?_|refine aS ?_|fail)
    (conv=>whnf)
    refine endN _ rfl rfl (fun q hq=>?_) hx
    have hm:=qX (b:=b) hq
    show cond (Nat.beq q 16) _ (cond (Nat.beq q 2) _ (cond (Nat.beq q 4) _ (gE 10 100 b q)))=cond (Nat.beq q 2) _ (cond (Nat.beq q 4) _ (b q))
    rw [eS (show q≠16 by omega),hm];rfl
   ·repeat' ((conv=>whnf);first|refine qx k1 ?_|(refine nv_ (.agg (sB (.mk pk pf pn pm pa))) (by first|(rfl;done)|fail) ?_)|refine rE _ (hf) ?_|refine qz hx ?_|refine nT_ ?_|refine aS ?_|fail)
    (conv=>whnf)
    refine endR _ rfl rfl (fun q hq=>?_) hx
    have hm:=qX (b:=b) hq
    by_cases h4:q=4
    ·subst h4;rfl
    show cond (Nat.beq q 4) _ (cond (Nat.beq q 16) _ (cond (Nat.beq q 2) _ (cond (Nat.beq q 4) _ (gE 10 100 b q))))=cond (Nat.beq q 2) _ (cond (Nat.beq q 4) _ (b q))
    rw [eS (show q≠16 by omega),eS h4,hm];rfl
  rw [if_neg k1] at hq
  by_cases k2:kd=2
  ·rw [if_pos k2] at hq
   have h74:=t74 l f hl.len
   unfold xy at h74
   unfold Am at hq
   cases hF:findF l f with
   |none=>
    rw [hF] at h74 hq
    dsimp only at h74 hq
    subst hq
    repeat' ((conv=>whnf);first|refine qw k1 ?_|refine qx k2 ?_|refine rE _ (h74) ?_|refine nT_ ?_|refine aS ?_|fail)
    (conv=>whnf)
    refine endR _ rfl rfl (fun q hq=>?_) (by decide)
    have hm:=qX (b:=b) hq
    by_cases h4:q=4
    ·subst h4;rfl
    show cond (Nat.beq q 4) _ (cond (Nat.beq q 18) _ (cond (Nat.beq q 18) _ (cond (Nat.beq q 16) _ (cond (Nat.beq q 2) _ (cond (Nat.beq q 4) _ (gE 10 100 b q))))))=cond (Nat.beq q 2) _ (cond (Nat.beq q 4) _ (b q))
    rw [eS (show q≠18 by omega),eS (show q≠16 by omega),eS h4,hm];rfl
   |some F=>
    rw [hF] at h74 hq
    dsimp only at h74 hq
    have h97:=t97 F (hl.find hF)
    generalize (2^F.w - 1:Nat)=M at *
    by_cases hb:n>(M:Int)
    ·rw [if_pos hb] at hq
     subst hq
     repeat' ((conv=>whnf);first|refine qw k1 ?_|refine qx k2 ?_|refine rE _ (h74) ?_|refine rE _ (h97) ?_|refine qv hb ?_|refine nT_ ?_|refine aS ?_|fail)
     (conv=>whnf)
     refine endR _ rfl rfl (fun q hq=>?_) (by decide)
     have hm:=qX (b:=b) hq
     by_cases h4:q=4
     ·subst h4;rfl
     show cond (Nat.beq q 4) _ (cond (Nat.beq q 18) _ (cond (Nat.beq q 18) _ (cond (Nat.beq q 16) _ (cond (Nat.beq q 2) _ (cond (Nat.beq q 4) _ (gE 10 100 b q))))))=cond (Nat.beq q 2) _ (cond (Nat.beq q 4) _ (b q))
     rw [eS (show q≠18 by omega),eS (show q≠16 by omega),eS h4,hm];rfl
    ·rw [if_neg hb] at hq
     repeat' ((conv=>whnf);first|refine qw k1 ?_|refine qx k2 ?_|refine rE _ (h74) ?_|refine rE _ (h97) ?_|refine qu hb ?_|refine nT_ ?_|refine aS ?_|fail)
     (conv=>whnf)
     refine endN _ rfl rfl (fun q hq=>?_) hq
     have hm:=qX (b:=b) hq
     show cond (Nat.beq q 18) _ (cond (Nat.beq q 18) _ (cond (Nat.beq q 16) _ (cond (Nat.beq q 2) _ (cond (Nat.beq q 4) _ (gE 10 100 b q)))))=cond (Nat.beq q 2) _ (cond (Nat.beq q 4) _ (b q))
     rw [eS (show q≠18 by omega),eS (show q≠16 by omega),hm];rfl
  ·rw [if_neg k2] at hq
   repeat' ((conv=>whnf);first|refine qw k1 ?_|refine qw k2 ?_|refine nT_ ?_|refine aS ?_|fail)
   (conv=>whnf)
   refine endN _ rfl rfl (fun q hq=>?_) hq
   have hm:=qX (b:=b) hq
   show cond (Nat.beq q 16) _ (cond (Nat.beq q 2) _ (cond (Nat.beq q 4) _ (gE 10 100 b q)))=cond (Nat.beq q 2) _ (cond (Nat.beq q 4) _ (b q))
   rw [eS (show q≠16 by omega),hm];rfl
 ·have hlv:(sH r).length=v.length:=by rw [← hv,List.length_map]
  rw [hlv]
  cases hok:okB v v.length with
  |false=>exact aI.absurd (n:=4) (m:=1) (ts:=[]) (by show some (BX.d 1 (if okB v v.length=true then [I 0] else []))=_;rw [hok];rfl) (by decide)
  |true=>
   rw [BM hok]
   have ho:tH l v v.length=[(2,.d 1 [fds l]),(4,.d 1 [I 0])]:=by unfold tH;rw [hok];rfl
   rw [ho]
   refine Jl ?_
   repeat' ((conv=>whnf);first|refine aS ?_|fail)
   exact ⟨⟨⟨Nat.lt_succ_self 0,rfl⟩,trivial⟩,fun _ _=>trivial⟩
 ·rintro c cx o ⟨rfl,rfl,hne,rfl⟩
  refine Or.inl ⟨rfl,?_,fun _ _=>trivial⟩
  (conv=>whnf)
  exact ⟨⟨Nat.lt_succ_self 0,rfl⟩,trivial⟩
end Go.TY
end
section
namespace Go.TY
open Go Go.DL Go.MM Go.Proofs
theorem Eo (l:List ByteArray):DCalls Tryz.prog 166 [.slice 1 (l.map .str),.nil] (.bool (l.length==0)):=by
 refine qO (rs:=[.tmp 4]) mixed Tryz.func166 Mo rfl rfl rfl (r:=[.bool _]) (nlZ rfl) ?_
 cases l with
 |cons a l=>
  repeat' ((conv=>whnf);first|exact trivial|refine aN1 ?_|refine rb0 ?_|refine aS ?_|fail)
 |nil=>
  repeat' ((conv=>whnf);first|refine aN0 ?_|refine aS ?_|fail)
  refine rq (α:=Unit) (fun _=>{sl:=[(11,.t (.slice 1 [])),(12,.t (I 0)),(13,.t (I 0))],bx:=[]}) (fun _=>True) (fun _=>0) () trivial ?_ ?_
  ·repeat' (first|exact trivial|exact LeV.same _|exact rfl|exact fun _ _ _=>trivial|refine And.intro ?_ ?_)
  rintro _ _
  repeat' ((conv=>whnf);first|exact trivial|refine aD0 ?_|refine rb1 ?_|refine aS ?_|fail)
def vp (s:RS):Bool:=(s.kind==0)&&sC s.var e0&&sC s.field e0&&(s.n==0)&&(s.m==0)&&(s.key.length==0)
theorem ES (s:RS):DCalls Tryz.prog 151 [.agg (sK s),.agg [I 0,.str e0,.nil,.str e0,I 0,I 0]] (.bool (vp s)):=by
 obtain ⟨k,v,l,f,n,m⟩:=s
 refine qO (rs:=[.tmp 4]) mixed Tryz.func151 Me rfl rfl rfl (r:=[.bool _]) (nlZ rfl) ?_
 simp only [vp]
 have h1:=sO v e0
 have h2:=sO f e0
 have h3:=Eo l
 generalize sC v e0=a at *
 generalize sC f e0=b at *
 generalize (l.length==0)=z at *
 by_cases hk:k=0
 ·by_cases hn:n=0
  ·by_cases hm:m=0
   ·subst hk;subst hn;subst hm
    cases a <;> cases b <;> repeat' ((conv=>whnf);first|exact trivial|refine nb_ _ h1 ?_|refine nb_ _ h2 ?_|refine rE _ (h3) ?_|refine nT_ ?_|refine aE1 ?_|refine rb0 ?_|refine rbx ?_|refine aS ?_|fail)
   ·have e:(m==0)=false:=beq_false_of_ne hm
    rw [e,hk,hn]
    cases a <;> cases b <;> repeat' ((conv=>whnf);first|exact trivial|refine nb_ _ h1 ?_|refine nb_ _ h2 ?_|refine nT_ ?_|refine aE1 ?_|refine aE0 ?_|refine rb0 ?_|refine aS ?_|fail)
  ·have e:(n==0)=false:=beq_false_of_ne hn
   rw [e,hk]
   cases a <;> cases b <;> repeat' ((conv=>whnf);first|exact trivial|refine nb_ _ h1 ?_|refine nb_ _ h2 ?_|refine nT_ ?_|refine aE1 ?_|refine aE0 ?_|refine rb0 ?_|refine aS ?_|fail)
 ·have e:(k==0)=false:=beq_false_of_ne hk
  rw [e]
  repeat' ((conv=>whnf);first|exact trivial|refine nT_ ?_|refine aE0 ?_|refine rb0 ?_|refine aS ?_|fail)
def uD (k:Int) (br e nd:Bool) (n m:Int):Bool:=
 if k=1 then br&&(e||nd)
 else if k=2 then br&&e
 else if k=3 then uM n&&(m==0)&&e
 else if k=4 then nd&&tS n&&tS m&&decide (n≤m)
 else if k=5 then br&&nd
 else if k=6 then e&&decide (n≥1)&&tS n&&decide (m≥1)&&uM m
 else false
def okS (s:RS):Bool:=vp s||(uz s.var&&decide (1≤s.key.length)&&decide (s.key.length≤4)&&s.key.all sS&&uD s.kind ((s.n==0)&&(s.m==0)) (sC s.field e0) (sS s.field) s.n s.m)
def ta (s:RS):Int:=if okS s then 0 else 1
theorem Es (s:RS) (hv:s.var.size<2^62) (hf:s.field.size<2^62) (hk: ∀k∈s.key,k.size<2^62) (hl:s.key.length<2^60):DCalls Tryz.prog 123 [.agg (sK s)] (.bool (okS s)):=by
 refine qO (rs:=[.tmp 2]) mixed Tryz.func123 LN rfl rfl rfl (r:=[.bool _]) (nlZ rfl) ?_
 have h0:=ES s
 unfold okS
 generalize vp s=z0 at *
 obtain ⟨k,v,l,f,n,m⟩:=s
 dsimp only at hv hf hk hl ⊢
 cases z0 with
 |true=>repeat' ((conv=>whnf);first|exact trivial|refine rE _ (h0) ?_|refine rb1 ?_|refine aS ?_|fail)
 |false=>
 rw [Bool.false_or]
 have h1:=Bc v hv
 have h2:=zG l 141 l.length sS hl fun i h=>xI l[i] (hk _ (List.getElem_mem h))
 rw [show ((l.length:Int)==(l.length:Int))=true by simp,Bool.true_and] at h2
 have h3:=xI f hf
 have hE:=sO f e0
 have hvn:=xq n
 have hvm:=xq m
 have htn:=zi n
 have htm:=zi m
 have hlen:((l.map T.str).length:Int)=(l.length:Int):=by rw [List.length_map]
 generalize uz v=pv at *
 generalize l.all sS=al at *
 generalize sS f=nd at *
 generalize sC f e0=e at *
 repeat' ((conv=>whnf);first|refine rE _ (h0) ?_|refine aS ?_|fail)
 refine rA (β:=Unit) (fun _=>{sl:=[(1,.ptr 1 0),(31,.t (.bool (!(pv&&decide (1≤l.length)&&decide (l.length≤4)&&al))))],bx:=[(1,.d 6 (sK ⟨k,v,l,f,n,m⟩))]}) (fun _=>True) ?_ ?_
 ·have h2':DCalls Tryz.prog 153 [.slice 1 (l.map .str),I ((l.map T.str).length:Int),.clos 141 []] (.bool al):=by rw [hlen];exact h2
  by_cases c0:l.length=0
  ·have e0':((l.map T.str).length:Int)=0:=by omega
   rw [decide_eq_false (show ¬1≤l.length by omega),Bool.and_false,Bool.false_and,Bool.false_and]
   cases pv <;> repeat' ((conv=>whnf);first|refine rE _ (h1) ?_|refine qx e0' ?_|(exact ⟨(),trivial,by (repeat' (first|exact trivial|exact LeV.same _|exact LeB.same _|exact rfl|exact fun _ _ _=>trivial|refine And.intro ?_ ?_));done⟩)|refine nT_ ?_|refine aS ?_|fail)
  ·have e0':((l.map T.str).length:Int)≠0:=by omega
   rw [decide_eq_true (show 1≤l.length by omega),Bool.and_true]
   by_cases c4:l.length≤4
   ·have e4: ¬((l.map T.str).length:Int)>4:=by omega
    rw [decide_eq_true c4,Bool.and_true]
    cases pv <;> cases al <;> repeat' ((conv=>whnf);first|refine rE _ (h1) ?_|refine qw e0' ?_|refine qu e4 ?_|refine rE _ (h2') ?_|(exact ⟨(),trivial,by (repeat' (first|exact trivial|exact LeV.same _|exact LeB.same _|exact rfl|exact fun _ _ _=>trivial|refine And.intro ?_ ?_));done⟩)|refine nT_ ?_|refine aS ?_|fail)
   ·have e4:((l.map T.str).length:Int)>4:=by omega
    rw [decide_eq_false c4,Bool.and_false,Bool.false_and]
    cases pv <;> repeat' ((conv=>whnf);first|refine rE _ (h1) ?_|refine qw e0' ?_|refine qv e4 ?_|(exact ⟨(),trivial,by (repeat' (first|exact trivial|exact LeV.same _|exact LeB.same _|exact rfl|exact fun _ _ _=>trivial|refine And.intro ?_ ?_));done⟩)|refine nT_ ?_|refine aS ?_|fail)
 rintro _ _
 generalize (pv&&decide (1≤l.length)&&decide (l.length≤4)&&al)=g at *
 cases g with
 |false=>repeat' ((conv=>whnf);first|exact trivial|refine rb0 ?_|fail)
 |true=>
 rw [Bool.true_and]
 skip
 refine rA (β:=Unit) (fun _=>{sl:=[(1,.ptr 1 0),(3,.t (.bool ((n==0)&&(m==0))))],bx:=[(1,.d 6 (sK ⟨k,v,l,f,n,m⟩))]}) (fun _=>True) ?_ ?_
 ·by_cases hn:n=0
  ·by_cases hm:m=0
   ·rw [show ((n==0)&&(m==0))=true by simp [hn,hm]]
    repeat' ((conv=>whnf);first|refine qx hn ?_|refine qx hm ?_|(exact ⟨(),trivial,by (repeat' (first|exact trivial|exact LeV.same _|exact LeB.same _|exact rfl|exact fun _ _ _=>trivial|refine And.intro ?_ ?_));done⟩)|refine nT_ ?_|refine aS ?_|fail)
   ·rw [show ((n==0)&&(m==0))=false by simp [hm]]
    repeat' ((conv=>whnf);first|refine qx hn ?_|refine qw hm ?_|(exact ⟨(),trivial,by (repeat' (first|exact trivial|exact LeV.same _|exact LeB.same _|exact rfl|exact fun _ _ _=>trivial|refine And.intro ?_ ?_));done⟩)|refine nT_ ?_|refine aS ?_|fail)
  ·rw [show ((n==0)&&(m==0))=false by simp [hn]]
   repeat' ((conv=>whnf);first|refine qw hn ?_|(exact ⟨(),trivial,by (repeat' (first|exact trivial|exact LeV.same _|exact LeB.same _|exact rfl|exact fun _ _ _=>trivial|refine And.intro ?_ ?_));done⟩)|refine nT_ ?_|refine aS ?_|fail)
 rintro _ _
 unfold uD
 generalize ((n==0)&&(m==0))=br at *
 generalize tS n=vn at *
 generalize tS m=vm at *
 generalize uM n=tn at *
 generalize uM m=tm at *
 by_cases k1:k=1
 ·subst k1
  rw [if_pos rfl]
  cases br <;> cases e <;> repeat' ((conv=>whnf);first|exact trivial|refine nb_ _ hE ?_|refine rE _ (h3) ?_|refine nT_ ?_|refine aE1 ?_|refine rb1 ?_|refine rb0 ?_|refine rbx ?_|refine aS ?_|fail)
 rw [if_neg k1]
 by_cases k2:k=2
 ·subst k2
  rw [if_pos rfl]
  cases br <;> repeat' ((conv=>whnf);first|exact trivial|refine nb_ _ hE ?_|refine nT_ ?_|refine aE1 ?_|refine aE0 ?_|refine rb0 ?_|refine rbx ?_|refine aS ?_|fail)
 rw [if_neg k2]
 by_cases k3:k=3
 ·subst k3
  rw [if_pos rfl]
  by_cases hm:m=0
  ·rw [show (m==0)=true by simp [hm]]
   cases tn <;> repeat' ((conv=>whnf);first|exact trivial|refine nb_ _ hE ?_|refine rE _ (htn) ?_|refine qx hm ?_|refine nT_ ?_|refine aE1 ?_|refine aE0 ?_|refine rb0 ?_|refine rbx ?_|refine aS ?_|fail)
  ·rw [show (m==0)=false by simp [hm]]
   cases tn <;> repeat' ((conv=>whnf);first|exact trivial|refine rE _ (htn) ?_|refine qw hm ?_|refine nT_ ?_|refine aE1 ?_|refine aE0 ?_|refine rb0 ?_|refine aS ?_|fail)
 rw [if_neg k3]
 by_cases k4:k=4
 ·subst k4
  rw [if_pos rfl]
  cases nd <;> cases vn <;> cases vm <;> repeat' ((conv=>whnf);first|exact trivial|refine rE _ (h3) ?_|refine rE _ (hvn) ?_|refine rE _ (hvm) ?_|refine nT_ ?_|refine aE1 ?_|refine aE0 ?_|refine nD_ (fun hq=>?_) (fun hq=>?_)|refine rb1 ?_|refine rb0 ?_|refine aS ?_|fail)
 rw [if_neg k4]
 by_cases k5:k=5
 ·subst k5
  rw [if_pos rfl]
  cases br <;> repeat' ((conv=>whnf);first|exact trivial|refine rE _ (h3) ?_|refine nT_ ?_|refine aE1 ?_|refine aE0 ?_|refine rb0 ?_|refine rbx ?_|refine aS ?_|fail)
 rw [if_neg k5]
 by_cases k6:k=6
 ·subst k6
  rw [if_pos rfl]
  cases e <;> cases vn <;> repeat' ((conv=>whnf);first|exact trivial|refine nb_ _ hE ?_|refine rE _ (hvn) ?_|refine rE _ (htm) ?_|refine nT_ ?_|refine aE1 ?_|refine aE0 ?_|refine nD_ (fun hq=>?_) (fun hq=>?_)|refine rb0 ?_|refine rbx ?_|refine aS ?_|fail)
 rw [if_neg k6]
 repeat' ((conv=>whnf);first|exact trivial|refine nT_ ?_|refine aE0 ?_|refine rb0 ?_|refine aS ?_|fail)
theorem yC (s:RS) (h:SmS (2^60) s):DCalls Tryz.prog 79 [.agg (sK s)] (I (ta s)):=by
 refine qO (rs:=[.tmp 2]) mixed Tryz.func79 l79 rfl rfl rfl (r:=[.int _ _]) (nlZ rfl) ?_
 have h1:=Es s (by have:=h.var;omega) (by have:=h.field;omega) (fun k hk=>by have:=h.keys k hk;omega) h.len
 unfold ta
 generalize okS s=b at *
 cases b <;> repeat' ((conv=>whnf);first|exact trivial|refine rE _ (h1) ?_|refine rix ?_|(refine And.intro (by first|(rfl;done)|fail) ?_)|fail)
def fz2 {α:Type} (f g:α→Int) (xs:List α):Int:=tj (xs.flatMap fun x=>[f x,g x])
theorem z7 {α:Type} {f g:α→Int}: ∀{xs:List α} {i:Nat} (h:i<xs.length),(∀ j (h:j<xs.length),j<i→f xs[j]=0∧g xs[j]=0)→f xs[i]≠0→fz2 f g xs=f xs[i]
 |x::xs,0,h,_,h0=>by simp at h0;simp [fz2,tj,h0]
 |x::xs,i+1,h,hz,h0=>by
  have h1:=hz 0 (by simp) (by omega)
  simp only [List.getElem_cons_zero] at h1
  have:=z7 (f:=f) (g:=g) (xs:=xs) (i:=i) (by simpa using h) (fun j hj hlt=>hz (j+1) (by simpa using hj) (by omega)) h0
  unfold fz2 at this ⊢
  simp only [List.flatMap_cons,List.cons_append,List.nil_append,tj,h1.1,h1.2,ne_eq,not_true_eq_false,if_false,List.getElem_cons_succ]
  exact this
theorem z8 {α:Type} {f g:α→Int}: ∀{xs:List α} {i:Nat} (h:i<xs.length),(∀ j (h:j<xs.length),j<i→f xs[j]=0∧g xs[j]=0)→f xs[i]=0→g xs[i]≠0→fz2 f g xs=g xs[i]
 |x::xs,0,h,_,hf,h0=>by simp at h0 hf;simp [fz2,tj,h0,hf]
 |x::xs,i+1,h,hz,hf,h0=>by
  have h1:=hz 0 (by simp) (by omega)
  simp only [List.getElem_cons_zero] at h1
  have:=z8 (f:=f) (g:=g) (xs:=xs) (i:=i) (by simpa using h) (fun j hj hlt=>hz (j+1) (by simpa using hj) (by omega)) hf h0
  unfold fz2 at this ⊢
  simp only [List.flatMap_cons,List.cons_append,List.nil_append,tj,h1.1,h1.2,ne_eq,not_true_eq_false,if_false,List.getElem_cons_succ]
  exact this
theorem zZ {α:Type} {f g:α→Int}: ∀{xs:List α},(∀ j (h:j<xs.length),f xs[j]=0∧g xs[j]=0)→fz2 f g xs=0
 |[],_=>rfl
 |x::xs,hz=>by
  have h1:=hz 0 (by simp)
  simp only [List.getElem_cons_zero] at h1
  have:=zZ (f:=f) (g:=g) (xs:=xs) fun j hj=>hz (j+1) (by simpa using hj)
  unfold fz2 at this ⊢
  simp only [List.flatMap_cons,List.cons_append,List.nil_append,tj,h1.1,h1.2,ne_eq,not_true_eq_false,if_false]
  exact this
def uN (gs:List RG):Int:=if gs.length>8 then 2 else fz2 (fun g=>tC g.pol) (fun g=>ta g.st) gs
abbrev z15:List T:=[I 0,I 0,.str ⟨#[]⟩,I 0,I 0,.nil,.str ⟨#[]⟩,I 0,.nil,I 0,.str ⟨#[]⟩,.nil,.str ⟨#[]⟩,I 0,I 0]
theorem ug (g:RG):((aN z15 0 15 (sD g)).drop 0).take 9=sA g.pol:=by
 rw [mU (n:=15) rfl,List.drop_zero]
 unfold sD
 rw [← sE g.pol,List.take_left]
theorem vH (g:RG):((aN z15 0 15 (sD g)).drop 9).take 6=sK g.st:=by
 rw [mU (n:=15) rfl]
 unfold sD
 have e:(sA g.pol++sK g.st).drop 9=sK g.st:=by
  rw [← sE g.pol,List.drop_left]
 rw [e];rfl
theorem zD (gs:List RG) (hl:gs.length<2^60) (hg: ∀g∈gs,SmG (2^59) g):DCalls Tryz.prog 95 [.slice 15 (gs.map sF)] (I (uN gs)):=by
 refine qO (rs:=[.tmp 2]) mixed Tryz.func95 l95 rfl rfl rfl (r:=[.int _ _]) (nlZ rfl) ?_
 have hlen:((gs.map sF).length:Int)=(gs.length:Int):=by rw [List.length_map]
 unfold uN
 by_cases h8:gs.length>8
 ·rw [if_pos h8]
  have e8:((gs.map sF).length:Int)>8:=by omega
  repeat' ((conv=>whnf);first|exact trivial|refine qv e8 ?_|refine rix ?_|refine aS ?_|fail)
 rw [if_neg h8]
 have e8: ¬((gs.map sF).length:Int)>8:=by omega
 repeat' ((conv=>whnf);first|refine qu e8 ?_|refine aS ?_|fail)
 refine rq (α:=Nat) (fun i=>{sl:=[(10,.t (.slice 15 (gs.map sF))),(11,.t (I gs.length)),(12,.t (I i))],bx:=[]})
  (fun i=>i≤gs.length∧ ∀j (h:j<gs.length),j<i→tC gs[j].pol=0∧ta gs[j].st=0) (fun i=>gs.length - i) 0 (by simp) ?_ ?_
 ·repeat' (first|(exact leI (by simp))|exact trivial|exact LeV.same _|exact rfl|exact fun _ _ _=>trivial|refine And.intro ?_ ?_)
 rintro i ⟨hi,hp⟩
 rcases Nat.lt_or_ge i gs.length with h|h
 ·have hm:=hg gs[i] (List.getElem_mem h)
  have h1:=xK gs[i].pol (by have:=hm.wt;omega) (hm.names (by omega))
  have h2:=yC gs[i].st (hm.st.mono (by omega))
  have e0:gs[i]? =some gs[i]:=ggZ h
  by_cases c1:tC gs[i].pol=0
  ·rw [c1] at h1
   by_cases c2:ta gs[i].st=0
   ·rw [c2] at h2
    repeat' ((conv=>whnf);first|(refine nv_ (.agg (sD gs[i])) (by first|((simp [h];rfl);done)|fail) ?_)|(refine nv_ (.agg (sA gs[i].pol)) (by first|(exact congrArg T.agg (ug gs[i]);done)|fail) ?_)|(refine nv_ (.agg (sK gs[i].st)) (by first|(exact congrArg T.agg (vH gs[i]);done)|fail) ?_)|refine rE _ (h1) ?_|refine rE _ (h2) ?_|refine aN0 ?_|refine aD1 ?_|(refine And.intro (by first|exact ⟨sI _,nlZ rfl⟩|exact sI _|fail) ?_)|refine aS ?_|fail)
    refine ⟨i+1,⟨h,fun j hj hlt=>?_⟩,by omega,?_⟩
    ·rcases Nat.lt_or_ge j i with h4|h4
     ·exact hp j hj h4
     ·obtain rfl:j=i:=by omega
      exact ⟨c1,c2⟩
    ·repeat' (first|exact trivial|exact LeV.same _|exact rfl|exact fun _ _ _=>trivial|exact lI|refine And.intro ?_ ?_)
   ·have e:=z8 (f:=fun g:RG=>tC g.pol) (g:=fun g=>ta g.st) h hp c1 c2
    rw [e]
    generalize ta gs[i].st=x at *
    repeat' ((conv=>whnf);first|exact trivial|(refine nv_ (.agg (sD gs[i])) (by first|((simp [h];rfl);done)|fail) ?_)|(refine nv_ (.agg (sA gs[i].pol)) (by first|(exact congrArg T.agg (ug gs[i]);done)|fail) ?_)|(refine nv_ (.agg (sK gs[i].st)) (by first|(exact congrArg T.agg (vH gs[i]);done)|fail) ?_)|refine rE _ (h1) ?_|refine rE _ (h2) ?_|refine aN1 ?_|refine aN0 ?_|refine aD1 ?_|refine rix ?_|(refine And.intro (by first|exact ⟨sI _,nlZ rfl⟩|exact sI _|fail) ?_)|refine aS ?_|fail)
  ·have e:=z7 (f:=fun g:RG=>tC g.pol) (g:=fun g=>ta g.st) h hp c1
   rw [e]
   generalize tC gs[i].pol=x at *
   repeat' ((conv=>whnf);first|exact trivial|(refine nv_ (.agg (sD gs[i])) (by first|((simp [h];rfl);done)|fail) ?_)|(refine nv_ (.agg (sA gs[i].pol)) (by first|(exact congrArg T.agg (ug gs[i]);done)|fail) ?_)|refine rE _ (h1) ?_|refine aN1 ?_|refine aD1 ?_|refine rix ?_|(refine And.intro (by first|exact ⟨sI _,nlZ rfl⟩|exact sI _|fail) ?_)|refine aS ?_|fail)
 ·rw [zZ fun j hj=>hp j hj (by omega)]
  repeat' ((conv=>whnf);first|exact trivial|refine aD0 ?_|refine rix ?_|refine aS ?_|fail)
end Go.TY
end
section
namespace Go.TY
open Go Go.DL Go.MM Go.Proofs
def tX (l:List Fd) (s:ByteArray):Bool:=(findF l s).isSome
theorem BS (l:List Fd) (hl:LOk l) (s:ByteArray):DCalls Tryz.prog 80 [.str s,.cptr [fds l] 0] (.bool (tX l s)):=by
 refine qO (rs:=[.tmp 3]) mixed Tryz.func80 l80 rfl rfl rfl (r:=[.bool _]) (nlZ rfl) ?_
 have h74:=t74 l s hl.len
 unfold xy at h74
 unfold tX
 cases hF:findF l s with
 |none=>
  rw [hF] at h74
  dsimp only at h74
  repeat' ((conv=>whnf);first|exact trivial|refine rE _ (h74) ?_|refine nT_ ?_|refine rb0 ?_|refine aS ?_|fail)
 |some F=>
  rw [hF] at h74
  dsimp only at h74
  repeat' ((conv=>whnf);first|exact trivial|refine rE _ (h74) ?_|refine nT_ ?_|refine rb1 ?_|refine aS ?_|fail)
theorem HT (xs:List ByteArray) (f:FuncId) (c:T) (p:ByteArray→Bool) (hl:xs.length<2^60) (hc: ∀x∈xs,DCalls Tryz.prog f [.str x,c] (.bool (p x))):
  DCalls Tryz.prog 81 [.slice 1 (xs.map .str),.clos f [c]] (.bool (xs.all p)):=by
 refine qO (rs:=[.tmp 4]) mixed Tryz.func81 l81 rfl rfl rfl (r:=[.bool _]) (nlZ rfl) ?_
 have h1: ∀(i:Nat) (h:i<xs.length),DCalls Tryz.prog 125 [.str xs[i],.cptr [.clos f [c]] 0] (.bool (!p xs[i])):=fun i h=>by
  refine qO (rs:=[.tmp 3]) mixed Tryz.func125 LP rfl rfl rfl (r:=[.bool _]) (nlZ rfl) ?_
  have h2:=hc xs[i] (List.getElem_mem h)
  repeat' ((conv=>whnf);first|exact trivial|refine rE _ (h2) ?_|refine nT_ ?_|refine rbx ?_|refine aS ?_|fail)
 have h2:=x6 xs 125 (.cptr [.clos f [c]] 0) (fun x=> !p x) hl h1
 have e:xs.all p= !(xs.any fun x=> !p x):=by rw [List.all_eq_not_any_not]
 rw [e]
 generalize (xs.any fun x=> !p x)=b at *
 repeat' ((conv=>whnf);first|exact trivial|refine rE _ (h2) ?_|refine rbx ?_|refine aS ?_|fail)
theorem Gg (xs:List ByteArray) (s:ByteArray) (hl:xs.length<2^60):DCalls Tryz.prog 126 [.slice 1 (xs.map .str),.str s] (I (ve (fun x=>sC s x) xs)):=by
 refine qO (rs:=[.tmp 4]) mixed Tryz.func126 LQ rfl rfl rfl (r:=[.int _ _]) (nlZ rfl) ?_
 skip
 refine rq (α:=Nat) (fun i=>{sl:=[(0,.t (.slice 1 (xs.map .str))),(1,.t (.str s)),(6,.t (.slice 1 (xs.map .str))),(7,.t (I xs.length)),(8,.t (I i))],bx:=[]})
  (fun i=>i≤xs.length∧ ∀j (h:j<xs.length),j<i→(fun x=>sC s x) xs[j]=false) (fun i=>xs.length - i) 0 (by simp) ?_ ?_
 ·repeat' (first|(exact leI (by simp))|exact trivial|exact LeV.same _|exact rfl|exact fun _ _ _=>trivial|refine And.intro ?_ ?_)
 rintro i ⟨hi,hp⟩
 rcases Nat.lt_or_ge i xs.length with h|h
 ·have hE:=sO s xs[i]
  cases hb:sC s xs[i] with
  |true=>
   rw [hb] at hE
   rw [yg (p:=fun x=>sC s x) h hb hp]
   repeat' ((conv=>whnf);first|exact trivial|(refine nv_ (.str xs[i]) (by first|(simp [h];done)|fail) ?_)|refine nb_ _ hE ?_|refine nT_ ?_|refine aD1 ?_|refine rix ?_|refine aS ?_|fail)
  |false=>
   rw [hb] at hE
   repeat' ((conv=>whnf);first|(refine nv_ (.str xs[i]) (by first|(simp [h];done)|fail) ?_)|refine nb_ _ hE ?_|refine nT_ ?_|refine aD1 ?_|refine aS ?_|fail)
   refine ⟨i+1,⟨h,fun j hj hlt=>?_⟩,by omega,?_⟩
   ·rcases Nat.lt_or_ge j i with h4|h4
    ·exact hp j hj h4
    ·obtain rfl:j=i:=by omega
     exact hb
   ·repeat' (first|exact trivial|exact LeV.same _|exact rfl|exact fun _ _ _=>trivial|exact lI|refine And.intro ?_ ?_)
 ·rw [yh (p:=fun x=>sC s x) fun j hj=>hp j hj (by omega)]
  repeat' ((conv=>whnf);first|exact trivial|refine aD0 ?_|refine rix ?_|refine aS ?_|fail)
theorem C0 (xs:List ByteArray) (s:ByteArray) (hl:xs.length<2^60):DCalls Tryz.prog 82 [.slice 1 (xs.map .str),.str s] (.bool (xs.any fun x=>sC s x)):=by
 refine qO (rs:=[.tmp 4]) mixed Tryz.func82 l82 rfl rfl rfl (r:=[.bool _]) (nlZ rfl) ?_
 have h1:=Gg xs s hl
 rw [xB (fun x=>sC s x) xs]
 generalize ve (fun x=>sC s x) xs=k at *
 repeat' ((conv=>whnf);first|exact trivial|refine rE _ (h1) ?_|refine nD_ (fun hq=>?_) (fun hq=>?_)|refine rb1 ?_|refine rb0 ?_|refine aS ?_|fail)
def yQ (ks:List ByteArray) (i:Nat):Bool:=(ks.take i).any fun x=>sC (ks.getD i e0) x
def B5 (ks:List ByteArray):Bool:=(List.range ks.length).any (yQ ks)
def ED (l:List Fd) (k:Int) (f:ByteArray) (m:Int):Int:=match findF l f with
 |none=>0
 |some F=>if k=4∧m>((2^F.w - 1:Nat):Int) then 1 else 0
def ui (l:List Fd) (s:RS):Int:=
 if ta s≠0 then ta s
 else if s.kind=0 then 0
 else if (!sC s.field e0&& !tX l s.field)|| !s.key.all (tX l) then 4
 else if B5 s.key then 1
 else ED l s.kind s.field s.m
theorem Ex {s:RS} (h:ta s=0) (hk:s.kind=4):sC s.field e0=false:=by
 unfold ta at h
 have h1:okS s=true:=by
  cases e:okS s with
  |true=>rfl
  |false=>rw [e] at h;simp at h
 unfold okS at h1
 have h2:vp s=false:=by unfold vp;rw [hk];rfl
 rw [h2,Bool.false_or] at h1
 simp only [Bool.and_eq_true] at h1
 have h3:=h1.2
 unfold uD at h3
 rw [hk] at h3
 simp only [show ¬((4:Int)=1) by omega,show ¬((4:Int)=2) by omega,show ¬((4:Int)=3) by omega,if_false,if_true,Bool.and_eq_true] at h3
 exact EF h3.1.1.1
theorem Em (l:List Fd) (hl:LOk l) (s:RS) (h:SmS (2^59) s):DCalls Tryz.prog 19 [fds l,.agg (sK s)] (I (ui l s)):=by
 refine qO (rs:=[.tmp 4]) mixed Tryz.func19 l19 rfl rfl rfl (r:=[.int _ _]) (nlZ rfl) ?_
 have h1:=yC s (h.mono (by omega))
 have h4f:=fun h hk=>@Ex s h hk
 have hkl:=h.len
 unfold ui
 by_cases c0:ta s=0
 case neg=>
  rw [if_pos c0]
  generalize ta s=e at *
  obtain ⟨k,v,ks,f,n,m⟩:=s
  repeat' ((conv=>whnf);first|exact trivial|refine rE _ (h1) ?_|refine aN1 ?_|refine rix ?_|refine aS ?_|fail)
 rw [c0] at h1
 have h4f:=h4f c0
 rw [if_neg (by simpa using c0)]
 clear c0
 obtain ⟨k,v,ks,f,n,m⟩:=s
 dsimp only at hkl h4f ⊢
 by_cases k0:k=0
 ·rw [if_pos k0]
  repeat' ((conv=>whnf);first|exact trivial|refine rE _ (h1) ?_|refine qx k0 ?_|refine nT_ ?_|refine aN0 ?_|refine rix ?_|refine aS ?_|fail)
 rw [if_neg k0]
 have hf:=BS l hl f
 have hks:=HT ks 80 (.cptr [fds l] 0) (tX l) (by omega) fun x _=>BS l hl x
 have hE:=sO f e0
 generalize ks.all (tX l)=al at *
 repeat' ((conv=>whnf);first|refine rE _ (h1) ?_|refine qw k0 ?_|refine nT_ ?_|refine aN0 ?_|refine aS ?_|fail)
 refine rA (β:=Unit) (fun _=>{sl:=[(2,.ptr 2 0),(3,.ptr 3 0),(38,.t (.bool ((!sC f e0&& !tX l f)|| !al)))],bx:=[(2,.d 1 [fds l]),(3,.d 6 (sK ⟨k,v,ks,f,n,m⟩))]}) (fun _=>True) ?_ ?_
 ·generalize tX l f=fb at *
  generalize sC f e0=b at *
  have hN:(!(f.toList==e0.toList))= !b:=by rw [hE]
  cases b <;> cases fb <;> cases al <;> repeat' ((conv=>whnf);first|refine nb_ _ hN ?_|refine rE _ (hf) ?_|refine rE _ (hks) ?_|(exact ⟨(),trivial,by (repeat' (first|exact trivial|exact LeV.same _|exact LeB.same _|exact rfl|exact fun _ _ _=>trivial|refine And.intro ?_ ?_));done⟩)|refine nT_ ?_|refine aS ?_|fail)
 rintro _ _
 have hgood:((!sC f e0&& !tX l f)|| !al)=false→k=4→tX l f=true:=fun hb k4=>by
  rw [h4f k4] at hb
  cases hfb:tX l f with
  |true=>rfl
  |false=>rw [hfb] at hb;simp at hb
 generalize ((!sC f e0&& !tX l f)|| !al)=bad at *
 cases bad with
 |true=>repeat' ((conv=>whnf);first|exact trivial|refine rix ?_|fail)
 |false=>
 repeat' ((conv=>whnf);first|refine nT_ ?_|refine aS ?_|fail)
 refine qZ 0 (α:=Nat) (β:=Unit) (fun i=>{sl:=[(2,.ptr 2 0),(3,.ptr 3 0),(40,.t (.slice 1 (ks.map .str))),(41,.t (I ks.length)),(42,.t (I i))],bx:=[(2,.d 1 [fds l]),(3,.d 6 (sK ⟨k,v,ks,f,n,m⟩))]})
  (fun i=>i≤ks.length∧ ∀j,j<i→yQ ks j=false) (fun i=>ks.length - i)
  (fun _=>{sl:=[(2,.ptr 2 0),(3,.ptr 3 0)],bx:=[(2,.d 1 [fds l]),(3,.d 6 (sK ⟨k,v,ks,f,n,m⟩))]}) (fun _=>B5 ks=false) 0 (by simp) ?_ ?_ ?_
 ·repeat' (first|(exact leI (by simp))|exact trivial|exact LeV.same _|exact LeB.same _|exact rfl|exact fun _ _ _=>trivial|refine And.intro ?_ ?_)
 ·rintro i ⟨hi,hp⟩
  rcases Nat.lt_or_ge i ks.length with h|h
  ·have hc:=C0 (ks.take i) ks[i] (by rw [List.length_take];omega)
   have hd:yQ ks i=(ks.take i).any fun x=>sC ks[i] x:=by unfold yQ;rw [List.getD_eq_getElem?_getD,ggZ h];rfl
   rw [← hd] at hc
   cases hb:yQ ks i with
   |true=>
    rw [hb] at hc
    have e:B5 ks=true:=List.any_eq_true.2 ⟨i,List.mem_range.2 h,hb⟩
    rw [e]
    repeat' ((conv=>whnf);first|exact trivial|(refine nv_ (.str ks[i]) (by first|(simp [h];done)|fail) ?_)|(refine nv_ (.slice 1 ((ks.take i).map .str)) (by first|(simp;done)|fail) ?_)|refine rE _ (hc) ?_|refine nT_ ?_|refine aD1 ?_|refine rix ?_|(refine And.intro (by first|((simp;omega);done)|fail) ?_)|refine aS ?_|fail)
   |false=>
    rw [hb] at hc
    repeat' ((conv=>whnf);first|(refine nv_ (.str ks[i]) (by first|(simp [h];done)|fail) ?_)|(refine nv_ (.slice 1 ((ks.take i).map .str)) (by first|(simp;done)|fail) ?_)|refine rE _ (hc) ?_|refine nT_ ?_|refine aD1 ?_|(refine And.intro (by first|((simp;omega);done)|fail) ?_)|refine aS ?_|fail)
    refine ⟨i+1,⟨h,fun j hj=>?_⟩,by omega,?_⟩
    ·rcases Nat.lt_or_ge j i with h4|h4
     ·exact hp j h4
     ·obtain rfl:j=i:=by omega
      exact hb
    ·repeat' (first|exact trivial|exact LeV.same _|exact LeB.same _|exact rfl|exact fun _ _ _=>trivial|exact lI|refine And.intro ?_ ?_)
  ·repeat' ((conv=>whnf);first|refine aD0 ?_|refine aS ?_|fail)
   refine ⟨(),?_,?_⟩
   ·unfold B5
    rw [List.any_eq_false]
    intro j hj
    rw [hp j (by have:=List.mem_range.1 hj;omega)];simp
   ·repeat' (first|exact trivial|exact LeV.same _|exact LeB.same _|exact rfl|exact fun _ _ _=>trivial|refine And.intro ?_ ?_)
 ·rintro _ hd
  rw [hd]
  simp only [Bool.false_eq_true,if_false]
  have h74:=t74 l f hl.len
  unfold xy at h74
  have hy:ED l k f m=match findF l f with
   |none=>0
   |some F=>if k=4∧m>((2^F.w - 1:Nat):Int) then 1 else 0:=rfl
  generalize ED l k f m=y at *
  cases hF:findF l f with
  |none=>
   rw [hF] at h74 hy
   dsimp only at h74 hy
   subst hy
   by_cases k4:k=4
   ·have:=hgood rfl k4
    unfold tX at this
    rw [hF] at this;cases this
   ·repeat' ((conv=>whnf);first|exact trivial|refine rE _ (h74) ?_|refine qw k4 ?_|refine nT_ ?_|refine rix ?_|refine aS ?_|fail)
  |some F=>
   rw [hF] at h74 hy
   dsimp only at h74 hy
   have h97:=t97 F (hl.find hF)
   generalize (2^F.w - 1:Nat)=M at *
   by_cases k4:k=4
   ·by_cases hm:m>(M:Int)
    ·rw [if_pos ⟨k4,hm⟩] at hy
     subst hy
     repeat' ((conv=>whnf);first|exact trivial|refine rE _ (h74) ?_|refine qx k4 ?_|refine rE _ (h97) ?_|refine qv hm ?_|refine nT_ ?_|refine rix ?_|refine aS ?_|fail)
    ·rw [if_neg (fun h=>hm h.2)] at hy
     subst hy
     repeat' ((conv=>whnf);first|exact trivial|refine rE _ (h74) ?_|refine qx k4 ?_|refine rE _ (h97) ?_|refine qu hm ?_|refine nT_ ?_|refine rix ?_|refine aS ?_|fail)
   ·rw [if_neg (fun h=>k4 h.1)] at hy
    subst hy
    repeat' ((conv=>whnf);first|exact trivial|refine rE _ (h74) ?_|refine qw k4 ?_|refine nT_ ?_|refine rix ?_|refine aS ?_|fail)
end Go.TY
end
section
namespace Go.TY
open Go Go.DL Go.MM
abbrev wz:RP:=.mk 0 e0 0 0 []
def xJ (k:Int) (x y:RO):RO:=.mk k wz e0 0 [x,y]
end Go.TY
end
section
namespace Go.TY
open Go Go.DL Go.MM Go.Proofs
theorem EG {k:Int} {p:RP} {f:ByteArray} {n:Int} (h:okO k p f n=true):k=1∨k=2∨k=3∨k=4∨k=5:=by
 unfold okO at h
 by_cases h1:k=1
 ·exact Or.inl h1
 rw [if_neg h1] at h
 by_cases h2:k=2
 ·exact Or.inr (Or.inl h2)
 rw [if_neg h2] at h
 by_cases h3:k=3∨k=4∨k=5
 ·exact Or.inr (Or.inr h3)
 ·rw [if_neg h3] at h;cases h
theorem HS (N:Nat): ∀r:RO,r.wt≤N→s8 r=true→DCalls Tryz.prog 30 [.agg (sA r)] (I (ue r)):=by
 induction N with
 |zero=>intro r h;obtain ⟨k,p,f,n,a⟩:=r;simp only [RO.wt] at h;omega
 |succ N ih=>
  rintro ⟨k,⟨pk,pf,pn,pm,pa⟩,f,n,l⟩ hr hf
  refine qO (rs:=[.tmp 2]) mixed Tryz.func30 l30 rfl rfl rfl (r:=[.int _ _]) (nlZ rfl) ?_
  simp only [RO.wt] at hr
  simp only [s8,Bool.and_eq_true] at hf
  obtain ⟨⟨f1,f2⟩,f3⟩:=hf
  have f2:l.length=we k:=by simpa using f2
  have hc:=EG f1
  by_cases h3:k=3∨k=4
  ·have h2:l.length=2:=by rw [f2];unfold we;rw [if_pos h3]
   obtain ⟨x,y,rfl⟩: ∃x y,l=[x,y]:=by
    match l,h2 with
    |[x,y],_=>exact ⟨x,y,rfl⟩
   simp only [tB,Bool.and_eq_true] at f3
   simp only [ti] at hr
   have hx:=ih x (by omega) f3.1
   have hy:=ih y (by omega) f3.2.1
   have hlx:=Ag x
   have hly:=Ag y
   have hm:=Nat.mul_le_mul hlx hly
   rw [ue]
   simp only [vW,List.getD_cons_zero,List.getD_cons_succ]
   have hp:((ue x * ue y:Nat):Int)=(ue x:Int) * (ue y:Int):=Int.natCast_mul _ _
   generalize ue x * ue y=pr at *
   generalize ue x=cx at *
   generalize ue y=cy at *
   rcases h3 with rfl|rfl
   ·rw [if_pos rfl]
    repeat' ((conv=>whnf);first|exact trivial|(refine nv_ (.agg (sA x)) (by first|exact sL x|fail) ?_)|(refine nv_ (.agg (sA y)) (by first|exact sL y|fail) ?_)|refine rE _ (hx) ?_|refine rE _ (hy) ?_|refine nT_ ?_|refine aE1 ?_|refine rix ?_|(refine And.intro (by first|exact sE _|fail) ?_)|refine aS ?_|fail)
   ·rw [if_neg (by omega),if_pos rfl]
    repeat' ((conv=>whnf);first|exact trivial|(refine nv_ (.agg (sA x)) (by first|exact sL x|fail) ?_)|(refine nv_ (.agg (sA y)) (by first|exact sL y|fail) ?_)|refine rE _ (hx) ?_|refine rE _ (hy) ?_|refine nT_ ?_|refine aE1 ?_|refine aE0 ?_|refine rix ?_|(refine And.intro (by first|exact sE _|fail) ?_)|refine aS ?_|fail)
  by_cases h5:k=5
  ·subst h5
   have h2:l.length=1:=by rw [f2];rfl
   obtain ⟨x,rfl⟩: ∃x,l=[x]:=by
    match l,h2 with
    |[x],_=>exact ⟨x,rfl⟩
   simp only [tB,Bool.and_eq_true] at f3
   simp only [ti] at hr
   have hx:=ih x (by omega) f3.1
   rw [ue]
   simp only [vW,List.getD_cons_zero,show ¬((5:Int)=3) by omega,show ¬((5:Int)=4) by omega,if_false,if_true]
   generalize ue x=cx at *
   by_cases h0:cx=0
   ·subst h0
    rw [if_pos rfl]
    repeat' ((conv=>whnf);first|exact trivial|(refine nv_ (.agg (sA x)) (by first|exact sL x|fail) ?_)|refine rE _ (hx) ?_|refine nT_ ?_|refine aE1 ?_|refine aE0 ?_|refine rix ?_|(refine And.intro (by first|exact sE _|fail) ?_)|refine aS ?_|fail)
   ·rw [if_neg h0]
    repeat' ((conv=>whnf);first|exact trivial|(refine nv_ (.agg (sA x)) (by first|exact sL x|fail) ?_)|refine rE _ (hx) ?_|refine nT_ ?_|refine aE1 ?_|refine aE0 ?_|refine rix ?_|(refine And.intro (by first|exact sE _|fail) ?_)|refine aS ?_|fail)
  rw [ue,if_neg (by omega),if_neg (by omega),if_neg h5]
  show wpC _ _ _ (nW _ _ [I ((if k=1∧pk=2 then 0 else 1:Nat):Int)])
  by_cases h1:k=1
  ·by_cases hp:pk=2
   ·rw [if_pos ⟨h1,hp⟩]
    repeat' ((conv=>whnf);first|exact trivial|refine qx h1 ?_|refine qx hp ?_|refine nT_ ?_|refine aE0 ?_|refine rix ?_|refine aS ?_|fail)
   ·rw [if_neg (fun h=>hp h.2)]
    repeat' ((conv=>whnf);first|exact trivial|refine qx h1 ?_|refine qw hp ?_|refine nT_ ?_|refine aE0 ?_|refine rix ?_|refine aS ?_|fail)
  ·rw [if_neg (fun h=>h1 h.1)]
   repeat' ((conv=>whnf);first|exact trivial|refine qw h1 ?_|refine nT_ ?_|refine aE0 ?_|refine rix ?_|refine aS ?_|fail)
theorem EL (a b:List Int) (hl:a.length<2^60):DCalls Tryz.prog 99 [.slice 1 (a.map I),.slice 1 (b.map I)] (.bool (a==b)):=by
 refine qO (rs:=[.tmp 4]) mixed Tryz.func99 l99 rfl rfl rfl (r:=[.bool _]) (nlZ rfl) ?_
 have ha:((a.map I).length:Int)=a.length:=by rw [List.length_map]
 have hb:((b.map I).length:Int)=b.length:=by rw [List.length_map]
 by_cases hab:a.length=b.length
 case neg=>
  have e:(a==b)=false:=beq_false_of_ne fun e=>hab (by rw [e])
  rw [e]
  have hn:((a.map I).length:Int)≠((b.map I).length:Int):=by omega
  repeat' ((conv=>whnf);first|exact trivial|refine qz hn ?_|refine rb0 ?_|refine aS ?_|fail)
 have hn:((a.map I).length:Int)=((b.map I).length:Int):=by omega
 repeat' ((conv=>whnf);first|refine qy hn ?_|refine aS ?_|fail)
 refine rq (α:=Nat) (fun i=>{sl:=[(0,.t (.slice 1 (a.map I))),(1,.t (.slice 1 (b.map I))),(11,.t (.slice 1 (a.map I))),(12,.t (I a.length)),(13,.t (I i))],bx:=[]})
  (fun i=>i≤a.length∧ ∀j (h:j<a.length) (h':j<b.length),j<i→a[j]=b[j]) (fun i=>a.length - i) 0 (by simp) ?_ ?_
 ·repeat' (first|(exact leI (by simp))|exact trivial|exact LeV.same _|exact rfl|exact fun _ _ _=>trivial|refine And.intro ?_ ?_)
 rintro i ⟨hi,hp⟩
 rcases Nat.lt_or_ge i a.length with h|h
 ·have h':i<b.length:=by omega
  by_cases he:a[i]=b[i]
  ·repeat' ((conv=>whnf);first|(refine nv_ (I a[i]) (by first|(simp [h];done)|fail) ?_)|(refine nv_ (I b[i]) (by first|(simp [h'];done)|fail) ?_)|refine qy he ?_|refine nT_ ?_|refine aD1 ?_|refine aS ?_|fail)
   refine ⟨i+1,⟨h,fun j hj hj' hlt=>?_⟩,by omega,?_⟩
   ·rcases Nat.lt_or_ge j i with h4|h4
    ·exact hp j hj hj' h4
    ·obtain rfl:j=i:=by omega
     exact he
   ·repeat' (first|exact trivial|exact LeV.same _|exact rfl|exact fun _ _ _=>trivial|exact lI|refine And.intro ?_ ?_)
  ·have e:(a==b)=false:=beq_false_of_ne fun e=>he (by subst e;rfl)
   rw [e]
   repeat' ((conv=>whnf);first|exact trivial|(refine nv_ (I a[i]) (by first|(simp [h];done)|fail) ?_)|(refine nv_ (I b[i]) (by first|(simp [h'];done)|fail) ?_)|refine qz he ?_|refine nT_ ?_|refine aD1 ?_|refine rb0 ?_|refine aS ?_|fail)
 ·have e:(a==b)=true:=by
   have:a=b:=List.ext_getElem hab fun j h1 h2=>hp j h1 h2 (by omega)
   simp [this]
  rw [e]
  repeat' ((conv=>whnf);first|exact trivial|refine aD0 ?_|refine rb1 ?_|refine aS ?_|fail)
def xH (a b:RV):Bool:=sC a.name b.name&&(a.fam==b.fam)&&(a.n==b.n)&&(a.m==b.m)&&(a.ws==b.ws)
theorem x4 {a b:RV}:xH a b=true↔a=b:=by
 obtain ⟨a1,a2,a3,a4,a5⟩:=a
 obtain ⟨b1,b2,b3,b4,b5⟩:=b
 unfold xH
 simp only [Bool.and_eq_true,sY,beq_iff_eq,RV.mk.injEq]
 exact ⟨fun h=>⟨h.1.1.1.1,h.1.1.1.2,h.2,h.1.1.2,h.1.2⟩,fun h=>⟨⟨⟨⟨h.1,h.2.1⟩,h.2.2.2.1⟩,h.2.2.2.2⟩,h.2.2.1⟩⟩
theorem EO (k:Int) (h:1≤k∧k≤6):DCalls Tryz.prog 137 [I k] (I (tT k)):=by
 refine qO (rs:=[.tmp 2]) mixed Tryz.func137 LY rfl rfl rfl (r:=[.int _ _]) (nlZ rfl) ?_
 obtain rfl|rfl|rfl|rfl|rfl|rfl:k=1∨k=2∨k=3∨k=4∨k=5∨k=6:=by omega
 all_goals repeat' ((conv=>whnf);first|exact trivial|refine nT_ ?_|refine rix ?_|refine aS ?_|fail)
end Go.TY
end
section
namespace Go.TY
open Go Go.DL Go.Proofs
section
variable {α:Type} {enc:α→T} {d:α}
def um (enc:α→T) (d:α) (ks:List α) (xs:List T):Prop:= ∃js:List Nat,js.Perm (List.range ks.length)∧xs=js.map fun j=>enc (ks.getD j d)
abbrev zx (enc:α→T) (d:α) (ks:List α) (ix:List Nat):List T:=ix.map fun j=>enc (ks.getD j d)
abbrev esK (enc:α→T) (ks:List α) (vs:List T):List (T×T):=(ks.map enc).zip vs
theorem zt {ks:List α} {vs:List T} {j:Nat} {e:T×T} (h:(esK enc ks vs)[j]? =some e):e.1=enc (ks.getD j d)∧j<ks.length:=by
 rw [List.getElem?_zip_eq_some] at h
 obtain ⟨h1,_⟩:=h
 rw [List.getElem?_map,Option.map_eq_some_iff] at h1
 obtain ⟨k,hk,hk2⟩:=h1
 refine ⟨?_,(gsZ hk).1⟩
 rw [List.getD_eq_getElem?_getD,hk, ←hk2];rfl
theorem xG {ix:List Nat} {n:Nat} (hn:ix.Nodup) (hl: ∀j∈ix,j<n) (ha: ∀j,j<n→j∈ix):ix.Perm (List.range n):=
 (List.perm_ext_iff_of_nodup hn List.nodup_range).2 fun j=>⟨fun h=>List.mem_range.2 (hl j h),fun h=>ha j (List.mem_range.1 h)⟩
theorem yF (es:List (T×T)) (ix:List Nat) (j:Nat) (e:T×T) (h:es[j]? =some e):jY es (ix++[j])= .tup [e.1,e.2]:=by
 unfold jY
 rw [List.getLast?_concat]
 simp [h]
theorem uB {β:Type} {f:Nat→β} {n:Nat} {v:β} (h:f n=v):upd f n v=f:=by
 funext m
 by_cases e:m=n
 ·rw [e,ah,h]
 ·rw [ae _ _ _ _ e]
theorem u9 {ks:List α} {xs:List T} (h:um enc d ks xs): ∃zs:List α,zs.Perm ks∧xs=zs.map enc:=by
 obtain ⟨js,hp,rfl⟩:=h
 refine ⟨js.map fun j=>ks.getD j d,?_,by simp⟩
 have h1:((List.range ks.length).map fun j=>ks.getD j d)=ks:=by
  apply List.ext_getElem?
  intro i
  rw [List.getElem?_map]
  by_cases h:i<ks.length
  ·simp [h]
  ·simp [h]
 have:=hp.map (fun j=>ks.getD j d)
 rwa [h1] at this
theorem zY (hc: ∀a,(enc a).cells=[enc a]): ∀zs:List α,(zs.map enc).flatMap T.cells=zs.map enc
 |[]=>rfl
 |z::zs=>by rw [List.map_cons,List.flatMap_cons,hc,zY hc zs];rfl
theorem u7 (hc: ∀a,(enc a).cells=[enc a]) (hf: ∀a,(enc a).flat=true) (js:List Nat) (ks:List α): ∀t∈(js.map fun j=>enc (ks.getD j d)).flatMap T.cells,t.flat=true:=fun t ht=>by
 simp only [List.mem_flatMap,List.mem_map] at ht
 obtain ⟨x,⟨j,_,rfl⟩,hx⟩:=ht
 rw [hc,List.mem_singleton] at hx
 rw [hx];exact hf _
end
theorem x7: ∀(l:List T) (n:Nat),l.length=n→chunk 1 n l=l
 |[],0,_=>rfl
 |x::l,n+1,h=>by
  show x::chunk 1 n l=x::l
  rw [x7 l n (by simpa using h)]
 |x::l,0,h=>by simp at h
 |[],n+1,h=>by simp at h
theorem va {cs vs:List T} {n:Nat} (h:cs.length=n):aN cs 0 n vs=vs:=by simp [aN, ←h]
abbrev wV (x:List UInt8):T:=.str ⟨x.toArray⟩
theorem BG (s:ByteArray):wV s.toList= .str s:=by
 unfold wV
 congr 1
 rw [ByteArray.toList_eq]
def vG (ks:List ByteArray):List ByteArray:=tu ltS ks
theorem yj {ks zs:List ByteArray} (hn:ks.Nodup) (hp:zs.Perm ks):((zs.map ByteArray.toList).mergeSort (fun x y=>decide (x≤y))).map wV=(vG ks).map T.str:=by
 have hpm:=List.mergeSort_perm (zs.map ByteArray.toList) (fun x y=>decide (x≤y))
 have hs:=List.pairwise_mergeSort (le:=fun x y:List UInt8=>decide (x≤y)) (fun a b c h1 h2=>by simp only [decide_eq_true_eq] at *;exact List.le_trans h1 h2) (fun a b=>by simp only [Bool.or_eq_true,decide_eq_true_eq];exact List.le_total a b) (zs.map ByteArray.toList)
 generalize (zs.map ByteArray.toList).mergeSort (fun x y=>decide (x≤y))=ys at *
 have e1: ∀y:List UInt8,(⟨y.toArray⟩:ByteArray).toList=y:=fun y=>by rw [ByteArray.toList_eq]
 have e2:ys.map wV=(ys.map fun y=>(⟨y.toArray⟩:ByteArray)).map T.str:=by rw [List.map_map];rfl
 rw [e2]
 congr 1
 have hpz:(ys.map fun y=>(⟨y.toArray⟩:ByteArray)).Perm zs:=by
  have:=hpm.map (fun y=>(⟨y.toArray⟩:ByteArray))
  rw [List.map_map] at this
  have e3:zs.map ((fun y=>(⟨y.toArray⟩:ByteArray)) ∘ ByteArray.toList)=zs:=by
   refine (List.map_congr_left fun z _=>?_).trans (List.map_id zs)
   show (⟨z.toList.toArray⟩:ByteArray)=z
   rw [ByteArray.toList_eq]
  rwa [e3] at this
 refine yB Av ((hpz.trans hp).nodup_iff.2 hn) ?_ fun x=>(hpz.trans hp).mem_iff
 rw [List.pairwise_map]
 refine hs.imp fun {x y} h=>?_
 unfold ltS
 rw [e1,e1,Go.Proofs.bytesLess_eq]
 simp only [decide_eq_true_eq] at h
 exact decide_eq_false (List.not_lt.2 h)
def yN (ks:List Int):List Int:=tu ltI ks
theorem BP {ks zs:List Int} (hn:ks.Nodup) (hp:zs.Perm ks):(zs.mergeSort (fun x y=>decide (x≤y)))=yN ks:=by
 have hpm:=List.mergeSort_perm zs (fun x y=>decide (x≤y))
 have hs:=List.pairwise_mergeSort (le:=fun x y:Int=>decide (x≤y)) (fun a b c h1 h2=>by simp only [decide_eq_true_eq] at *;omega) (fun a b=>by simp only [Bool.or_eq_true,decide_eq_true_eq];omega) zs
 generalize zs.mergeSort (fun x y=>decide (x≤y))=ys at *
 refine yB Ch ((hpm.trans hp).nodup_iff.2 hn) (hs.imp fun {x y} h=>?_) fun x=>(hpm.trans hp).mem_iff
 simp only [decide_eq_true_eq] at h
 exact decide_eq_false (by omega)
end Go.TY
end
section
namespace Go.TY
open Go Go.DL Go.MM
theorem C7 (a b:ByteArray):(a==b)=decide (a=b):=by
 obtain ⟨a⟩:=a
 obtain ⟨b⟩:=b
 by_cases h:a=b
 ·subst h
  rw [decide_eq_true rfl]
  show (a==a)=true
  simp
 ·rw [decide_eq_false (fun e=>h (ByteArray.mk.inj e))]
  show (a==b)=false
  exact beq_false_of_ne h
def esS (ks:List ByteArray):List (T×T):=ks.map fun s=>(T.str s,T.bool true)
def esI (ks:List Int):List (T×T):=ks.map fun s=>(T.int .i64 s,T.bool true)
theorem Aw (s:ByteArray): ∀ks:List ByteArray,bK (.str s) (.bool true) (esS ks)=esS (if s∈ks then ks else ks++[s])
 |[]=>by simp [esS,bK]
 |k::ks=>by
  have ih:=Aw s ks
  show cond (eqL (T.str s).cells (T.str k).cells) _ _=_
  have e:eqL (T.str s).cells (T.str k).cells=decide (s=k):=by
   show ((s==k)&&true)=_
   rw [Bool.and_true,C7]
  rw [e]
  by_cases h:s=k
  ·subst h
   rw [decide_eq_true rfl,if_pos (by simp)];rfl
  ·rw [decide_eq_false h,cond_false]
   show (T.str k,T.bool true)::bK (.str s) (.bool true) (esS ks)=_
   rw [ih]
   by_cases hm:s∈ks
   ·rw [if_pos hm,if_pos (by simp [hm])];rfl
   ·rw [if_neg hm,if_neg (by simp [h,hm])];rfl
theorem yU (s:Int): ∀ks:List Int,bK (.int .i64 s) (.bool true) (esI ks)=esI (if s∈ks then ks else ks++[s])
 |[]=>by simp [esI,bK]
 |k::ks=>by
  have ih:=yU s ks
  show cond (eqL (T.int .i64 s).cells (T.int .i64 k).cells) _ _=_
  have e:eqL (T.int .i64 s).cells (T.int .i64 k).cells=decide (s=k):=by
   show ((s==k)&&true)=_
   rw [Bool.and_true]
   by_cases h:s=k <;> simp [h]
  rw [e]
  by_cases h:s=k
  ·subst h
   rw [decide_eq_true rfl,if_pos (by simp)];rfl
  ·rw [decide_eq_false h,cond_false]
   show (T.int .i64 k,T.bool true)::bK (.int .i64 s) (.bool true) (esI ks)=_
   rw [ih]
   by_cases hm:s∈ks
   ·rw [if_pos hm,if_pos (by simp [hm])];rfl
   ·rw [if_neg hm,if_neg (by simp [h,hm])];rfl
section
variable {α:Type} [DecidableEq α]
theorem vB: ∀{l acc:List α},(once acc l).length≤acc.length+l.length
 |[],acc=>Nat.le_refl _
 |x::l,acc=>by
  unfold once
  have:=vB (l:=l) (acc:=if x∈acc then acc else acc++[x])
  rw [List.length_cons]
  split at this
  ·rw [if_pos (by assumption)];omega
  ·rw [List.length_append,List.length_singleton] at this
   rw [if_neg (by assumption)];omega
end
mutual
theorem wH: ∀r:RO,((sH r).flatMap uu).length≤r.wt
 |.mk k p f n a=>by
  have:=zO a
  rw [sH,List.flatMap_cons,List.length_append]
  have h:(uu (.mk k p f n a)).length≤p.nodes:=by
   unfold uu
   split
   ·show (th p).length≤_
    rw [uv,uL];exact Nat.le_refl _
   ·simp
  simp only [RO.wt];omega
theorem zO: ∀l:List RO,((sR l).flatMap uu).length≤ti l
 |[]=>by simp [sR]
 |r::rs=>by
  have h1:=wH r
  have h2:=zO rs
  rw [sR,List.flatMap_append,List.length_append,ti];omega
end
theorem yL (r:RO):td r=w8 r:=by
 unfold td w8
 rw [s9]
 congr 1
 funext o
 unfold uu wG
 split
 ·rw [uv]
 ·rfl
theorem wM {β γ:Type} {g:β→List γ}: ∀{xs:List β},(∀ x∈xs,(g x).length≤1)→(xs.flatMap g).length≤xs.length
 |[],_=>Nat.le_refl _
 |x::xs,h=>by
  have h1:=h x (by simp)
  have h2:=wM (xs:=xs) fun y hy=>h y (by simp [hy])
  rw [List.flatMap_cons,List.length_append,List.length_cons];omega
def s4 {β γ:Type} (g:β→List γ) (xs:List β) (k:Nat):List γ:=(xs.take k).flatMap g
theorem vK {β γ:Type} {g:β→List γ} {xs:List β} {k:Nat} {x:β} (h:xs[k]? =some x):s4 g xs (k+1)=s4 g xs k++g x:=by
 obtain ⟨hl,rfl⟩:=gsZ h
 unfold s4
 rw [List.take_succ_eq_append_getElem hl,List.flatMap_append]
 simp
theorem wh {β γ:Type} {g:β→List γ} {xs:List β}:s4 g xs xs.length=xs.flatMap g:=by
 unfold s4;rw [List.take_length]
end Go.TY
end
section
namespace Go.TYV
open Go Go.DL Go.Proofs
noncomputable def c96:aY:=(.seq (.region [oo 4 (.mov (.const .nilmap)),oo 5 (.mov kF)] []) (.seq (.region [oo 19 (.mkmap false [.str]),mv 6 19] []) (.seq (.region [oo 20 (.mkmap false [.str]),mv 7 20] []) (.seq (.seq (.region [mv 21 1,ln 22 21,oo 23 (.mov (Kc 0))] []) (.block 0 (.loop (.seq (.region [oo 24 (.bin .lss (tm 23) (tm 22))] []) (.seq (.cond (tm 24) .skip (.exit 0)) (.seq (.block 1 (.seq (.region [ix 25 15 21 23,lA 26 15 25,⟨some 9,.alloc [Z0,Z0,S0,Z0,Z0,.nil,S0,Z0,.nil,Z0,S0,.nil,S0,Z0,Z0],none,[]⟩,o0 (.store 15 (tm 9) (tm 26))] []) (.seq (.region [fa 27 9 9,lA 28 6 27,⟨some 10,.alloc [Z0,S0,.nil,S0,Z0,Z0],none,[]⟩,o0 (.store 6 (tm 10) (tm 28))] []) (.seq (.seq (.region [fa 29 0 10,ld 30 29,oo 31 (.bin .eql (tm 30) (Kc 0))] []) (.cond (tm 31) (.exit 1) .skip)) (.seq (.region [fa 32 1 10,ld 33 32,fa 34 0 10,ld 35 34,oo 36 (.call 137 [tm 35]),⟨some 37,.build [S0,Z0,.nil,Z0,Z0] [(0,1,(tm 33)),(1,1,(tm 36))],none,[]⟩,⟨some 11,.alloc [S0,Z0,.nil,Z0,Z0],none,[]⟩,o0 (.store 5 (tm 11) (tm 37))] []) (.seq (.seq (.region [fa 38 2 10,ld 39 38,ln 40 39,oo 41 (.mov (Kc 0))] []) (.block 2 (.loop (.seq (.region [oo 42 (.bin .lss (tm 41) (tm 40))] []) (.seq (.cond (tm 42) .skip (.exit 2)) (.seq (.block 3 (.seq (.region [ix 43 1 39 41,ld 44 43,mv 13 44] []) (.seq (.region [mv 46 0,mv 47 13,oo 48 (.call 74 [(tm 46),(tm 47)]),mv 45 48,oo 49 (.ext (tm 45) 0),oo 50 (.ext (tm 45) 1),⟨some 14,.alloc [S0,Z0,Z0],none,[]⟩,o0 (.store 3 (tm 14) (tm 49)),mv 15 50] []) (.region [fa 51 2 11,ld 52 51,fa 53 2 14,ld 54 53,oo 55 (.buildF 1 1 [Z0] [(0,(tm 54))]),oo 56 (.append 46 3 1 8 (tm 52) (tm 55)),fa 57 2 11,o0 (.store 1 (tm 57) (tm 56))] [])))) (.region [oo 58 (.bin .add (tm 41) (Kc 1)),mv 41 58] []))))))) (.seq (.cut (.region [fa 59 0 10,ld 60 59,oo 61 (.bin .eql (tm 60) (Kc 4)),mv 62 61,oF 63 62 (.offA 0 (tm 10)),oF 64 62 (.load 1 false (tm 63)),oF 65 62 (.bin .eql (tm 64) (Kc 6)),oo 66 (.pick (tm 62) kT (tm 65)),mv 16 66] [])) (.seq (.region [mv 68 6,fa 69 1 10,ld 70 69,⟨some 71,.mlook false [.str] (.agg [S0,Z0,.nil,Z0,Z0]) true (tm 68) (tm 70),none,[]⟩,mv 67 71,oo 72 (.ext (tm 67) 0),oo 73 (.ext (tm 67) 1),⟨some 17,.alloc [S0,Z0,.nil,Z0,Z0],none,[]⟩,o0 (.store 5 (tm 17) (tm 72)),mv 18 73] []) (.seq (.cut (.seq (.region [mv 74 16] []) (.cond (tm 74) (.region [fa 75 4 10,ld 76 75,fa 77 5 10,ld 78 77,fa 79 3 11,o0 (.store 1 (tm 79) (tm 76)),fa 80 4 11,o0 (.store 1 (tm 80) (tm 78))] [[],[],[],[],[],[3],[],[]]) .skip))) (.seq (.seq (.cut (.region [mv 81 18,mv 82 81,oT 83 82 (.offA 1 (tm 17)),oT 84 82 (.load 1 false (tm 83)),oT 85 82 (.offA 1 (tm 11)),oT 86 82 (.load 1 false (tm 85)),oT 87 82 (.bin .neq (tm 84) (tm 86)),mT 88 87 82,oF 89 88 (.offA 2 (tm 17)),oF 90 88 (.load 1 false (tm 89)),oF 91 88 (.offA 2 (tm 11)),oF 92 88 (.load 1 false (tm 91)),oF 93 88 (.call 99 [(tm 90),(tm 92)]),oF 94 88 (.not (tm 93)),oT 95 82 (.pick (tm 88) kT (tm 94)),mT 96 95 82,mF 97 16 96,mF 98 97 96,mT 99 7 98,oT 100 98 (.offA 1 (tm 10)),oT 101 98 (.load 1 false (tm 100)),oT 102 98 (.mlook false [.str] (.bool false) false (tm 99) (tm 101)),oF 103 96 (.pick (tm 98) (tm 102) kF),mF 104 103 96,oT 105 104 (.offA 3 (tm 17)),oT 106 104 (.load 1 false (tm 105)),oT 107 104 (.offA 3 (tm 11)),oT 108 104 (.load 1 false (tm 107)),oT 109 104 (.bin .neq (tm 106) (tm 108)),mT 110 109 104,oF 111 110 (.offA 4 (tm 17)),oF 112 110 (.load 1 false (tm 111)),oF 113 110 (.offA 4 (tm 11)),oF 114 110 (.load 1 false (tm 113)),oF 115 110 (.bin .neq (tm 112) (tm 114)),oT 116 104 (.pick (tm 110) kT (tm 115)),oF 117 96 (.pick (tm 104) (tm 116) kF),oT 118 82 (.pick (tm 96) kT (tm 117)),oo 119 (.pick (tm 82) (tm 118) kF)] [])) (.cond (tm 119) (.seq (.region [oo 4 (.mov (.const .nilmap)),oo 5 (.mov kF)] []) .ret) .skip)) (.seq (.seq (.region [mv 120 18,oo 121 (.not (tm 120)),mv 122 121,mF 123 16 122,oo 124 (.pick (tm 122) kT (tm 123))] []) (.cond (tm 124) (.region [mv 125 6,fa 126 1 10,ld 127 126,lA 128 5 11,o0 (.bK false [.str] (tm 125) (tm 127) (tm 128))] []) .skip)) (.region [mv 129 7,fa 130 1 10,ld 131 130,mv 132 7,fa 133 1 10,ld 134 133,oo 135 (.mlook false [.str] (.bool false) false (tm 132) (tm 134)),mv 136 135,mF 137 16 136,oo 138 (.pick (tm 136) kT (tm 137)),o0 (.bK false [.str] (tm 129) (tm 131) (tm 138))] [])))))))))))) (.region [oo 139 (.bin .add (tm 23) (Kc 1)),mv 23 139] []))))))) (.seq (.region [mv 140 6,mv 4 140,oo 5 (.mov kT)] []) .ret)))))
theorem l96:(Tryz.f96.body.bind (bD Tryz.prog 141 [6000015,5000017,6000019,8000055]))=some c96:=by kernel_rfl
end Go.TYV
end
section
namespace Go.TY
open Go Go.DL Go.MM Go.Proofs
abbrev zV:T:=.agg [.str ⟨#[]⟩,I 0,.nil,I 0,I 0]
def esV (all:List RV):List (T×T):=all.map fun v=>(T.str v.name,sV v)
def esN (num:List (ByteArray×Bool)):List (T×T):=num.map fun p=>(T.str p.1,T.bool p.2)
theorem yc (a b:ByteArray):eqL (T.str a).cells (T.str b).cells=decide (a=b):=by
 show ((a==b)&&true)=_
 rw [Bool.and_true,C7]
theorem Dm (v:RV): ∀all:List RV,bK (.str v.name) (sV v) (esV all)=esV (uH v all)
 |[]=>rfl
 |x::xs=>by
  have ih:=Dm v xs
  show cond (eqL (T.str v.name).cells (T.str x.name).cells) _ _=esV (uH v (x::xs))
  rw [yc]
  unfold uH
  by_cases h:x.name=v.name
  ·rw [decide_eq_true h.symm,if_pos h];rfl
  ·rw [decide_eq_false (fun e=>h e.symm),if_neg h,cond_false]
   show (T.str x.name,sV x)::bK (.str v.name) (sV v) (esV xs)=_
   rw [ih];rfl
theorem Dl (n:ByteArray) (b:Bool): ∀num:List (ByteArray×Bool),bK (.str n) (.bool b) (esN num)=esN (w9 n b num)
 |[]=>rfl
 |x::xs=>by
  have ih:=Dl n b xs
  show cond (eqL (T.str n).cells (T.str x.1).cells) _ _=esN (w9 n b (x::xs))
  rw [yc]
  unfold w9
  by_cases h:x.1=n
  ·rw [decide_eq_true h.symm,if_pos h];rfl
  ·rw [decide_eq_false (fun e=>h e.symm),if_neg h,cond_false]
   show (T.str x.1,T.bool x.2)::bK (.str n) (.bool b) (esN xs)=_
   rw [ih];rfl
theorem zw (s:ByteArray): ∀all:List RV,ep (T.str s).cells (esV all)=(tc all s).map sV
 |[]=>rfl
 |x::xs=>by
  have ih:=zw s xs
  show cond (eqL (T.str s).cells (T.str x.name).cells) (some (sV x)) (ep (T.str s).cells (esV xs))=_
  rw [yc,ih]
  unfold tc
  rw [List.find?_cons]
  by_cases h:x.name=s
  ·rw [decide_eq_true h.symm,decide_eq_true h];rfl
  ·rw [decide_eq_false (fun e=>h e.symm),decide_eq_false h];rfl
theorem BL (s:ByteArray): ∀num:List (ByteArray×Bool),ep (T.str s).cells (esN num)=(tZ num s).map T.bool
 |[]=>rfl
 |x::xs=>by
  have ih:=BL s xs
  show cond (eqL (T.str s).cells (T.str x.1).cells) (some (T.bool x.2)) (ep (T.str s).cells (esN xs))=_
  rw [yc,ih]
  unfold tZ
  rw [List.find?_cons]
  by_cases h:x.1=s
  ·rw [decide_eq_true h.symm,decide_eq_true h];rfl
  ·rw [decide_eq_false (fun e=>h e.symm),decide_eq_false h];rfl
theorem GK (s:ByteArray) (all:List RV):mS zV true (ep (T.str s).cells (esV all))=match tc all s with
  |some v=>T.tup [sV v,.bool true]
  |none=>T.tup [zV,.bool false]:=by
 rw [zw]
 cases tc all s <;> rfl
theorem GJ (s:ByteArray) (num:List (ByteArray×Bool)):mS (.bool false) false (ep (T.str s).cells (esN num))=T.bool ((tZ num s).getD false):=by
 rw [BL]
 cases tZ num s <;> rfl
theorem HU (l:List Fd) (hl:LOk l) (k:ByteArray):DCalls Tryz.prog 74 [fds l,.str k] (.tup [.agg [.str (fld l k).name,I (fld l k).a,I (fld l k).w],.bool (tX l k)]):=by
 have h:=t74 l k hl.len
 unfold xy at h
 unfold fld tX
 cases hF:findF l k with
 |none=>rw [hF] at h;exact h
 |some F=>rw [hF] at h;exact h
theorem wQ (l:List Fd): ∀{a b:List RS} {st:VS},uh l st (a++b)=(uh l st a).bind fun st=>uh l st b
 |[],b,st=>rfl
 |s::a,b,st=>by
  show (uS l st s).bind (fun st=>uh l st (a++b))=((uS l st s).bind fun st=>uh l st a).bind fun st=>uh l st b
  cases uS l st s with
  |none=>rfl
  |some st'=>exact wQ l
def uw (l:List Fd) (gs:List RG):Option VS:=uh l ⟨[],[]⟩ (tq (gs.map (·.st)))
def FO:Option VS→T
 |some st=>.tup [.mapd false [.str] (st.all.map fun v=>.str v.name) (st.all.map sV),.bool true]
 |none=>.tup [.nilmap,.bool false]
theorem Bb (gs:List RG) (i:Nat) (h:i<gs.length):tq ((gs.take (i+1)).map (·.st))=tq ((gs.take i).map (·.st))++(if gs[i].st.kind=0 then [] else [gs[i].st]):=by
 rw [List.take_succ_eq_append_getElem h,List.map_append]
 unfold tq
 rw [List.filter_append]
 congr 1
 by_cases hk:gs[i].st.kind=0
 ·rw [if_pos hk];simp [hk]
 ·rw [if_neg hk];simp [hk]
def C5 (l:List Fd) (look:Option RV) (nb:Bool) (s:RS):Bool:=match look with
 |none=>false
 |some old=>(old.fam !=tT s.kind)|| !(old.ws==sZ l s)||(s.own&&nb&&((old.n !=s.n)||(old.m !=s.m)))
theorem EU (l:List Fd) (st:VS) (s:RS):uS l st s=if C5 l (tc st.all s.var) ((tZ st.num s.var).getD false) s then none else some ⟨if (!(tc st.all s.var).isSome||s.own) then uH (vOf l s) st.all else st.all,w9 s.var (((tZ st.num s.var).getD false)||s.own) st.num⟩:=by
 unfold uS C5
 dsimp only
 cases tc st.all s.var with
 |none=>simp
 |some old=>simp
abbrev yP (l:List Fd) (s:RS) (n m:Int):List V:=[.t (.str s.var),.t (I (tT s.kind)),.t (.slice 1 ((sZ l s).map I)),.t (I n),.t (I m)]
abbrev SVa (l:List Fd) (gs:List RG) (i:Nat) (st:VS) (x:List (Nat×V)) (b:List (Nat×BX)):Wk:=
 {sl:=(0,.t (fds l))::(6,.mp 19)::(7,.mp 20)::(21,.t (.slice 15 (gs.map sF)))::(22,.t (I gs.length))::(23,.t (I i))::x,bx:=(19,.m false [.str] (esV st.all) none)::(20,.m false [.str] (esN st.num) none)::b}
theorem EW {ks:List Nat} {bx:Nat→Option BX} {ag:Bool} {sh:List Sh} {es es':List (T×T)} (h:es=es'):LeB ks bx (.m ag sh es none) (some (.m ag sh es' none)):=by rw [h];exact .same _
theorem Da {ks:List Nat} {bx:Nat→Option BX} {n e w:Nat} {us xs:List T} (h:us=xs):LeV ks bx (.t (.slice w us)) (.own n e w xs):=by rw [h];exact LeV.data _ _ _ _
theorem Ek (a b:List Int) (hl:b.length<2^60):DCalls Tryz.prog 99 [.slice 1 (a.map I),.slice 1 (b.map I)] (.bool (a==b)):=by
 by_cases hab:a.length=b.length
 case pos=>exact EL a b (by omega)
 refine qO (rs:=[.tmp 4]) mixed Tryz.func99 l99 rfl rfl rfl (r:=[.bool _]) (nlZ rfl) ?_
 have ha:((a.map I).length:Int)=a.length:=by rw [List.length_map]
 have hb:((b.map I).length:Int)=b.length:=by rw [List.length_map]
 have e:(a==b)=false:=beq_false_of_ne fun e=>hab (by rw [e])
 rw [e]
 have hn:((a.map I).length:Int)≠((b.map I).length:Int):=by omega
 repeat' ((conv=>whnf);first|exact trivial|refine qz hn ?_|refine rb0 ?_|refine aS ?_|fail)
theorem yD (l:List Fd) (hl:LOk l) (gs:List RG) (hgl:gs.length<2^40) (hg: ∀g∈gs,SmS (2^40) g.st∧0≤g.st.kind∧g.st.kind≤6):DCalls Tryz.prog 96 [fds l,.slice 15 (gs.map sF)] (FO (uw l gs)):=by
 have hres: ∃r1 r2,FO (uw l gs)= .tup [r1,r2]:=by cases uw l gs <;> exact ⟨_,_,rfl⟩
 obtain ⟨r1,r2,hr⟩:=hres
 rw [hr]
 refine qO (rs:=[.tmp 4,.tmp 5]) mixed Tryz.func96 Go.TYV.l96 rfl rfl rfl (r:=[r1,r2]) (nlZ rfl) ?_
 have hsome: ∀st,uw l gs=some st→r1= .mapd false [.str] (st.all.map fun v=>.str v.name) (st.all.map sV)∧r2= .bool true:=fun st h=>by
  rw [h] at hr
  have h1:=T.tup.inj hr
  simp only [List.cons.injEq,and_true] at h1
  exact ⟨h1.1.symm,h1.2.symm⟩
 have hnone:uw l gs=none→r1= .nilmap∧r2= .bool false:=fun h=>by
  rw [h] at hr
  have h1:=T.tup.inj hr
  simp only [List.cons.injEq,and_true] at h1
  exact ⟨h1.1.symm,h1.2.symm⟩
 clear hr
 skip
 refine qZ 0 (α:=Nat×VS) (β:=VS) (fun p=>SVa l gs p.1 p.2 [] []) (fun p=>p.1≤gs.length∧uh l ⟨[],[]⟩ (tq ((gs.take p.1).map (·.st)))=some p.2) (fun p=>gs.length - p.1)
  (fun st=>{sl:=[(6,.mp 19)],bx:=[(19,.m false [.str] (esV st.all) none)]}) (fun st=>uw l gs=some st) (0,⟨[],[]⟩) ⟨by simp,rfl⟩ ?_ ?_ ?_
 ·repeat' (first|(exact leI (by simp))|exact trivial|exact LeV.same _|exact LeB.same _|exact rfl|exact fun _ _ _=>trivial|refine And.intro ?_ ?_)
 ·rintro ⟨i,st⟩ ⟨hi,hst⟩
  dsimp only at hi hst
  rcases Nat.lt_or_ge i gs.length with h|h
  case inr=>
   have e:i=gs.length:=by omega
   subst e
   rw [List.take_length] at hst
   repeat' ((conv=>whnf);first|(exact ⟨st,hst,by (repeat' (first|exact trivial|exact LeV.same _|exact LeB.same _|exact rfl|exact fun _ _ _=>trivial|refine And.intro ?_ ?_));done⟩)|refine aD0 ?_|refine aS ?_|fail)
  obtain ⟨hsm,hk0,hk6⟩:=hg gs[i] (List.getElem_mem h)
  have hcell:=vH gs[i]
  have hso:=Bb gs i h
  have hnext: ∀st',uh l st (if gs[i].st.kind=0 then [] else [gs[i].st])=some st'→(i+1≤gs.length∧uh l ⟨[],[]⟩ (tq ((gs.take (i+1)).map (·.st)))=some st'):=fun st' h'=>⟨h,by rw [hso,wQ,hst];exact h'⟩
  have hall:uh l st (if gs[i].st.kind=0 then [] else [gs[i].st])=none→uw l gs=none:=fun hn=>by
   unfold uw
   have e1:gs.map (·.st)=(gs.take (i+1)).map (·.st)++(gs.drop (i+1)).map (·.st):=by rw [← List.map_append,List.take_append_drop]
   rw [e1]
   have e2: ∀a b:List RS,tq (a++b)=tq a++tq b:=fun a b=>List.filter_append ..
   rw [e2,wQ,hso,wQ,hst,Option.bind_some,hn];rfl
  have hz:(aN z15 0 15 (sD gs[i])).length=15:=by rw [mU (n:=15) rfl];exact sI _
  by_cases k0:gs[i].st.kind=0
  ·rw [if_pos k0] at hnext
   have hnx:=hnext st rfl
   generalize gs[i].st=s at *
   obtain ⟨k,v,ks,f,n,m⟩:=s
   dsimp only at k0
   repeat' ((conv=>whnf);first|(refine nv_ (.agg (sD gs[i])) (by first|((simp [h];rfl);done)|fail) ?_)|(refine nv_ (.agg (sK ⟨k,v,ks,f,n,m⟩)) (by first|exact congrArg T.agg hcell|fail) ?_)|refine qx k0 ?_|refine nT_ ?_|refine aD1 ?_|(refine And.intro (by first|exact ⟨sI _,nlZ rfl⟩|exact sI _|fail) ?_)|refine aS ?_|fail)
   refine ⟨(i+1,st),hnx,by dsimp only;omega,by repeat' (first|exact trivial|exact LeV.same _|exact LeB.same _|exact rfl|exact fun _ _ _=>trivial|exact lI|refine And.intro ?_ ?_)⟩
  rw [if_neg k0] at hnext hall
  have hst1:uh l st [gs[i].st]=uS l st gs[i].st:=by
   show (uS l st gs[i].st).bind _=_
   cases uS l st gs[i].st <;> rfl
  rw [hst1] at hnext hall
  clear hso hst1
  generalize gs[i].st=s at *
  have hfam:=EO s.kind ⟨by omega,hk6⟩
  obtain ⟨k,v,ks,f,n,m⟩:=s
  dsimp only at k0 hk0 hk6 hfam
  have hkl:ks.length<2^40:=hsm.len
  repeat' ((conv=>whnf);first|(refine nv_ (.agg (sD gs[i])) (by first|((simp [h];rfl);done)|fail) ?_)|(refine nv_ (.agg (sK ⟨k,v,ks,f,n,m⟩)) (by first|exact congrArg T.agg hcell|fail) ?_)|refine qw k0 ?_|refine rE _ (hfam) ?_|refine nT_ ?_|refine aD1 ?_|(refine And.intro (by first|exact ⟨sI _,nlZ rfl⟩|exact sI _|fail) ?_)|refine aS ?_|fail)
  refine qZ 2 (α:=Nat) (β:=Unit) (fun j=>SVa l gs i st [(10,.ptr 10 0),(11,.ptr 11 0),(39,.t (.slice 1 (ks.map .str))),(40,.t (I ks.length)),(41,.t (I j))] [(10,.d 6 (sK ⟨k,v,ks,f,n,m⟩)),(11,.v [.t (.str v),.t (I (tT k)),.own 56 3 1 ((ks.take j).map fun x=>I (fld l x).w),.t (I 0),.t (I 0)])])
   (fun j=>j≤ks.length) (fun j=>ks.length - j)
   (fun _=>SVa l gs i st [(10,.ptr 10 0),(11,.ptr 11 0)] [(10,.d 6 (sK ⟨k,v,ks,f,n,m⟩)),(11,.v (yP l ⟨k,v,ks,f,n,m⟩ 0 0))]) (fun _=>True) 0 (by simp) ?_ ?_ ?_
  ·repeat' (first|(exact leI (by simp))|(refine LeB.dv _ _ _ ?_)|exact trivial|exact LeV.same _|exact LeB.same _|exact rfl|exact fun _ _ _=>trivial|exact LeV.nil _ _ _|refine And.intro ?_ ?_)
  ·rintro j hj
   rcases Nat.lt_or_ge j ks.length with h1|h1
   ·have ht:=HU l hl ks[j]
    have hk:ks.take (j+1)=ks.take j++[ks[j]]:=by rw [List.take_succ_eq_append_getElem h1]
    repeat' ((conv=>whnf);first|(refine nv_ (.str ks[j]) (by first|(simp [h1];done)|fail) ?_)|refine rE _ (ht) ?_|refine nT_ ?_|refine aD1 ?_|(refine And.intro (by first|((simp only [List.length_map,List.length_take,List.length_cons,List.length_nil];omega);done)|fail) ?_)|refine aS ?_|fail)
    refine ⟨j+1,h1,by omega,?_⟩
    repeat' (first|(exact rX (by rw [hk,List.map_append];rfl))|(refine LeB.v _ _ ?_)|exact trivial|exact LeV.same _|exact LeB.same _|exact rfl|exact fun _ _ _=>trivial|exact lI|refine And.intro ?_ ?_)
   ·have:j=ks.length:=by omega
    subst this
    rw [List.take_length]
    have hw:((sZ l ⟨k,v,ks,f,n,m⟩).map I)=ks.map fun x=>I (fld l x).w:=by unfold sZ;rw [List.map_map];rfl
    repeat' ((conv=>whnf);first|(exact ⟨(),trivial,by (repeat' (first|(refine LeB.v _ _ ?_)|(exact Da hw)|exact trivial|exact LeV.same _|exact LeB.same _|exact rfl|exact fun _ _ _=>trivial|refine And.intro ?_ ?_));done⟩)|refine aD0 ?_|refine aS ?_|fail)
  rintro _ _
  obtain ⟨lc,is,hlc,hl5,hcase⟩: ∃lc is,mS zV true (ep (T.str v).cells (esV st.all))= .tup [.agg lc,.bool is]∧lc.length=5∧((is=false∧tc st.all v=none)∨ ∃o,is=true∧tc st.all v=some o∧lc=vU o):=by
   rw [GK]
   cases tc st.all v with
   |none=>exact ⟨_,_,rfl,rfl,Or.inl ⟨rfl,rfl⟩⟩
   |some o=>exact ⟨_,_,rfl,rfl,Or.inr ⟨o,rfl,rfl,rfl⟩⟩
  have hp5:lc=aN [.str ⟨#[]⟩,I 0,.nil,I 0,I 0] 0 5 lc:=(mU (n:=5) rfl).symm
  obtain ⟨ow,how⟩: ∃ow,ow=RS.own ⟨k,v,ks,f,n,m⟩:=⟨_,rfl⟩
  refine rA (β:=Unit) (fun _=>SVa l gs i st [(10,.ptr 10 0),(11,.ptr 11 0),(16,.t (.bool ow))] [(10,.d 6 (sK ⟨k,v,ks,f,n,m⟩)),(11,.v (yP l ⟨k,v,ks,f,n,m⟩ 0 0))]) (fun _=>True) ?_ ?_
  ·by_cases k4:k=4
   ·have e:ow=true:=by rw [how];simp [RS.own,k4]
    subst e
    repeat' ((conv=>whnf);first|refine qx k4 ?_|(exact ⟨(),trivial,by (repeat' (first|exact trivial|exact LeV.same _|exact LeB.same _|exact rfl|exact fun _ _ _=>trivial|refine And.intro ?_ ?_));done⟩)|refine nT_ ?_|refine aS ?_|fail)
   by_cases k6:k=6
   ·have e:ow=true:=by rw [how];simp [RS.own,k6]
    subst e
    repeat' ((conv=>whnf);first|refine qw k4 ?_|refine qx k6 ?_|(exact ⟨(),trivial,by (repeat' (first|exact trivial|exact LeV.same _|exact LeB.same _|exact rfl|exact fun _ _ _=>trivial|refine And.intro ?_ ?_));done⟩)|refine nT_ ?_|refine aS ?_|fail)
   have e:ow=false:=by rw [how];simp [RS.own,k4,k6]
   subst e
   repeat' ((conv=>whnf);first|refine qw k4 ?_|refine qw k6 ?_|(exact ⟨(),trivial,by (repeat' (first|exact trivial|exact LeV.same _|exact LeB.same _|exact rfl|exact fun _ _ _=>trivial|refine And.intro ?_ ?_));done⟩)|refine nT_ ?_|refine aS ?_|fail)
  rintro _ _
  repeat' ((conv=>whnf);first|(refine nv_ (.tup [.agg lc,.bool is]) (by first|exact hlc|fail) ?_)|refine nT_ ?_|(refine And.intro (by first|exact hl5|exact ⟨rfl,trivial,trivial⟩|exact ⟨rfl,rfl,trivial⟩|exact ⟨rfl,trivial⟩|fail) ?_)|refine aS ?_|fail)
  refine rA (β:=Unit) (fun _=>SVa l gs i st [(10,.ptr 10 0),(11,.ptr 11 0),(16,.t (.bool ow)),(17,.ptr 17 0),(18,.t (.bool is))] [(10,.d 6 (sK ⟨k,v,ks,f,n,m⟩)),(11,.v (yP l ⟨k,v,ks,f,n,m⟩ (cond ow n 0) (cond ow m 0))),(17,.d 5 lc)]) (fun _=>True) ?_ ?_
  ·cases ow <;> repeat' ((conv=>whnf);first|(exact ⟨(),trivial,by (repeat' (first|(exact su hp5)|exact trivial|exact LeV.same _|exact LeB.same _|exact rfl|exact fun _ _ _=>trivial|refine And.intro ?_ ?_));done⟩)|refine nT_ ?_|refine aS ?_|fail)
  rintro _ _
  clear hlc hp5
  obtain ⟨nb,hnb⟩: ∃nb,nb=(tZ st.num v).getD false:=⟨_,rfl⟩
  have hln:=GJ v st.num
  rw [← hnb] at hln
  have hst2:=EU l st ⟨k,v,ks,f,n,m⟩
  dsimp only at hst2
  rw [← hnb, ←how] at hst2
  obtain ⟨bad,hbad⟩: ∃bad,bad=C5 l (tc st.all v) nb ⟨k,v,ks,f,n,m⟩:=⟨_,rfl⟩
  rw [← hbad] at hst2
  have heq:=fun o:RV=>Ek o.ws (sZ l ⟨k,v,ks,f,n,m⟩) (by unfold sZ;rw [List.length_map];exact Nat.lt_of_lt_of_le hkl (by decide))
  refine rA (β:=Unit) (fun _=>SVa l gs i st [(10,.ptr 10 0),(11,.ptr 11 0),(16,.t (.bool ow)),(18,.t (.bool is)),(119,.t (.bool bad))] [(10,.d 6 (sK ⟨k,v,ks,f,n,m⟩)),(11,.v (yP l ⟨k,v,ks,f,n,m⟩ (cond ow n 0) (cond ow m 0)))]) (fun _=>True) ?_ ?_
  ·rcases hcase with ⟨rfl,hl0⟩|⟨o,rfl,hl0,rfl⟩
   ·rw [hl0] at hbad
    have e:bad=false:=hbad
    subst e
    repeat' ((conv=>whnf);first|(exact ⟨(),trivial,by (repeat' (first|exact trivial|exact LeV.same _|exact LeB.same _|exact rfl|exact fun _ _ _=>trivial|refine And.intro ?_ ?_));done⟩)|fail)
   rw [hl0] at hbad
   unfold C5 at hbad
   dsimp only at hbad
   rw [← how] at hbad
   have heq:=heq o
   generalize (o.ws==sZ l ⟨k,v,ks,f,n,m⟩)=eqw at *
   generalize hb1:(o.fam !=tT k)=b1 at hbad
   generalize hb2:(o.n !=n)=b2 at hbad
   generalize hb3:(o.m !=m)=b3 at hbad
   subst hbad
   clear how hst2 hnb hall hnext
   cases b1 with
   |true=>repeat' ((conv=>whnf);first|refine nb_ _ hb1 ?_|(exact ⟨(),trivial,by (repeat' (first|exact trivial|exact LeV.same _|exact LeB.same _|exact rfl|exact fun _ _ _=>trivial|refine And.intro ?_ ?_));done⟩)|refine nT_ ?_|refine aS ?_|fail)
   |false=>
   cases eqw with
   |false=>repeat' ((conv=>whnf);first|refine nb_ _ hb1 ?_|refine rE _ (heq) ?_|(exact ⟨(),trivial,by (repeat' (first|exact trivial|exact LeV.same _|exact LeB.same _|exact rfl|exact fun _ _ _=>trivial|refine And.intro ?_ ?_));done⟩)|refine nT_ ?_|refine aS ?_|fail)
   |true=>
   cases ow with
   |false=>repeat' ((conv=>whnf);first|refine nb_ _ hb1 ?_|refine rE _ (heq) ?_|(exact ⟨(),trivial,by (repeat' (first|exact trivial|exact LeV.same _|exact LeB.same _|exact rfl|exact fun _ _ _=>trivial|refine And.intro ?_ ?_));done⟩)|refine nT_ ?_|refine aS ?_|fail)
   |true=>
   cases nb with
   |false=>repeat' ((conv=>whnf);first|refine nb_ _ hb1 ?_|refine rE _ (heq) ?_|(refine nv_ (.bool false) (by first|exact hln|fail) ?_)|(exact ⟨(),trivial,by (repeat' (first|exact trivial|exact LeV.same _|exact LeB.same _|exact rfl|exact fun _ _ _=>trivial|refine And.intro ?_ ?_));done⟩)|refine nT_ ?_|(refine And.intro (by first|exact ⟨rfl,trivial⟩|fail) ?_)|refine aS ?_|fail)
   |true=>
   cases b2 with
   |true=>repeat' ((conv=>whnf);first|refine nb_ _ hb1 ?_|refine rE _ (heq) ?_|(refine nv_ (.bool true) (by first|exact hln|fail) ?_)|refine nb_ _ hb2 ?_|(exact ⟨(),trivial,by (repeat' (first|exact trivial|exact LeV.same _|exact LeB.same _|exact rfl|exact fun _ _ _=>trivial|refine And.intro ?_ ?_));done⟩)|refine nT_ ?_|(refine And.intro (by first|exact ⟨rfl,trivial⟩|fail) ?_)|refine aS ?_|fail)
   |false=>
   cases b3 <;> repeat' ((conv=>whnf);first|refine nb_ _ hb1 ?_|refine rE _ (heq) ?_|(refine nv_ (.bool true) (by first|exact hln|fail) ?_)|refine nb_ _ hb2 ?_|refine nb_ _ hb3 ?_|(exact ⟨(),trivial,by (repeat' (first|exact trivial|exact LeV.same _|exact LeB.same _|exact rfl|exact fun _ _ _=>trivial|refine And.intro ?_ ?_));done⟩)|refine nT_ ?_|(refine And.intro (by first|exact ⟨rfl,trivial⟩|fail) ?_)|refine aS ?_|fail)
  rintro _ _
  clear heq
  cases bad with
  |true=>
   rw [if_pos rfl] at hst2
   obtain ⟨rfl,rfl⟩:=hnone (hall hst2)
   repeat' ((conv=>whnf);first|exact trivial|refine rb0 ?_|refine aS ?_|fail)
  |false=>
  rw [if_neg (by simp)] at hst2
  have hnx:=hnext _ hst2
  have his:(tc st.all v).isSome=is:=by rcases hcase with ⟨rfl,h⟩|⟨o,rfl,h,_⟩ <;> rw [h] <;> rfl
  have he:vOf l ⟨k,v,ks,f,n,m⟩=⟨v,tT k,sZ l ⟨k,v,ks,f,n,m⟩,cond ow n 0,cond ow m 0⟩:=by
   unfold vOf
   rw [← how]
   cases ow <;> rfl
  rw [his,he] at hnx
  have hV:=Dm ⟨v,tT k,sZ l ⟨k,v,ks,f,n,m⟩,cond ow n 0,cond ow m 0⟩ st.all
  have hN:=Dl v (nb||ow) st.num
  clear he his hst2 how hbad hnb hall hnext hcase
  cases is <;> cases ow <;> cases nb <;> (repeat' ((conv=>whnf);first|(refine nv_ (.bool _) (by first|exact hln|fail) ?_)|(refine ⟨(i+1,_),hnx,by (dsimp only;omega),by (repeat' (first|(exact EW hV.symm)|(exact EW hN.symm)|exact trivial|exact LeV.same _|exact LeB.same _|exact rfl|exact fun _ _ _=>trivial|exact lI|refine And.intro ?_ ?_));done⟩)|refine nT_ ?_|(refine And.intro (by first|exact ⟨rfl,trivial⟩|fail) ?_)|refine aS ?_|fail))
 ·rintro st hv
  obtain ⟨rfl,rfl⟩:=hsome st hv
  skip
  (conv=>whnf)
  refine ⟨?_,rfl,trivial⟩
  show some (T.mapd false [.str] ((esV st.all).map (·.1)) ((esV st.all).map (·.2)))=some _
  unfold esV
  rw [List.map_map,List.map_map];rfl
end Go.TY
end
section
namespace Go.TY
open Go Go.DL Go.MM Go.Proofs
theorem Bs {s:RS} (h:ta s=0):0≤s.kind∧s.kind≤6:=by
 unfold ta at h
 have h1:okS s=true:=by
  cases e:okS s with
  |true=>rfl
  |false=>rw [e] at h;simp at h
 unfold okS at h1
 rw [Bool.or_eq_true] at h1
 rcases h1 with h1|h1
 ·unfold vp at h1
  simp only [Bool.and_eq_true,beq_iff_eq] at h1
  omega
 simp only [Bool.and_eq_true] at h1
 have h3:=h1.2
 unfold uD at h3
 by_cases k1:s.kind=1
 ·omega
 by_cases k2:s.kind=2
 ·omega
 by_cases k3:s.kind=3
 ·omega
 by_cases k4:s.kind=4
 ·omega
 by_cases k5:s.kind=5
 ·omega
 by_cases k6:s.kind=6
 ·omega
 simp only [k1,k2,k3,k4,k5,k6,if_false] at h3
 cases h3
theorem CZ {l:List Fd} {s:RS} (h:ui l s=0):0≤s.kind∧s.kind≤6:=by
 refine Bs ?_
 unfold ui at h
 by_cases c:ta s=0
 ·exact c
 ·rw [if_pos c] at h;exact h
theorem BH {α:Type} {f g:α→Int}: ∀{xs:List α},fz2 f g xs=0→ ∀x∈xs,f x=0∧g x=0
 |[],_,_,hx=>by cases hx
 |x::xs,h,y,hy=>by
  have h:tj (f x::g x::xs.flatMap fun x=>[f x,g x])=0:=h
  simp only [tj] at h
  by_cases h1:f x=0
  ·by_cases h2:g x=0
   ·simp only [h1,h2] at h
    rcases List.mem_cons.1 hy with rfl|hy
    ·exact ⟨h1,h2⟩
    ·exact BH (by simpa [fz2] using h) y hy
   ·simp [h1,h2] at h
  ·simp [h1] at h
def Ci (l:List Fd) (gs:List RG):Int:=
 if uN gs≠0 then uN gs
 else if fz2 (fun g=>uW l g.pol) (fun g=>ui l g.st) gs≠0 then fz2 (fun g=>uW l g.pol) (fun g=>ui l g.st) gs
 else if (uw l gs).isNone then 11 else 0
theorem El (l:List Fd) (hl:LOk l) (gs:List RG) (hgl:gs.length<2^40) (hg: ∀g∈gs,SmG (2^39) g):DCalls Tryz.prog 38 [fds l,.slice 15 (gs.map sF)] (I (Ci l gs)):=by
 refine qO (rs:=[.tmp 4]) mixed Tryz.func38 l38 rfl rfl rfl (r:=[.int _ _]) (nlZ rfl) ?_
 have hc:=zD gs (by omega) fun g hgm=>⟨(hg g hgm).st.mono (by omega),by have:=(hg g hgm).wt;omega,fun _=>(hg g hgm).names (by omega)⟩
 unfold Ci
 by_cases c0:uN gs=0
 case neg=>
  rw [if_pos c0]
  generalize uN gs=x at *
  repeat' ((conv=>whnf);first|exact trivial|refine rE _ (hc) ?_|refine qz c0 ?_|refine rix ?_|refine aS ?_|fail)
 rw [if_neg (by simpa using c0)]
 rw [c0] at hc
 repeat' ((conv=>whnf);first|refine rE _ (hc) ?_|refine aN0 ?_|refine aS ?_|fail)
 refine qZ 0 (α:=Nat) (β:=Unit) (fun i=>{sl:=[(0,.t (fds l)),(1,.t (.slice 15 (gs.map sF))),(17,.t (.slice 15 (gs.map sF))),(18,.t (I gs.length)),(19,.t (I i))],bx:=[]})
  (fun i=>i≤gs.length∧ ∀j (h:j<gs.length),j<i→uW l gs[j].pol=0∧ui l gs[j].st=0) (fun i=>gs.length - i)
  (fun _=>{sl:=[(0,.t (fds l)),(1,.t (.slice 15 (gs.map sF)))],bx:=[]}) (fun _=>fz2 (fun g=>uW l g.pol) (fun g=>ui l g.st) gs=0) 0 (by simp) ?_ ?_ ?_
 ·repeat' (first|(exact leI (by simp))|exact trivial|exact LeV.same _|exact rfl|exact fun _ _ _=>trivial|refine And.intro ?_ ?_)
 ·rintro i ⟨hi,hp⟩
  rcases Nat.lt_or_ge i gs.length with h|h
  ·have hm:=hg gs[i] (List.getElem_mem h)
   have h1:=Bd l hl gs[i].pol (by have:=hm.wt;omega) (hm.names (by omega))
   have h2:=Em l hl gs[i].st (hm.st.mono (by omega))
   by_cases c1:uW l gs[i].pol=0
   ·rw [c1] at h1
    by_cases c2:ui l gs[i].st=0
    ·rw [c2] at h2
     repeat' ((conv=>whnf);first|(refine nv_ (.agg (sD gs[i])) (by first|((simp [h];rfl);done)|fail) ?_)|(refine nv_ (.agg (sA gs[i].pol)) (by first|(exact congrArg T.agg (ug gs[i]);done)|fail) ?_)|(refine nv_ (.agg (sK gs[i].st)) (by first|(exact congrArg T.agg (vH gs[i]);done)|fail) ?_)|refine rE _ (h1) ?_|refine rE _ (h2) ?_|refine aN0 ?_|refine aD1 ?_|(refine And.intro (by first|exact ⟨sI _,nlZ rfl⟩|exact sI _|fail) ?_)|refine aS ?_|fail)
     refine ⟨i+1,⟨h,fun j hj hlt=>?_⟩,by omega,?_⟩
     ·rcases Nat.lt_or_ge j i with h4|h4
      ·exact hp j hj h4
      ·obtain rfl:j=i:=by omega
       exact ⟨c1,c2⟩
     ·repeat' (first|exact trivial|exact LeV.same _|exact rfl|exact fun _ _ _=>trivial|exact lI|refine And.intro ?_ ?_)
    ·have e:=z8 (f:=fun g:RG=>uW l g.pol) (g:=fun g=>ui l g.st) h hp c1 c2
     have e2:fz2 (fun g:RG=>uW l g.pol) (fun g=>ui l g.st) gs≠0:=by rw [e];exact c2
     rw [if_pos e2,e]
     clear e e2
     dsimp only
     generalize ui l gs[i].st=x at *
     repeat' ((conv=>whnf);first|exact trivial|(refine nv_ (.agg (sD gs[i])) (by first|((simp [h];rfl);done)|fail) ?_)|(refine nv_ (.agg (sA gs[i].pol)) (by first|(exact congrArg T.agg (ug gs[i]);done)|fail) ?_)|(refine nv_ (.agg (sK gs[i].st)) (by first|(exact congrArg T.agg (vH gs[i]);done)|fail) ?_)|refine rE _ (h1) ?_|refine rE _ (h2) ?_|refine qz c2 ?_|refine aN0 ?_|refine aD1 ?_|refine rix ?_|(refine And.intro (by first|exact ⟨sI _,nlZ rfl⟩|exact sI _|fail) ?_)|refine aS ?_|fail)
   ·have e:=z7 (f:=fun g:RG=>uW l g.pol) (g:=fun g=>ui l g.st) h hp c1
    have e2:fz2 (fun g:RG=>uW l g.pol) (fun g=>ui l g.st) gs≠0:=by rw [e];exact c1
    rw [if_pos e2,e]
    clear e e2
    dsimp only
    generalize uW l gs[i].pol=x at *
    repeat' ((conv=>whnf);first|exact trivial|(refine nv_ (.agg (sD gs[i])) (by first|((simp [h];rfl);done)|fail) ?_)|(refine nv_ (.agg (sA gs[i].pol)) (by first|(exact congrArg T.agg (ug gs[i]);done)|fail) ?_)|refine rE _ (h1) ?_|refine qz c1 ?_|refine aD1 ?_|refine rix ?_|(refine And.intro (by first|exact ⟨sI _,nlZ rfl⟩|exact sI _|fail) ?_)|refine aS ?_|fail)
  ·have e:=zZ (f:=fun g:RG=>uW l g.pol) (g:=fun g=>ui l g.st) (xs:=gs) fun j hj=>hp j hj (by omega)
   repeat' ((conv=>whnf);first|(exact ⟨(),e,by (repeat' (first|exact trivial|exact LeV.same _|exact rfl|exact fun _ _ _=>trivial|refine And.intro ?_ ?_));done⟩)|refine aD0 ?_|refine aS ?_|fail)
 ·rintro _ hz
  have hk:=BH hz
  rw [if_neg (by simpa using hz)]
  have hv:=yD l hl gs hgl fun g hgm=>⟨(hg g hgm).st.mono (by omega),CZ (hk g hgm).2⟩
  cases hq:uw l gs with
  |none=>
   rw [hq] at hv
   have hv:DCalls Tryz.prog 96 [fds l,.slice 15 (gs.map sF)] (.tup [.nilmap,.bool false]):=hv
   repeat' ((conv=>whnf);first|exact trivial|refine rE _ (hv) ?_|refine rix ?_|fail)
  |some st=>
   rw [hq] at hv
   have hv:DCalls Tryz.prog 96 [fds l,.slice 15 (gs.map sF)] (.tup [.mapd false [.str] (st.all.map fun v=>.str v.name) (st.all.map sV),.bool true]):=hv
   repeat' ((conv=>whnf);first|exact trivial|refine rE _ (hv) ?_|refine rix ?_|fail)
end Go.TY
end
noncomputable section
namespace Go.TY
open Go Go.DL Go.Proofs
def KB:aY:=(.seq (.region [oo 2 (.mov (.const .nil))] []) (.seq (.region [mv 3 0,oo 4 (.inl 156 [(.const .nil),(tm 3)]),mv 2 4] []) .ret))
theorem GH:(Tryz.f131.body.bind (bD Tryz.prog 5 [156]))=some KB:=by kernel_rfl
def c87:aY:=(.seq (.region [oo 2 (.mov (.const .nil))] []) (.seq (.region [mv 4 0,oo 5 (.inl 131 [tm 4]),mv 3 5] []) (.seq (.region [mv 6 3,oo 7 (.inl 132 [tm 6])] []) (.seq (.region [mv 8 3,mv 2 8] []) .ret))))
theorem l87:(Tryz.f87.body.bind (bD Tryz.prog 9 [131,132]))=some c87:=by kernel_rfl
def c88:aY:=(.seq (.region [oo 1 (.box 1 (tm 0)),oo 2 (.mov (.const .nilfn))] []) (.seq (.region [oo 3 (.mkfn 133 [tm 1]),mv 2 3] []) .ret))
theorem l88:(Tryz.f88.body.bind (bD Tryz.prog 4 []))=some c88:=by kernel_rfl
def c97:aY:=(.seq (.region [oo 1 (.box 1 (tm 0)),oo 2 (.mov (.const .nilfn))] []) (.seq (.region [oo 3 (.mkfn 138 [tm 1]),mv 2 3] []) .ret))
theorem l97:(Tryz.f97.body.bind (bD Tryz.prog 4 []))=some c97:=by kernel_rfl
def KC:aY:=(.seq (.region [oo 2 (.mov (.const .nil))] []) (.seq (.region [mv 3 0,oo 4 (.inl 159 [(.const .nil),(tm 3)]),mv 2 4] []) .ret))
theorem LW:(Tryz.f134.body.bind (bD Tryz.prog 5 [159]))=some KC:=by kernel_rfl
def c91:aY:=(.seq (.region [oo 2 (.mov (.const .nil))] []) (.seq (.region [mv 4 0,oo 5 (.inl 134 [tm 4]),mv 3 5] []) (.seq (.region [mv 6 3,oo 7 (.inl 135 [tm 6])] []) (.seq (.region [mv 8 3,mv 2 8] []) .ret))))
theorem l91:(Tryz.f91.body.bind (bD Tryz.prog 9 [134,135]))=some c91:=by kernel_rfl
def c92:aY:=(.seq (.region [oo 1 (.box 1 (tm 0)),oo 2 (.mov (.const .nilfn))] []) (.seq (.region [oo 3 (.mkfn 136 [tm 1]),mv 2 3] []) .ret))
theorem l92:(Tryz.f92.body.bind (bD Tryz.prog 4 []))=some c92:=by kernel_rfl
def Gp:aY:=(.seq (.region [ld 4 1,oo 5 (.mrng (tm 4))] []) (.block 0 (.loop (.seq (.region [oo 6 (.mnext (tm 5)),oo 7 (.ext (tm 6) 0)] []) (.seq (.cond (tm 7) .skip (.exit 0)) (.block 1 (.seq (.region [oo 8 (.ment (tm 5)),oo 9 (.ext (tm 8) 0),mv 3 9] []) (.seq (.sem 14 (rg0 3 Tryz.f133.body)) (.cond (tm 13) .ret .skip)))))))))
theorem LV:(Tryz.f133.body.bind (bD Tryz.prog 14 [1000003]))=some Gp:=by kernel_rfl
def Gr:aY:=(.seq (.region [ld 4 1,oo 5 (.mrng (tm 4))] []) (.block 0 (.loop (.seq (.region [oo 6 (.mnext (tm 5)),oo 7 (.ext (tm 6) 0)] []) (.seq (.cond (tm 7) .skip (.exit 0)) (.block 1 (.seq (.region [oo 8 (.ment (tm 5)),oo 9 (.ext (tm 8) 0),mv 3 9] []) (.seq (.sem 14 (rg0 3 Tryz.f138.body)) (.cond (tm 13) .ret .skip)))))))))
theorem LZ:(Tryz.f138.body.bind (bD Tryz.prog 14 [1000003]))=some Gr:=by kernel_rfl
def Gq:aY:=(.seq (.region [ld 4 1,oo 5 (.mrng (tm 4))] []) (.block 0 (.loop (.seq (.region [oo 6 (.mnext (tm 5)),oo 7 (.ext (tm 6) 0)] []) (.seq (.cond (tm 7) .skip (.exit 0)) (.block 1 (.seq (.region [oo 8 (.ment (tm 5)),oo 9 (.ext (tm 8) 0),mv 3 9] []) (.seq (.sem 14 (rg0 3 Tryz.f136.body)) (.cond (tm 13) .ret .skip)))))))))
theorem LX:(Tryz.f136.body.bind (bD Tryz.prog 14 [1000003]))=some Gq:=by kernel_rfl
end Go.TY
end
section
namespace Go.Proofs
open Go.Shelf
def Tryz.Bw:Go.Shelf.Ren:=⟨fun|190=>132|125=>158|258=>157|128=>179|129=>180|302=>170|303=>171|304=>172|305=>173|306=>174|307=>175|308=>176|309=>177|310=>178|333=>200|329=>201|330=>202|334=>203|335=>204|336=>205|344=>215|n=>n,fun|31=>29|9=>9|3=>3|46=>156|0=>0|51=>172|53=>174|4=>4|183=>164|182=>163|131=>169|5=>5|218=>188|222=>192|228=>198|229=>199|n=>n,fun|n=>n⟩
theorem Tryz.BJ:Go.Proofs.Lays.n190 Tryz.prog Tryz.Bw:={
 mixed:=by kernel_rfl
 f125:=Tryz.func158.trans (congrArg some (by kernel_rfl))
 f128:=Tryz.func179.trans (congrArg some (by kernel_rfl))
 f129:=Tryz.func180.trans (congrArg some (by kernel_rfl))
 f190:=Tryz.func132.trans (congrArg some (by kernel_rfl))
 f258:=Tryz.func157.trans (congrArg some (by kernel_rfl))
 f302:=Tryz.func170.trans (congrArg some (by kernel_rfl))
 f303:=Tryz.func171.trans (congrArg some (by kernel_rfl))
 f304:=Tryz.func172.trans (congrArg some (by kernel_rfl))
 f305:=Tryz.func173.trans (congrArg some (by kernel_rfl))
 f306:=Tryz.func174.trans (congrArg some (by kernel_rfl))
 f307:=Tryz.func175.trans (congrArg some (by kernel_rfl))
 f308:=Tryz.func176.trans (congrArg some (by kernel_rfl))
 f309:=Tryz.func177.trans (congrArg some (by kernel_rfl))
 f310:=Tryz.func178.trans (congrArg some (by kernel_rfl))
 f329:=Tryz.func201.trans (congrArg some (by kernel_rfl))
 f330:=Tryz.func202.trans (congrArg some (by kernel_rfl))
 f333:=Tryz.func200.trans (congrArg some (by kernel_rfl))
 f334:=Tryz.func203.trans (congrArg some (by kernel_rfl))
 f335:=Tryz.func204.trans (congrArg some (by kernel_rfl))
 f336:=Tryz.func205.trans (congrArg some (by kernel_rfl))
 f344:=Tryz.func215.trans (congrArg some (by kernel_rfl))
 t0:=Tryz.underlying0
 a0:=Tryz.isAgg0
 z0:=Tryz.sizeOf0
 v0:=Tryz.zeroValue0
 t3:=Tryz.underlying3
 a3:=Tryz.isAgg3
 z3:=Tryz.sizeOf3
 v3:=Tryz.zeroValue3
 t4:=Tryz.underlying4
 a4:=Tryz.isAgg4
 z4:=Tryz.sizeOf4
 v4:=Tryz.zeroValue4
 t5:=Tryz.underlying5
 a5:=Tryz.isAgg5
 z5:=Tryz.sizeOf5
 v5:=Tryz.zeroValue5
 t9:=Tryz.underlying9
 a9:=Tryz.isAgg9
 z9:=Tryz.sizeOf9
 v9:=Tryz.zeroValue9
 t31:=Tryz.underlying29
 a31:=Tryz.isAgg29
 z31:=Tryz.sizeOf29
 v31:=Tryz.zeroValue29
 t46:=Tryz.underlying156
 a46:=Tryz.isAgg156
 z46:=Tryz.sizeOf156
 v46:=Tryz.zeroValue156
 t51:=Tryz.underlying172
 a51:=Tryz.isAgg172
 z51:=Tryz.sizeOf172
 v51:=Tryz.zeroValue172
 t53:=Tryz.underlying174
 a53:=Tryz.isAgg174
 z53:=Tryz.sizeOf174
 v53:=Tryz.zeroValue174
 t131:=Tryz.underlying169
 a131:=Tryz.isAgg169
 z131:=Tryz.sizeOf169
 v131:=Tryz.zeroValue169
 t182:=Tryz.underlying163
 a182:=Tryz.isAgg163
 z182:=Tryz.sizeOf163
 v182:=Tryz.zeroValue163
 t183:=Tryz.underlying164
 a183:=Tryz.isAgg164
 z183:=Tryz.sizeOf164
 v183:=Tryz.zeroValue164
 t218:=Tryz.underlying188
 a218:=Tryz.isAgg188
 z218:=Tryz.sizeOf188
 v218:=Tryz.zeroValue188
 t222:=Tryz.underlying192
 a222:=Tryz.isAgg192
 z222:=Tryz.sizeOf192
 v222:=Tryz.zeroValue192
 t228:=Tryz.underlying198
 a228:=Tryz.isAgg198
 z228:=Tryz.sizeOf198
 v228:=Tryz.zeroValue198
 t229:=Tryz.underlying199
 a229:=Tryz.isAgg199
 z229:=Tryz.sizeOf199
 v229:=Tryz.zeroValue199 }
def Tryz.Bv:Go.Shelf.Ren:=⟨fun|189=>135|125=>158|257=>160|128=>179|129=>180|294=>181|295=>182|296=>183|297=>184|298=>185|299=>186|216=>187|300=>188|301=>189|328=>206|329=>201|330=>202|331=>207|332=>208|215=>209|343=>216|n=>n,fun|28=>46|3=>3|46=>156|0=>0|51=>172|53=>174|4=>4|183=>164|182=>163|131=>169|5=>5|9=>9|218=>188|222=>192|228=>198|229=>199|n=>n,fun|n=>n⟩
theorem Tryz.F0:Go.Proofs.Lays.n189 Tryz.prog Tryz.Bv:={
 mixed:=by kernel_rfl
 f125:=Tryz.func158.trans (congrArg some (by kernel_rfl))
 f128:=Tryz.func179.trans (congrArg some (by kernel_rfl))
 f129:=Tryz.func180.trans (congrArg some (by kernel_rfl))
 f189:=Tryz.func135.trans (congrArg some (by kernel_rfl))
 f215:=Tryz.func209.trans (congrArg some (by kernel_rfl))
 f216:=Tryz.func187.trans (congrArg some (by kernel_rfl))
 f257:=Tryz.func160.trans (congrArg some (by kernel_rfl))
 f294:=Tryz.func181.trans (congrArg some (by kernel_rfl))
 f295:=Tryz.func182.trans (congrArg some (by kernel_rfl))
 f296:=Tryz.func183.trans (congrArg some (by kernel_rfl))
 f297:=Tryz.func184.trans (congrArg some (by kernel_rfl))
 f298:=Tryz.func185.trans (congrArg some (by kernel_rfl))
 f299:=Tryz.func186.trans (congrArg some (by kernel_rfl))
 f300:=Tryz.func188.trans (congrArg some (by kernel_rfl))
 f301:=Tryz.func189.trans (congrArg some (by kernel_rfl))
 f328:=Tryz.func206.trans (congrArg some (by kernel_rfl))
 f329:=Tryz.func201.trans (congrArg some (by kernel_rfl))
 f330:=Tryz.func202.trans (congrArg some (by kernel_rfl))
 f331:=Tryz.func207.trans (congrArg some (by kernel_rfl))
 f332:=Tryz.func208.trans (congrArg some (by kernel_rfl))
 f343:=Tryz.func216.trans (congrArg some (by kernel_rfl))
 t0:=Tryz.underlying0
 a0:=Tryz.isAgg0
 z0:=Tryz.sizeOf0
 v0:=Tryz.zeroValue0
 t3:=Tryz.underlying3
 a3:=Tryz.isAgg3
 z3:=Tryz.sizeOf3
 v3:=Tryz.zeroValue3
 t4:=Tryz.underlying4
 a4:=Tryz.isAgg4
 z4:=Tryz.sizeOf4
 v4:=Tryz.zeroValue4
 t5:=Tryz.underlying5
 a5:=Tryz.isAgg5
 z5:=Tryz.sizeOf5
 v5:=Tryz.zeroValue5
 t9:=Tryz.underlying9
 a9:=Tryz.isAgg9
 z9:=Tryz.sizeOf9
 v9:=Tryz.zeroValue9
 t28:=Tryz.underlying46
 a28:=Tryz.isAgg46
 z28:=Tryz.sizeOf46
 v28:=Tryz.zeroValue46
 t46:=Tryz.underlying156
 a46:=Tryz.isAgg156
 z46:=Tryz.sizeOf156
 v46:=Tryz.zeroValue156
 t51:=Tryz.underlying172
 a51:=Tryz.isAgg172
 z51:=Tryz.sizeOf172
 v51:=Tryz.zeroValue172
 t53:=Tryz.underlying174
 a53:=Tryz.isAgg174
 z53:=Tryz.sizeOf174
 v53:=Tryz.zeroValue174
 t131:=Tryz.underlying169
 a131:=Tryz.isAgg169
 z131:=Tryz.sizeOf169
 v131:=Tryz.zeroValue169
 t182:=Tryz.underlying163
 a182:=Tryz.isAgg163
 z182:=Tryz.sizeOf163
 v182:=Tryz.zeroValue163
 t183:=Tryz.underlying164
 a183:=Tryz.isAgg164
 z183:=Tryz.sizeOf164
 v183:=Tryz.zeroValue164
 t218:=Tryz.underlying188
 a218:=Tryz.isAgg188
 z218:=Tryz.sizeOf188
 v218:=Tryz.zeroValue188
 t222:=Tryz.underlying192
 a222:=Tryz.isAgg192
 z222:=Tryz.sizeOf192
 v222:=Tryz.zeroValue192
 t228:=Tryz.underlying198
 a228:=Tryz.isAgg198
 z228:=Tryz.sizeOf198
 v228:=Tryz.zeroValue198
 t229:=Tryz.underlying199
 a229:=Tryz.isAgg199
 z229:=Tryz.sizeOf199
 v229:=Tryz.zeroValue199 }
end Go.Proofs
end
noncomputable section
namespace Go.TY
open Go Go.DL Go.MM Go.Proofs
abbrev env:ByteArray→T:=T.str
abbrev mpv (ks:List ByteArray) (vs:List T):T:=.mapd false [.str] (ks.map env) vs
def tM (id:Nat) (c:Option Code):Array Oper:=match rg0 id c with
 |.region _ ops _=>ops
 |_=> #[]
abbrev fAv:Option Code:=Tryz.f156.body
abbrev fKv:Option Code:=Tryz.f138.body
theorem bAv:fAv=some (.seq (.region 0 (tM 0 fAv) false) (.seq (.seq (.region 1 (tM 1 fAv) false)
  (.block 0 (.rangeFunc (.tmp 6) #[7] (.region 2 (tM 2 fAv) false) (.block 1 (.region 3 (tM 3 fAv) false))))) (.seq (.region 4 (tM 4 fAv) false) .ret))):=by kernel_rfl
abbrev IF:List DI:=[⟨some 5,.mov (.tmp 7),none,[]⟩]
abbrev IJ:List DI:=[⟨some 8,.load 1 false (.tmp 2),none,[]⟩,⟨some 9,.mov (.tmp 5),none,[]⟩,⟨some 10,.buildS 9 1 1 [.str ⟨#[]⟩] [(0,.tmp 9)],none,[1]⟩,
 ⟨some 11,.append 29 9 1 16 (.tmp 8) (.tmp 10),none,[0,2]⟩,⟨none,.store 1 (.tmp 2) (.tmp 11),none,[3,3,0,1,2,3]⟩]
theorem H7:bX Tryz.prog 13 [] (tM 0 fAv) (tM 0 fAv).toList=some [⟨some 2,.box 1 (.tmp 0),none,[]⟩,⟨some 4,.mov (.const .nil),none,[]⟩]:=by kernel_rfl
theorem Ia:bX Tryz.prog 13 [] (tM 1 fAv) (tM 1 fAv).toList=some [⟨some 6,.mov (.tmp 1),none,[]⟩]:=by kernel_rfl
theorem Ie:bX Tryz.prog 13 [] (tM 2 fAv) (tM 2 fAv).toList=some IF:=by kernel_rfl
theorem Ii:bX Tryz.prog 13 [] (tM 3 fAv) (tM 3 fAv).toList=some IJ:=by kernel_rfl
theorem Il:bX Tryz.prog 13 [] (tM 4 fAv) (tM 4 fAv).toList=some [⟨some 12,.load 1 false (.tmp 2),none,[]⟩,⟨some 4,.mov (.tmp 12),none,[0,0]⟩]:=by kernel_rfl
abbrev yKv:Array Oper:=tM 3 fKv
theorem bKv:rg0 3 fKv= .region 3 yKv false:=by kernel_rfl
theorem Ip:dW Tryz.prog 14 yKv [0,1]=some [⟨some 10,.mov (.tmp 0),none,[]⟩,⟨some 11,.mov (.tmp 3),none,[]⟩]:=by kernel_rfl
theorem Is:dW Tryz.prog 14 yKv [3]=some [⟨some 13,.not (.tmp 12),none,[2]⟩]:=by kernel_rfl
theorem Iw: ∃o ats,yKv[2]? =some o∧o.guard=none∧o.op= .call {callee:=.value (.tmp 10),args:= #[.tmp 11],argTypes:=ats }∧o.dst=some 12:=by
 refine ⟨((tM 3 fKv)[2]?).getD default,(match (((tM 3 fKv)[2]?).getD default).op with|.call c=>c.argTypes|_=> #[]),by kernel_rfl,by kernel_rfl,by kernel_rfl,by kernel_rfl⟩
abbrev GF (l d:Nat) (f:FuncId) (tmps:Array Value):aa→World→Prop:=nr l (cW f tmps 7 (.region 2 (tM 2 fAv) false) (.block 1 (.region 3 (tM 3 fAv) false)) d)
abbrev WKv (l:Nat) (C:aa→World→Prop) (ks:List ByteArray) (vs:List T) (ix:List Nat):Wk:=
 {sl:=[(0,.raw (.func (.yield l) #[] #[])),(5,.ptr 2005 0)],bx:=[(2,.v [.own 3011 9 1 (zx env e0 ks ix)]),(2005,.itd (esK env ks vs) ix)],gh:=[(0,[(2,.ptr 2 0)])],off:=2000,cx:=C }
theorem Gu (l d:Nat) (f:FuncId) (tmps:Array Value) (ht:tmps.size=13) (ks:List ByteArray) (vs:List T) (hvs:vs.length=ks.length) (hl:ks.length<2^40) (st0:St)
  (h0:st0=({sl:=[(2,.ptr 2 0),(6,.fn 138 [.t (.cptr [mpv ks vs] 0)])],bx:=[(2,.v [.own 3011 9 1 []])]}:Wk).mk'):
  wpC Tryz.prog Gr (st0.iter l (cW f tmps 7 (.region 2 (tM 2 fAv) false) (.block 1 (.region 3 (tM 3 fAv) false)) d) [.t (.cptr [mpv ks vs] 0)] 2000)
   (qK st0 fun st=>st.sl 2= .ptr 2 0∧(∃ xs,um env e0 ks xs∧st.bx 2=some (.v [.own 3011 9 1 xs]))∧ ∀S w,st.cx S w):=by
 subst h0
 have hes:(esK env ks vs).length=ks.length:=by simp [hvs]
 repeat' ((conv=>whnf);first|refine nT_ ?_|refine aS ?_|fail)
 refine qZ 0 (α:=List Nat) (β:=List Nat) (fun ix=>WKv l (GF l d f tmps) ks vs ix) (fun ix=>ix.Nodup∧ ∀j∈ix,j<ks.length) (fun ix=>ks.length - ix.length)
  (fun ix=>WKv l (GF l d f tmps) ks vs ix) (fun ix=>ix.Perm (List.range ks.length)) [] ⟨List.nodup_nil,by simp⟩ ?_ ?_ ?_
 ·exact ⟨⟨.same _,.same _,trivial⟩,⟨.same _,.same _,trivial⟩,⟨⟨.same _,trivial⟩,trivial⟩,rfl,fun _ _ h=>h,rfl⟩
 ·rintro ix ⟨hnd,hix⟩
  refine And.intro (fun j hj=>by rw [hes];exact hix j hj) (And.intro ?_ ?_)
  ·intro j e he hj
   obtain ⟨he1,hjl⟩:=zt (d:=e0) he
   have hent:=yF _ ix j e he
   have hje:(ix++[j]).getLast?.getD 0<(esK env ks vs).length:=by rw [List.getLast?_concat,hes];exact hjl
   obtain ⟨e1,e2⟩:=e
   dsimp only at he1 hent
   subst he1
   have hixl:ix.length≤ks.length:=by
    have:=hnd.length_le_of_subset (l₂:=List.range ks.length) (fun j hj=>List.mem_range.2 (hix j hj))
    simpa using this
   have hnd':(ix++[j]).Nodup:=by
    rw [List.nodup_append]
    exact ⟨hnd,by simp,fun a ha b hb=>by rw [List.mem_singleton.1 hb];exact fun e=>hj (e▸ha)⟩
   have hix': ∀i∈ix++[j],i<ks.length:=fun i hi=>by
    rcases List.mem_append.1 hi with h|h
    ·exact hix i h
    ·rw [List.mem_singleton.1 h];exact hjl
   have hixl':(ix++[j]).length≤ks.length:=by
    have:=hnd'.length_le_of_subset (l₂:=List.range ks.length) (fun j hj=>List.mem_range.2 (hix' j hj))
    simpa using this
   repeat' ((conv=>whnf);first|refine nv_ (.tup [env (ks.getD j e0),e2]) hent ?_|(refine And.intro (by first|exact ⟨by simp,hje⟩|fail) ?_)|fail)
   obtain ⟨o,ats,o1,o2,o3,o4⟩:=Iw
   have hsem: ∀(st:St) (Q:aB→St→Prop),p0 Tryz.prog 14 (.region 3 yKv false) st Q→p0 Tryz.prog 14 (rg0 3 fKv) st Q:=fun st Q h=>by rw [bKv];exact h
   refine hsem _ _ ?_
   refine q0 (P:=Tryz.prog) (k1:=[0,1]) (k:=2) (k2:=[3]) (by kernel_rfl) Ip rfl Is rfl o1 o2 o3 o4 (by decide) (p:=7) ht (by decide) Ie rfl Ii rfl 3000 (l:=l) (fn:=f) (dd:=d) (id1:=2) (id2:=3) (bl:=1) ?_
   refine ⟨fun _ _ h=>h,rfl,?_⟩
   repeat' ((conv=>whnf);first|(refine And.intro (by first|exact fun _ _=>trivial|exact ⟨rfl,nlZ rfl⟩|((simp;omega);done)|exact .inl rfl|fail) ?_)|refine aS ?_|fail)
   refine ⟨ix++[j],⟨hnd',hix'⟩,by rw [List.length_append];simp at hixl' ⊢;omega,?_⟩
   refine ⟨⟨.same _,.same _,trivial⟩,⟨?_,.same _,trivial⟩,⟨⟨.same _,trivial⟩,trivial⟩,rfl,fun _ _ h=>h,rfl⟩
   refine .v _ _ ⟨rX ?_,trivial⟩
   simp [zx]
  ·intro hall
   skip
   refine ⟨ix,xG hnd hix (fun j hj=>hall j (by rw [hes];exact hj)),?_⟩
   exact ⟨⟨.same _,.same _,trivial⟩,⟨.same _,.same _,trivial⟩,⟨⟨.same _,trivial⟩,trivial⟩,rfl,fun _ _ h=>h,rfl⟩
 rintro ix hp
 repeat' ((conv=>whnf);first|refine aS ?_|fail)
 exact ⟨⟨_,⟨ix,hp,rfl⟩,rfl⟩,fun _ _=>trivial⟩
abbrev uO (ks:List ByteArray) (vs:List T):T:=.clos 138 [.cptr [mpv ks vs] 0]
theorem Al (ks:List ByteArray) (vs:List T) (hvs:vs.length=ks.length) (hl:ks.length<2^40):fK Tryz.prog 156 [.nil,uO ks vs] 9 1 (um env e0 ks):=by
 refine qm Tryz.func156 bAv rfl (nlZ rfl) ?_
 intro S w a0 hsr hdf
 let K0:St→Prop:=fun st=>aA Tryz.prog [⟨some 6,.mov (.tmp 1),none,[]⟩] st fun st=>
  bP {sl:=[(2,.ptr 2 0),(6,.t (uO ks vs))],bx:=[(2,.d 1 [.nil])]} st
 have hK0:aA Tryz.prog [⟨some 2,.box 1 (.tmp 0),none,[]⟩,⟨some 4,.mov (.const .nil),none,[]⟩] (eU [.nil,uO ks vs]) K0:=by
  repeat' ((conv=>whnf);first|refine aS ?_|fail)
  exact ⟨⟨.same _,.same _,trivial⟩,⟨.same _,trivial⟩,trivial,rfl,fun _ _ _=>trivial,rfl⟩
 refine wp_seq (nE (X:=[]) (N:=13) hsr H7 (fun a1 w1 h1=>?_) hK0)
 obtain ⟨E1,s1,rfl,k1,k2,k3⟩:=h1
 refine wp_seq (wp_seq (nE (X:=[]) k1 Ia (fun a2 w2 h2=>?_) k3))
 obtain ⟨E2,s2,rfl,k4,k5,k6⟩:=h2
 obtain ⟨E3,e3,k7⟩:=k4.bP k6
 rw [← e3]
 have k8:=k7.rG (k:=6) (k7.sl 6).rv
 obtain ⟨E4,e4,k10⟩:=SR.bP (a:=a2) (s:={sl:=[(2,.ptr 2 0),(6,.fn 138 [.t (.cptr [mpv ks vs] 0)])],bx:=[(2,.v [.own 3011 9 1 []])]}) k8 ⟨⟨.same _,.same _,trivial⟩,⟨.dv _ _ _ ⟨.nil _ _ _,trivial⟩,trivial⟩,trivial,rfl,fun _ _ _=>trivial,rfl⟩
 rw [← e4]
 refine wp_block ?_
 refine rh mixed k10 (fun _ _=>trivial) (y:=.tmp 6) rfl (gf:=138) (caps:=[.t (.cptr [mpv ks vs] 0)]) rfl Tryz.func138 LZ rfl rfl rfl (nlZ rfl) 2000
  (K:=fun st=>st.sl 2= .ptr 2 0∧(∃ xs,um env e0 ks xs∧st.bx 2=some (.v [.own 3011 9 1 xs]))∧ ∀S w,st.cx S w) (fun l d f tmps ht=>?_) (fun a5 w5 h5=>?_)
 ·exact Gu l d f tmps ht ks vs hvs hl _ rfl
 ·obtain ⟨S0',E5,s5,D,rfl,q1,q2,q3,q4,q5,q6,r1,⟨xs,hxs,r2⟩,r3⟩:=h5
  have q6':a5.defers=[{target:=.collected D,args:= #[]}]:=by rw [q6,k5,k2,hdf]
  show Code.wp _ _ _ _ _
  refine wp_seq (nE (X:=[]) q1 Il (K:=fun st=>(∀ S w,st.cx S w)∧st.sl 4= .own 3011 9 1 xs) (fun a6 w6 h6=>?_) ?_)
  ·obtain ⟨E6,s6,rfl,p1,p2,p3,p4⟩:=h6
   obtain ⟨js,hjs,rfl⟩:=hxs
   refine wp_ret ⟨.inr rfl,S0',E6,s6,D,rfl,p1,q2,q3,q4,q5,by rw [p2,q6'],p3,_,_,⟨js,hjs,rfl⟩,u7 (fun _=>rfl) (fun _=>rfl) js ks,?_,.inl ⟨3011,rfl⟩⟩
   have:dP s6 Tryz.f156.results.toList=some [s6.sl 4]:=by
    rw [show Tryz.f156.results.toList=[.tmp 4] from rfl];rfl
   rw [this,p4]
  ·obtain ⟨sl5,bx5,gh5,off5,cx5⟩:=s5
   dsimp only at r1 r2 r3
   obtain ⟨g,rfl⟩: ∃g,sl5=upd g 2 (.ptr 2 0):=⟨sl5,(uB r1).symm⟩
   obtain ⟨b,rfl⟩: ∃b,bx5=upd b 2 (some (.v [.own 3011 9 1 xs])):=⟨bx5,(uB r2).symm⟩
   exact ⟨r3,rfl⟩
theorem Ca (ks:List ByteArray) (vs:List T) (hvs:vs.length=ks.length) (hl:ks.length<2^40):fK Tryz.prog 131 [uO ks vs] 9 1 (um env e0 ks):=by
 refine qG (rs:=[.tmp 2]) mixed Tryz.func131 GH rfl rfl rfl (nlZ rfl) ?_
 repeat' ((conv=>whnf);first|refine ru (ts:=[.nil,uO ks vs]) rfl (Al ks vs hvs hl) (fun xs hx=>?_)|fail)
 obtain ⟨js,hjs,rfl⟩:=hx
 exact ⟨_,_,⟨js,hjs,rfl⟩,u7 (fun _=>rfl) (fun _=>rfl) js ks,rfl,.inl ⟨_,rfl⟩⟩
theorem Ei:iz Tryz.prog 132 encStr (fun x y:List UInt8=>decide (x≤y)):=iz.str Tryz.BJ rfl (bQ Tryz.func132 rfl rfl)
theorem Dp (ks:List ByteArray) (vs:List T) (hvs:vs.length=ks.length) (hl:ks.length<2^40) (hn:ks.Nodup):kI Tryz.prog 87 [uO ks vs] (.slice 1 ((vG ks).map env)):=by
 refine qS (rs:=[.tmp 2]) mixed Tryz.func87 l87 rfl rfl rfl (nlZ rfl) ?_
 repeat' ((conv=>whnf);first|refine rf (ts:=[uO ks vs]) rfl (Ca ks vs hvs hl) rfl (fun h0=>?_) (fun xs hx hc=>?_)|fail)
 ·obtain ⟨zs,hp,h0⟩:=u9 h0
  have:zs=[]:=by
   cases zs with
   |nil=>rfl
   |cons z zs=>cases h0
  subst this
  have:ks=[]:=List.nil_perm.1 hp
  subst this
  repeat' ((conv=>whnf);first|refine qc Ei ?_|fail)
  exact ⟨.t .nil,rfl,.nil 1⟩
 ·obtain ⟨zs,hp,rfl⟩:=u9 hx
  have hzl:zs.length<2^40:=by rw [hp.length_eq];exact hl
  have hfl:=zY (enc:=env) (fun _=>rfl) zs
  have hle:(zs.map env).length=zs.length:=List.length_map _
  have hsl:(vG ks).length=zs.length:=by
   have e:=congrArg List.length (yj hn hp)
   simp only [List.length_map,List.length_mergeSort] at e
   omega
  repeat' ((conv=>whnf);first|(refine re (n:=5) (off:=0) (len:=(zs.map env).length) (m:=(zs.map env).length * 1) (ts:=(zs.map env).flatMap T.cells) (encT:=wV) Ei rfl (zs.map ByteArray.toList) ?_ ?_ (by omega) (fun a S w v h=>by cases h;rfl) (fun a S w=>.str _) (fun _=>rfl) ?_)|fail)
  ·rw [hfl,List.drop_zero,List.take_of_length_le (by omega)]
   exact (by rw [List.map_map];exact List.map_congr_left fun z _=>(BG z).symm)
  ·simp
  ·skip
   have e:=yj hn hp
   refine ⟨.view 5 0 (zs.map env).length 1,rfl,.view 5 0 (zs.map env).length 1 ((zs.map env).length * 1) (aN ((zs.map env).flatMap T.cells) 0 (zs.map env).length (((zs.map ByteArray.toList).mergeSort (fun x y:List UInt8=>decide (x≤y))).map wV)) _ [5] rfl ?_ ?_⟩
   ·rw [va (by rw [hfl]),e]
    intro t ht
    obtain ⟨z,_,rfl⟩:=List.mem_map.1 ht
    rfl
   ·show (cond (Nat.blt 0 1&&Nat.ble (0+(zs.map env).length * 1) ((zs.map env).length * 1)) (some (T.slice 1 (chunk 1 (zs.map env).length ((aN ((zs.map env).flatMap T.cells) 0 (zs.map env).length (((zs.map ByteArray.toList).mergeSort (fun x y:List UInt8=>decide (x≤y))).map wV)).drop 0)),[5])) none)=_
    rw [va (by rw [hfl]),e,Nat.zero_add,List.drop_zero,x7 _ _ (by rw [List.length_map];omega)]
    have:Nat.ble ((zs.map env).length * 1) ((zs.map env).length * 1)=true:=Nat.ble_eq_true_of_le (Nat.le_refl _)
    rw [this]
    rfl
theorem Gh (ks:List ByteArray) (vs:List T):DCalls Tryz.prog 97 [mpv ks vs] (uO ks vs):=by
 refine qO (rs:=[.tmp 2]) mixed Tryz.func97 l97 rfl rfl rfl (r:=[uO ks vs]) (nlZ rfl) ?_
 repeat' ((conv=>whnf);first|exact trivial|refine aS ?_|fail)
end Go.TY
end
section
namespace Go.TY
open Go Go.DL Go.MM Go.Proofs
theorem Eu {l:List Fd} {gs:List RG} {st:VS} (h:uw l gs=some st):xt l (tq (gs.map (·.st))) st:=by
 unfold uw at h
 have hs:=zj (ts:=tq (gs.map (·.st))) (xt.start (l:=l))
 rw [List.nil_append] at hs
 by_cases hp:PW l (tq (gs.map (·.st)))
 ·obtain ⟨st',h1,h2⟩:=hs.1 hp
  rw [h1] at h
  cases h;exact h2
 ·rw [hs.2 hp] at h;cases h
def xh (gs:List RG):List ByteArray:=vG (once [] ((tq (gs.map (·.st))).map (·.var)))
def v0:RV:=⟨e0,0,[],0,0⟩
def Ae (l:List Fd) (gs:List RG):List RV:=(xh gs).map fun s=>(wc l (tq (gs.map (·.st))) s).getD v0
theorem EE {ks:List ByteArray} (_:ks.Nodup) {x:ByteArray}:x∈vG ks↔x∈ks:=by
 unfold vG
 exact wq
theorem yi {α:Type} [DecidableEq α] {lt:α→α→Bool} {x:α}: ∀{l:List α},(put lt l x).length≤l.length+1
 |[]=>by simp [put]
 |y::l=>by
  have ih:=yi (lt:=lt) (x:=x) (l:=l)
  have hf:=List.length_filter_le (fun y'=> !decide (y'=x)) (y::l)
  unfold put
  split
  ·simp only [List.length_cons] at *;omega
  ·simp only [List.length_cons] at *;omega
theorem yw {α:Type} [DecidableEq α] {lt:α→α→Bool}: ∀{l acc:List α},(l.foldl (put lt) acc).length≤acc.length+l.length
 |[],_=>by simp
 |x::l,acc=>by
  have h1:=yi (lt:=lt) (x:=x) (l:=acc)
  have h2:=yw (lt:=lt) (l:=l) (acc:=put lt acc x)
  rw [List.foldl_cons,List.length_cons]
  omega
theorem xE {α:Type} [DecidableEq α] {lt:α→α→Bool} {l:List α}:(tu lt l).length≤l.length:=by
 have:=yw (lt:=lt) (l:=l) (acc:=[])
 rw [List.length_nil,Nat.zero_add] at this;exact this
theorem F2 (s:ByteArray) (all:List RV) (v:RV) (h:tc all s=some v):mS zV false (ep (T.str s).cells (esV all))= .agg (vU v):=by
 rw [zw,h];rfl
theorem Dc {all:List RV} {s:ByteArray} (h:s∈all.map (·.name)): ∃v,tc all s=some v:=by
 unfold tc
 obtain ⟨v,hv,rfl⟩:=List.mem_map.1 h
 cases e:all.find? fun x=>decide (x.name=v.name) with
 |some x=>exact ⟨x,rfl⟩
 |none=>
  have:=List.find?_eq_none.1 e v hv
  simp at this
theorem FU (all:List RV):(((all.map fun v=>T.str v.name)).zip (all.map sV))=esV all:=by
 unfold esV
 induction all with
 |nil=>rfl
 |cons x xs ih=>simp only [List.map_cons,List.zip_cons_cons,ih]
theorem BD (l:List Fd) (hl:LOk l) (gs:List RG) (hgl:gs.length<2^39) (hg: ∀g∈gs,SmS (2^40) g.st∧0≤g.st.kind∧g.st.kind≤6) (st:VS) (hst:uw l gs=some st):
  DCalls Tryz.prog 39 [fds l,.slice 15 (gs.map sF)] (.slice 5 ((Ae l gs).map sV)):=by
 refine qO (rs:=[.tmp 4]) mixed Tryz.func39 l39 rfl rfl rfl (r:=[.slice 5 ((Ae l gs).map sV)]) (nlZ rfl) ?_
 have hv:DCalls Tryz.prog 96 [fds l,.slice 15 (gs.map sF)] (.tup [.mapd false [.str] (st.all.map fun v=>.str v.name) (st.all.map sV),.bool true]):=by
  have:=yD l hl gs (by omega) hg
  rw [hst] at this;exact this
 have hi:=Eu hst
 have hnd:(st.all.map (·.name)).Nodup:=by rw [hi.names];exact uK (l:=(tq (gs.map (·.st))).map (·.var)) (acc:=[]) List.nodup_nil
 have hln:(st.all.map (·.name)).length≤gs.length:=by
  rw [hi.names]
  have h1:=vB (l:=(tq (gs.map (·.st))).map (·.var)) (acc:=[])
  have h2:(tq (gs.map (·.st))).length≤gs.length:=by
   unfold tq
   exact Nat.le_trans (List.length_filter_le _ _) (by rw [List.length_map];omega)
  rw [List.length_map,List.length_nil] at h1
  omega
 have hks:=Gh (st.all.map (·.name)) (st.all.map sV)
 have hso:=(Dp (st.all.map (·.name)) (st.all.map sV) (by simp) (by omega) hnd).rD
 have hnm:vG (st.all.map (·.name))=xh gs:=by rw [hi.names];rfl
 have hmem: ∀x∈xh gs, ∃v,tc st.all x=some v:=fun x hx=>by
  rw [← hnm] at hx
  exact Dc ((EE hnd).1 hx)
 have hsum:=hi.look
 have hnl:(xh gs).length<2^40:=by
  have:(xh gs).length≤(st.all.map (·.name)).length:=by rw [← hnm];exact xE
  omega
 rw [hnm] at hso
 have e1:mpv (st.all.map (·.name)) (st.all.map sV)= .mapd false [.str] (st.all.map fun v=>.str v.name) (st.all.map sV):=by unfold mpv;rw [List.map_map];rfl
 rw [e1] at hks
 unfold Ae
 clear hnm hi hnd hln
 generalize xh gs=ns at *
 generalize tq (gs.map (·.st))=ss at *
 have hz:=FU st.all
 generalize uO (st.all.map (·.name)) (st.all.map sV)=kc at *
 repeat' ((conv=>whnf);first|refine rE _ (hv) ?_|refine rE _ (hks) ?_|refine rE _ (hso) ?_|fail)
 refine qZ 0 (α:=Nat) (β:=Unit) (fun i=>{sl:=[(5,.t (.mapd false [.str] (st.all.map fun v=>.str v.name) (st.all.map sV))),(7,.own 29 66 5 ((ns.take i).map fun s=>sV ((wc l ss s).getD v0))),(18,.t (.slice 1 (ns.map env))),(19,.t (I ns.length)),(20,.t (I i))],bx:=[]})
  (fun i=>i≤ns.length) (fun i=>ns.length - i) (fun _=>{sl:=[(7,.t (.slice 5 ((ns.map fun s=>(wc l ss s).getD v0).map sV)))],bx:=[]}) (fun _=>True) 0 (by simp) ?_ ?_ ?_
 ·repeat' (first|(exact leI (by simp))|exact trivial|exact LeV.same _|exact rfl|exact fun _ _ _=>trivial|exact LeV.nil _ _ _|refine And.intro ?_ ?_)
 ·rintro i hi
  rcases Nat.lt_or_ge i ns.length with h|h
  ·obtain ⟨v,hv⟩:=hmem ns[i] (List.getElem_mem h)
   have hk:=F2 ns[i] st.all v hv
   rw [← hz] at hk
   have hv2:(wc l ss ns[i]).getD v0=v:=by rw [← hsum,hv];rfl
   have ht:ns.take (i+1)=ns.take i++[ns[i]]:=by rw [List.take_succ_eq_append_getElem h]
   repeat' ((conv=>whnf);first|(refine nv_ (.str ns[i]) (by first|(simp [h];done)|fail) ?_)|(refine nv_ (.agg (vU v)) (by first|exact hk|fail) ?_)|refine nT_ ?_|refine aD1 ?_|(refine And.intro (by first|exact ⟨rfl,trivial⟩|((simp only [List.length_map,List.length_take];omega);done)|fail) ?_)|refine aS ?_|fail)
   refine ⟨i+1,h,by omega,?_⟩
   repeat' (first|(exact rX (by rw [ht,List.map_append];exact congrArg (_++ ·) (congrArg (fun c=>[sV c]) hv2)))|exact trivial|exact LeV.same _|exact rfl|exact fun _ _ _=>trivial|exact lI|refine And.intro ?_ ?_)
  ·have:i=ns.length:=by omega
   subst this
   rw [List.take_length]
   repeat' ((conv=>whnf);first|(exact ⟨(),trivial,by (repeat' (first|(exact Da (by rw [List.map_map];rfl))|exact trivial|exact rfl|exact fun _ _ _=>trivial|refine And.intro ?_ ?_));done⟩)|refine aD0 ?_|refine aS ?_|fail)
 ·rintro _ _
  repeat' ((conv=>whnf);first|exact trivial|refine aS ?_|fail)
end Go.TY
end
noncomputable section
namespace Go.TY
open Go Go.DL Go.Proofs
def c22:aY:=(.seq (.region [oo 4 (.mov kF)] []) (.seq (.seq (.region [mv 6 0,ln 7 6,mv 8 1,ln 9 8,oo 10 (.bin .neq (tm 7) (tm 9))] []) (.cond (tm 10) (.seq (.region [oo 4 (.mov kF)] []) .ret) .skip)) (.seq (.seq (.region [oo 5 (.mov (Kc 0))] []) (.block 0 (.loop (.seq (.seq (.region [mv 11 5,mv 12 0,ln 13 12,oo 14 (.bin .lss (tm 11) (tm 13))] []) (.cond (tm 14) .skip (.exit 0))) (.seq (.block 1 (.seq (.region [mv 17 0,mv 18 5,ix 19 1 17 18,ld 20 19,mv 21 1,mv 22 5,ix 23 1 21 22,ld 24 23,oo 25 (.bin .neq (tm 20) (tm 24))] []) (.cond (tm 25) (.seq (.region [oo 4 (.mov kF)] []) .ret) .skip))) (.region [mv 15 5,oo 16 (.bin .add (tm 15) (Kc 1)),mv 5 16] [])))))) (.seq (.region [oo 4 (.mov kT)] []) .ret))))
theorem l22:(Tryz.f22.body.bind (bD Tryz.prog 26 []))=some c22:=by kernel_rfl
def c27:aY:=(.seq (.region [oo 4 (.mov kF)] []) (.seq (.seq (.region [mv 6 0,ln 7 6,mv 8 1,ln 9 8,oo 10 (.bin .neq (tm 7) (tm 9))] []) (.cond (tm 10) (.seq (.region [oo 4 (.mov kF)] []) .ret) .skip)) (.seq (.seq (.region [oo 5 (.mov (Kc 0))] []) (.block 0 (.loop (.seq (.seq (.region [mv 11 5,mv 12 0,ln 13 12,oo 14 (.bin .lss (tm 11) (tm 13))] []) (.cond (tm 14) .skip (.exit 0))) (.seq (.block 1 (.seq (.region [mv 17 0,mv 18 5,ix 19 1 17 18,ld 20 19,mv 21 1,mv 22 5,ix 23 1 21 22,ld 24 23,oo 25 (.bin .neq (tm 20) (tm 24))] []) (.cond (tm 25) (.seq (.region [oo 4 (.mov kF)] []) .ret) .skip))) (.region [mv 15 5,oo 16 (.bin .add (tm 15) (Kc 1)),mv 5 16] [])))))) (.seq (.region [oo 4 (.mov kT)] []) .ret))))
theorem l27:(Tryz.f27.body.bind (bD Tryz.prog 26 []))=some c27:=by kernel_rfl
def c42:aY:=(.seq (.region [oo 2 (.box 5 (tm 0)),oo 3 (.box 5 (tm 1)),oo 4 (.mov kF)] []) (.seq (.region [fa 6 2 2,ld 7 6,fa 8 2 3,ld 9 8,oo 10 (.call 27 [(tm 7),(tm 9)]),mv 5 10] []) (.seq (.region [mv 11 5,mv 12 11,oT 13 12 (.offA 0 (tm 2)),oT 14 12 (.load 1 false (tm 13)),oT 15 12 (.offA 0 (tm 3)),oT 16 12 (.load 1 false (tm 15)),oT 17 12 (.bin .eql (tm 14) (tm 16)),oo 18 (.pick (tm 12) (tm 17) kF),mv 19 18,oT 20 19 (.offA 1 (tm 2)),oT 21 19 (.load 1 false (tm 20)),oT 22 19 (.offA 1 (tm 3)),oT 23 19 (.load 1 false (tm 22)),oT 24 19 (.bin .eql (tm 21) (tm 23)),oo 25 (.pick (tm 19) (tm 24) kF),mv 26 25,oT 27 26 (.offA 3 (tm 2)),oT 28 26 (.load 1 false (tm 27)),oT 29 26 (.offA 3 (tm 3)),oT 30 26 (.load 1 false (tm 29)),oT 31 26 (.bin .eql (tm 28) (tm 30)),oo 32 (.pick (tm 26) (tm 31) kF),mv 33 32,oT 34 33 (.offA 4 (tm 2)),oT 35 33 (.load 1 false (tm 34)),oT 36 33 (.offA 4 (tm 3)),oT 37 33 (.load 1 false (tm 36)),oT 38 33 (.bin .eql (tm 35) (tm 37)),oo 39 (.pick (tm 33) (tm 38) kF),mv 4 39] []) .ret)))
theorem l42:(Tryz.f42.body.bind (bD Tryz.prog 40 []))=some c42:=by kernel_rfl
def c45:aY:=(.seq (.region [oo 4 (.mov kF)] []) (.seq (.seq (.region [mv 7 0,ln 8 7,mv 9 1,ln 10 9,oo 11 (.bin .neq (tm 8) (tm 10))] []) (.cond (tm 11) (.seq (.region [oo 4 (.mov kF)] []) .ret) .skip)) (.seq (.seq (.region [oo 5 (.mov (Kc 0))] []) (.block 0 (.loop (.seq (.seq (.region [mv 12 5,mv 13 0,ln 14 13,oo 15 (.bin .lss (tm 12) (tm 14))] []) (.cond (tm 15) .skip (.exit 0))) (.seq (.block 1 (.seq (.region [mv 18 0,mv 19 5,ix 20 5 18 19,lA 21 5 20,mv 22 1,mv 23 5,ix 24 5 22 23,lA 25 5 24,oo 26 (.call 42 [(tm 21),(tm 25)]),mv 6 26] []) (.seq (.region [mv 27 6,oo 28 (.not (tm 27))] []) (.cond (tm 28) (.seq (.region [oo 4 (.mov kF)] []) .ret) .skip)))) (.region [mv 16 5,oo 17 (.bin .add (tm 16) (Kc 1)),mv 5 17] [])))))) (.seq (.region [oo 4 (.mov kT)] []) .ret))))
theorem l45:(Tryz.f45.body.bind (bD Tryz.prog 29 []))=some c45:=by kernel_rfl
def c51:aY:=(.seq (.region [oo 2 (.box 5 (tm 0)),oo 3 (.box 5 (tm 1)),oo 4 (.mov kF)] []) (.seq (.seq (.region [fa 7 0 2,ld 8 7,fa 9 0 3,ld 10 9,oo 11 (.bin .neq (tm 8) (tm 10)),mv 12 11,oF 13 12 (.offA 1 (tm 2)),oF 14 12 (.load 1 false (tm 13)),oF 15 12 (.offA 1 (tm 3)),oF 16 12 (.load 1 false (tm 15)),oF 17 12 (.bin .neq (tm 14) (tm 16)),oo 18 (.pick (tm 12) kT (tm 17)),mv 19 18,oF 20 19 (.offA 2 (tm 2)),oF 21 19 (.load 1 false (tm 20)),oF 22 19 (.offA 2 (tm 3)),oF 23 19 (.load 1 false (tm 22)),oF 24 19 (.bin .neq (tm 21) (tm 23)),oo 25 (.pick (tm 19) kT (tm 24)),mv 26 25,oF 27 26 (.offA 3 (tm 2)),oF 28 26 (.load 1 false (tm 27)),oF 29 26 (.offA 3 (tm 3)),oF 30 26 (.load 1 false (tm 29)),oF 31 26 (.bin .neq (tm 28) (tm 30)),oo 32 (.pick (tm 26) kT (tm 31)),mv 33 32,oF 34 33 (.offA 4 (tm 2)),oF 35 33 (.load 1 false (tm 34)),oF 36 33 (.len (tm 35)),oF 37 33 (.offA 4 (tm 3)),oF 38 33 (.load 1 false (tm 37)),oF 39 33 (.len (tm 38)),oF 40 33 (.bin .neq (tm 36) (tm 39)),oo 41 (.pick (tm 33) kT (tm 40))] []) (.cond (tm 41) (.seq (.region [oo 4 (.mov kF)] []) .ret) .skip)) (.seq (.seq (.region [oo 5 (.mov (Kc 0))] []) (.block 0 (.loop (.seq (.seq (.region [mv 42 5,fa 43 4 2,ld 44 43,ln 45 44,oo 46 (.bin .lss (tm 42) (tm 45))] []) (.cond (tm 46) .skip (.exit 0))) (.seq (.block 1 (.seq (.region [fa 49 4 2,ld 50 49,mv 51 5,ix 52 5 50 51,lA 53 5 52,fa 54 4 3,ld 55 54,mv 56 5,ix 57 5 55 56,lA 58 5 57,oo 59 (.call 51 [(tm 53),(tm 58)]),mv 6 59] []) (.seq (.region [mv 60 6,oo 61 (.not (tm 60))] []) (.cond (tm 61) (.seq (.region [oo 4 (.mov kF)] []) .ret) .skip)))) (.region [mv 47 5,oo 48 (.bin .add (tm 47) (Kc 1)),mv 5 48] [])))))) (.seq (.region [oo 4 (.mov kT)] []) .ret))))
theorem l51:(Tryz.f51.body.bind (bD Tryz.prog 62 []))=some c51:=by kernel_rfl
def c48:aY:=(.seq (.region [oo 2 (.box 9 (tm 0)),oo 3 (.box 9 (tm 1)),oo 4 (.mov kF)] []) (.seq (.region [fa 8 1 2,lA 9 5 8,fa 10 1 3,lA 11 5 10,oo 12 (.call 51 [(tm 9),(tm 11)]),mv 5 12] []) (.seq (.seq (.region [mv 13 5,oo 14 (.not (tm 13)),mv 15 14,oF 16 15 (.offA 0 (tm 2)),oF 17 15 (.load 1 false (tm 16)),oF 18 15 (.offA 0 (tm 3)),oF 19 15 (.load 1 false (tm 18)),oF 20 15 (.bin .neq (tm 17) (tm 19)),oo 21 (.pick (tm 15) kT (tm 20)),mv 22 21,oF 23 22 (.offA 6 (tm 2)),oF 24 22 (.load 1 false (tm 23)),oF 25 22 (.offA 6 (tm 3)),oF 26 22 (.load 1 false (tm 25)),oF 27 22 (.bin .neq (tm 24) (tm 26)),oo 28 (.pick (tm 22) kT (tm 27)),mv 29 28,oF 30 29 (.offA 7 (tm 2)),oF 31 29 (.load 1 false (tm 30)),oF 32 29 (.offA 7 (tm 3)),oF 33 29 (.load 1 false (tm 32)),oF 34 29 (.bin .neq (tm 31) (tm 33)),oo 35 (.pick (tm 29) kT (tm 34)),mv 36 35,oF 37 36 (.offA 8 (tm 2)),oF 38 36 (.load 1 false (tm 37)),oF 39 36 (.len (tm 38)),oF 40 36 (.offA 8 (tm 3)),oF 41 36 (.load 1 false (tm 40)),oF 42 36 (.len (tm 41)),oF 43 36 (.bin .neq (tm 39) (tm 42)),oo 44 (.pick (tm 36) kT (tm 43))] []) (.cond (tm 44) (.seq (.region [oo 4 (.mov kF)] []) .ret) .skip)) (.seq (.seq (.region [oo 6 (.mov (Kc 0))] []) (.block 0 (.loop (.seq (.seq (.region [mv 45 6,fa 46 8 2,ld 47 46,ln 48 47,oo 49 (.bin .lss (tm 45) (tm 48))] []) (.cond (tm 49) .skip (.exit 0))) (.seq (.block 1 (.seq (.region [fa 52 8 2,ld 53 52,mv 54 6,ix 55 9 53 54,lA 56 9 55,fa 57 8 3,ld 58 57,mv 59 6,ix 60 9 58 59,lA 61 9 60,oo 62 (.call 48 [(tm 56),(tm 61)]),mv 7 62] []) (.seq (.region [mv 63 7,oo 64 (.not (tm 63))] []) (.cond (tm 64) (.seq (.region [oo 4 (.mov kF)] []) .ret) .skip)))) (.region [mv 50 6,oo 51 (.bin .add (tm 50) (Kc 1)),mv 6 51] [])))))) (.seq (.region [oo 4 (.mov kT)] []) .ret)))))
theorem l48:(Tryz.f48.body.bind (bD Tryz.prog 65 []))=some c48:=by kernel_rfl
def Kg:aY:=(.seq (.region [oo 2 (.box 6 (tm 0)),oo 3 (.box 6 (tm 1)),oo 4 (.mov kF)] []) (.seq (.seq (.region [fa 6 0 2,ld 7 6,fa 8 0 3,ld 9 8,oo 10 (.bin .neq (tm 7) (tm 9)),mv 11 10,oF 12 11 (.offA 1 (tm 2)),oF 13 11 (.load 1 false (tm 12)),oF 14 11 (.offA 1 (tm 3)),oF 15 11 (.load 1 false (tm 14)),oF 16 11 (.bin .neq (tm 13) (tm 15)),oo 17 (.pick (tm 11) kT (tm 16)),mv 18 17,oF 19 18 (.offA 3 (tm 2)),oF 20 18 (.load 1 false (tm 19)),oF 21 18 (.offA 3 (tm 3)),oF 22 18 (.load 1 false (tm 21)),oF 23 18 (.bin .neq (tm 20) (tm 22)),oo 24 (.pick (tm 18) kT (tm 23)),mv 25 24,oF 26 25 (.offA 4 (tm 2)),oF 27 25 (.load 1 false (tm 26)),oF 28 25 (.offA 4 (tm 3)),oF 29 25 (.load 1 false (tm 28)),oF 30 25 (.bin .neq (tm 27) (tm 29)),oo 31 (.pick (tm 25) kT (tm 30)),mv 32 31,oF 33 32 (.offA 5 (tm 2)),oF 34 32 (.load 1 false (tm 33)),oF 35 32 (.offA 5 (tm 3)),oF 36 32 (.load 1 false (tm 35)),oF 37 32 (.bin .neq (tm 34) (tm 36)),oo 38 (.pick (tm 32) kT (tm 37)),mv 39 38,oF 40 39 (.offA 2 (tm 2)),oF 41 39 (.load 1 false (tm 40)),oF 42 39 (.len (tm 41)),oF 43 39 (.offA 2 (tm 3)),oF 44 39 (.load 1 false (tm 43)),oF 45 39 (.len (tm 44)),oF 46 39 (.bin .neq (tm 42) (tm 45)),oo 47 (.pick (tm 39) kT (tm 46))] []) (.cond (tm 47) (.seq (.region [oo 4 (.mov kF)] []) .ret) .skip)) (.seq (.seq (.region [oo 5 (.mov (Kc 0))] []) (.block 0 (.loop (.seq (.seq (.region [mv 48 5,fa 49 2 2,ld 50 49,ln 51 50,oo 52 (.bin .lss (tm 48) (tm 51))] []) (.cond (tm 52) .skip (.exit 0))) (.seq (.block 1 (.seq (.region [fa 55 2 2,ld 56 55,mv 57 5,ix 58 1 56 57,ld 59 58,fa 60 2 3,ld 61 60,mv 62 5,ix 63 1 61 62,ld 64 63,oo 65 (.bin .neq (tm 59) (tm 64))] []) (.cond (tm 65) (.seq (.region [oo 4 (.mov kF)] []) .ret) .skip))) (.region [mv 53 5,oo 54 (.bin .add (tm 53) (Kc 1)),mv 5 54] [])))))) (.seq (.region [oo 4 (.mov kT)] []) .ret))))
theorem Ly:(Tryz.f104.body.bind (bD Tryz.prog 66 []))=some Kg:=by kernel_rfl
def c54:aY:=(.seq (.region [oo 4 (.mov kF)] []) (.seq (.seq (.region [mv 8 0,ln 9 8,mv 10 1,ln 11 10,oo 12 (.bin .neq (tm 9) (tm 11))] []) (.cond (tm 12) (.seq (.region [oo 4 (.mov kF)] []) .ret) .skip)) (.seq (.seq (.region [oo 5 (.mov (Kc 0))] []) (.block 0 (.loop (.seq (.seq (.region [mv 13 5,mv 14 0,ln 15 14,oo 16 (.bin .lss (tm 13) (tm 15))] []) (.cond (tm 16) .skip (.exit 0))) (.seq (.block 1 (.seq (.region [mv 19 0,mv 20 5,ix 21 15 19 20,oo 22 (.nar 9 (tm 21)),lA 23 9 22,mv 24 1,mv 25 5,ix 26 15 24 25,oo 27 (.nar 9 (tm 26)),lA 28 9 27,oo 29 (.call 48 [(tm 23),(tm 28)]),mv 6 29] []) (.seq (.region [mv 30 0,mv 31 5,ix 32 15 30 31,fa 33 9 32,lA 34 6 33,mv 35 1,mv 36 5,ix 37 15 35 36,fa 38 9 37,lA 39 6 38,oo 40 (.call 104 [(tm 34),(tm 39)]),mv 7 40] []) (.seq (.region [mv 41 6,oo 42 (.not (tm 41)),mv 43 42,mF 44 7 43,oF 45 43 (.not (tm 44)),oo 46 (.pick (tm 43) kT (tm 45))] []) (.cond (tm 46) (.seq (.region [oo 4 (.mov kF)] []) .ret) .skip))))) (.region [mv 17 5,oo 18 (.bin .add (tm 17) (Kc 1)),mv 5 18] [])))))) (.seq (.region [oo 4 (.mov kT)] []) .ret))))
theorem l54:(Tryz.f54.body.bind (bD Tryz.prog 47 [2000022000009,2000027000009]))=some c54:=by kernel_rfl
def c93:aY:=(.seq (.region [oo 4 (.mov (.const .nil))] []) (.seq (.region [oo 5 (.mov (.const .nil))] []) (.seq (.region [oo 6 (.mov kF)] []) (.seq (.seq (.region [oo 7 (.mov (Kc 0))] []) (.block 0 (.loop (.seq (.cut (.seq (.region [mv 8 7,mv 9 0,ln 10 9,oo 11 (.bin .lss (tm 8) (tm 10))] []) (.cond (tm 11) .skip (.exit 0)))) (.seq (.block 1 (.seq (.cut (.seq (.region [mv 14 0,mv 15 7,ix 16 1 14 15,ld 17 16,mv 18 1,oo 19 (.bin .geq (tm 17) (tm 18)),mv 20 19,mT 21 6 20,oT 22 20 (.not (tm 21)),oo 23 (.pick (tm 20) (tm 22) kF)] []) (.cond (tm 23) (.seq (.region [mv 24 5,mv 25 1,oo 26 (.buildF 1 1 [Z0] [(0,(tm 25))]),oo 27 (.append 46 3 1 8 (tm 24) (tm 26)),mv 5 27] []) (.region [oo 6 (.mov kT)] [])) .skip))) (.seq (.region [mv 28 0,mv 29 7,ix 30 1 28 29,ld 31 30,mv 32 1,oo 33 (.bin .neq (tm 31) (tm 32))] []) (.cond (tm 33) (.region [mv 34 5,mv 35 0,mv 36 7,ix 37 1 35 36,ld 38 37,oo 39 (.buildF 1 1 [Z0] [(0,(tm 38))]),oo 40 (.append 46 3 1 8 (tm 34) (tm 39)),mv 5 40] []) .skip)))) (.region [mv 12 7,oo 13 (.bin .add (tm 12) (Kc 1)),mv 7 13] [])))))) (.seq (.seq (.region [mv 41 6,oo 42 (.not (tm 41))] []) (.cond (tm 42) (.region [mv 43 5,mv 44 1,oo 45 (.buildF 1 1 [Z0] [(0,(tm 44))]),oo 46 (.append 46 3 1 8 (tm 43) (tm 45)),mv 5 46] []) .skip)) (.seq (.region [mv 47 5,mv 4 47] []) .ret))))))
theorem l93:(Tryz.f93.body.bind (bD Tryz.prog 48 [5000004,5000006,8000026,8000039,8000045]))=some c93:=by kernel_rfl
def c89:aY:=(.seq (.region [oo 1 (.box 9 (tm 0)),oo 2 (.mov (.const .nil))] []) (.seq (.region [oo 3 (.mov (.const .nil))] []) (.seq (.region [lA 6 9 1,oo 7 (.call 76 [tm 6]),mv 4 7] []) (.seq (.seq (.region [oo 5 (.mov (Kc 0))] []) (.block 0 (.loop (.seq (.seq (.region [mv 8 5,mv 9 4,ln 10 9,oo 11 (.bin .lss (tm 8) (tm 10))] []) (.cond (tm 11) .skip (.exit 0))) (.seq (.block 1 (.seq (.region [mv 14 4,mv 15 5,ix 16 9 14 15,fa 17 0 16,ld 18 17,oo 19 (.bin .eql (tm 18) (Kc 1))] []) (.cond (tm 19) (.region [mv 20 3,mv 21 4,mv 22 5,ix 23 9 21 22,fa 24 1 23,lA 25 5 24,oo 26 (.call 111 [tm 25]),oo 27 (.append 23 25 5 64 (tm 20) (tm 26)),mv 3 27] []) .skip))) (.region [mv 12 5,oo 13 (.bin .add (tm 12) (Kc 1)),mv 5 13] [])))))) (.seq (.region [mv 28 3,mv 2 28] []) .ret)))))
theorem l89:(Tryz.f89.body.bind (bD Tryz.prog 29 []))=some c89:=by kernel_rfl
def c58:aY:=(.seq (.region [oo 2 (.mov (.const .nil))] []) (.seq (.region [oo 3 (.mov (.const .nil))] []) (.seq (.seq (.region [oo 4 (.mov (Kc 0))] []) (.block 0 (.loop (.seq (.seq (.region [mv 7 4,mv 8 0,ln 9 8,oo 10 (.bin .lss (tm 7) (tm 9))] []) (.cond (tm 10) .skip (.exit 0))) (.seq (.block 1 (.seq (.region [mv 13 0,mv 14 4,ix 15 15 13 14,oo 16 (.nar 9 (tm 15)),lA 17 9 16,oo 18 (.call 89 [tm 17]),mv 5 18] []) (.seq (.region [oo 6 (.mov (Kc 0))] []) (.block 2 (.loop (.seq (.seq (.region [mv 19 6,mv 20 5,ln 21 20,oo 22 (.bin .lss (tm 19) (tm 21))] []) (.cond (tm 22) .skip (.exit 2))) (.seq (.block 3 (.seq (.region [mv 25 5,mv 26 6,ix 27 5 25 26,fa 28 0 27,ld 29 28,oo 30 (.bin .eql (tm 29) (Kc 9))] []) (.cond (tm 30) (.seq (.region [mv 31 3,mv 32 5,mv 33 6,ix 34 5 32 33,fa 35 2 34,ld 36 35,oo 37 (.call 93 [(tm 31),(tm 36)]),mv 3 37] []) (.region [mv 38 3,mv 39 5,mv 40 6,ix 41 5 39 40,fa 42 3 41,ld 43 42,oo 44 (.call 93 [(tm 38),(tm 43)]),mv 3 44] [])) .skip))) (.region [mv 23 6,oo 24 (.bin .add (tm 23) (Kc 1)),mv 6 24] [])))))))) (.region [mv 11 4,oo 12 (.bin .add (tm 11) (Kc 1)),mv 4 12] [])))))) (.seq (.region [mv 45 3,mv 2 45] []) .ret))))
theorem l58:(Tryz.f58.body.bind (bD Tryz.prog 46 [2000016000009]))=some c58:=by kernel_rfl
def c53:aY:=(.seq (.region [oo 2 (.box 5 (tm 0)),⟨some 4,.alloc [Z0,S0,Z0,Z0,.nil],none,[]⟩] []) (.seq (.seq (.region [fa 7 0 2,ld 8 7,oo 9 (.bin .eql (tm 8) (Kc 9))] []) (.cond (tm 9) (.seq (.seq (.region [fa 10 2 2,ld 11 10,mv 12 1,oo 13 (.bin .leq (tm 11) (tm 12)),mv 14 13,mT 15 1 14,oT 16 14 (.offA 3 (tm 2)),oT 17 14 (.load 1 false (tm 16)),oT 18 14 (.bin .lss (tm 15) (tm 17)),oo 19 (.pick (tm 14) (tm 18) kF)] []) (.cond (tm 19) (.seq (.region [⟨some 20,.build [Z0,S0,Z0,Z0,.nil] [(0,1,(Kc 1))],none,[]⟩,o0 (.store 5 (tm 4) (tm 20))] []) .ret) .skip)) (.seq (.region [⟨some 21,.build [Z0,S0,Z0,Z0,.nil] [(0,1,(Kc 2))],none,[]⟩,o0 (.store 5 (tm 4) (tm 21))] []) .ret)) .skip)) (.seq (.region [oo 5 (.mov (.const .nil))] []) (.seq (.seq (.region [oo 6 (.mov (Kc 0))] []) (.block 0 (.loop (.seq (.seq (.region [mv 22 6,fa 23 4 2,ld 24 23,ln 25 24,oo 26 (.bin .lss (tm 22) (tm 25))] []) (.cond (tm 26) .skip (.exit 0))) (.seq (.block 1 (.region [mv 29 5,fa 30 4 2,ld 31 30,mv 32 6,ix 33 5 31 32,lA 34 5 33,mv 35 1,oo 36 (.call 53 [(tm 34),(tm 35)]),⟨some 37,.buildF 5 1 [Z0,S0,Z0,Z0,.nil] [(0,(tm 36))],none,[]⟩,oo 38 (.append 23 25 5 64 (tm 29) (tm 37)),mv 5 38] [])) (.region [mv 27 6,oo 28 (.bin .add (tm 27) (Kc 1)),mv 6 28] [])))))) (.seq (.region [mv 39 5,fa 40 4 2,o0 (.store 1 (tm 40) (tm 39))] []) (.seq (.region [lA 41 5 2,o0 (.store 5 (tm 4) (tm 41))] []) .ret))))))
theorem l53:(Tryz.f53.body.bind (bD Tryz.prog 42 [8000037]))=some c53:=by kernel_rfl
def c50:aY:=(.seq (.region [oo 2 (.box 9 (tm 0)),⟨some 4,.alloc [Z0,Z0,S0,Z0,Z0,.nil,S0,Z0,.nil],none,[]⟩] []) (.seq (.region [fa 7 1 2,lA 8 5 7,mv 9 1,oo 10 (.call 53 [(tm 8),(tm 9)]),fa 11 1 2,o0 (.store 5 (tm 11) (tm 10))] []) (.seq (.region [oo 5 (.mov (.const .nil))] []) (.seq (.seq (.region [oo 6 (.mov (Kc 0))] []) (.block 0 (.loop (.seq (.seq (.region [mv 12 6,fa 13 8 2,ld 14 13,ln 15 14,oo 16 (.bin .lss (tm 12) (tm 15))] []) (.cond (tm 16) .skip (.exit 0))) (.seq (.block 1 (.region [mv 19 5,fa 20 8 2,ld 21 20,mv 22 6,ix 23 9 21 22,lA 24 9 23,mv 25 1,oo 26 (.call 50 [(tm 24),(tm 25)]),⟨some 27,.buildF 9 1 [Z0,Z0,S0,Z0,Z0,.nil,S0,Z0,.nil] [(0,(tm 26))],none,[]⟩,oo 28 (.append 26 28 9 120 (tm 19) (tm 27)),mv 5 28] [])) (.region [mv 17 6,oo 18 (.bin .add (tm 17) (Kc 1)),mv 6 18] [])))))) (.seq (.region [mv 29 5,fa 30 8 2,o0 (.store 1 (tm 30) (tm 29))] []) (.seq (.region [lA 31 9 2,o0 (.store 9 (tm 4) (tm 31))] []) .ret))))))
theorem l50:(Tryz.f50.body.bind (bD Tryz.prog 32 [8000027]))=some c50:=by kernel_rfl
def c56:aY:=(.seq (.region [oo 4 (.mov (.const .nil))] []) (.seq (.region [oo 5 (.mov (.const .nil))] []) (.seq (.seq (.region [oo 6 (.mov (Kc 0))] []) (.block 0 (.loop (.seq (.seq (.region [mv 7 6,mv 8 0,ln 9 8,oo 10 (.bin .lss (tm 7) (tm 9))] []) (.cond (tm 10) .skip (.exit 0))) (.seq (.block 1 (.region [mv 13 5,mv 14 0,mv 15 6,ix 16 15 14 15,oo 17 (.nar 9 (tm 16)),lA 18 9 17,mv 19 1,oo 20 (.call 50 [(tm 18),(tm 19)]),mv 21 0,mv 22 6,ix 23 15 21 22,fa 24 9 23,lA 25 6 24,⟨some 26,.build [Z0,Z0,S0,Z0,Z0,.nil,S0,Z0,.nil,Z0,S0,.nil,S0,Z0,Z0] [(0,9,(tm 20)),(9,6,(tm 25))],none,[]⟩,⟨some 27,.buildT 15 1 [Z0,Z0,S0,Z0,Z0,.nil,S0,Z0,.nil,Z0,S0,.nil,S0,Z0,Z0] [(0,(tm 26))],none,[]⟩,oo 28 (.append 56 61 15 200 (tm 13) (tm 27)),mv 5 28] [])) (.region [mv 11 6,oo 12 (.bin .add (tm 11) (Kc 1)),mv 6 12] [])))))) (.seq (.region [mv 29 5,mv 4 29] []) .ret))))
theorem l56:(Tryz.f56.body.bind (bD Tryz.prog 30 [2000017000009]))=some c56:=by kernel_rfl
def Ky:aY:=(.seq (.region [oo 1 (.box 6 (tm 0)),oo 2 (.mov kF)] []) (.seq (.region [lA 9 6 1,⟨some 10,.build [Z0,S0,.nil,S0,Z0,Z0] [],none,[]⟩,oo 11 (.call 104 [(tm 9),(tm 10)]),mv 3 11] []) (.seq (.seq (.region [mv 12 3] []) (.cond (tm 12) (.seq (.region [oo 2 (.mov kT)] []) .ret) .skip)) (.seq (.region [fa 13 1 1,ld 14 13,oo 15 (.call 155 [tm 14]),mv 4 15] []) (.seq (.seq (.cut (.region [mv 16 4,oo 17 (.not (tm 16)),mv 18 17,oF 19 18 (.offA 2 (tm 1)),oF 20 18 (.load 1 false (tm 19)),oF 21 18 (.len (tm 20)),oF 22 18 (.bin .lss (tm 21) (Kc 1)),oo 23 (.pick (tm 18) kT (tm 22)),mv 24 23,oF 25 24 (.offA 2 (tm 1)),oF 26 24 (.load 1 false (tm 25)),oF 27 24 (.len (tm 26)),oF 28 24 (.bin .gtr (tm 27) (Kc 4)),oo 29 (.pick (tm 24) kT (tm 28))] [])) (.cond (tm 29) (.seq (.region [oo 2 (.mov kF)] []) .ret) .skip)) (.seq (.seq (.region [oo 5 (.mov (Kc 0))] []) (.block 0 (.loop (.seq (.seq (.region [mv 30 5,fa 31 2 1,ld 32 31,ln 33 32,oo 34 (.bin .lss (tm 30) (tm 33))] []) (.cond (tm 34) .skip (.exit 0))) (.seq (.block 1 (.seq (.region [fa 37 2 1,ld 38 37,mv 39 5,ix 40 1 38 39,ld 41 40,oo 42 (.call 129 [tm 41]),mv 6 42] []) (.seq (.region [mv 43 6,oo 44 (.not (tm 43))] []) (.cond (tm 44) (.seq (.region [oo 2 (.mov kF)] []) .ret) .skip)))) (.region [mv 35 5,oo 36 (.bin .add (tm 35) (Kc 1)),mv 5 36] [])))))) (.seq (.region [fa 45 3 1,ld 46 45,oo 47 (.call 129 [tm 46]),mv 7 47] []) (.seq (.cut (.region [fa 48 4 1,ld 49 48,oo 50 (.bin .eql (tm 49) (Kc 0)),mv 51 50,oT 52 51 (.offA 5 (tm 1)),oT 53 51 (.load 1 false (tm 52)),oT 54 51 (.bin .eql (tm 53) (Kc 0)),oo 55 (.pick (tm 51) (tm 54) kF),mv 8 55] [])) (.seq (.seq (.region [fa 56 0 1,ld 57 56] []) (.block 2 (.seq (.region [oo 59 (.bin .eql (tm 57) (Kc 1)),mv 58 59] []) (.cond (tm 58) (.seq (.region [mv 60 7,mv 61 60,oF 62 61 (.offA 3 (tm 1)),oF 63 61 (.load 1 false (tm 62)),⟨some 64,.bin .eql (tm 63) (.const S0),some (61,false),[]⟩,oo 65 (.pick (tm 61) kT (tm 64)),mv 66 65,mT 67 8 66,oo 68 (.pick (tm 66) (tm 67) kF),mv 2 68] []) .ret) (.seq (.region [oo 70 (.bin .eql (tm 57) (Kc 2)),mv 69 70] []) (.cond (tm 69) (.seq (.region [fa 71 3 1,ld 72 71,⟨some 73,.bin .eql (tm 72) (.const S0),none,[]⟩,mv 74 73,mT 75 8 74,oo 76 (.pick (tm 74) (tm 75) kF),mv 2 76] []) .ret) (.seq (.region [oo 78 (.bin .eql (tm 57) (Kc 3)),mv 77 78] []) (.cond (tm 77) (.seq (.region [fa 79 3 1,ld 80 79,⟨some 81,.bin .eql (tm 80) (.const S0),none,[]⟩,mv 82 81,oT 83 82 (.offA 4 (tm 1)),oT 84 82 (.load 1 false (tm 83)),oT 85 82 (.bin .geq (tm 84) (Kc 0)),oo 86 (.pick (tm 82) (tm 85) kF),mv 87 86,oT 88 87 (.offA 4 (tm 1)),oT 89 87 (.load 1 false (tm 88)),oT 90 87 (.bin .leq (tm 89) (Kc 1073741824)),oo 91 (.pick (tm 87) (tm 90) kF),mv 92 91,oT 93 92 (.offA 5 (tm 1)),oT 94 92 (.load 1 false (tm 93)),oT 95 92 (.bin .eql (tm 94) (Kc 0)),oo 96 (.pick (tm 92) (tm 95) kF),mv 2 96] []) .ret) (.seq (.region [oo 98 (.bin .eql (tm 57) (Kc 4)),mv 97 98] []) (.cond (tm 97) (.seq (.region [mv 99 7,mv 100 99,oT 101 100 (.offA 4 (tm 1)),oT 102 100 (.load 1 false (tm 101)),oT 103 100 (.bin .geq (tm 102) (Kc 0)),oo 104 (.pick (tm 100) (tm 103) kF),mv 105 104,oT 106 105 (.offA 4 (tm 1)),oT 107 105 (.load 1 false (tm 106)),oT 108 105 (.offA 5 (tm 1)),oT 109 105 (.load 1 false (tm 108)),oT 110 105 (.bin .leq (tm 107) (tm 109)),oo 111 (.pick (tm 105) (tm 110) kF),mv 112 111,oT 113 112 (.offA 5 (tm 1)),oT 114 112 (.load 1 false (tm 113)),oT 115 112 (.bin .leq (tm 114) (Kc 65535)),oo 116 (.pick (tm 112) (tm 115) kF),mv 2 116] []) .ret) (.seq (.region [oo 118 (.bin .eql (tm 57) (Kc 5)),mv 117 118] []) (.cond (tm 117) (.seq (.region [mv 119 7,mv 120 119,mT 121 8 120,oo 122 (.pick (tm 120) (tm 121) kF),mv 2 122] []) .ret) (.seq (.region [oo 124 (.bin .eql (tm 57) (Kc 6)),mv 123 124] []) (.cond (tm 123) (.seq (.region [fa 125 3 1,ld 126 125,⟨some 127,.bin .eql (tm 126) (.const S0),none,[]⟩,mv 128 127,oT 129 128 (.offA 4 (tm 1)),oT 130 128 (.load 1 false (tm 129)),oT 131 128 (.bin .geq (tm 130) (Kc 1)),oo 132 (.pick (tm 128) (tm 131) kF),mv 133 132,oT 134 133 (.offA 4 (tm 1)),oT 135 133 (.load 1 false (tm 134)),oT 136 133 (.bin .leq (tm 135) (Kc 65535)),oo 137 (.pick (tm 133) (tm 136) kF),mv 138 137,oT 139 138 (.offA 5 (tm 1)),oT 140 138 (.load 1 false (tm 139)),oT 141 138 (.bin .geq (tm 140) (Kc 1)),oo 142 (.pick (tm 138) (tm 141) kF),mv 143 142,oT 144 143 (.offA 5 (tm 1)),oT 145 143 (.load 1 false (tm 144)),oT 146 143 (.bin .leq (tm 145) (Kc 1073741824)),oo 147 (.pick (tm 143) (tm 146) kF),mv 2 147] []) .ret) .skip)))))))))))))) (.seq (.region [oo 2 (.mov kF)] []) .ret))))))))))
theorem LR:(Tryz.f127.body.bind (bD Tryz.prog 148 [6000005,6000014]))=some Ky:=by kernel_rfl
def c83:aY:=(.seq (.region [oo 1 (.box 6 (tm 0)),oo 2 (.mov (Kc 0))] []) (.seq (.region [lA 4 6 1,oo 5 (.call 127 [tm 4]),mv 3 5] []) (.seq (.seq (.region [mv 6 3,oo 7 (.not (tm 6))] []) (.cond (tm 7) (.seq (.region [oo 2 (.mov (Kc 1))] []) .ret) .skip)) (.seq (.region [oo 2 (.mov (Kc 0))] []) .ret))))
theorem l83:(Tryz.f83.body.bind (bD Tryz.prog 8 []))=some c83:=by kernel_rfl
def c47:aY:=(.seq (.region [oo 2 (.mov (Kc 0))] []) (.seq (.seq (.region [mv 6 0,ln 7 6,oo 8 (.bin .gtr (tm 7) (Kc 8))] []) (.cond (tm 8) (.seq (.region [oo 2 (.mov (Kc 2))] []) .ret) .skip)) (.seq (.seq (.region [oo 3 (.mov (Kc 0))] []) (.block 0 (.loop (.seq (.seq (.region [mv 9 3,mv 10 0,ln 11 10,oo 12 (.bin .lss (tm 9) (tm 11))] []) (.cond (tm 12) .skip (.exit 0))) (.seq (.block 1 (.seq (.region [mv 15 0,mv 16 3,ix 17 15 15 16,oo 18 (.nar 9 (tm 17)),lA 19 9 18,oo 20 (.call 21 [tm 19]),mv 4 20] []) (.seq (.seq (.region [mv 21 4,oo 22 (.bin .neq (tm 21) (Kc 0))] []) (.cond (tm 22) (.seq (.region [mv 23 4,mv 2 23] []) .ret) .skip)) (.seq (.region [mv 24 0,mv 25 3,ix 26 15 24 25,fa 27 9 26,lA 28 6 27,oo 29 (.call 83 [tm 28]),mv 5 29] []) (.seq (.region [mv 30 5,oo 31 (.bin .neq (tm 30) (Kc 0))] []) (.cond (tm 31) (.seq (.region [mv 32 5,mv 2 32] []) .ret) .skip)))))) (.region [mv 13 3,oo 14 (.bin .add (tm 13) (Kc 1)),mv 3 14] [])))))) (.seq (.region [oo 2 (.mov (Kc 0))] []) .ret))))
theorem l47:(Tryz.f47.body.bind (bD Tryz.prog 33 [2000018000009]))=some c47:=by kernel_rfl
def c13:aY:=(.seq (.region [oo 1 (.box 9 (tm 0)),oo 2 (.mov kF)] []) (.seq (.region [lA 5 9 1,oo 6 (.call 34 [tm 5]),oo 3 (.alloc [Z0,Z0]),o0 (.store 2 (tm 3) (tm 6))] []) (.seq (.region [fa 7 1 1,lA 8 5 7,oo 9 (.call 67 [tm 8]),oo 4 (.alloc [Z0,Z0]),o0 (.store 2 (tm 4) (tm 9))] []) (.seq (.region [fa 10 0 3,ld 11 10,oo 12 (.bin .leq (tm 11) (Kc 400)),mv 13 12,oT 14 13 (.offA 1 (tm 3)),oT 15 13 (.load 1 false (tm 14)),oT 16 13 (.bin .leq (tm 15) (Kc 60)),oo 17 (.pick (tm 13) (tm 16) kF),mv 18 17,oT 19 18 (.offA 0 (tm 4)),oT 20 18 (.load 1 false (tm 19)),oT 21 18 (.bin .leq (tm 20) (Kc 400)),oo 22 (.pick (tm 18) (tm 21) kF),mv 2 22] []) .ret))))
theorem l13:(Tryz.f13.body.bind (bD Tryz.prog 23 []))=some c13:=by kernel_rfl
def c37:aY:=(.seq (.region [oo 2 (.mov kF)] []) (.seq (.seq (.region [oo 3 (.mov (Kc 0))] []) (.block 0 (.loop (.seq (.seq (.region [mv 5 3,mv 6 0,ln 7 6,oo 8 (.bin .lss (tm 5) (tm 7)),mv 9 8,mT 10 3 9,oT 11 9 (.bin .lss (tm 10) (Kc 12)),oo 12 (.pick (tm 9) (tm 11) kF)] []) (.cond (tm 12) .skip (.exit 0))) (.seq (.block 1 (.seq (.region [mv 15 0,mv 16 3,ix 17 15 15 16,oo 18 (.nar 9 (tm 17)),lA 19 9 18,oo 20 (.call 13 [tm 19]),mv 4 20] []) (.seq (.region [mv 21 4,oo 22 (.not (tm 21)),mv 23 22,mF 24 0 23,mF 25 3 23,oF 26 23 (.idxL 15 (tm 24) (tm 25)),oF 27 23 (.offA 9 (tm 26)),oF 28 23 (.offA 2 (tm 27)),oF 29 23 (.load 1 false (tm 28)),oF 30 23 (.len (tm 29)),oF 31 23 (.bin .gtr (tm 30) (Kc 20)),oo 32 (.pick (tm 23) kT (tm 31))] []) (.cond (tm 32) (.seq (.region [oo 2 (.mov kF)] []) .ret) .skip)))) (.region [mv 13 3,oo 14 (.bin .add (tm 13) (Kc 1)),mv 3 14] [])))))) (.seq (.region [mv 33 0,ln 34 33,oo 35 (.bin .leq (tm 34) (Kc 12)),mv 2 35] []) .ret)))
theorem l37:(Tryz.f37.body.bind (bD Tryz.prog 36 [2000018000009]))=some c37:=by kernel_rfl
end Go.TY
end
section
namespace Go.TY
open Go Go.DL Go.MM Go.Proofs
theorem y4 (a b:List Int) (hl:a.length<2^60∨b.length<2^60):DCalls Tryz.prog 27 [.slice 1 (a.map I),.slice 1 (b.map I)] (.bool (a==b)):=by
 refine qO (rs:=[.tmp 4]) mixed Tryz.func27 l27 rfl rfl rfl (r:=[.bool _]) (nlZ rfl) ?_
 have ha:((a.map I).length:Int)=a.length:=by rw [List.length_map]
 have hb:((b.map I).length:Int)=b.length:=by rw [List.length_map]
 by_cases hab:a.length=b.length
 case neg=>
  have e:(a==b)=false:=beq_false_of_ne fun e=>hab (by rw [e])
  rw [e]
  have hn:((a.map I).length:Int)≠((b.map I).length:Int):=by omega
  repeat' ((conv=>whnf);first|exact trivial|refine qz hn ?_|refine rb0 ?_|refine aS ?_|fail)
 have hl:a.length<2^60:=by omega
 have hn:((a.map I).length:Int)=((b.map I).length:Int):=by omega
 repeat' ((conv=>whnf);first|refine qy hn ?_|refine aS ?_|fail)
 refine rq (α:=Nat) (fun i=>{sl:=[(0,.t (.slice 1 (a.map I))),(1,.t (.slice 1 (b.map I))),(5,.t (I i))],bx:=[]})
  (fun i=>i≤a.length∧ ∀j (h:j<a.length) (h':j<b.length),j<i→a[j]=b[j]) (fun i=>a.length - i) 0 (by simp) ?_ ?_
 ·repeat' (first|exact trivial|exact LeV.same _|exact rfl|exact fun _ _ _=>trivial|refine And.intro ?_ ?_)
 rintro i ⟨hi,hp⟩
 rcases Nat.lt_or_ge i a.length with h|h
 ·have h':i<b.length:=by omega
  have hlt:(i:Int)<((a.map I).length:Int):=by omega
  by_cases he:a[i]=b[i]
  ·repeat' ((conv=>whnf);first|refine qv hlt ?_|(refine nv_ (I a[i]) (by first|(simp [h];done)|fail) ?_)|(refine nv_ (I b[i]) (by first|(simp [h'];done)|fail) ?_)|refine qy he ?_|refine nT_ ?_|refine aS ?_|fail)
   refine ⟨i+1,⟨h,fun j hj hj' hlt=>?_⟩,by omega,?_⟩
   ·rcases Nat.lt_or_ge j i with h4|h4
    ·exact hp j hj hj' h4
    ·obtain rfl:j=i:=by omega
     exact he
   ·repeat' (first|exact trivial|exact LeV.same _|exact rfl|exact fun _ _ _=>trivial|exact lI|refine And.intro ?_ ?_)
  ·have e:(a==b)=false:=beq_false_of_ne fun e=>he (by subst e;rfl)
   rw [e]
   repeat' ((conv=>whnf);first|exact trivial|refine qv hlt ?_|(refine nv_ (I a[i]) (by first|(simp [h];done)|fail) ?_)|(refine nv_ (I b[i]) (by first|(simp [h'];done)|fail) ?_)|refine qz he ?_|refine nT_ ?_|refine rb0 ?_|refine aS ?_|fail)
 ·have e:(a==b)=true:=by
   have:a=b:=List.ext_getElem hab fun j h1 h2=>hp j h1 h2 (by omega)
   simp [this]
  rw [e]
  have hlt: ¬(i:Int)<((a.map I).length:Int):=by omega
  repeat' ((conv=>whnf);first|exact trivial|refine qu hlt ?_|refine rb1 ?_|refine aS ?_|fail)
def vj:List ByteArray→List ByteArray→Bool
 |[],[]=>true
 |x::xs,y::ys=>sC x y&&vj xs ys
 |_,_=>false
theorem v7: ∀{a b:List ByteArray},vj a b=true↔a=b
 |[],[]=>by simp [vj]
 |[],_::_=>by simp [vj]
 |_::_,[]=>by simp [vj]
 |x::xs,y::ys=>by
  unfold vj
  rw [Bool.and_eq_true,v7 (a:=xs),sY,List.cons.injEq]
theorem Ba {a b:List ByteArray} (h:a≠b):vj a b=false:=by
 cases e:vj a b with
 |false=>rfl
 |true=>exact (h (v7.1 e)).elim
theorem BB (a b:List ByteArray) (hl:a.length<2^60∨b.length<2^60):DCalls Tryz.prog 22 [.slice 1 (a.map .str),.slice 1 (b.map .str)] (.bool (vj a b)):=by
 refine qO (rs:=[.tmp 4]) mixed Tryz.func22 l22 rfl rfl rfl (r:=[.bool _]) (nlZ rfl) ?_
 have ha:((a.map T.str).length:Int)=a.length:=by rw [List.length_map]
 have hb:((b.map T.str).length:Int)=b.length:=by rw [List.length_map]
 by_cases hab:a.length=b.length
 case neg=>
  rw [Ba fun e=>hab (by rw [e])]
  have hn:((a.map T.str).length:Int)≠((b.map T.str).length:Int):=by omega
  repeat' ((conv=>whnf);first|exact trivial|refine qz hn ?_|refine rb0 ?_|refine aS ?_|fail)
 have hl:a.length<2^60:=by omega
 have hn:((a.map T.str).length:Int)=((b.map T.str).length:Int):=by omega
 repeat' ((conv=>whnf);first|refine qy hn ?_|refine aS ?_|fail)
 refine rq (α:=Nat) (fun i=>{sl:=[(0,.t (.slice 1 (a.map .str))),(1,.t (.slice 1 (b.map .str))),(5,.t (I i))],bx:=[]})
  (fun i=>i≤a.length∧ ∀j (h:j<a.length) (h':j<b.length),j<i→a[j]=b[j]) (fun i=>a.length - i) 0 (by simp) ?_ ?_
 ·repeat' (first|exact trivial|exact LeV.same _|exact rfl|exact fun _ _ _=>trivial|refine And.intro ?_ ?_)
 rintro i ⟨hi,hp⟩
 rcases Nat.lt_or_ge i a.length with h|h
 ·have h':i<b.length:=by omega
  have hlt:(i:Int)<((a.map T.str).length:Int):=by omega
  have hE:=sO a[i] b[i]
  have hN:(!(a[i].toList==b[i].toList))= !sC a[i] b[i]:=by rw [hE]
  by_cases he:a[i]=b[i]
  ·rw [sY.2 he] at hN
   repeat' ((conv=>whnf);first|refine qv hlt ?_|(refine nv_ (.str a[i]) (by first|(simp [h];done)|fail) ?_)|(refine nv_ (.str b[i]) (by first|(simp [h'];done)|fail) ?_)|refine nb_ _ hN ?_|refine nT_ ?_|refine aS ?_|fail)
   refine ⟨i+1,⟨h,fun j hj hj' hlt=>?_⟩,by omega,?_⟩
   ·rcases Nat.lt_or_ge j i with h4|h4
    ·exact hp j hj hj' h4
    ·obtain rfl:j=i:=by omega
     exact he
   ·repeat' (first|exact trivial|exact LeV.same _|exact rfl|exact fun _ _ _=>trivial|exact lI|refine And.intro ?_ ?_)
  ·rw [Ba fun e=>he (by subst e;rfl)]
   have hs:sC a[i] b[i]=false:=by
    cases e:sC a[i] b[i] with
    |false=>rfl
    |true=>exact (he (sY.1 e)).elim
   rw [hs] at hN
   repeat' ((conv=>whnf);first|exact trivial|refine qv hlt ?_|(refine nv_ (.str a[i]) (by first|(simp [h];done)|fail) ?_)|(refine nv_ (.str b[i]) (by first|(simp [h'];done)|fail) ?_)|refine nb_ _ hN ?_|refine nT_ ?_|refine rb0 ?_|refine aS ?_|fail)
 ·rw [v7.2 (List.ext_getElem hab fun j h1 h2=>hp j h1 h2 (by omega))]
  have hlt: ¬(i:Int)<((a.map T.str).length:Int):=by omega
  repeat' ((conv=>whnf);first|exact trivial|refine qu hlt ?_|refine rb1 ?_|refine aS ?_|fail)
end Go.TY
end
section
namespace Go.TY
open Go Go.DL Go.MM Go.Proofs
theorem zz (a b:RV) (hl:a.ws.length<2^60∨b.ws.length<2^60):DCalls Tryz.prog 42 [sV a,sV b] (.bool (xH a b)):=by
 obtain ⟨a1,a2,a3,a4,a5⟩:=a
 obtain ⟨b1,b2,b3,b4,b5⟩:=b
 refine qO (rs:=[.tmp 4]) mixed Tryz.func42 l42 rfl rfl rfl (r:=[.bool _]) (nlZ rfl) ?_
 have h1:=y4 a3 b3 hl
 have hE:=sO a1 b1
 simp only [xH]
 generalize sC a1 b1=e at *
 generalize (a3==b3)=z at *
 by_cases c2:a2=b2
 case neg=>rw [beq_false_of_ne c2];cases e <;> cases z <;> repeat' ((conv=>whnf);first|exact trivial|refine rE _ (h1) ?_|refine nb_ _ hE ?_|refine qw c2 ?_|refine nT_ ?_|refine rb0 ?_|refine aS ?_|fail)
 by_cases c4:a4=b4
 case neg=>rw [beq_false_of_ne c4,c2];cases e <;> cases z <;> repeat' ((conv=>whnf);first|exact trivial|refine rE _ (h1) ?_|refine nb_ _ hE ?_|refine qw c4 ?_|refine nT_ ?_|refine aE1 ?_|refine rb0 ?_|refine aS ?_|fail)
 by_cases c5:a5=b5
 case neg=>rw [beq_false_of_ne c5,c2,c4];cases e <;> cases z <;> repeat' ((conv=>whnf);first|exact trivial|refine rE _ (h1) ?_|refine nb_ _ hE ?_|refine qw c5 ?_|refine nT_ ?_|refine aE1 ?_|refine rb0 ?_|refine aS ?_|fail)
 rw [c2,c4,c5]
 cases e <;> cases z <;> repeat' ((conv=>whnf);first|exact trivial|refine rE _ (h1) ?_|refine nb_ _ hE ?_|refine nT_ ?_|refine aE1 ?_|refine rb1 ?_|refine rb0 ?_|refine aS ?_|fail)
def vk:List RV→List RV→Bool
 |[],[]=>true
 |x::xs,y::ys=>xH x y&&vk xs ys
 |_,_=>false
theorem wv: ∀{a b:List RV},vk a b=true↔a=b
 |[],[]=>by simp [vk]
 |[],_::_=>by simp [vk]
 |_::_,[]=>by simp [vk]
 |x::xs,y::ys=>by
  unfold vk
  rw [Bool.and_eq_true,wv (a:=xs),x4,List.cons.injEq]
theorem zP {a b:List RV} (h:a≠b):vk a b=false:=by
 cases e:vk a b with
 |false=>rfl
 |true=>exact (h (wv.1 e)).elim
theorem y7 (a b:List RV) (hl:a.length<2^60∨b.length<2^60) (hw:(∀ v∈a,v.ws.length<2^60)∨(∀ v∈b,v.ws.length<2^60)):
  DCalls Tryz.prog 45 [.slice 5 (a.map sV),.slice 5 (b.map sV)] (.bool (vk a b)):=by
 refine qO (rs:=[.tmp 4]) mixed Tryz.func45 l45 rfl rfl rfl (r:=[.bool _]) (nlZ rfl) ?_
 have ha:((a.map sV).length:Int)=a.length:=by rw [List.length_map]
 have hb:((b.map sV).length:Int)=b.length:=by rw [List.length_map]
 by_cases hab:a.length=b.length
 case neg=>
  rw [zP fun e=>hab (by rw [e])]
  have hn:((a.map sV).length:Int)≠((b.map sV).length:Int):=by omega
  repeat' ((conv=>whnf);first|exact trivial|refine qz hn ?_|refine rb0 ?_|refine aS ?_|fail)
 have hl:a.length<2^60:=by omega
 have hn:((a.map sV).length:Int)=((b.map sV).length:Int):=by omega
 repeat' ((conv=>whnf);first|refine qy hn ?_|refine aS ?_|fail)
 refine rq (α:=Nat) (fun i=>{sl:=[(0,.t (.slice 5 (a.map sV))),(1,.t (.slice 5 (b.map sV))),(5,.t (I i))],bx:=[]})
  (fun i=>i≤a.length∧ ∀j (h:j<a.length) (h':j<b.length),j<i→a[j]=b[j]) (fun i=>a.length - i) 0 (by simp) ?_ ?_
 ·repeat' (first|exact trivial|exact LeV.same _|exact rfl|exact fun _ _ _=>trivial|refine And.intro ?_ ?_)
 rintro i ⟨hi,hp⟩
 rcases Nat.lt_or_ge i a.length with h|h
 ·have h':i<b.length:=by omega
  have hlt:(i:Int)<((a.map sV).length:Int):=by omega
  have hc:=zz a[i] b[i] (hw.imp (fun hw=>hw _ (List.getElem_mem h)) (fun hw=>hw _ (List.getElem_mem h')))
  by_cases he:a[i]=b[i]
  ·rw [x4.2 he] at hc
   repeat' ((conv=>whnf);first|refine qv hlt ?_|(refine nv_ (.agg (vU a[i])) (by first|((simp [h];rfl);done)|fail) ?_)|(refine nv_ (.agg (vU b[i])) (by first|((simp [h'];rfl);done)|fail) ?_)|refine rE _ (hc) ?_|refine aS ?_|fail)
   refine ⟨i+1,⟨h,fun j hj hj' hlt=>?_⟩,by omega,?_⟩
   ·rcases Nat.lt_or_ge j i with h4|h4
    ·exact hp j hj hj' h4
    ·obtain rfl:j=i:=by omega
     exact he
   ·repeat' (first|exact trivial|exact LeV.same _|exact rfl|exact fun _ _ _=>trivial|exact lI|refine And.intro ?_ ?_)
  ·rw [zP fun e=>he (by subst e;rfl)]
   have hs:xH a[i] b[i]=false:=by
    cases e:xH a[i] b[i] with
    |false=>rfl
    |true=>exact (he (x4.1 e)).elim
   rw [hs] at hc
   repeat' ((conv=>whnf);first|exact trivial|refine qv hlt ?_|(refine nv_ (.agg (vU a[i])) (by first|((simp [h];rfl);done)|fail) ?_)|(refine nv_ (.agg (vU b[i])) (by first|((simp [h'];rfl);done)|fail) ?_)|refine rE _ (hc) ?_|refine rb0 ?_|refine aS ?_|fail)
 ·rw [wv.2 (List.ext_getElem hab fun j h1 h2=>hp j h1 h2 (by omega))]
  have hlt: ¬(i:Int)<((a.map sV).length:Int):=by omega
  repeat' ((conv=>whnf);first|exact trivial|refine qu hlt ?_|refine rb1 ?_|refine aS ?_|fail)
end Go.TY
end
section
namespace Go.TY
open Go Go.DL Go.MM Go.Proofs
mutual
def xZ:RP→RP→Bool
 |.mk k f n m a,.mk k' f' n' m' a'=>(k==k')&&sC f f'&&(n==n')&&(m==m')&&vE a a'
def vE:List RP→List RP→Bool
 |[],[]=>true
 |x::xs,y::ys=>xZ x y&&vE xs ys
 |[],_::_=>false
 |_::_,[]=>false
end
mutual
theorem tg: ∀{a b:RP},xZ a b=true↔a=b
 |.mk k f n m a,.mk k' f' n' m' a'=>by
  simp only [xZ,Bool.and_eq_true,beq_iff_eq,sY,yA (a:=a) (b:=a'),RP.mk.injEq]
  exact ⟨fun h=>⟨h.1.1.1.1,h.1.1.1.2,h.1.1.2,h.1.2,h.2⟩,fun h=>⟨⟨⟨⟨h.1,h.2.1⟩,h.2.2.1⟩,h.2.2.2.1⟩,h.2.2.2.2⟩⟩
theorem yA: ∀{a b:List RP},vE a b=true↔a=b
 |[],[]=>by simp [vE]
 |[],_::_=>by simp [vE]
 |_::_,[]=>by simp [vE]
 |x::xs,y::ys=>by
  simp only [vE,Bool.and_eq_true,tg (a:=x) (b:=y),yA (a:=xs) (b:=ys),List.cons.injEq]
end
theorem sU {b:Bool} {p:Prop} (hi:b=true↔p) (h: ¬p):b=false:=by
 cases b with
 |false=>rfl
 |true=>exact (h (hi.1 rfl)).elim
theorem y5 (N:Nat): ∀a b:RP,a.nodes≤N→N<2^60→DCalls Tryz.prog 51 [.agg (sB a),.agg (sB b)] (.bool (xZ a b)):=by
 induction N with
 |zero=>intro r _ h;have:=r.tV;omega
 |succ N ih=>
  rintro ⟨k,f,n,m,l⟩ ⟨k',f',n',m',l'⟩ hr hN
  refine qO (rs:=[.tmp 4]) mixed Tryz.func51 l51 rfl rfl rfl (r:=[.bool _]) (nlZ rfl) ?_
  simp only [RP.nodes] at hr
  have hE:=sO f f'
  have hS:(!(f.toList==f'.toList))= !sC f f':=by rw [hE]
  by_cases c1:k=k'
  case neg=>rw [sU tg fun e=>c1 (by cases e;rfl)];repeat' ((conv=>whnf);first|exact trivial|refine qz c1 ?_|refine nT_ ?_|refine rb0 ?_|refine aS ?_|fail)
  by_cases c2:f=f'
  case neg=>
   rw [sU tg fun e=>c2 (by cases e;rfl)]
   rw [sU sY c2] at hS
   repeat' ((conv=>whnf);first|exact trivial|refine qy c1 ?_|refine nb_ _ hS ?_|refine nT_ ?_|refine rb0 ?_|refine aS ?_|fail)
  rw [sY.2 c2] at hS
  by_cases c3:n=n'
  case neg=>rw [sU tg fun e=>c3 (by cases e;rfl)];repeat' ((conv=>whnf);first|exact trivial|refine qy c1 ?_|refine nb_ _ hS ?_|refine qz c3 ?_|refine nT_ ?_|refine rb0 ?_|refine aS ?_|fail)
  by_cases c4:m=m'
  case neg=>rw [sU tg fun e=>c4 (by cases e;rfl)];repeat' ((conv=>whnf);first|exact trivial|refine qy c1 ?_|refine nb_ _ hS ?_|refine qy c3 ?_|refine qz c4 ?_|refine nT_ ?_|refine rb0 ?_|refine aS ?_|fail)
  have ha:((l.map sM).length:Int)=l.length:=by rw [List.length_map]
  have hb:((l'.map sM).length:Int)=l'.length:=by rw [List.length_map]
  by_cases hab:l.length=l'.length
  case neg=>
   rw [sU tg fun e=>hab (by cases e;rfl)]
   have hn:((l.map sM).length:Int)≠((l'.map sM).length:Int):=by omega
   repeat' ((conv=>whnf);first|exact trivial|refine qy c1 ?_|refine nb_ _ hS ?_|refine qy c3 ?_|refine qy c4 ?_|refine qz hn ?_|refine nT_ ?_|refine rb0 ?_|refine aS ?_|fail)
  have hn:((l.map sM).length:Int)=((l'.map sM).length:Int):=by omega
  have hnp:=tP l
  repeat' ((conv=>whnf);first|refine qy c1 ?_|refine nb_ _ hS ?_|refine qy c3 ?_|refine qy c4 ?_|refine qy hn ?_|refine nT_ ?_|refine aS ?_|fail)
  refine rq (α:=Nat) (fun i=>{sl:=[(2,.ptr 2 0),(3,.ptr 3 0),(5,.t (I i))],bx:=[(2,.d 5 (sB (.mk k f n m l))),(3,.d 5 (sB (.mk k' f' n' m' l')))]})
   (fun i=>i≤l.length∧ ∀j (h:j<l.length) (h':j<l'.length),j<i→l[j]=l'[j]) (fun i=>l.length - i) 0 (by simp) ?_ ?_
  ·repeat' (first|exact trivial|exact LeV.same _|exact LeB.same _|exact rfl|exact fun _ _ _=>trivial|refine And.intro ?_ ?_)
  rintro i ⟨hi,hp⟩
  rcases Nat.lt_or_ge i l.length with h|h
  ·have h':i<l'.length:=by omega
   have hlt:(i:Int)<((l.map sM).length:Int):=by omega
   have hn:=tz h
   have hm:=tx (l:=l) (j:=i+1)
   have hc:=ih l[i] l'[i] (by omega) (by omega)
   by_cases he:l[i]=l'[i]
   ·rw [tg.2 he] at hc
    repeat' ((conv=>whnf);first|refine qv hlt ?_|(refine nv_ (.agg (sB l[i])) (by first|(simp [h,sG];done)|fail) ?_)|(refine nv_ (.agg (sB l'[i])) (by first|(simp [h',sG];done)|fail) ?_)|refine rE _ (hc) ?_|refine nT_ ?_|(refine And.intro (by first|exact sJ _|fail) ?_)|refine aS ?_|fail)
    refine ⟨i+1,⟨h,fun j hj hj' hlt=>?_⟩,by omega,?_⟩
    ·rcases Nat.lt_or_ge j i with h4|h4
     ·exact hp j hj hj' h4
     ·obtain rfl:j=i:=by omega
      exact he
    ·repeat' (first|exact trivial|exact LeV.same _|exact LeB.same _|exact rfl|exact fun _ _ _=>trivial|exact lI|refine And.intro ?_ ?_)
   ·rw [sU tg he] at hc
    rw [sU tg fun e=>he (by cases e;rfl)]
    repeat' ((conv=>whnf);first|exact trivial|refine qv hlt ?_|(refine nv_ (.agg (sB l[i])) (by first|(simp [h,sG];done)|fail) ?_)|(refine nv_ (.agg (sB l'[i])) (by first|(simp [h',sG];done)|fail) ?_)|refine rE _ (hc) ?_|refine nT_ ?_|refine rb0 ?_|(refine And.intro (by first|exact sJ _|fail) ?_)|refine aS ?_|fail)
  ·have e:l=l':=List.ext_getElem hab fun j h1 h2=>hp j h1 h2 (by omega)
   rw [tg.2 (by rw [c1,c2,c3,c4,e])]
   have hlt: ¬(i:Int)<((l.map sM).length:Int):=by omega
   repeat' ((conv=>whnf);first|exact trivial|refine qu hlt ?_|refine nT_ ?_|refine rb1 ?_|refine aS ?_|fail)
def vZ (a b:RS):Bool:=(a.kind==b.kind)&&sC a.var b.var&&sC a.field b.field&&(a.n==b.n)&&(a.m==b.m)&&vj a.key b.key
theorem tQ {a b:RS}:vZ a b=true↔a=b:=by
 obtain ⟨a1,a2,a3,a4,a5,a6⟩:=a
 obtain ⟨b1,b2,b3,b4,b5,b6⟩:=b
 unfold vZ
 simp only [Bool.and_eq_true,sY,beq_iff_eq,v7,RS.mk.injEq]
 exact ⟨fun h=>⟨h.1.1.1.1.1,h.1.1.1.1.2,h.2,h.1.1.1.2,h.1.1.2,h.1.2⟩,fun h=>⟨⟨⟨⟨⟨h.1,h.2.1⟩,h.2.2.2.1⟩,h.2.2.2.2.1⟩,h.2.2.2.2.2⟩,h.2.2.1⟩⟩
theorem y6 (a b:RS) (hl:a.key.length<2^60):DCalls Tryz.prog 104 [.agg (sK a),.agg (sK b)] (.bool (vZ a b)):=by
 obtain ⟨k,v,l,f,n,m⟩:=a
 obtain ⟨k',v',l',f',n',m'⟩:=b
 dsimp only at hl
 refine qO (rs:=[.tmp 4]) mixed Tryz.func104 Ly rfl rfl rfl (r:=[.bool _]) (nlZ rfl) ?_
 have hV:(!(v.toList==v'.toList))= !sC v v':=by rw [sO]
 have hS:(!(f.toList==f'.toList))= !sC f f':=by rw [sO]
 by_cases c1:k=k'
 case neg=>rw [sU tQ fun e=>c1 (by cases e;rfl)];repeat' ((conv=>whnf);first|exact trivial|refine qz c1 ?_|refine nT_ ?_|refine rb0 ?_|refine aS ?_|fail)
 by_cases c5:v=v'
 case neg=>
  rw [sU tQ fun e=>c5 (by cases e;rfl)]
  rw [sU sY c5] at hV
  repeat' ((conv=>whnf);first|exact trivial|refine qy c1 ?_|refine nb_ _ hV ?_|refine nT_ ?_|refine rb0 ?_|refine aS ?_|fail)
 rw [sY.2 c5] at hV
 by_cases c2:f=f'
 case neg=>
  rw [sU tQ fun e=>c2 (by cases e;rfl)]
  rw [sU sY c2] at hS
  repeat' ((conv=>whnf);first|exact trivial|refine qy c1 ?_|refine nb_ _ hV ?_|refine nb_ _ hS ?_|refine nT_ ?_|refine rb0 ?_|refine aS ?_|fail)
 rw [sY.2 c2] at hS
 by_cases c3:n=n'
 case neg=>rw [sU tQ fun e=>c3 (by cases e;rfl)];repeat' ((conv=>whnf);first|exact trivial|refine qy c1 ?_|refine nb_ _ hV ?_|refine nb_ _ hS ?_|refine qz c3 ?_|refine nT_ ?_|refine rb0 ?_|refine aS ?_|fail)
 by_cases c4:m=m'
 case neg=>rw [sU tQ fun e=>c4 (by cases e;rfl)];repeat' ((conv=>whnf);first|exact trivial|refine qy c1 ?_|refine nb_ _ hV ?_|refine nb_ _ hS ?_|refine qy c3 ?_|refine qz c4 ?_|refine nT_ ?_|refine rb0 ?_|refine aS ?_|fail)
 have ha:((l.map T.str).length:Int)=l.length:=by rw [List.length_map]
 have hb:((l'.map T.str).length:Int)=l'.length:=by rw [List.length_map]
 by_cases hab:l.length=l'.length
 case neg=>
  rw [sU tQ fun e=>hab (by cases e;rfl)]
  have hn:((l.map T.str).length:Int)≠((l'.map T.str).length:Int):=by omega
  repeat' ((conv=>whnf);first|exact trivial|refine qy c1 ?_|refine nb_ _ hV ?_|refine nb_ _ hS ?_|refine qy c3 ?_|refine qy c4 ?_|refine qz hn ?_|refine nT_ ?_|refine rb0 ?_|refine aS ?_|fail)
 have hn:((l.map T.str).length:Int)=((l'.map T.str).length:Int):=by omega
 repeat' ((conv=>whnf);first|refine qy c1 ?_|refine nb_ _ hV ?_|refine nb_ _ hS ?_|refine qy c3 ?_|refine qy c4 ?_|refine qy hn ?_|refine nT_ ?_|refine aS ?_|fail)
 refine rq (α:=Nat) (fun i=>{sl:=[(2,.ptr 2 0),(3,.ptr 3 0),(5,.t (I i))],bx:=[(2,.d 6 (sK ⟨k,v,l,f,n,m⟩)),(3,.d 6 (sK ⟨k',v',l',f',n',m'⟩))]})
  (fun i=>i≤l.length∧ ∀j (h:j<l.length) (h':j<l'.length),j<i→l[j]=l'[j]) (fun i=>l.length - i) 0 (by simp) ?_ ?_
 ·repeat' (first|exact trivial|exact LeV.same _|exact LeB.same _|exact rfl|exact fun _ _ _=>trivial|refine And.intro ?_ ?_)
 rintro i ⟨hi,hp⟩
 rcases Nat.lt_or_ge i l.length with h|h
 ·have h':i<l'.length:=by omega
  have hlt:(i:Int)<((l.map T.str).length:Int):=by omega
  have hN:(!(l[i].toList==l'[i].toList))= !sC l[i] l'[i]:=by rw [sO]
  by_cases he:l[i]=l'[i]
  ·rw [sY.2 he] at hN
   repeat' ((conv=>whnf);first|refine qv hlt ?_|(refine nv_ (.str l[i]) (by first|(simp [h];done)|fail) ?_)|(refine nv_ (.str l'[i]) (by first|(simp [h'];done)|fail) ?_)|refine nb_ _ hN ?_|refine nT_ ?_|refine aS ?_|fail)
   refine ⟨i+1,⟨h,fun j hj hj' hlt=>?_⟩,by omega,?_⟩
   ·rcases Nat.lt_or_ge j i with h4|h4
    ·exact hp j hj hj' h4
    ·obtain rfl:j=i:=by omega
     exact he
   ·repeat' (first|exact trivial|exact LeV.same _|exact LeB.same _|exact rfl|exact fun _ _ _=>trivial|exact lI|refine And.intro ?_ ?_)
  ·rw [sU sY he] at hN
   rw [sU tQ fun e=>he (by cases e;rfl)]
   repeat' ((conv=>whnf);first|exact trivial|refine qv hlt ?_|(refine nv_ (.str l[i]) (by first|(simp [h];done)|fail) ?_)|(refine nv_ (.str l'[i]) (by first|(simp [h'];done)|fail) ?_)|refine nb_ _ hN ?_|refine nT_ ?_|refine rb0 ?_|refine aS ?_|fail)
 ·have e:l=l':=List.ext_getElem hab fun j h1 h2=>hp j h1 h2 (by omega)
  rw [tQ.2 (by rw [c1,c2,c3,c4,c5,e])]
  have hlt: ¬(i:Int)<((l.map T.str).length:Int):=by omega
  repeat' ((conv=>whnf);first|exact trivial|refine qu hlt ?_|refine nT_ ?_|refine rb1 ?_|refine aS ?_|fail)
end Go.TY
end
section
namespace Go.TY
open Go Go.DL Go.MM Go.Proofs
mutual
def uI:RO→RO→Bool
 |.mk k p f n a,.mk k' p' f' n' a'=>xZ p p'&&(k==k')&&sC f f'&&(n==n')&&vD a a'
def vD:List RO→List RO→Bool
 |[],[]=>true
 |x::xs,y::ys=>uI x y&&vD xs ys
 |[],_::_=>false
 |_::_,[]=>false
end
mutual
theorem tU: ∀{a b:RO},uI a b=true↔a=b
 |.mk k p f n a,.mk k' p' f' n' a'=>by
  simp only [uI,Bool.and_eq_true,beq_iff_eq,sY,tg,yz (a:=a) (b:=a'),RO.mk.injEq]
  exact ⟨fun h=>⟨h.1.1.1.2,h.1.1.1.1,h.1.1.2,h.1.2,h.2⟩,fun h=>⟨⟨⟨⟨h.2.1,h.1⟩,h.2.2.1⟩,h.2.2.2.1⟩,h.2.2.2.2⟩⟩
theorem yz: ∀{a b:List RO},vD a b=true↔a=b
 |[],[]=>by simp [vD]
 |[],_::_=>by simp [vD]
 |_::_,[]=>by simp [vD]
 |x::xs,y::ys=>by
  simp only [vD,Bool.and_eq_true,tU (a:=x) (b:=y),yz (a:=xs) (b:=ys),List.cons.injEq]
end
theorem Bo: ∀{l:List RO} {i:Nat} (h:i<l.length),l[i].wt≤ti l
 |r::rs,0,_=>by simp only [List.getElem_cons_zero,ti];omega
 |r::rs,i+1,h=>by
  have:=Bo (l:=rs) (i:=i) (by simpa using h)
  simp only [List.getElem_cons_succ,ti];omega
theorem wI (N:Nat): ∀a b:RO,a.wt≤N→N<2^60→DCalls Tryz.prog 48 [.agg (sA a),.agg (sA b)] (.bool (uI a b)):=by
 induction N with
 |zero=>intro r _ h;have:=r.vo;omega
 |succ N ih=>
  rintro ⟨k,p,f,n,l⟩ ⟨k',p',f',n',l'⟩ hr hN
  refine qO (rs:=[.tmp 4]) mixed Tryz.func48 l48 rfl rfl rfl (r:=[.bool _]) (nlZ rfl) ?_
  simp only [RO.wt] at hr
  have hS:(!(f.toList==f'.toList))= !sC f f':=by rw [sO]
  have hP:=y5 _ p p' (Nat.le_refl _) (by omega)
  by_cases c5:p=p'
  case neg=>
   rw [sU tg c5] at hP
   rw [sU tU fun e=>c5 (by cases e;rfl)]
   obtain ⟨pk,pf,pn,pm,pa⟩:=p
   obtain ⟨pk',pf',pn',pm',pa'⟩:=p'
   repeat' ((conv=>whnf);first|exact trivial|refine rE _ (hP) ?_|refine nT_ ?_|refine rb0 ?_|refine aS ?_|fail)
  rw [tg.2 c5] at hP
  have hno: ∀{q:Prop},((RO.mk k p f n l=RO.mk k' p' f' n' l')→q)→ ¬q→uI (.mk k p f n l) (.mk k' p' f' n' l')=false:=fun h1 h2=>sU tU fun e=>h2 (h1 e)
  have hyes:k=k'→f=f'→n=n'→l=l'→uI (.mk k p f n l) (.mk k' p' f' n' l')=true:=fun h1 h2 h3 h4=>tU.2 (by rw [h1,h2,h3,h4,c5])
  generalize uI (.mk k p f n l) (.mk k' p' f' n' l')=res at *
  clear c5
  obtain ⟨pk,pf,pn,pm,pa⟩:=p
  obtain ⟨pk',pf',pn',pm',pa'⟩:=p'
  by_cases c1:k=k'
  case neg=>rw [hno (fun e=>by cases e;rfl) c1];repeat' ((conv=>whnf);first|exact trivial|refine rE _ (hP) ?_|refine qz c1 ?_|refine nT_ ?_|refine rb0 ?_|refine aS ?_|fail)
  by_cases c2:f=f'
  case neg=>
   rw [hno (fun e=>by cases e;rfl) c2]
   rw [sU sY c2] at hS
   repeat' ((conv=>whnf);first|exact trivial|refine rE _ (hP) ?_|refine qy c1 ?_|refine nb_ _ hS ?_|refine nT_ ?_|refine rb0 ?_|refine aS ?_|fail)
  rw [sY.2 c2] at hS
  by_cases c3:n=n'
  case neg=>rw [hno (fun e=>by cases e;rfl) c3];repeat' ((conv=>whnf);first|exact trivial|refine rE _ (hP) ?_|refine qy c1 ?_|refine nb_ _ hS ?_|refine qz c3 ?_|refine nT_ ?_|refine rb0 ?_|refine aS ?_|fail)
  have ha:((l.map sP).length:Int)=l.length:=by rw [List.length_map]
  have hb:((l'.map sP).length:Int)=l'.length:=by rw [List.length_map]
  by_cases hab:l.length=l'.length
  case neg=>
   rw [hno (fun e=>by cases e;rfl) hab]
   have hn:((l.map sP).length:Int)≠((l'.map sP).length:Int):=by omega
   repeat' ((conv=>whnf);first|exact trivial|refine rE _ (hP) ?_|refine qy c1 ?_|refine nb_ _ hS ?_|refine qy c3 ?_|refine qz hn ?_|refine nT_ ?_|refine rb0 ?_|refine aS ?_|fail)
  have hn:((l.map sP).length:Int)=((l'.map sP).length:Int):=by omega
  have hlen:=ux l
  repeat' ((conv=>whnf);first|refine rE _ (hP) ?_|refine qy c1 ?_|refine nb_ _ hS ?_|refine qy c3 ?_|refine qy hn ?_|refine nT_ ?_|refine aS ?_|fail)
  refine rq (α:=Nat) (fun i=>{sl:=[(2,.ptr 2 0),(3,.ptr 3 0),(6,.t (I i))],bx:=[(2,.d 9 (sA (.mk k (.mk pk pf pn pm pa) f n l))),(3,.d 9 (sA (.mk k' (.mk pk' pf' pn' pm' pa') f' n' l')))]})
   (fun i=>i≤l.length∧ ∀j (h:j<l.length) (h':j<l'.length),j<i→l[j]=l'[j]) (fun i=>l.length - i) 0 (by simp) ?_ ?_
  ·repeat' (first|exact trivial|exact LeV.same _|exact LeB.same _|exact rfl|exact fun _ _ _=>trivial|refine And.intro ?_ ?_)
  rintro i ⟨hi,hp⟩
  rcases Nat.lt_or_ge i l.length with h|h
  ·have h':i<l'.length:=by omega
   have hlt:(i:Int)<((l.map sP).length:Int):=by omega
   have hg:=Bo h
   have hc:=ih l[i] l'[i] (by omega) (by omega)
   by_cases he:l[i]=l'[i]
   ·rw [tU.2 he] at hc
    repeat' ((conv=>whnf);first|refine qv hlt ?_|(refine nv_ (.agg (sA l[i])) (by first|(simp [h,sL];done)|fail) ?_)|(refine nv_ (.agg (sA l'[i])) (by first|(simp [h',sL];done)|fail) ?_)|refine rE _ (hc) ?_|refine nT_ ?_|(refine And.intro (by first|exact sE _|fail) ?_)|refine aS ?_|fail)
    refine ⟨i+1,⟨h,fun j hj hj' hlt=>?_⟩,by omega,?_⟩
    ·rcases Nat.lt_or_ge j i with h4|h4
     ·exact hp j hj hj' h4
     ·obtain rfl:j=i:=by omega
      exact he
    ·repeat' (first|exact trivial|exact LeV.same _|exact LeB.same _|exact rfl|exact fun _ _ _=>trivial|exact lI|refine And.intro ?_ ?_)
   ·rw [sU tU he] at hc
    rw [hno (q:=l[i]=l'[i]) (fun e=>by cases e;rfl) he]
    repeat' ((conv=>whnf);first|exact trivial|refine qv hlt ?_|(refine nv_ (.agg (sA l[i])) (by first|(simp [h,sL];done)|fail) ?_)|(refine nv_ (.agg (sA l'[i])) (by first|(simp [h',sL];done)|fail) ?_)|refine rE _ (hc) ?_|refine nT_ ?_|refine rb0 ?_|(refine And.intro (by first|exact sE _|fail) ?_)|refine aS ?_|fail)
  ·have e:l=l':=List.ext_getElem hab fun j h1 h2=>hp j h1 h2 (by omega)
   rw [hyes c1 c2 c3 e]
   have hlt: ¬(i:Int)<((l.map sP).length:Int):=by omega
   repeat' ((conv=>whnf);first|exact trivial|refine qu hlt ?_|refine nT_ ?_|refine rb1 ?_|refine aS ?_|fail)
end Go.TY
end
section
namespace Go.TY
open Go Go.DL Go.MM Go.Proofs
theorem C9 (g:RG):((sD g).drop 0).take 9=sA g.pol:=by
 have:=ug g
 rwa [mU (n:=15) rfl] at this
theorem xw (g:RG):((sD g).drop 9).take 6=sK g.st:=by
 have:=vH g
 rwa [mU (n:=15) rfl] at this
def ze (a b:RG):Bool:=uI a.pol b.pol&&vZ a.st b.st
theorem zf {a b:RG}:ze a b=true↔a=b:=by
 obtain ⟨p,s⟩:=a
 obtain ⟨p',s'⟩:=b
 unfold ze
 rw [Bool.and_eq_true,tU,tQ,RG.mk.injEq]
def vC:List RG→List RG→Bool
 |[],[]=>true
 |x::xs,y::ys=>ze x y&&vC xs ys
 |_,_=>false
theorem uQ: ∀{a b:List RG},vC a b=true↔a=b
 |[],[]=>by simp [vC]
 |[],_::_=>by simp [vC]
 |_::_,[]=>by simp [vC]
 |x::xs,y::ys=>by
  unfold vC
  rw [Bool.and_eq_true,uQ (a:=xs),zf,List.cons.injEq]
def Cb (r:RO):Bool:=decide (r.size≤400)&&decide (r.deep≤60)&&decide (r.pred.nodes≤400)
theorem zr {a b:Nat}:decide ((a:Int)≤(b:Int))=decide (a≤b):=by
 by_cases h:a≤b
 ·rw [decide_eq_true h,decide_eq_true (by omega)]
 ·rw [decide_eq_false h,decide_eq_false (by omega)]
theorem Bz (r:RO) (hr:r.wt<2^60):DCalls Tryz.prog 13 [.agg (sA r)] (.bool (Cb r)):=by
 refine qO (rs:=[.tmp 2]) mixed Tryz.func13 l13 rfl rfl rfl (r:=[.bool _]) (nlZ rfl) ?_
 have h1:=t89 _ r (Nat.le_refl _) hr
 have hpn:r.pred.nodes<2^60:=by
  obtain ⟨k,p,f,n,l⟩:=r
  simp only [RO.wt] at hr
  show p.nodes<_;omega
 have h2:=t103 _ r.pred (Nat.le_refl _) hpn
 have d1:decide ((r.size:Int)≤400)=decide (r.size≤400):=zr
 have d2:decide ((r.deep:Int)≤60)=decide (r.deep≤60):=zr
 have d3:decide ((r.pred.nodes:Int)≤400)=decide (r.pred.nodes≤400):=zr
 unfold Cb
 obtain ⟨k,⟨pk,pf,pn,pm,pa⟩,f,n,l⟩:=r
 have e:(RO.mk k (.mk pk pf pn pm pa) f n l).pred= .mk pk pf pn pm pa:=rfl
 rw [e] at h2 d3 ⊢
 clear hr hpn e
 generalize (RO.mk k (.mk pk pf pn pm pa) f n l).size=a at *
 generalize (RO.mk k (.mk pk pf pn pm pa) f n l).deep=d at *
 generalize (RP.mk pk pf pn pm pa).nodes=c at *
 generalize (RP.mk pk pf pn pm pa).depth=c' at *
 generalize decide (a≤400)=b1 at *
 generalize decide (d≤60)=b2 at *
 generalize decide (c≤400)=b3 at *
 cases b1 <;> cases b2 <;> repeat' ((conv=>whnf);first|exact trivial|refine rE _ (h1) ?_|refine rE _ (h2) ?_|refine nb_ _ d1 ?_|refine nb_ _ d2 ?_|refine nb_ _ d3 ?_|refine nT_ ?_|refine rb0 ?_|refine rbx ?_|refine aS ?_|fail)
end Go.TY
end
section
namespace Go.TY
open Go Go.DL Go.MM Go.Proofs
end Go.TY
end
section
namespace Go.TY
open Go Go.DL Go.MM Go.Proofs
theorem uY (g:RG):(sD g).take 9=sA g.pol:=by
 have:=C9 g
 rwa [List.drop_zero] at this
theorem wE (g:RG):9≤(sD g).length:=by rw [sI];exact nlZ rfl
theorem xD (g:RG):15≤(sD g).length:=by rw [sI];exact Nat.le_refl _
theorem EX (g:RG):11<(sD g).length:=by rw [sI];exact nlZ rfl
theorem vh (g:RG):((sD g).take 9).length=9:=by rw [uY,sE]
theorem zU (a b:List RG) (hl:a.length<2^60) (hg: ∀g∈a,g.pol.wt<2^59∧g.st.key.length<2^60):
  DCalls Tryz.prog 54 [.slice 15 (a.map sF),.slice 15 (b.map sF)] (.bool (vC a b)):=by
 refine qO (rs:=[.tmp 4]) mixed Tryz.func54 l54 rfl rfl rfl (r:=[.bool _]) (nlZ rfl) ?_
 have ha:((a.map sF).length:Int)=a.length:=by rw [List.length_map]
 have hb:((b.map sF).length:Int)=b.length:=by rw [List.length_map]
 by_cases hab:a.length=b.length
 case neg=>
  rw [sU uQ fun e=>hab (by rw [e])]
  have hn:((a.map sF).length:Int)≠((b.map sF).length:Int):=by omega
  repeat' ((conv=>whnf);first|exact trivial|refine qz hn ?_|refine rb0 ?_|refine aS ?_|fail)
 have hn:((a.map sF).length:Int)=((b.map sF).length:Int):=by omega
 repeat' ((conv=>whnf);first|refine qy hn ?_|refine aS ?_|fail)
 refine rq (α:=Nat) (fun i=>{sl:=[(0,.t (.slice 15 (a.map sF))),(1,.t (.slice 15 (b.map sF))),(5,.t (I i))],bx:=[]})
  (fun i=>i≤a.length∧ ∀j (h:j<a.length) (h':j<b.length),j<i→a[j]=b[j]) (fun i=>a.length - i) 0 (by simp) ?_ ?_
 ·repeat' (first|exact trivial|exact LeV.same _|exact rfl|exact fun _ _ _=>trivial|refine And.intro ?_ ?_)
 rintro i ⟨hi,hp⟩
 rcases Nat.lt_or_ge i a.length with h|h
 ·have h':i<b.length:=by omega
  have hlt:(i:Int)<((a.map sF).length:Int):=by omega
  have hgi:=hg _ (List.getElem_mem h)
  have hc:=wI _ a[i].pol b[i].pol (Nat.le_refl _) (by omega)
  have hs:=y6 a[i].st b[i].st hgi.2
  have hc1:=uY a[i]
  have hc2:=uY b[i]
  have hc3:=xw a[i]
  have hc4:=xw b[i]
  have hl1:=sI a[i]
  have hl2:=sI b[i]
  by_cases he:a[i]=b[i]
  ·rw [tU.2 (congrArg RG.pol he)] at hc
   rw [tQ.2 (congrArg RG.st he)] at hs
   repeat' ((conv=>whnf);first|refine qv hlt ?_|(refine nv_ (.agg (sD a[i])) (by first|((simp [h];rfl);done)|fail) ?_)|(refine nv_ (.agg (sD b[i])) (by first|((simp [h'];rfl);done)|fail) ?_)|(refine nv_ (.agg (sA a[i].pol)) (by first|exact congrArg T.agg hc1|fail) ?_)|(refine nv_ (.agg (sA b[i].pol)) (by first|exact congrArg T.agg hc2|fail) ?_)|(refine nv_ (.agg (sK a[i].st)) (by first|exact congrArg T.agg hc3|fail) ?_)|(refine nv_ (.agg (sK b[i].st)) (by first|exact congrArg T.agg hc4|fail) ?_)|refine rE _ (hc) ?_|refine rE _ (hs) ?_|(refine And.intro (by first|exact sI _|exact vh _|exact wE _|exact xD _|fail) ?_)|refine aS ?_|fail)
   refine ⟨i+1,⟨h,fun j hj hj' hlt=>?_⟩,by omega,?_⟩
   ·rcases Nat.lt_or_ge j i with h4|h4
    ·exact hp j hj hj' h4
    ·obtain rfl:j=i:=by omega
     exact he
   ·repeat' (first|exact trivial|exact LeV.same _|exact rfl|exact fun _ _ _=>trivial|exact lI|refine And.intro ?_ ?_)
  ·rw [sU uQ fun e=>he (by subst e;rfl)]
   have hor:uI a[i].pol b[i].pol=false∨vZ a[i].st b[i].st=false:=by
    have:=sU zf he
    unfold ze at this
    exact Bool.and_eq_false_iff.1 this
   generalize uI a[i].pol b[i].pol=x1 at *
   generalize vZ a[i].st b[i].st=x2 at *
   cases x1 <;> cases x2 <;> first
    |(exfalso;rcases hor with h|h <;> cases h;done)
    |(repeat' ((conv=>whnf);first|exact trivial|refine qv hlt ?_|(refine nv_ (.agg (sD a[i])) (by first|((simp [h];rfl);done)|fail) ?_)|(refine nv_ (.agg (sD b[i])) (by first|((simp [h'];rfl);done)|fail) ?_)|(refine nv_ (.agg (sA a[i].pol)) (by first|exact congrArg T.agg hc1|fail) ?_)|(refine nv_ (.agg (sA b[i].pol)) (by first|exact congrArg T.agg hc2|fail) ?_)|(refine nv_ (.agg (sK a[i].st)) (by first|exact congrArg T.agg hc3|fail) ?_)|(refine nv_ (.agg (sK b[i].st)) (by first|exact congrArg T.agg hc4|fail) ?_)|refine rE _ (hc) ?_|refine rE _ (hs) ?_|refine rb0 ?_|(refine And.intro (by first|exact sI _|exact vh _|exact wE _|exact xD _|fail) ?_)|refine aS ?_|fail))
 ·have e:a=b:=List.ext_getElem hab fun j h1 h2=>hp j h1 h2 (by omega)
  rw [uQ.2 e]
  have hlt: ¬(i:Int)<((a.map sF).length:Int):=by omega
  repeat' ((conv=>whnf);first|exact trivial|refine qu hlt ?_|refine rb1 ?_|refine aS ?_|fail)
end Go.TY
end
section
namespace Go.TY
open Go Go.DL Go.MM Go.Proofs
theorem Ed (s:RS):vZ s ⟨0,e0,[],e0,0,0⟩=vp s:=by
 obtain ⟨k,v,l,f,n,m⟩:=s
 unfold vZ vp
 have:vj l []=(l.length==0):=by cases l <;> rfl
 rw [this]
theorem EH (s:RS) (hl:s.key.length<2^60):DCalls Tryz.prog 104 [.agg (sK s),.agg [I 0,.str e0,.nil,.str e0,I 0,I 0]] (.bool (vp s)):=by
 rw [← Ed]
 exact (y6 s ⟨0,e0,[],e0,0,0⟩ hl).lesAll ⟨Les.refl _,Les.agg (.cons (Les.refl _) rfl (.cons (Les.refl _) rfl (.cons (Les.nil 1) rfl (.cons (Les.refl _) rfl (.cons (Les.refl _) rfl (.cons (Les.refl _) rfl .nil)))))),trivial⟩
theorem FW (br e nd:Bool) (n m:Int):uD 3 br e nd n m=(e&&(decide (n≥0)&&(decide (n≤1073741824)&&(m==0)))):=by
 unfold uD uM
 rw [if_neg (by omega),if_neg (by omega),if_pos rfl]
 cases e <;> cases h1:decide (0≤n) <;> cases h2:decide (n≤1073741824) <;> cases h3:(m==0) <;> simp_all
theorem FX (br e nd:Bool) (n m:Int):uD 4 br e nd n m=(nd&&(decide (n≥0)&&(decide (n≤m)&&decide (m≤65535)))):=by
 unfold uD tS
 rw [if_neg (by omega),if_neg (by omega),if_neg (by omega),if_pos rfl]
 cases nd
 ·rfl
 ·rw [Bool.eq_iff_iff]
  simp only [Bool.true_and,Bool.and_eq_true,decide_eq_true_eq]
  omega
theorem FY (br e nd:Bool) (n m:Int):uD 6 br e nd n m=(e&&(decide (n≥1)&&(decide (n≤65535)&&(decide (m≥1)&&decide (m≤1073741824))))):=by
 unfold uD tS uM
 rw [if_neg (by omega),if_neg (by omega),if_neg (by omega),if_neg (by omega),if_neg (by omega),if_pos rfl]
 cases e
 ·rfl
 ·rw [Bool.eq_iff_iff]
  simp only [Bool.true_and,Bool.and_eq_true,decide_eq_true_eq]
  omega
theorem AE (s:RS) (hv:s.var.size<2^62) (hf:s.field.size<2^62) (hk: ∀k∈s.key,k.size<2^62) (hl:s.key.length<2^60):DCalls Tryz.prog 127 [.agg (sK s)] (.bool (okS s)):=by
 refine qO (rs:=[.tmp 2]) mixed Tryz.func127 LR rfl rfl rfl (r:=[.bool _]) (nlZ rfl) ?_
 have h0:=EH s hl
 unfold okS
 generalize vp s=z0 at *
 obtain ⟨k,v,l,f,n,m⟩:=s
 dsimp only at hv hf hk hl ⊢
 cases z0 with
 |true=>repeat' ((conv=>whnf);first|exact trivial|refine rE _ (h0) ?_|refine rb1 ?_|refine aS ?_|fail)
 |false=>
 rw [Bool.false_or]
 have h1:=t108 v hv
 have h3:=t104 f hf
 have hE:=sO f e0
 have hlen:((l.map T.str).length:Int)=(l.length:Int):=by rw [List.length_map]
 generalize uz v=pv at *
 generalize sS f=nd at *
 generalize sC f e0=e at *
 repeat' ((conv=>whnf);first|refine rE _ (h0) ?_|refine rE _ (h1) ?_|refine nT_ ?_|refine aS ?_|fail)
 refine rA (β:=Unit) (fun _=>{sl:=[(1,.ptr 1 0),(29,.t (.bool (!(pv&&decide (1≤l.length)&&decide (l.length≤4)))))],bx:=[(1,.d 6 (sK ⟨k,v,l,f,n,m⟩))]}) (fun _=>True) ?_ ?_
 ·by_cases c0:1≤l.length
  ·have e0': ¬((l.map T.str).length:Int)<1:=by omega
   rw [decide_eq_true c0,Bool.and_true]
   by_cases c4:l.length≤4
   ·have e4: ¬((l.map T.str).length:Int)>4:=by omega
    rw [decide_eq_true c4,Bool.and_true]
    cases pv <;> repeat' ((conv=>whnf);first|refine qu e0' ?_|refine qu e4 ?_|(exact ⟨(),trivial,by (repeat' (first|exact trivial|exact LeV.same _|exact LeB.same _|exact rfl|exact fun _ _ _=>trivial|refine And.intro ?_ ?_));done⟩)|refine nT_ ?_|refine aS ?_|fail)
   ·have e4:((l.map T.str).length:Int)>4:=by omega
    rw [decide_eq_false c4,Bool.and_false]
    cases pv <;> repeat' ((conv=>whnf);first|refine qu e0' ?_|refine qv e4 ?_|(exact ⟨(),trivial,by (repeat' (first|exact trivial|exact LeV.same _|exact LeB.same _|exact rfl|exact fun _ _ _=>trivial|refine And.intro ?_ ?_));done⟩)|refine nT_ ?_|refine aS ?_|fail)
  ·have e0':((l.map T.str).length:Int)<1:=by omega
   rw [decide_eq_false c0,Bool.and_false,Bool.false_and]
   cases pv <;> repeat' ((conv=>whnf);first|refine qv e0' ?_|(exact ⟨(),trivial,by (repeat' (first|exact trivial|exact LeV.same _|exact LeB.same _|exact rfl|exact fun _ _ _=>trivial|refine And.intro ?_ ?_));done⟩)|refine nT_ ?_|refine aS ?_|fail)
 rintro _ _
 generalize (pv&&decide (1≤l.length)&&decide (l.length≤4))=g at *
 cases g with
 |false=>repeat' ((conv=>whnf);first|exact trivial|refine rb0 ?_|fail)
 |true=>
 rw [Bool.true_and]
 skip
 refine qZ 0 (α:=Nat) (β:=Unit) (fun i=>{sl:=[(1,.ptr 1 0),(5,.t (I i))],bx:=[(1,.d 6 (sK ⟨k,v,l,f,n,m⟩))]})
  (fun i=>i≤l.length∧ ∀j (h:j<l.length),j<i→sS l[j]=true) (fun i=>l.length - i)
  (fun _=>{sl:=[(1,.ptr 1 0)],bx:=[(1,.d 6 (sK ⟨k,v,l,f,n,m⟩))]}) (fun _=>l.all sS=true) 0 (by simp) ?_ ?_ ?_
 ·repeat' (first|exact trivial|exact LeV.same _|exact LeB.same _|exact rfl|exact fun _ _ _=>trivial|refine And.intro ?_ ?_)
 ·rintro i ⟨hi,hp⟩
  rcases Nat.lt_or_ge i l.length with h|h
  ·have hlt:(i:Int)<((l.map T.str).length:Int):=by omega
   have hn:=t104 l[i] (hk _ (List.getElem_mem h))
   have hx:(l.map T.str)[i]?.getD .nil= .str l[i]:=by simp [h]
   cases hb:sS l[i] with
   |true=>
    rw [hb] at hn
    repeat' ((conv=>whnf);first|refine qv hlt ?_|(refine nv_ (.str l[i]) (by first|exact hx|fail) ?_)|refine rE _ (hn) ?_|refine nT_ ?_|refine aS ?_|fail)
    refine ⟨i+1,⟨h,fun j hj hlt=>?_⟩,by omega,?_⟩
    ·rcases Nat.lt_or_ge j i with h4|h4
     ·exact hp j hj h4
     ·obtain rfl:j=i:=by omega
      exact hb
    ·repeat' (first|exact trivial|exact LeV.same _|exact LeB.same _|exact rfl|exact fun _ _ _=>trivial|exact lI|refine And.intro ?_ ?_)
   |false=>
    rw [hb] at hn
    have e:l.all sS=false:=by
     rw [List.all_eq_false]
     exact ⟨l[i],List.getElem_mem h,by rw [hb];simp⟩
    rw [e]
    clear e
    repeat' ((conv=>whnf);first|exact trivial|refine qv hlt ?_|(refine nv_ (.str l[i]) (by first|exact hx|fail) ?_)|refine rE _ (hn) ?_|refine nT_ ?_|refine rb0 ?_|refine aS ?_|fail)
  ·have hlt: ¬(i:Int)<((l.map T.str).length:Int):=by omega
   have hall:l.all sS=true:=by
    rw [List.all_eq_true]
    intro x hx
    obtain ⟨j,hj,rfl⟩:=List.getElem_of_mem hx
    exact hp j hj (by omega)
   repeat' ((conv=>whnf);first|refine qu hlt ?_|(exact ⟨(),hall,by (repeat' (first|exact trivial|exact LeV.same _|exact LeB.same _|exact rfl|exact fun _ _ _=>trivial|refine And.intro ?_ ?_));done⟩)|refine nT_ ?_|refine aS ?_|fail)
 rintro _ hall
 rw [hall,Bool.true_and]
 clear hall
 repeat' ((conv=>whnf);first|refine rE _ (h3) ?_|refine nT_ ?_|refine aS ?_|fail)
 refine rA (β:=Unit) (fun _=>{sl:=[(1,.ptr 1 0),(7,.t (.bool nd)),(8,.t (.bool ((n==0)&&(m==0))))],bx:=[(1,.d 6 (sK ⟨k,v,l,f,n,m⟩))]}) (fun _=>True) ?_ ?_
 ·by_cases hn:n=0
  ·by_cases hm:m=0
   ·rw [show ((n==0)&&(m==0))=true by simp [hn,hm]]
    repeat' ((conv=>whnf);first|refine qx hn ?_|refine qx hm ?_|(exact ⟨(),trivial,by (repeat' (first|exact trivial|exact LeV.same _|exact LeB.same _|exact rfl|exact fun _ _ _=>trivial|refine And.intro ?_ ?_));done⟩)|refine nT_ ?_|refine aS ?_|fail)
   ·rw [show ((n==0)&&(m==0))=false by simp [hm]]
    repeat' ((conv=>whnf);first|refine qx hn ?_|refine qw hm ?_|(exact ⟨(),trivial,by (repeat' (first|exact trivial|exact LeV.same _|exact LeB.same _|exact rfl|exact fun _ _ _=>trivial|refine And.intro ?_ ?_));done⟩)|refine nT_ ?_|refine aS ?_|fail)
  ·rw [show ((n==0)&&(m==0))=false by simp [hn]]
   repeat' ((conv=>whnf);first|refine qw hn ?_|(exact ⟨(),trivial,by (repeat' (first|exact trivial|exact LeV.same _|exact LeB.same _|exact rfl|exact fun _ _ _=>trivial|refine And.intro ?_ ?_));done⟩)|refine nT_ ?_|refine aS ?_|fail)
 rintro _ _
 clear h0 h1 h3
 generalize ((n==0)&&(m==0))=br at *
 by_cases k1:k=1
 ·subst k1
  unfold uD
  rw [if_pos rfl]
  cases br <;> cases e <;> cases nd <;> repeat' ((conv=>whnf);first|exact trivial|refine nb_ _ hE ?_|refine nT_ ?_|refine aE1 ?_|refine rb1 ?_|refine rb0 ?_|refine aS ?_|fail)
 by_cases k2:k=2
 ·subst k2
  unfold uD
  rw [if_neg (by omega),if_pos rfl]
  cases br <;> cases e <;> repeat' ((conv=>whnf);first|exact trivial|refine nb_ _ hE ?_|refine nT_ ?_|refine aE1 ?_|refine aE0 ?_|refine rb1 ?_|refine rb0 ?_|refine aS ?_|fail)
 by_cases k3:k=3
 ·subst k3
  rw [FW]
  by_cases q1:n≥0
  ·by_cases q2:n≤1073741824
   ·rw [decide_eq_true q1,decide_eq_true q2,Bool.true_and,Bool.true_and]
    by_cases q3:m=0
    ·rw [show (m==0)=true by simp [q3]]
     cases e <;> repeat' ((conv=>whnf);first|exact trivial|refine nb_ _ hE ?_|refine qv q1 ?_|refine qv q2 ?_|refine qx q3 ?_|refine nT_ ?_|refine aE1 ?_|refine aE0 ?_|refine rb1 ?_|refine rb0 ?_|refine aS ?_|fail)
    ·rw [show (m==0)=false by simp [q3]]
     cases e <;> repeat' ((conv=>whnf);first|exact trivial|refine nb_ _ hE ?_|refine qv q1 ?_|refine qv q2 ?_|refine qw q3 ?_|refine nT_ ?_|refine aE1 ?_|refine aE0 ?_|refine rb0 ?_|refine aS ?_|fail)
   ·rw [decide_eq_true q1,decide_eq_false q2,Bool.true_and,Bool.false_and]
    cases e <;> repeat' ((conv=>whnf);first|exact trivial|refine nb_ _ hE ?_|refine qv q1 ?_|refine qu q2 ?_|refine nT_ ?_|refine aE1 ?_|refine aE0 ?_|refine rb0 ?_|refine aS ?_|fail)
  ·rw [decide_eq_false q1,Bool.false_and]
   cases e <;> repeat' ((conv=>whnf);first|exact trivial|refine nb_ _ hE ?_|refine qu q1 ?_|refine nT_ ?_|refine aE1 ?_|refine aE0 ?_|refine rb0 ?_|refine aS ?_|fail)
 by_cases k4:k=4
 ·subst k4
  rw [FX]
  by_cases q1:n≥0
  ·by_cases q2:n≤m
   ·rw [decide_eq_true q1,decide_eq_true q2,Bool.true_and,Bool.true_and]
    by_cases q3:m≤65535
    ·rw [decide_eq_true q3]
     cases nd <;> repeat' ((conv=>whnf);first|exact trivial|refine qv q1 ?_|refine qv q2 ?_|refine qv q3 ?_|refine nT_ ?_|refine aE1 ?_|refine aE0 ?_|refine rb1 ?_|refine rb0 ?_|refine aS ?_|fail)
    ·rw [decide_eq_false q3]
     cases nd <;> repeat' ((conv=>whnf);first|exact trivial|refine qv q1 ?_|refine qv q2 ?_|refine qu q3 ?_|refine nT_ ?_|refine aE1 ?_|refine aE0 ?_|refine rb0 ?_|refine aS ?_|fail)
   ·rw [decide_eq_true q1,decide_eq_false q2,Bool.true_and,Bool.false_and]
    cases nd <;> repeat' ((conv=>whnf);first|exact trivial|refine qv q1 ?_|refine qu q2 ?_|refine nT_ ?_|refine aE1 ?_|refine aE0 ?_|refine rb0 ?_|refine aS ?_|fail)
  ·rw [decide_eq_false q1,Bool.false_and]
   cases nd <;> repeat' ((conv=>whnf);first|exact trivial|refine qu q1 ?_|refine nT_ ?_|refine aE1 ?_|refine aE0 ?_|refine rb0 ?_|refine aS ?_|fail)
 by_cases k5:k=5
 ·subst k5
  unfold uD
  rw [if_neg (by omega),if_neg (by omega),if_neg (by omega),if_neg (by omega),if_pos rfl]
  cases br <;> cases nd <;> repeat' ((conv=>whnf);first|exact trivial|refine nT_ ?_|refine aE1 ?_|refine aE0 ?_|refine rb1 ?_|refine rb0 ?_|refine aS ?_|fail)
 by_cases k6:k=6
 ·subst k6
  rw [FY]
  by_cases q1:n≥1
  ·by_cases q2:n≤65535
   ·rw [decide_eq_true q1,decide_eq_true q2,Bool.true_and,Bool.true_and]
    by_cases q3:m≥1
    ·rw [decide_eq_true q3,Bool.true_and]
     by_cases q4:m≤1073741824
     ·rw [decide_eq_true q4]
      cases e <;> repeat' ((conv=>whnf);first|exact trivial|refine nb_ _ hE ?_|refine qv q1 ?_|refine qv q2 ?_|refine qv q3 ?_|refine qv q4 ?_|refine nT_ ?_|refine aE1 ?_|refine aE0 ?_|refine rb1 ?_|refine rb0 ?_|refine aS ?_|fail)
     ·rw [decide_eq_false q4]
      cases e <;> repeat' ((conv=>whnf);first|exact trivial|refine nb_ _ hE ?_|refine qv q1 ?_|refine qv q2 ?_|refine qv q3 ?_|refine qu q4 ?_|refine nT_ ?_|refine aE1 ?_|refine aE0 ?_|refine rb0 ?_|refine aS ?_|fail)
    ·rw [decide_eq_false q3,Bool.false_and]
     cases e <;> repeat' ((conv=>whnf);first|exact trivial|refine nb_ _ hE ?_|refine qv q1 ?_|refine qv q2 ?_|refine qu q3 ?_|refine nT_ ?_|refine aE1 ?_|refine aE0 ?_|refine rb0 ?_|refine aS ?_|fail)
   ·rw [decide_eq_true q1,decide_eq_false q2,Bool.true_and,Bool.false_and]
    cases e <;> repeat' ((conv=>whnf);first|exact trivial|refine nb_ _ hE ?_|refine qv q1 ?_|refine qu q2 ?_|refine nT_ ?_|refine aE1 ?_|refine aE0 ?_|refine rb0 ?_|refine aS ?_|fail)
  ·rw [decide_eq_false q1,Bool.false_and]
   cases e <;> repeat' ((conv=>whnf);first|exact trivial|refine nb_ _ hE ?_|refine qu q1 ?_|refine nT_ ?_|refine aE1 ?_|refine aE0 ?_|refine rb0 ?_|refine aS ?_|fail)
 unfold uD
 rw [if_neg k1,if_neg k2,if_neg k3,if_neg k4,if_neg k5,if_neg k6]
 repeat' ((conv=>whnf);first|exact trivial|refine nT_ ?_|refine aE0 ?_|refine rb0 ?_|refine aS ?_|fail)
theorem By (s:RS) (h:SmS (2^60) s):DCalls Tryz.prog 83 [.agg (sK s)] (I (ta s)):=by
 refine qO (rs:=[.tmp 2]) mixed Tryz.func83 l83 rfl rfl rfl (r:=[.int _ _]) (nlZ rfl) ?_
 have h1:=AE s (by have:=h.var;omega) (by have:=h.field;omega) (fun k hk=>by have:=h.keys k hk;omega) h.len
 unfold ta
 generalize okS s=b at *
 cases b <;> repeat' ((conv=>whnf);first|exact trivial|refine rE _ (h1) ?_|refine rix ?_|(refine And.intro (by first|(rfl;done)|fail) ?_)|fail)
theorem zy (gs:List RG) (hl:gs.length<2^60) (hg: ∀g∈gs,SmG (2^59) g):DCalls Tryz.prog 47 [.slice 15 (gs.map sF)] (I (uN gs)):=by
 refine qO (rs:=[.tmp 2]) mixed Tryz.func47 l47 rfl rfl rfl (r:=[.int _ _]) (nlZ rfl) ?_
 have hlen:((gs.map sF).length:Int)=(gs.length:Int):=by rw [List.length_map]
 unfold uN
 by_cases h8:gs.length>8
 ·rw [if_pos h8]
  have e8:((gs.map sF).length:Int)>8:=by omega
  repeat' ((conv=>whnf);first|exact trivial|refine qv e8 ?_|refine rix ?_|refine aS ?_|fail)
 rw [if_neg h8]
 have e8: ¬((gs.map sF).length:Int)>8:=by omega
 repeat' ((conv=>whnf);first|refine qu e8 ?_|refine aS ?_|fail)
 refine rq (α:=Nat) (fun i=>{sl:=[(0,.t (.slice 15 (gs.map sF))),(3,.t (I i))],bx:=[]})
  (fun i=>i≤gs.length∧ ∀j (h:j<gs.length),j<i→tC gs[j].pol=0∧ta gs[j].st=0) (fun i=>gs.length - i) 0 (by simp) ?_ ?_
 ·repeat' (first|exact trivial|exact LeV.same _|exact rfl|exact fun _ _ _=>trivial|refine And.intro ?_ ?_)
 rintro i ⟨hi,hp⟩
 rcases Nat.lt_or_ge i gs.length with h|h
 ·have hlt:(i:Int)<((gs.map sF).length:Int):=by omega
  have hm:=hg gs[i] (List.getElem_mem h)
  have h1:=t63 gs[i].pol (by have:=hm.wt;omega) (hm.names (by omega))
  have h2:=By gs[i].st (hm.st.mono (by omega))
  have hx:(gs.map sF)[i]?.getD .nil= .agg (sD gs[i]):=by simp [h];rfl
  have hc1:=uY gs[i]
  have hc2:=xw gs[i]
  by_cases c1:tC gs[i].pol=0
  ·rw [c1] at h1
   by_cases c2:ta gs[i].st=0
   ·rw [c2] at h2
    repeat' ((conv=>whnf);first|refine qv hlt ?_|(refine nv_ (.agg (sD gs[i])) (by first|exact hx|fail) ?_)|(refine nv_ (.agg (sA gs[i].pol)) (by first|exact congrArg T.agg hc1|fail) ?_)|(refine nv_ (.agg (sK gs[i].st)) (by first|exact congrArg T.agg hc2|fail) ?_)|refine rE _ (h1) ?_|refine rE _ (h2) ?_|refine aN0 ?_|(refine And.intro (by first|exact vh _|exact wE _|exact xD _|fail) ?_)|refine aS ?_|fail)
    refine ⟨i+1,⟨h,fun j hj hlt=>?_⟩,by omega,?_⟩
    ·rcases Nat.lt_or_ge j i with h4|h4
     ·exact hp j hj h4
     ·obtain rfl:j=i:=by omega
      exact ⟨c1,c2⟩
    ·repeat' (first|exact trivial|exact LeV.same _|exact rfl|exact fun _ _ _=>trivial|exact lI|refine And.intro ?_ ?_)
   ·have e:=z8 (f:=fun g:RG=>tC g.pol) (g:=fun g=>ta g.st) h hp c1 c2
    rw [e]
    clear e
    dsimp only
    generalize ta gs[i].st=x at *
    repeat' ((conv=>whnf);first|exact trivial|refine qv hlt ?_|(refine nv_ (.agg (sD gs[i])) (by first|exact hx|fail) ?_)|(refine nv_ (.agg (sA gs[i].pol)) (by first|exact congrArg T.agg hc1|fail) ?_)|(refine nv_ (.agg (sK gs[i].st)) (by first|exact congrArg T.agg hc2|fail) ?_)|refine rE _ (h1) ?_|refine rE _ (h2) ?_|refine qz c2 ?_|refine aN0 ?_|refine rix ?_|(refine And.intro (by first|exact vh _|exact wE _|exact xD _|fail) ?_)|refine aS ?_|fail)
  ·have e:=z7 (f:=fun g:RG=>tC g.pol) (g:=fun g=>ta g.st) h hp c1
   rw [e]
   clear e
   dsimp only
   generalize tC gs[i].pol=x at *
   repeat' ((conv=>whnf);first|exact trivial|refine qv hlt ?_|(refine nv_ (.agg (sD gs[i])) (by first|exact hx|fail) ?_)|(refine nv_ (.agg (sA gs[i].pol)) (by first|exact congrArg T.agg hc1|fail) ?_)|refine rE _ (h1) ?_|refine qz c1 ?_|refine rix ?_|(refine And.intro (by first|exact vh _|exact wE _|exact xD _|fail) ?_)|refine aS ?_|fail)
 ·have hlt: ¬(i:Int)<((gs.map sF).length:Int):=by omega
  have e:=zZ (f:=fun g:RG=>tC g.pol) (g:=fun g=>ta g.st) (xs:=gs) fun j hj=>hp j hj (by omega)
  rw [e]
  repeat' ((conv=>whnf);first|exact trivial|refine qu hlt ?_|refine rix ?_|refine aS ?_|fail)
def vJ (g:RG):Bool:=Cb g.pol&&decide (g.st.key.length≤20)
def yG (gs:List RG):Bool:=gs.all vJ&&decide (gs.length≤12)
theorem GG (g:RG):(sD g)[11]?.getD .nil= .slice 1 (g.st.key.map .str):=by
 unfold sD
 rw [List.getElem?_append_right (by rw [sE];omega),sE]
 rfl
theorem AD (gs:List RG) (hl:gs.length<2^60) (hg: ∀g∈gs,g.pol.wt<2^60):DCalls Tryz.prog 37 [.slice 15 (gs.map sF)] (.bool (yG gs)):=by
 refine qO (rs:=[.tmp 2]) mixed Tryz.func37 l37 rfl rfl rfl (r:=[.bool _]) (nlZ rfl) ?_
 have hlen:((gs.map sF).length:Int)=(gs.length:Int):=by rw [List.length_map]
 skip
 refine qZ 0 (α:=Nat) (β:=Unit) (fun i=>{sl:=[(0,.t (.slice 15 (gs.map sF))),(3,.t (I i))],bx:=[]})
  (fun i=>i≤gs.length∧i≤12∧ ∀j (h:j<gs.length),j<i→vJ gs[j]=true) (fun i=>gs.length - i)
  (fun _=>{sl:=[(0,.t (.slice 15 (gs.map sF)))],bx:=[]}) (fun _=>gs.length≤12→gs.all vJ=true) 0 (by simp) ?_ ?_ ?_
 ·repeat' (first|exact trivial|exact LeV.same _|exact rfl|exact fun _ _ _=>trivial|refine And.intro ?_ ?_)
 ·rintro i ⟨hi,hi2,hp⟩
  have out:(¬ i<gs.length∨ ¬i<12)→gs.length≤12→gs.all vJ=true:=fun hc h12=>by
   rw [List.all_eq_true]
   intro x hx
   obtain ⟨j,hj,rfl⟩:=List.getElem_of_mem hx
   exact hp j hj (by omega)
  rcases Nat.lt_or_ge i gs.length with h|h
  ·have hlt:(i:Int)<((gs.map sF).length:Int):=by omega
   rcases Nat.lt_or_ge i 12 with h12|h12
   ·have hlt2:(i:Int)<12:=by omega
    have h1:=Bz gs[i].pol (hg gs[i] (List.getElem_mem h))
    have hx:(gs.map sF)[i]?.getD .nil= .agg (sD gs[i]):=by simp [h];rfl
    have hc1:=uY gs[i]
    have hc2:=GG gs[i]
    have hkl:((gs[i].st.key.map T.str).length:Int)=gs[i].st.key.length:=by rw [List.length_map]
    have bad:vJ gs[i]=false→yG gs=false:=fun hb=>by
     unfold yG
     rw [show gs.all vJ=false from List.all_eq_false.2 ⟨gs[i],List.getElem_mem h,by rw [hb];simp⟩,Bool.false_and]
    clear out
    cases hb:Cb gs[i].pol with
    |false=>
     rw [hb] at h1
     rw [bad (by unfold vJ;rw [hb];rfl)]
     clear bad
     repeat' ((conv=>whnf);first|exact trivial|refine qv hlt ?_|refine qv hlt2 ?_|(refine nv_ (.agg (sD gs[i])) (by first|exact hx|fail) ?_)|(refine nv_ (.agg (sA gs[i].pol)) (by first|exact congrArg T.agg hc1|fail) ?_)|refine rE _ (h1) ?_|refine rb0 ?_|(refine And.intro (by first|exact vh _|exact wE _|exact xD _|fail) ?_)|refine aS ?_|fail)
    |true=>
     rw [hb] at h1
     by_cases c2:gs[i].st.key.length≤20
     ·have q: ¬((gs[i].st.key.map T.str).length:Int)>20:=by omega
      have good:vJ gs[i]=true:=by unfold vJ;rw [hb,decide_eq_true c2];rfl
      clear bad
      repeat' ((conv=>whnf);first|refine qv hlt ?_|refine qv hlt2 ?_|refine qu q ?_|(refine nv_ (.agg (sD gs[i])) (by first|exact hx|fail) ?_)|(refine nv_ (.agg (sA gs[i].pol)) (by first|exact congrArg T.agg hc1|fail) ?_)|(refine nv_ (.slice 1 (gs[i].st.key.map .str)) (by first|exact hc2|fail) ?_)|refine rE _ (h1) ?_|(refine And.intro (by first|exact vh _|exact wE _|exact EX _|fail) ?_)|refine aS ?_|fail)
      refine ⟨i+1,⟨h,by omega,fun j hj hlt=>?_⟩,by omega,?_⟩
      ·rcases Nat.lt_or_ge j i with h4|h4
       ·exact hp j hj h4
       ·obtain rfl:j=i:=by omega
        exact good
      ·repeat' (first|exact trivial|exact LeV.same _|exact rfl|exact fun _ _ _=>trivial|exact lI|refine And.intro ?_ ?_)
     ·have q:((gs[i].st.key.map T.str).length:Int)>20:=by omega
      rw [bad (by unfold vJ;rw [decide_eq_false c2,Bool.and_false])]
      clear bad
      repeat' ((conv=>whnf);first|exact trivial|refine qv hlt ?_|refine qv hlt2 ?_|refine qv q ?_|(refine nv_ (.agg (sD gs[i])) (by first|exact hx|fail) ?_)|(refine nv_ (.agg (sA gs[i].pol)) (by first|exact congrArg T.agg hc1|fail) ?_)|(refine nv_ (.slice 1 (gs[i].st.key.map .str)) (by first|exact hc2|fail) ?_)|refine rE _ (h1) ?_|refine rb0 ?_|(refine And.intro (by first|exact vh _|exact wE _|exact EX _|fail) ?_)|refine aS ?_|fail)
   ·have hlt2: ¬(i:Int)<12:=by omega
    have o:=out (Or.inr (by omega))
    repeat' ((conv=>whnf);first|refine qv hlt ?_|refine qu hlt2 ?_|(exact ⟨(),o,by (repeat' (first|exact trivial|exact LeV.same _|exact rfl|exact fun _ _ _=>trivial|refine And.intro ?_ ?_));done⟩)|refine aS ?_|fail)
  ·have hlt: ¬(i:Int)<((gs.map sF).length:Int):=by omega
   have o:=out (Or.inl (by omega))
   repeat' ((conv=>whnf);first|refine qu hlt ?_|(exact ⟨(),o,by (repeat' (first|exact trivial|exact LeV.same _|exact rfl|exact fun _ _ _=>trivial|refine And.intro ?_ ?_));done⟩)|refine aS ?_|fail)
 ·rintro _ o
  unfold yG
  by_cases c:gs.length≤12
  ·have q:((gs.map sF).length:Int)≤12:=by omega
   rw [o c,decide_eq_true c]
   repeat' ((conv=>whnf);first|exact trivial|refine qv q ?_|refine rb1 ?_|refine aS ?_|fail)
  ·have q: ¬((gs.map sF).length:Int)≤12:=by omega
   rw [decide_eq_false c,Bool.and_false]
   repeat' ((conv=>whnf);first|exact trivial|refine qu q ?_|refine rb0 ?_|refine aS ?_|fail)
end Go.TY
end
section
namespace Go.TY
open Go Go.DL Go.MM Go.Proofs
section
variable {α:Type} [DecidableEq α] {lt:α→α→Bool}
def tJ (lt:α→α→Bool) (s:α):Bool→List α→List α
 |false,r=>put lt r s
 |true,r=>r.filter fun y=> !decide (y=s)
theorem EJ {s x:α} {r:List α} (h:lt x s=true):tJ lt s false (x::r)=x::tJ lt s false r:=by
 show put lt (x::r) s=_
 unfold put
 rw [if_pos h];cases r <;> rfl
theorem AI {s x:α} {r:List α} (h:lt x s=false):tJ lt s false (x::r)=s::tJ lt s true (x::r):=by
 show put lt (x::r) s=_
 rw [put,if_neg (by rw [h];simp)];rfl
theorem AH {s x:α} {r:List α} (h:x=s):tJ lt s true (x::r)=tJ lt s true r:=by
 simp only [tJ]
 rw [List.filter_cons,if_neg (by simp [h])]
theorem AJ {s x:α} {r:List α} (h:x≠s):tJ lt s true (x::r)=x::tJ lt s true r:=by
 simp only [tJ]
 rw [List.filter_cons,if_pos (by simp [h])]
end
theorem AG (l:List Int) (s:Int) (hl:l.length<2^40):DCalls Tryz.prog 93 [.slice 1 (l.map I),I s] (.slice 1 ((put ltI l s).map I)):=by
 refine qO (rs:=[.tmp 4]) mixed Tryz.func93 l93 rfl rfl rfl (r:=[.slice 1 _]) (nlZ rfl) ?_
 have hll:((l.map I).length:Int)=l.length:=by rw [List.length_map]
 have hpl:=yi (lt:=ltI) (x:=s) (l:=l)
 skip
 refine qZ 0 (α:=Nat×Bool×Nat×List Int) (β:=Bool×Nat×List Int) (fun p=>{sl:=[(0,.t (.slice 1 (l.map I))),(1,.t (I s)),(5,.own p.2.2.1 3 1 (p.2.2.2.map I)),(6,.t (.bool p.2.1)),(7,.t (I p.1))],bx:=[]})
  (fun p=>p.1≤l.length∧(p.2.2.1=27∨p.2.2.1=40)∧p.2.2.2++tJ ltI s p.2.1 (l.drop p.1)=put ltI l s) (fun p=>l.length - p.1)
  (fun q=>{sl:=[(1,.t (I s)),(5,.own q.2.1 3 1 (q.2.2.map I)),(6,.t (.bool q.1))],bx:=[]}) (fun q=>(q.2.1=27∨q.2.1=40)∧q.2.2++tJ ltI s q.1 []=put ltI l s) (0,false,27,[]) ⟨by simp,Or.inl rfl,rfl⟩ ?_ ?_ ?_
 ·repeat' (first|exact trivial|exact LeV.same _|exact rfl|exact fun _ _ _=>trivial|exact LeV.nil _ _ _|refine And.intro ?_ ?_)
 ·rintro ⟨i,d,r,out⟩ ⟨hi,hr,hout⟩
  dsimp only at hi hr hout
  have hol:out.length≤l.length+1:=by
   have:=congrArg List.length hout
   rw [List.length_append] at this;omega
  rcases Nat.lt_or_ge i l.length with h|h
  ·have hlt:(i:Int)<((l.map I).length:Int):=by omega
   rw [List.drop_eq_getElem_cons h] at hout
   obtain ⟨x,hx⟩: ∃x,l[i]=x:=⟨_,rfl⟩
   rw [hx] at hout
   have hx':(l.map I)[i]?.getD .nil=I x:=by simp [h,hx]
   clear hpl
   skip
   refine rA (β:=Unit) (fun _=>{sl:=[(0,.t (.slice 1 (l.map I))),(1,.t (I s)),(5,.own r 3 1 (out.map I)),(6,.t (.bool d)),(7,.t (I i))],bx:=[]}) (fun _=>True) ?_ ?_
   ·repeat' ((conv=>whnf);first|refine qv hlt ?_|(exact ⟨(),trivial,by (repeat' (first|exact trivial|exact LeV.same _|exact rfl|exact fun _ _ _=>trivial|refine And.intro ?_ ?_));done⟩)|refine aS ?_|fail)
   rintro _ _
   have e1: ∀(o:List Int) y,(o++[y]).map I=o.map I++[I y]:=fun o y=>by rw [List.map_append];rfl
   skip
   refine rA (β:=Bool×Nat×List Int) (fun p=>{sl:=[(0,.t (.slice 1 (l.map I))),(1,.t (I s)),(5,.own p.2.1 3 1 (p.2.2.map I)),(6,.t (.bool p.1)),(7,.t (I i))],bx:=[]})
    (fun p=>(p.2.1=27∨p.2.1=40)∧p.2.2.length≤l.length+2∧(x=s→p.2.2++tJ ltI s p.1 (l.drop (i+1))=put ltI l s)∧(x≠s→(p.2.2++[x])++tJ ltI s p.1 (l.drop (i+1))=put ltI l s)) ?_ ?_
   ·cases d with
    |false=>
     cases hc:ltI x s with
     |true=>
      have q1:decide (x≥s)=false:=decide_eq_false (by unfold ltI at hc;simp at hc;omega)
      have inv:(r=27∨r=40)∧out.length≤l.length+2∧(x=s→out++tJ ltI s false (l.drop (i+1))=put ltI l s)∧(x≠s→(out++[x])++tJ ltI s false (l.drop (i+1))=put ltI l s):=
       ⟨hr,by omega,fun he=>absurd he (Ch.ne hc),fun _=>by rw [EJ hc,List.append_cons] at hout;exact hout⟩
      clear hout
      rcases hr with rfl|rfl
      ·repeat' ((conv=>whnf);first|(refine nv_ (I x) (by first|exact hx'|fail) ?_)|refine nb_ _ q1 ?_|(exact ⟨(false,27,out),inv,by (repeat' (first|exact trivial|exact LeV.same _|exact rfl|exact fun _ _ _=>trivial|refine And.intro ?_ ?_));done⟩)|refine nT_ ?_|refine aS ?_|fail)
      ·repeat' ((conv=>whnf);first|(refine nv_ (I x) (by first|exact hx'|fail) ?_)|refine nb_ _ q1 ?_|(exact ⟨(false,40,out),inv,by (repeat' (first|exact trivial|exact LeV.same _|exact rfl|exact fun _ _ _=>trivial|refine And.intro ?_ ?_));done⟩)|refine nT_ ?_|refine aS ?_|fail)
     |false=>
      have q1:decide (x≥s)=true:=decide_eq_true (by unfold ltI at hc;simp at hc;omega)
      have inv:(27=27∨27=40)∧(out++[s]).length≤l.length+2∧(x=s→(out++[s])++tJ ltI s true (l.drop (i+1))=put ltI l s)∧(x≠s→((out++[s])++[x])++tJ ltI s true (l.drop (i+1))=put ltI l s):=
       ⟨Or.inl rfl,by rw [List.length_append,List.length_cons,List.length_nil];omega,fun he=>by rw [AI hc,List.append_cons,AH he] at hout;exact hout,fun hne=>by rw [AI hc,List.append_cons,AJ hne,List.append_cons] at hout;exact hout⟩
      clear hout
      rcases hr with rfl|rfl <;> repeat' ((conv=>whnf);first|(refine nv_ (I x) (by first|exact hx'|fail) ?_)|refine nb_ _ q1 ?_|(exact ⟨(true,27,out++[s]),inv,by (repeat' (first|(exact rX (e1 out s))|exact trivial|exact LeV.same _|exact rfl|exact fun _ _ _=>trivial|refine And.intro ?_ ?_));done⟩)|refine nT_ ?_|(refine And.intro (by first|((simp only [List.length_map];omega);done)|fail) ?_)|refine aS ?_|fail)
    |true=>
     have inv:(r=27∨r=40)∧out.length≤l.length+2∧(x=s→out++tJ ltI s true (l.drop (i+1))=put ltI l s)∧(x≠s→(out++[x])++tJ ltI s true (l.drop (i+1))=put ltI l s):=
       ⟨hr,by omega,fun he=>by rw [AH he] at hout;exact hout,fun hne=>by rw [AJ hne,List.append_cons] at hout;exact hout⟩
     clear hout
     cases hc:ltI x s with
     |true=>
      have q1:decide (x≥s)=false:=decide_eq_false (by unfold ltI at hc;simp at hc;omega)
      rcases hr with rfl|rfl
      ·repeat' ((conv=>whnf);first|(refine nv_ (I x) (by first|exact hx'|fail) ?_)|refine nb_ _ q1 ?_|(exact ⟨(true,27,out),inv,by (repeat' (first|exact trivial|exact LeV.same _|exact rfl|exact fun _ _ _=>trivial|refine And.intro ?_ ?_));done⟩)|refine nT_ ?_|refine aS ?_|fail)
      ·repeat' ((conv=>whnf);first|(refine nv_ (I x) (by first|exact hx'|fail) ?_)|refine nb_ _ q1 ?_|(exact ⟨(true,40,out),inv,by (repeat' (first|exact trivial|exact LeV.same _|exact rfl|exact fun _ _ _=>trivial|refine And.intro ?_ ?_));done⟩)|refine nT_ ?_|refine aS ?_|fail)
     |false=>
      have q1:decide (x≥s)=true:=decide_eq_true (by unfold ltI at hc;simp at hc;omega)
      rcases hr with rfl|rfl
      ·repeat' ((conv=>whnf);first|(refine nv_ (I x) (by first|exact hx'|fail) ?_)|refine nb_ _ q1 ?_|(exact ⟨(true,27,out),inv,by (repeat' (first|exact trivial|exact LeV.same _|exact rfl|exact fun _ _ _=>trivial|refine And.intro ?_ ?_));done⟩)|refine nT_ ?_|refine aS ?_|fail)
      ·repeat' ((conv=>whnf);first|(refine nv_ (I x) (by first|exact hx'|fail) ?_)|refine nb_ _ q1 ?_|(exact ⟨(true,40,out),inv,by (repeat' (first|exact trivial|exact LeV.same _|exact rfl|exact fun _ _ _=>trivial|refine And.intro ?_ ?_));done⟩)|refine nT_ ?_|refine aS ?_|fail)
   clear hr hout hol
   rintro ⟨d,r,out⟩ ⟨hr,hol,i1,i2⟩
   dsimp only at hr hol i1 i2
   have hmu:l.length - (i+1)<l.length - i:=by omega
   by_cases he:x=s
   ·have q2:(x !=s)=false:=by simp [he]
    have inv:i+1≤l.length∧(r=27∨r=40)∧out++tJ ltI s d (l.drop (i+1))=put ltI l s:=⟨h,hr,i1 he⟩
    clear i1 i2
    rcases hr with rfl|rfl
    ·repeat' ((conv=>whnf);first|(refine nv_ (I x) (by first|exact hx'|fail) ?_)|refine nb_ _ q2 ?_|(exact ⟨(i+1,d,27,out),inv,hmu,by (repeat' (first|exact trivial|exact LeV.same _|exact rfl|exact fun _ _ _=>trivial|exact lI|refine And.intro ?_ ?_));done⟩)|refine nT_ ?_|refine aS ?_|fail)
    ·repeat' ((conv=>whnf);first|(refine nv_ (I x) (by first|exact hx'|fail) ?_)|refine nb_ _ q2 ?_|(exact ⟨(i+1,d,40,out),inv,hmu,by (repeat' (first|exact trivial|exact LeV.same _|exact rfl|exact fun _ _ _=>trivial|exact lI|refine And.intro ?_ ?_));done⟩)|refine nT_ ?_|refine aS ?_|fail)
   ·have q2:(x !=s)=true:=by simp [he]
    have inv:i+1≤l.length∧(40=27∨40=40)∧(out++[x])++tJ ltI s d (l.drop (i+1))=put ltI l s:=⟨h,Or.inr rfl,i2 he⟩
    clear i1 i2
    rcases hr with rfl|rfl <;> repeat' ((conv=>whnf);first|(refine nv_ (I x) (by first|exact hx'|fail) ?_)|refine nb_ _ q2 ?_|(exact ⟨(i+1,d,40,out++[x]),inv,hmu,by (repeat' (first|(exact rX (e1 out x))|exact trivial|exact LeV.same _|exact rfl|exact fun _ _ _=>trivial|exact lI|refine And.intro ?_ ?_));done⟩)|refine nT_ ?_|(refine And.intro (by first|((simp only [List.length_map];omega);done)|fail) ?_)|refine aS ?_|fail)
  ·have hlt: ¬(i:Int)<((l.map I).length:Int):=by omega
   rw [List.drop_eq_nil_of_le h] at hout
   skip
   refine rA (β:=Empty) (fun x=>x.elim) (fun _=>True) ?_ ?_
   ·repeat' ((conv=>whnf);first|refine qu hlt ?_|(exact ⟨(d,r,out),⟨hr,hout⟩,by (repeat' (first|exact trivial|exact LeV.same _|exact rfl|exact fun _ _ _=>trivial|refine And.intro ?_ ?_));done⟩)|refine aS ?_|fail)
   ·exact fun x=>x.elim
 ·rintro ⟨d,r,out⟩ ⟨hr,hout⟩
  dsimp only at hr hout
  have hol:out.length≤l.length+1:=by
   have:=congrArg List.length hout
   rw [List.length_append] at this;omega
  cases d with
  |true=>
   have hout:out++[]=put ltI l s:=hout
   rw [List.append_nil] at hout
   rw [← hout]
   rcases hr with rfl|rfl <;> repeat' ((conv=>whnf);first|exact trivial|refine aS ?_|fail)
  |false=>
   have hout:out++[s]=put ltI l s:=hout
   rw [← hout,List.map_append]
   rcases hr with rfl|rfl <;> repeat' ((conv=>whnf);first|exact trivial|refine aS ?_|fail)
end Go.TY
end
noncomputable section
namespace Go.TY
open Go Go.DL Go.Proofs
def c49:aY:=(.seq (.region [oo 2 (.box 9 (tm 0)),oo 3 (.box 1 (tm 1)),⟨some 4,.alloc [Z0,Z0,S0,Z0,Z0,.nil,S0,Z0,.nil],none,[]⟩] []) (.seq (.region [oo 5 (.alloc [.nilfn])] []) (.seq (.cut (.region [oo 6 (.mkfn 103 [(tm 3),(tm 5)]),o0 (.store 1 (tm 5) (tm 6))] [])) (.seq (.region [ld 7 5,lA 8 9 2,oo 9 (.b8 (tm 7) [tm 8]),o0 (.store 9 (tm 4) (tm 9))] []) .ret))))
theorem l49:(Tryz.f49.body.bind (bD Tryz.prog 10 [6000002]))=some c49:=by kernel_rfl
def Kf:aY:=(.seq (.region [oo 3 (.box 9 (tm 0)),⟨some 4,.alloc [Z0,Z0,S0,Z0,Z0,.nil,S0,Z0,.nil],none,[]⟩] []) (.seq (.region [fa 8 1 3,lA 9 5 8,ld 10 1,oo 11 (.call 52 [(tm 9),(tm 10)]),fa 12 1 3,o0 (.store 5 (tm 12) (tm 11))] []) (.seq (.region [oo 5 (.mov (.const .nil))] []) (.seq (.seq (.region [fa 13 8 3,ld 14 13,ln 15 14,oo 16 (.mov (Kc 0))] []) (.block 0 (.loop (.seq (.region [oo 17 (.bin .lss (tm 16) (tm 15))] []) (.seq (.cond (tm 17) .skip (.exit 0)) (.seq (.block 1 (.seq (.region [ix 18 9 14 16,lA 19 9 18,⟨some 7,.alloc [Z0,Z0,S0,Z0,Z0,.nil,S0,Z0,.nil],none,[]⟩,o0 (.store 9 (tm 7) (tm 19))] []) (.region [mv 20 5,ld 21 2,lA 22 9 7,oo 23 (.b8 (tm 21) [tm 22]),⟨some 24,.buildS 28 9 1 [Z0,Z0,S0,Z0,Z0,.nil,S0,Z0,.nil] [(0,(tm 23))],none,[]⟩,oo 25 (.append 26 28 9 120 (tm 20) (tm 24)),mv 5 25] []))) (.region [oo 26 (.bin .add (tm 16) (Kc 1)),mv 16 26] []))))))) (.seq (.region [mv 27 5,fa 28 8 3,o0 (.store 1 (tm 28) (tm 27))] []) (.seq (.region [lA 29 9 3,o0 (.store 9 (tm 4) (tm 29))] []) .ret))))))
theorem Lx:(Tryz.f103.body.bind (bD Tryz.prog 30 []))=some Kf:=by kernel_rfl
def c52:aY:=(.seq (.region [oo 2 (.box 5 (tm 0)),⟨some 4,.alloc [Z0,S0,Z0,Z0,.nil],none,[]⟩] []) (.seq (.seq (.region [fa 8 0 2,ld 9 8,oo 10 (.bin .eql (tm 9) (Kc 9))] []) (.cond (tm 10) (.seq (.seq (.region [fa 11 2 2,ld 12 11,mv 13 1,oo 14 (.bin .leq (tm 12) (tm 13)),mv 15 14,mT 16 1 15,oT 17 15 (.offA 3 (tm 2)),oT 18 15 (.load 1 false (tm 17)),oT 19 15 (.bin .lss (tm 16) (tm 18)),oo 20 (.pick (tm 15) (tm 19) kF)] []) (.cond (tm 20) (.seq (.region [⟨some 21,.build [Z0,S0,Z0,Z0,.nil] [(0,1,(Kc 1))],none,[]⟩,o0 (.store 5 (tm 4) (tm 21))] []) .ret) .skip)) (.seq (.region [⟨some 22,.build [Z0,S0,Z0,Z0,.nil] [(0,1,(Kc 2))],none,[]⟩,o0 (.store 5 (tm 4) (tm 22))] []) .ret)) .skip)) (.seq (.region [oo 5 (.mov (.const .nil))] []) (.seq (.seq (.region [fa 23 4 2,ld 24 23,ln 25 24,oo 26 (.mov (Kc 0))] []) (.block 0 (.loop (.seq (.region [oo 27 (.bin .lss (tm 26) (tm 25))] []) (.seq (.cond (tm 27) .skip (.exit 0)) (.seq (.block 1 (.seq (.region [ix 28 5 24 26,lA 29 5 28,⟨some 7,.alloc [Z0,S0,Z0,Z0,.nil],none,[]⟩,o0 (.store 5 (tm 7) (tm 29))] []) (.region [mv 30 5,lA 31 5 7,mv 32 1,oo 33 (.call 52 [(tm 31),(tm 32)]),⟨some 34,.buildS 25 5 1 [Z0,S0,Z0,Z0,.nil] [(0,(tm 33))],none,[]⟩,oo 35 (.append 23 25 5 64 (tm 30) (tm 34)),mv 5 35] []))) (.region [oo 36 (.bin .add (tm 26) (Kc 1)),mv 26 36] []))))))) (.seq (.region [mv 37 5,fa 38 4 2,o0 (.store 1 (tm 38) (tm 37))] []) (.seq (.region [lA 39 5 2,o0 (.store 5 (tm 4) (tm 39))] []) .ret))))))
theorem l52:(Tryz.f52.body.bind (bD Tryz.prog 40 []))=some c52:=by kernel_rfl
end Go.TY
end
section
namespace Go.TY
open Go Go.DL Go.MM Go.Proofs
inductive LeC:List T→List T→Prop
 |nil:LeC [] []
 |same (t:T) {ts us:List T} (h:LeC ts us):LeC (t::ts) (t::us)
 |none (n:Nat) {ts us:List T} (h:LeC ts us):LeC (.nil::ts) (.slice n []::us)
theorem LeC.len: ∀{ts us:List T},LeC ts us→ts.length=us.length
 |_,_,.nil=>rfl
 |_,_,.same _ h=>congrArg (· +1) h.len
 |_,_,.none _ h=>congrArg (· +1) h.len
theorem LeC.get: ∀{ts us:List T},LeC ts us→ ∀{i:Nat} {u:T},us[i]? =some u→ts[i]? =some u∨ ∃n,ts[i]? =some .nil∧u= .slice n []
 |_,_,.nil,i,u,h=>by simp at h
 |_,_,.same t h,i,u,hu=>by
  cases i with
  |zero=>exact .inl hu
  |succ i=>simpa using h.get (by simpa using hu)
 |_,_,.none n h,i,u,hu=>by
  cases i with
  |zero=>simp at hu;exact .inr ⟨n,rfl,hu.symm⟩
  |succ i=>simpa using h.get (by simpa using hu)
theorem Rep.leC {S:ar} {w:World} {v:Value} {ts us:List T} (h:Rep S w v (.agg ts)) (hl:LeC ts us):Rep S w v (.agg us):=by
 cases h with
 |agg cs _ hs h1 h=>
  refine .agg cs us (hs.trans hl.len) (fun t ht=>?_) fun i x u hx hu=>?_
  ·obtain ⟨i,hi⟩:=List.mem_iff_getElem?.1 ht
   rcases hl.get hi with e|⟨n,_,rfl⟩
   ·exact h1 t (List.mem_of_getElem? e)
   ·rfl
  ·rcases hl.get hu with e|⟨n,e,rfl⟩
   ·exact h i x u hx e
   ·exact Rep.kn n (h i x .nil hx e)
theorem Aa {P:Program} {f:FuncId} {xs ts us:List T} (h:DCalls P f xs (.agg ts)) (hl:LeC ts us):DCalls P f xs (.agg us):=h.res fun _ _ _ h=>Rep.leC h hl
theorem Ab {us:List T} (h:us.length=5): ∃a b c d e,us=[a,b,c,d,e]:=by
 match us,h with
 |[a,b,c,d,e],_=>exact ⟨a,b,c,d,e,rfl⟩
mutual
def tY (tick:Int):RP→RP
 |.mk k f n m a=>if k=9 then (if n≤tick∧tick<m then .mk 1 e0 0 0 [] else .mk 2 e0 0 0 []) else .mk k f n m (xA tick a)
def xA (tick:Int):List RP→List RP
 |[]=>[]
 |r::rs=>tY tick r::xA tick rs
end
theorem yH (tick:Int): ∀l:List RP,xA tick l=l.map (tY tick)
 |[]=>rfl
 |r::rs=>congrArg (tY tick r:: ·) (yH tick rs)
theorem t62 (tick:Int) (N:Nat): ∀r:RP,r.nodes≤N→N<2^40→DCalls Tryz.prog 52 [.agg (sB r),I tick] (.agg (sB (tY tick r))):=by
 induction N with
 |zero=>intro r h;have:=r.tV;omega
 |succ N ih=>
  rintro ⟨k,f,n,m,l⟩ hr hN
  simp only [RP.nodes,tY] at hr ⊢
  have go: ∀x,wpC Tryz.prog c52 (eU [.agg (sB (.mk k f n m l)),I tick]) (nW (dF Tryz.prog) [.cell 4 25] [x])→DCalls Tryz.prog 52 [.agg (sB (.mk k f n m l)),I tick] x:=fun x h=>
   qO (rs:=[.cell 4 25]) mixed Tryz.func52 l52 rfl rfl rfl (r:=[x]) (nlZ rfl) h
  by_cases hk:k=9
  ·rw [if_pos hk]
   by_cases hc:n≤tick∧tick<m
   ·rw [if_pos hc]
    refine Aa (go (.agg [I 1,nm0,I 0,I 0,.nil]) ?_) (.same _ (.same _ (.same _ (.same _ (.none _ .nil)))))
    repeat' ((conv=>whnf);first|exact trivial|refine nT_ ?_|refine aE1 ?_|refine aD1 ?_|refine aS ?_|fail)
   ·rw [if_neg hc]
    refine Aa (go (.agg [I 2,nm0,I 0,I 0,.nil]) ?_) (.same _ (.same _ (.same _ (.same _ (.none _ .nil)))))
    repeat' ((conv=>whnf);first|exact trivial|refine nT_ ?_|refine aE1 ?_|refine aD0 ?_|refine nD_ (fun hq=>?_) (fun hq=>?_)|refine aS ?_|fail)
    all_goals (exfalso;omega)
  ·rw [if_neg hk]
   have hl:=tP l
   refine go _ ?_
   repeat' ((conv=>whnf);first|refine nT_ ?_|refine aE0 ?_|refine aS ?_|fail)
   refine qZ 0 (α:=Nat) (β:=Unit) (fun q=>{sl:=[(1,.t (I tick)),(2,.ptr 2 0),(4,.ptr 4 0),(5,.own 35 25 5 ((l.take q).map fun x=>.agg (sB (tY tick x)))),(24,.t (.slice 5 (l.map sM))),(25,.t (I l.length)),(26,.t (I q))],bx:=[(2,.d 5 (sB (.mk k f n m l))),(4,.d 5 [I 0,nm0,I 0,I 0,.nil])]})
    (fun q=>q≤l.length) (fun q=>l.length - q) (fun _=>{sl:=[(2,.ptr 2 0),(4,.ptr 4 0),(5,.t (.slice 5 (l.map fun x=>.agg (sB (tY tick x)))))],bx:=[(2,.d 5 (sB (.mk k f n m l))),(4,.d 5 [I 0,nm0,I 0,I 0,.nil])]}) (fun _=>True) 0 (by simp) ?_ ?_ ?_
   ·repeat' (first|exact trivial|exact LeV.same _|exact LeB.same _|exact rfl|exact fun _ _ _=>trivial|exact lI|exact LeV.nil _ _ _|refine And.intro ?_ ?_)
   ·rintro i hi
    rcases Nat.lt_or_ge i l.length with h|h
    ·have hn:=tz h
     have hm:=tx (l:=l) (j:=i+1)
     have hc:=ih l[i] (by omega) (by omega)
     have hcl:=sJ (tY tick l[i])
     have hg:(l.map sM)[i]?.getD .nil= .agg (sB l[i]):=by simp [h,sG]
     have ht:l.take (i+1)=l.take i++[l[i]]:=by rw [List.take_succ_eq_append_getElem h]
     generalize l[i]=x at *
     obtain ⟨xk,xf,xn,xm,xl⟩:=x
     repeat' ((conv=>whnf);first|(refine nv_ (.agg (sB (.mk xk xf xn xm xl))) (by first|exact hg|fail) ?_)|refine rE _ (hc) ?_|refine nT_ ?_|refine aD1 ?_|(refine And.intro (by first|exact hcl|exact ⟨trivial,hcl⟩|((simp only [List.length_map,List.length_take,List.length_cons,List.length_nil];omega);done)|fail) ?_)|refine aS ?_|fail)
     refine ⟨i+1,h,by omega,?_⟩
     repeat' (first|(exact rX (by rw [ht];simp))|exact trivial|exact LeV.same _|exact LeB.same _|exact rfl|exact fun _ _ _=>trivial|exact lI|refine And.intro ?_ ?_)
    ·have:i=l.length:=by omega
     subst this
     rw [List.take_length]
     repeat' ((conv=>whnf);first|(exact ⟨(),trivial,by (repeat' (first|(exact LeV.data _ _ _ _)|exact trivial|exact LeV.same _|exact LeB.same _|exact rfl|exact fun _ _ _=>trivial|refine And.intro ?_ ?_));done⟩)|refine aD0 ?_|refine aS ?_|fail)
   ·rintro _ _
    have e:(l.map fun x=>T.agg (sB (tY tick x)))=(xA tick l).map sM:=by rw [yH,List.map_map];exact List.map_congr_left fun x _=>(sG _).symm
    rw [e]
    repeat' ((conv=>whnf);first|exact trivial|refine aS ?_|fail)
    all_goals exact ⟨congrArg some rfl,trivial⟩
mutual
def tf (tick:Int):RO→RO
 |.mk k p f n a=>.mk k (tY tick p) f n (vb tick a)
def vb (tick:Int):List RO→List RO
 |[]=>[]
 |r::rs=>tf tick r::vb tick rs
end
theorem yI (tick:Int): ∀l:List RO,vb tick l=l.map (tf tick)
 |[]=>rfl
 |r::rs=>congrArg (tf tick r:: ·) (yI tick rs)
abbrev EB (tick:Int):T:=.knot 103 [.cptr [I tick] 0] []
theorem t61 (tick:Int) (N:Nat): ∀r:RO,r.wt≤N→N<2^40→DCalls Tryz.prog 103 [.agg (sA r),.cptr [I tick] 0,EB tick] (.agg (sA (tf tick r))):=by
 induction N with
 |zero=>intro r h;have:=r.vo;omega
 |succ N ih=>
  rintro ⟨k,⟨pk,pf,pn,pm,pa⟩,f,n,l⟩ hr hN
  simp only [RO.wt,tf] at hr ⊢
  have h62:=t62 tick _ (.mk pk pf pn pm pa) (Nat.le_refl _) (by omega)
  obtain ⟨c0,c1,c2,c3,c4,he⟩:=Ab (sJ (tY tick (.mk pk pf pn pm pa)))
  rw [he] at h62
  simp only [sA]
  rw [he]
  have hl:=ux l
  refine qO (rs:=[.cell 4 28]) mixed Tryz.func103 Lx rfl rfl rfl (r:=[.agg (I k::([c0,c1,c2,c3,c4]++[.str f,I n,.slice 9 ((vb tick l).map sP)]))]) (nlZ rfl) ?_
  repeat' ((conv=>whnf);first|refine rE _ (h62) ?_|refine nT_ ?_|refine aS ?_|fail)
  refine qZ 0 (α:=Nat) (β:=Unit) (fun q=>{sl:=[(2,.t (EB tick)),(3,.ptr 3 0),(4,.ptr 4 0),(5,.own 25 28 9 ((l.take q).map fun x=>.agg (sA (tf tick x)))),(14,.t (.slice 9 (l.map sP))),(15,.t (I l.length)),(16,.t (I q))],bx:=[(3,.d 9 (I k::([c0,c1,c2,c3,c4]++[.str f,I n,.slice 9 (l.map sP)]))),(4,.d 9 [I 0,I 0,nm0,I 0,I 0,.nil,nm0,I 0,.nil])]})
   (fun q=>q≤l.length) (fun q=>l.length - q) (fun _=>{sl:=[(3,.ptr 3 0),(4,.ptr 4 0),(5,.t (.slice 9 (l.map fun x=>.agg (sA (tf tick x)))))],bx:=[(3,.d 9 (I k::([c0,c1,c2,c3,c4]++[.str f,I n,.slice 9 (l.map sP)]))),(4,.d 9 [I 0,I 0,nm0,I 0,I 0,.nil,nm0,I 0,.nil])]}) (fun _=>True) 0 (by simp) ?_ ?_ ?_
  ·repeat' (first|exact trivial|exact LeV.same _|exact LeB.same _|exact rfl|exact fun _ _ _=>trivial|exact lI|exact LeV.nil _ _ _|refine And.intro ?_ ?_)
  ·rintro i hi
   rcases Nat.lt_or_ge i l.length with h|h
   ·have hn:=tW h
    have hm:=tR (l:=l) (j:=i+1)
    have hc:=ih l[i] (by omega) (by omega)
    have hcl:=sE (tf tick l[i])
    have hg:(l.map sP)[i]?.getD .nil= .agg (sA l[i]):=by simp [h,sL]
    have ht:l.take (i+1)=l.take i++[l[i]]:=by rw [List.take_succ_eq_append_getElem h]
    generalize l[i]=x at *
    obtain ⟨xk,⟨yk,yf,yn,ym,ya⟩,xf,xn,xl⟩:=x
    repeat' ((conv=>whnf);first|(refine nv_ (.agg (sA (.mk xk (.mk yk yf yn ym ya) xf xn xl))) (by first|exact hg|fail) ?_)|refine rE _ (hc) ?_|refine nT_ ?_|refine aD1 ?_|(refine And.intro (by first|exact hcl|exact ⟨trivial,hcl⟩|((simp only [List.length_map,List.length_take,List.length_cons,List.length_nil];omega);done)|fail) ?_)|refine aS ?_|fail)
    refine ⟨i+1,h,by omega,?_⟩
    repeat' (first|(exact rX (by rw [ht];simp))|exact trivial|exact LeV.same _|exact LeB.same _|exact rfl|exact fun _ _ _=>trivial|exact lI|refine And.intro ?_ ?_)
   ·have:i=l.length:=by omega
    subst this
    rw [List.take_length]
    repeat' ((conv=>whnf);first|(exact ⟨(),trivial,by (repeat' (first|(exact LeV.data _ _ _ _)|exact trivial|exact LeV.same _|exact LeB.same _|exact rfl|exact fun _ _ _=>trivial|refine And.intro ?_ ?_));done⟩)|refine aD0 ?_|refine aS ?_|fail)
  ·rintro _ _
   have e:(l.map fun x=>T.agg (sA (tf tick x)))=(vb tick l).map sP:=by rw [yI,List.map_map];exact List.map_congr_left fun x _=>(sL _).symm
   rw [e]
   repeat' ((conv=>whnf);first|exact trivial|refine aS ?_|fail)
   all_goals exact ⟨congrArg some rfl,trivial⟩
theorem t39 (tick:Int) (r:RO) (hr:r.wt<2^39):DCalls Tryz.prog 49 [.agg (sA r),I tick] (.agg (sA (tf tick r))):=by
 refine qO (rs:=[.cell 4 28]) mixed Tryz.func49 l49 rfl rfl rfl (r:=[.agg (sA (tf tick r))]) (nlZ rfl) ?_
 have h61:=t61 tick _ r (Nat.le_refl _) (by omega)
 repeat' ((conv=>whnf);first|(refine And.intro (by first|exact sE _|fail) ?_)|refine aS ?_|fail)
 refine rA (β:=Unit) (fun _=>{sl:=[(2,.ptr 2 0),(4,.ptr 4 0),(5,.t (EB tick))],bx:=[(2,.d 9 (sA r)),(4,.d 9 [I 0,I 0,nm0,I 0,I 0,.nil,nm0,I 0,.nil])]}) (fun _=>True) ?_ ?_
 ·repeat' ((conv=>whnf);first|(exact ⟨(),trivial,by (repeat' (first|(exact LeV.knot 5 103 [.ptr 3 0] [] _ [3] _ [] rfl rfl rfl (by simp [Wk.keys]))|exact trivial|exact LeV.same _|exact LeB.same _|exact rfl|exact fun _ _ _=>trivial|refine And.intro ?_ ?_));done⟩)|refine aS ?_|fail)
 rintro _ _
 obtain ⟨k,p,f,n,a⟩:=r
 generalize tf tick (.mk k p f n a)=q at *
 obtain ⟨qk,⟨pk,pf,pn,pm,pa⟩,qf,qn,qa⟩:=q
 repeat' ((conv=>whnf);first|exact trivial|refine rE _ (h61) ?_|refine aS ?_|fail)
 all_goals exact ⟨congrArg some rfl,trivial⟩
end Go.TY
end
section
namespace Go.TY
open Go Go.DL Go.MM Go.Proofs
def wa (tick:Int) (g:RG):RG:=⟨tf tick g.pol,g.st⟩
theorem Ej (g:RG) (q:RO):aN (aN z15 0 15 (sD g)) 0 9 (sA q)=sD ⟨q,g.st⟩:=by
 rw [mU (n:=15) rfl]
 unfold sD aN
 have e:(sA g.pol++sK g.st).drop (0+9)=sK g.st:=by
  rw [Nat.zero_add, ←sE g.pol,List.drop_left]
 rw [e];rfl
theorem zg (gs:List RG) (tick:Int) (hl:gs.length<2^30) (hg: ∀g∈gs,g.pol.wt<2^39):DCalls Tryz.prog 55 [.slice 15 (gs.map sF),I tick] (.slice 15 ((gs.map (wa tick)).map sF)):=by
 refine qO (rs:=[.tmp 4]) mixed Tryz.func55 l55 rfl rfl rfl (r:=[.slice 15 ((gs.map (wa tick)).map sF)]) (nlZ rfl) ?_
 skip
 refine qZ 0 (α:=Nat) (β:=Unit) (fun i=>{sl:=[(1,.t (I tick)),(5,.own 22 61 15 (((gs.take i).map (wa tick)).map sF)),(8,.t (.slice 15 (gs.map sF))),(9,.t (I gs.length)),(10,.t (I i))],bx:=[]})
  (fun i=>i≤gs.length) (fun i=>gs.length - i) (fun _=>{sl:=[(5,.t (.slice 15 ((gs.map (wa tick)).map sF)))],bx:=[]}) (fun _=>True) 0 (by simp) ?_ ?_ ?_
 ·repeat' (first|(exact leI (by simp))|exact trivial|exact LeV.same _|exact rfl|exact fun _ _ _=>trivial|exact LeV.nil _ _ _|refine And.intro ?_ ?_)
 ·rintro i hi
  rcases Nat.lt_or_ge i gs.length with h|h
  ·have hpol:=ug gs[i]
   have h1:=t39 tick gs[i].pol (hg _ (List.getElem_mem h))
   have hput:=Ej gs[i] (tf tick gs[i].pol)
   have hcl:=sE (tf tick gs[i].pol)
   have hl2:(aN (aN z15 0 15 (sD gs[i])) 0 9 (sA (tf tick gs[i].pol))).length=15:=by rw [hput];exact sI _
   have ht:gs.take (i+1)=gs.take i++[gs[i]]:=by rw [List.take_succ_eq_append_getElem h]
   repeat' ((conv=>whnf);first|(refine nv_ (.agg (sD gs[i])) (by first|((simp [h];rfl);done)|fail) ?_)|(refine nv_ (.agg (sA gs[i].pol)) (by first|exact congrArg T.agg hpol|fail) ?_)|refine rE _ (h1) ?_|refine aD1 ?_|(refine And.intro (by first|exact ⟨sI _,nlZ rfl⟩|exact sI _|(exact ⟨hcl,by (show 0+9≤(aN z15 0 15 (sD gs[i])).length);rw [mU (n:=15) rfl,sI];omega⟩;done)|exact hl2|exact ⟨trivial,hl2⟩|((simp only [List.length_map,List.length_take,List.length_cons,List.length_nil];omega);done)|fail) ?_)|refine aS ?_|fail)
   refine ⟨i+1,h,by omega,?_⟩
   repeat' (first|(exact rX (by rw [ht,List.map_append,List.map_append];exact congrArg (_++ ·) (congrArg (fun c=>[T.agg c]) hput.symm)))|exact trivial|exact LeV.same _|exact rfl|exact fun _ _ _=>trivial|exact lI|refine And.intro ?_ ?_)
  ·have:i=gs.length:=by omega
   subst this
   rw [List.take_length]
   repeat' ((conv=>whnf);first|(exact ⟨(),trivial,by (repeat' (first|(exact LeV.data _ _ _ _)|exact trivial|exact rfl|exact fun _ _ _=>trivial|refine And.intro ?_ ?_));done⟩)|refine aD0 ?_|refine aS ?_|fail)
 ·rintro _ _
  repeat' ((conv=>whnf);first|exact trivial|refine aS ?_|fail)
end Go.TY
end
noncomputable section
namespace Go.TY
open Go Go.DL Go.MM Go.Proofs
abbrev eni:Int→T:=I
abbrev mpi (ks:List Int) (vs:List T):T:=.mapd false [.int .i64] (ks.map eni) vs
def tL (id:Nat) (c:Option Code):Array Oper:=match rg0 id c with
 |.region _ ops _=>ops
 |_=> #[]
abbrev fAi:Option Code:=Tryz.f159.body
abbrev fKi:Option Code:=Tryz.f136.body
theorem bAi:fAi=some (.seq (.region 0 (tL 0 fAi) false) (.seq (.seq (.region 1 (tL 1 fAi) false)
  (.block 0 (.rangeFunc (.tmp 6) #[7] (.region 2 (tL 2 fAi) false) (.block 1 (.region 3 (tL 3 fAi) false))))) (.seq (.region 4 (tL 4 fAi) false) .ret))):=by kernel_rfl
abbrev IE:List DI:=[⟨some 5,.mov (.tmp 7),none,[]⟩]
abbrev II:List DI:=[⟨some 8,.load 1 false (.tmp 2),none,[]⟩,⟨some 9,.mov (.tmp 5),none,[]⟩,⟨some 10,.buildS 3 1 1 [.int .i64 0] [(0,.tmp 9)],none,[1]⟩,
 ⟨some 11,.append 46 3 1 8 (.tmp 8) (.tmp 10),none,[0,2]⟩,⟨none,.store 1 (.tmp 2) (.tmp 11),none,[3,3,0,1,2,3]⟩]
theorem H6:bX Tryz.prog 13 [] (tL 0 fAi) (tL 0 fAi).toList=some [⟨some 2,.box 1 (.tmp 0),none,[]⟩,⟨some 4,.mov (.const .nil),none,[]⟩]:=by kernel_rfl
theorem H9:bX Tryz.prog 13 [] (tL 1 fAi) (tL 1 fAi).toList=some [⟨some 6,.mov (.tmp 1),none,[]⟩]:=by kernel_rfl
theorem Ic:bX Tryz.prog 13 [] (tL 2 fAi) (tL 2 fAi).toList=some IE:=by kernel_rfl
theorem Ih:bX Tryz.prog 13 [] (tL 3 fAi) (tL 3 fAi).toList=some II:=by kernel_rfl
theorem Ik:bX Tryz.prog 13 [] (tL 4 fAi) (tL 4 fAi).toList=some [⟨some 12,.load 1 false (.tmp 2),none,[]⟩,⟨some 4,.mov (.tmp 12),none,[0,0]⟩]:=by kernel_rfl
abbrev yKi:Array Oper:=tL 3 fKi
theorem bKi:rg0 3 fKi= .region 3 yKi false:=by kernel_rfl
theorem Io:dW Tryz.prog 14 yKi [0,1]=some [⟨some 10,.mov (.tmp 0),none,[]⟩,⟨some 11,.mov (.tmp 3),none,[]⟩]:=by kernel_rfl
theorem Ir:dW Tryz.prog 14 yKi [3]=some [⟨some 13,.not (.tmp 12),none,[2]⟩]:=by kernel_rfl
theorem Iv: ∃o ats,yKi[2]? =some o∧o.guard=none∧o.op= .call {callee:=.value (.tmp 10),args:= #[.tmp 11],argTypes:=ats }∧o.dst=some 12:=by
 refine ⟨((tL 3 fKi)[2]?).getD default,(match (((tL 3 fKi)[2]?).getD default).op with|.call c=>c.argTypes|_=> #[]),by kernel_rfl,by kernel_rfl,by kernel_rfl,by kernel_rfl⟩
abbrev GD (l d:Nat) (f:FuncId) (tmps:Array Value):aa→World→Prop:=nr l (cW f tmps 7 (.region 2 (tL 2 fAi) false) (.block 1 (.region 3 (tL 3 fAi) false)) d)
abbrev WKi (l:Nat) (C:aa→World→Prop) (ks:List Int) (vs:List T) (ix:List Nat):Wk:=
 {sl:=[(0,.raw (.func (.yield l) #[] #[])),(5,.ptr 2005 0)],bx:=[(2,.v [.own 3011 3 1 (zx eni 0 ks ix)]),(2005,.itd (esK eni ks vs) ix)],gh:=[(0,[(2,.ptr 2 0)])],off:=2000,cx:=C }
theorem Gt (l d:Nat) (f:FuncId) (tmps:Array Value) (ht:tmps.size=13) (ks:List Int) (vs:List T) (hvs:vs.length=ks.length) (hl:ks.length<2^40) (st0:St)
  (h0:st0=({sl:=[(2,.ptr 2 0),(6,.fn 136 [.t (.cptr [mpi ks vs] 0)])],bx:=[(2,.v [.own 3011 3 1 []])]}:Wk).mk'):
  wpC Tryz.prog Gq (st0.iter l (cW f tmps 7 (.region 2 (tL 2 fAi) false) (.block 1 (.region 3 (tL 3 fAi) false)) d) [.t (.cptr [mpi ks vs] 0)] 2000)
   (qK st0 fun st=>st.sl 2= .ptr 2 0∧(∃ xs,um eni 0 ks xs∧st.bx 2=some (.v [.own 3011 3 1 xs]))∧ ∀S w,st.cx S w):=by
 subst h0
 have hes:(esK eni ks vs).length=ks.length:=by simp [hvs]
 repeat' ((conv=>whnf);first|refine nT_ ?_|refine aS ?_|fail)
 refine qZ 0 (α:=List Nat) (β:=List Nat) (fun ix=>WKi l (GD l d f tmps) ks vs ix) (fun ix=>ix.Nodup∧ ∀j∈ix,j<ks.length) (fun ix=>ks.length - ix.length)
  (fun ix=>WKi l (GD l d f tmps) ks vs ix) (fun ix=>ix.Perm (List.range ks.length)) [] ⟨List.nodup_nil,by simp⟩ ?_ ?_ ?_
 ·exact ⟨⟨.same _,.same _,trivial⟩,⟨.same _,.same _,trivial⟩,⟨⟨.same _,trivial⟩,trivial⟩,rfl,fun _ _ h=>h,rfl⟩
 ·rintro ix ⟨hnd,hix⟩
  refine And.intro (fun j hj=>by rw [hes];exact hix j hj) (And.intro ?_ ?_)
  ·intro j e he hj
   obtain ⟨he1,hjl⟩:=zt (d:=0) he
   have hent:=yF _ ix j e he
   have hje:(ix++[j]).getLast?.getD 0<(esK eni ks vs).length:=by rw [List.getLast?_concat,hes];exact hjl
   obtain ⟨e1,e2⟩:=e
   dsimp only at he1 hent
   subst he1
   have hixl:ix.length≤ks.length:=by
    have:=hnd.length_le_of_subset (l₂:=List.range ks.length) (fun j hj=>List.mem_range.2 (hix j hj))
    simpa using this
   have hnd':(ix++[j]).Nodup:=by
    rw [List.nodup_append]
    exact ⟨hnd,by simp,fun a ha b hb=>by rw [List.mem_singleton.1 hb];exact fun e=>hj (e▸ha)⟩
   have hix': ∀i∈ix++[j],i<ks.length:=fun i hi=>by
    rcases List.mem_append.1 hi with h|h
    ·exact hix i h
    ·rw [List.mem_singleton.1 h];exact hjl
   have hixl':(ix++[j]).length≤ks.length:=by
    have:=hnd'.length_le_of_subset (l₂:=List.range ks.length) (fun j hj=>List.mem_range.2 (hix' j hj))
    simpa using this
   repeat' ((conv=>whnf);first|refine nv_ (.tup [eni (ks.getD j 0),e2]) hent ?_|(refine And.intro (by first|exact ⟨by simp,hje⟩|fail) ?_)|fail)
   obtain ⟨o,ats,o1,o2,o3,o4⟩:=Iv
   have hsem: ∀(st:St) (Q:aB→St→Prop),p0 Tryz.prog 14 (.region 3 yKi false) st Q→p0 Tryz.prog 14 (rg0 3 fKi) st Q:=fun st Q h=>by rw [bKi];exact h
   refine hsem _ _ ?_
   refine q0 (P:=Tryz.prog) (k1:=[0,1]) (k:=2) (k2:=[3]) (by kernel_rfl) Io rfl Ir rfl o1 o2 o3 o4 (by decide) (p:=7) ht (by decide) Ic rfl Ih rfl 3000 (l:=l) (fn:=f) (dd:=d) (id1:=2) (id2:=3) (bl:=1) ?_
   refine ⟨fun _ _ h=>h,rfl,?_⟩
   repeat' ((conv=>whnf);first|(refine And.intro (by first|exact fun _ _=>trivial|exact ⟨rfl,nlZ rfl⟩|((simp;omega);done)|exact .inl rfl|fail) ?_)|refine aS ?_|fail)
   refine ⟨ix++[j],⟨hnd',hix'⟩,by rw [List.length_append];simp at hixl' ⊢;omega,?_⟩
   refine ⟨⟨.same _,.same _,trivial⟩,⟨?_,.same _,trivial⟩,⟨⟨.same _,trivial⟩,trivial⟩,rfl,fun _ _ h=>h,rfl⟩
   refine .v _ _ ⟨rX ?_,trivial⟩
   simp [zx]
  ·intro hall
   skip
   refine ⟨ix,xG hnd hix (fun j hj=>hall j (by rw [hes];exact hj)),?_⟩
   exact ⟨⟨.same _,.same _,trivial⟩,⟨.same _,.same _,trivial⟩,⟨⟨.same _,trivial⟩,trivial⟩,rfl,fun _ _ h=>h,rfl⟩
 rintro ix hp
 repeat' ((conv=>whnf);first|refine aS ?_|fail)
 exact ⟨⟨_,⟨ix,hp,rfl⟩,rfl⟩,fun _ _=>trivial⟩
abbrev vg (ks:List Int) (vs:List T):T:=.clos 136 [.cptr [mpi ks vs] 0]
theorem Ak (ks:List Int) (vs:List T) (hvs:vs.length=ks.length) (hl:ks.length<2^40):fK Tryz.prog 159 [.nil,vg ks vs] 3 1 (um eni 0 ks):=by
 refine qm Tryz.func159 bAi rfl (nlZ rfl) ?_
 intro S w a0 hsr hdf
 let K0:St→Prop:=fun st=>aA Tryz.prog [⟨some 6,.mov (.tmp 1),none,[]⟩] st fun st=>
  bP {sl:=[(2,.ptr 2 0),(6,.t (vg ks vs))],bx:=[(2,.d 1 [.nil])]} st
 have hK0:aA Tryz.prog [⟨some 2,.box 1 (.tmp 0),none,[]⟩,⟨some 4,.mov (.const .nil),none,[]⟩] (eU [.nil,vg ks vs]) K0:=by
  repeat' ((conv=>whnf);first|refine aS ?_|fail)
  exact ⟨⟨.same _,.same _,trivial⟩,⟨.same _,trivial⟩,trivial,rfl,fun _ _ _=>trivial,rfl⟩
 refine wp_seq (nE (X:=[]) (N:=13) hsr H6 (fun a1 w1 h1=>?_) hK0)
 obtain ⟨E1,s1,rfl,k1,k2,k3⟩:=h1
 refine wp_seq (wp_seq (nE (X:=[]) k1 H9 (fun a2 w2 h2=>?_) k3))
 obtain ⟨E2,s2,rfl,k4,k5,k6⟩:=h2
 obtain ⟨E3,e3,k7⟩:=k4.bP k6
 rw [← e3]
 have k8:=k7.rG (k:=6) (k7.sl 6).rv
 obtain ⟨E4,e4,k10⟩:=SR.bP (a:=a2) (s:={sl:=[(2,.ptr 2 0),(6,.fn 136 [.t (.cptr [mpi ks vs] 0)])],bx:=[(2,.v [.own 3011 3 1 []])]}) k8 ⟨⟨.same _,.same _,trivial⟩,⟨.dv _ _ _ ⟨.nil _ _ _,trivial⟩,trivial⟩,trivial,rfl,fun _ _ _=>trivial,rfl⟩
 rw [← e4]
 refine wp_block ?_
 refine rh mixed k10 (fun _ _=>trivial) (y:=.tmp 6) rfl (gf:=136) (caps:=[.t (.cptr [mpi ks vs] 0)]) rfl Tryz.func136 LX rfl rfl rfl (nlZ rfl) 2000
  (K:=fun st=>st.sl 2= .ptr 2 0∧(∃ xs,um eni 0 ks xs∧st.bx 2=some (.v [.own 3011 3 1 xs]))∧ ∀S w,st.cx S w) (fun l d f tmps ht=>?_) (fun a5 w5 h5=>?_)
 ·exact Gt l d f tmps ht ks vs hvs hl _ rfl
 ·obtain ⟨S0',E5,s5,D,rfl,q1,q2,q3,q4,q5,q6,r1,⟨xs,hxs,r2⟩,r3⟩:=h5
  have q6':a5.defers=[{target:=.collected D,args:= #[]}]:=by rw [q6,k5,k2,hdf]
  show Code.wp _ _ _ _ _
  refine wp_seq (nE (X:=[]) q1 Ik (K:=fun st=>(∀ S w,st.cx S w)∧st.sl 4= .own 3011 3 1 xs) (fun a6 w6 h6=>?_) ?_)
  ·obtain ⟨E6,s6,rfl,p1,p2,p3,p4⟩:=h6
   obtain ⟨js,hjs,rfl⟩:=hxs
   refine wp_ret ⟨.inr rfl,S0',E6,s6,D,rfl,p1,q2,q3,q4,q5,by rw [p2,q6'],p3,_,_,⟨js,hjs,rfl⟩,u7 (fun _=>rfl) (fun _=>rfl) js ks,?_,.inl ⟨3011,rfl⟩⟩
   have:dP s6 Tryz.f159.results.toList=some [s6.sl 4]:=by
    rw [show Tryz.f159.results.toList=[.tmp 4] from rfl];rfl
   rw [this,p4]
  ·obtain ⟨sl5,bx5,gh5,off5,cx5⟩:=s5
   dsimp only at r1 r2 r3
   obtain ⟨g,rfl⟩: ∃g,sl5=upd g 2 (.ptr 2 0):=⟨sl5,(uB r1).symm⟩
   obtain ⟨b,rfl⟩: ∃b,bx5=upd b 2 (some (.v [.own 3011 3 1 xs])):=⟨bx5,(uB r2).symm⟩
   exact ⟨r3,rfl⟩
theorem B9 (ks:List Int) (vs:List T) (hvs:vs.length=ks.length) (hl:ks.length<2^40):fK Tryz.prog 134 [vg ks vs] 3 1 (um eni 0 ks):=by
 refine qG (rs:=[.tmp 2]) mixed Tryz.func134 LW rfl rfl rfl (nlZ rfl) ?_
 repeat' ((conv=>whnf);first|refine ru (ts:=[.nil,vg ks vs]) rfl (Ak ks vs hvs hl) (fun xs hx=>?_)|fail)
 obtain ⟨js,hjs,rfl⟩:=hx
 exact ⟨_,_,⟨js,hjs,rfl⟩,u7 (fun _=>rfl) (fun _=>rfl) js ks,rfl,.inl ⟨_,rfl⟩⟩
theorem Eh:iz Tryz.prog 135 (Value.int .i64) (fun x y:Int=>decide (x≤y)):=iz.int Tryz.F0 rfl (bQ Tryz.func135 rfl rfl)
theorem zM (ks:List Int) (vs:List T) (hvs:vs.length=ks.length) (hl:ks.length<2^40) (hn:ks.Nodup):kI Tryz.prog 91 [vg ks vs] (.slice 1 ((yN ks).map eni)):=by
 refine qS (rs:=[.tmp 2]) mixed Tryz.func91 l91 rfl rfl rfl (nlZ rfl) ?_
 repeat' ((conv=>whnf);first|refine rf (ts:=[vg ks vs]) rfl (B9 ks vs hvs hl) rfl (fun h0=>?_) (fun xs hx hc=>?_)|fail)
 ·obtain ⟨zs,hp,h0⟩:=u9 h0
  have:zs=[]:=by
   cases zs with
   |nil=>rfl
   |cons z zs=>cases h0
  subst this
  have:ks=[]:=List.nil_perm.1 hp
  subst this
  repeat' ((conv=>whnf);first|refine qc Eh ?_|fail)
  exact ⟨.t .nil,rfl,.nil 1⟩
 ·obtain ⟨zs,hp,rfl⟩:=u9 hx
  have hzl:zs.length<2^40:=by rw [hp.length_eq];exact hl
  have hfl:=zY (enc:=eni) (fun _=>rfl) zs
  have hle:(zs.map eni).length=zs.length:=List.length_map _
  have hsl:(yN ks).length=zs.length:=by
   have e:=congrArg List.length (congrArg (List.map I) (BP hn hp))
   simp only [List.length_map,List.length_mergeSort] at e
   omega
  repeat' ((conv=>whnf);first|(refine re (n:=5) (off:=0) (len:=(zs.map eni).length) (m:=(zs.map eni).length * 1) (ts:=(zs.map eni).flatMap T.cells) (encT:=I) Eh rfl zs ?_ ?_ (by omega) (fun a S w v h=>by cases h;rfl) (fun a S w=>.int _ _) (fun _=>rfl) ?_)|fail)
  ·rw [hfl,List.drop_zero,List.take_of_length_le (by omega)]
  ·simp
  ·skip
   have e:=congrArg (List.map I) (BP hn hp)
   refine ⟨.view 5 0 (zs.map eni).length 1,rfl,.view 5 0 (zs.map eni).length 1 ((zs.map eni).length * 1) (aN ((zs.map eni).flatMap T.cells) 0 (zs.map eni).length ((zs.mergeSort (fun x y:Int=>decide (x≤y))).map I)) _ [5] rfl ?_ ?_⟩
   ·rw [va (by rw [hfl]),e]
    intro t ht
    obtain ⟨z,_,rfl⟩:=List.mem_map.1 ht
    rfl
   ·show (cond (Nat.blt 0 1&&Nat.ble (0+(zs.map eni).length * 1) ((zs.map eni).length * 1)) (some (T.slice 1 (chunk 1 (zs.map eni).length ((aN ((zs.map eni).flatMap T.cells) 0 (zs.map eni).length ((zs.mergeSort (fun x y:Int=>decide (x≤y))).map I)).drop 0)),[5])) none)=_
    rw [va (by rw [hfl]),e,Nat.zero_add,List.drop_zero,x7 _ _ (by rw [List.length_map];omega)]
    have:Nat.ble ((zs.map eni).length * 1) ((zs.map eni).length * 1)=true:=Nat.ble_eq_true_of_le (Nat.le_refl _)
    rw [this]
    rfl
theorem BR (ks:List Int) (vs:List T):DCalls Tryz.prog 92 [mpi ks vs] (vg ks vs):=by
 refine qO (rs:=[.tmp 2]) mixed Tryz.func92 l92 rfl rfl rfl (r:=[vg ks vs]) (nlZ rfl) ?_
 repeat' ((conv=>whnf);first|exact trivial|refine aS ?_|fail)
end Go.TY
end
