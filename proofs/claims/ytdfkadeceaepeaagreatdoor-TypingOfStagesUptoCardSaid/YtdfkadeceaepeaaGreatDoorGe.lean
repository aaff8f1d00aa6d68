/- Joined by program: parts of a data level over the model, of the program's functions over it, and of the statement's proof. -/
import Derived.Test.YtdfkadeceaepeaaGreatDoorGd
import Derived.Test.YtdfkadeceaepeaaGreatDoorProg
import Derived.Test.YtdfkadeceaepeaaGreatDoorGc
import Derived.KernelRfl
import Derived.Shelf.Sort.Plain
import Derived.Shelf.Slices.In.SortNone
set_option maxRecDepth 100000
set_option maxHeartbeats 8000000
section
namespace Go.TY
open Go Go.DL Go.MM Go.Proofs
theorem xo (n:Int):DCalls Tryz.prog 142 [I n] (.bool (um n)):=by
 refine qO (rs:=[.tmp 2]) mixed Tryz.func142 L0 rfl rfl rfl (r:=[.bool _]) (nlZ rfl) ?_
 unfold um
 repeat' ((conv=>whnf);first|exact trivial|refine nD_ (fun hq=>?_) (fun hq=>?_)|refine rb1 ?_|refine rb0 ?_|refine aS ?_|fail)
def vh (n:Int):Bool:=decide (0≤n)&&decide (n≤1073741824)
theorem zj (n:Int):DCalls Tryz.prog 143 [I n] (.bool (vh n)):=by
 refine qO (rs:=[.tmp 2]) mixed Tryz.func143 L5 rfl rfl rfl (r:=[.bool _]) (nlZ rfl) ?_
 unfold vh
 repeat' ((conv=>whnf);first|exact trivial|refine nD_ (fun hq=>?_) (fun hq=>?_)|refine rb1 ?_|refine rb0 ?_|refine aS ?_|fail)
theorem xN: ∀l:List RP,xx l=l.all tx
 |[]=>rfl
 |r::rs=>by rw [xx,xN rs];rfl
theorem xM: ∀l:List RO,vq l=l.all tD
 |[]=>rfl
 |r::rs=>by rw [vq,xM rs];rfl
def BY (k:Int) (br b nd:Bool) (n m:Int) (len:Nat) (al:Bool):Bool:=
 if k=1∨k=2 then br&&(len==0)
 else if k=3 then nd&&um n&&(m==0)&&(len==0)
 else if k=4 then nd&&um n&&decide (m≥0)&&decide (m≤16)&&(len==0)
 else if k=5 then nd&&um n&&um m&&decide (n≤m)&&(len==0)
 else if k=9 then b&&vh n&&vh m&&decide (n<m)&&(len==0)
 else if k=6 then br&&(((len:Int)==1)&&al)
 else if k=7∨k=8 then br&&(((len:Int)==2)&&al)
 else false
theorem xt (a:Nat) (b:Nat):((a:Int)==(b:Int))=(a==b):=by
 rw [Bool.eq_iff_iff];simp;omega
theorem Ak (k:Int) (f:ByteArray) (n m:Int) (l:List RP):tx (.mk k f n m l)=BY k (yi f n m) (sC f e0) (tJ f) n m l.length (l.all tx):=by
 rw [tx,xN]
 have hall:l.length=0→l.all tx=true:=fun h=>by rw [List.eq_nil_of_length_eq_zero h];rfl
 have leaf: ∀(x:Bool),(x&&(l.length==0)&&l.all tx)=(x&&(l.length==0)):=fun x=>by
  by_cases h0:l.length=0
  ·rw [hall h0,Bool.and_true]
  ·rw [show (l.length==0)=false from beq_false_of_ne h0,Bool.and_false,Bool.false_and]
 generalize l.all tx=al at *
 unfold BY okP E7
 by_cases h1:k=1∨k=2
 ·rw [if_pos h1,if_pos h1,if_neg (by omega),if_neg (by omega),leaf]
 rw [if_neg h1,if_neg h1]
 by_cases h3:k=3
 ·rw [if_pos h3,if_pos h3,if_neg (by omega),if_neg (by omega),leaf]
 rw [if_neg h3,if_neg h3]
 by_cases h4:k=4
 ·rw [if_pos h4,if_pos h4,if_neg (by omega),if_neg (by omega),leaf]
 rw [if_neg h4,if_neg h4]
 by_cases h5:k=5
 ·rw [if_pos h5,if_pos h5,if_neg (by omega),if_neg (by omega),leaf]
  refine congrArg (fun x=>x&&(l.length==0)) ?_
  rw [Bool.eq_iff_iff]
  simp only [um,Bool.and_eq_true,decide_eq_true_eq]
  exact ⟨fun h=>⟨⟨⟨h.1.1.1,by omega,by omega⟩,by omega,by omega⟩,by omega⟩,fun h=>⟨⟨⟨h.1.1.1,by omega⟩,by omega⟩,by omega⟩⟩
 rw [if_neg h5,if_neg h5]
 by_cases h9:k=9
 ·rw [if_pos h9,if_neg (show ¬(k=6∨k=7∨k=8) by omega),if_pos h9,if_neg (by omega),if_neg (by omega),leaf]
  refine congrArg (fun x=>x&&(l.length==0)) ?_
  rw [Bool.eq_iff_iff]
  simp only [vh,Bool.and_eq_true,decide_eq_true_eq]
  exact ⟨fun h=>⟨⟨⟨h.1.1.1,by omega,by omega⟩,by omega,by omega⟩,by omega⟩,fun h=>⟨⟨⟨h.1.1.1,by omega⟩,by omega⟩,by omega⟩⟩
 simp only [h9,if_false]
 by_cases h6:k=6
 ·rw [if_pos (Or.inl h6),if_pos h6,if_pos h6,Bool.and_assoc,show ((l.length:Int)==1)=(l.length==1) from xt _ 1]
 rw [if_neg h6,if_neg h6]
 by_cases h7:k=7∨k=8
 ·rw [if_pos (Or.inr h7),if_pos h7,if_pos h7,Bool.and_assoc,show ((l.length:Int)==2)=(l.length==2) from xt _ 2]
 rw [if_neg (show ¬(k=6∨k=7∨k=8) by omega),if_neg h7,if_neg h7]
 simp
theorem zN (N:Nat): ∀r:RP,r.nodes≤N→N<2^60→vT r→DCalls Tryz.prog 108 [.agg (sB r)] (.bool (tx r)):=by
 induction N with
 |zero=>intro r h;have:=r.uD;omega
 |succ N ih=>
  rintro ⟨k,f,n,m,l⟩ hr hN hnm
  refine qO (rs:=[.tmp 2]) mixed Tryz.func108 LF rfl rfl rfl (r:=[.bool _]) (nlZ rfl) ?_
  simp only [RP.nodes] at hr
  have hll:=uu l
  have h104:=xG f hnm.1
  have hvn:=xo n
  have hvm:=xo m
  have htn:=zj n
  have htm:=zj m
  have hev:=fun n=>A6 l 108 n tx (by omega) fun i h=>ih l[i] (by
   have hn:=tS h
   have hm:=tR (l:=l) (j:=i+1)
   omega) (by omega) (yv hnm.2 i h)
  have h1:=hev 1
  have h2:=hev 2
  have hE:=sU f e0
  rw [Ak]
  clear ih hev hr
  repeat' ((conv=>whnf);first|refine aS ?_|fail)
  refine rA (β:=Unit) (fun _=>{sl:=[(1,.ptr 1 0),(3,.t (.bool (yi f n m)))],bx:=[(1,.d 5 (sB (.mk k f n m l)))]}) (fun _=>True) ?_ ?_
  ·unfold yi
   generalize sC f e0=b at *
   repeat' ((conv=>whnf);first|refine nb_ b hE ?_|(exact ⟨(),trivial,by (repeat' (first|exact trivial|exact LeV.same _|exact LeB.same _|exact rfl|exact fun _ _ _=>trivial|exact lB|refine And.intro ?_ ?_));done⟩)|refine nT_ ?_|refine nE_ (fun hq=>?_) (fun hq=>?_)|refine aS ?_|(cases b)|fail)
  rintro _ _
  generalize yi f n m=br at *
  generalize sC f e0=b at *
  generalize tJ f=nd at *
  generalize l.all tx=al at *
  have hlen:(l.map sQ).length=l.length:=List.length_map _
  have key: ∀(z:Bool),(l.length==0)=z→(z=true∧((l.map sQ).length:Int)=0)∨(z=false∧((l.map sQ).length:Int)≠0):=fun z hz=>by
   cases z with
   |true=>
    have h0:l.length=0:=by simpa using hz
    exact Or.inl ⟨rfl,by omega⟩
   |false=>
    have h0:l.length≠0:=by simpa using hz
    exact Or.inr ⟨rfl,by omega⟩
  unfold BY
  generalize hz:(l.length==0)=z at *
  generalize um n=vn at *
  generalize um m=vm at *
  generalize vh n=tn at *
  generalize vh m=tm at *
  by_cases k1:k=1∨k=2
  ·rw [if_pos k1]
   rcases key z rfl with ⟨rfl,e1⟩|⟨rfl,e1⟩ <;> rcases k1 with rfl|rfl <;> cases br <;> repeat' ((conv=>whnf);first|exact trivial|refine qx e1 ?_|refine qw e1 ?_|refine nT_ ?_|refine aE1 ?_|refine aE0 ?_|refine rb1 ?_|refine rb0 ?_|refine aS ?_|fail)
  rw [if_neg k1]
  by_cases k3:k=3
  ·subst k3
   rw [if_pos rfl]
   rcases key z rfl with ⟨rfl,e1⟩|⟨rfl,e1⟩ <;> cases nd <;> cases vn <;> repeat' ((conv=>whnf);first|exact trivial|refine rE _ (h104) ?_|refine rE _ (hvn) ?_|refine qx e1 ?_|refine qw e1 ?_|refine nT_ ?_|refine aE1 ?_|refine aE0 ?_|refine nE_ (fun hq=>?_) (fun hq=>?_)|refine rb1 ?_|refine rb0 ?_|refine aS ?_|fail)
  rw [if_neg k3]
  by_cases k4:k=4
  ·subst k4
   rw [if_pos rfl]
   rcases key z rfl with ⟨rfl,e1⟩|⟨rfl,e1⟩ <;> cases nd <;> cases vn <;> repeat' ((conv=>whnf);first|exact trivial|refine rE _ (h104) ?_|refine rE _ (hvn) ?_|refine qx e1 ?_|refine qw e1 ?_|refine nT_ ?_|refine aE1 ?_|refine aE0 ?_|refine nD_ (fun hq=>?_) (fun hq=>?_)|refine rb1 ?_|refine rb0 ?_|refine aS ?_|fail)
  rw [if_neg k4]
  by_cases k5:k=5
  ·subst k5
   rw [if_pos rfl]
   rcases key z rfl with ⟨rfl,e1⟩|⟨rfl,e1⟩ <;> cases nd <;> cases vn <;> cases vm <;> repeat' ((conv=>whnf);first|exact trivial|refine rE _ (h104) ?_|refine rE _ (hvn) ?_|refine rE _ (hvm) ?_|refine qx e1 ?_|refine qw e1 ?_|refine nT_ ?_|refine aE1 ?_|refine aE0 ?_|refine nD_ (fun hq=>?_) (fun hq=>?_)|refine rb1 ?_|refine rb0 ?_|refine aS ?_|fail)
  rw [if_neg k5]
  by_cases k9:k=9
  ·subst k9
   rw [if_pos rfl]
   rcases key z rfl with ⟨rfl,e1⟩|⟨rfl,e1⟩ <;> cases b <;> cases tn <;> cases tm <;> repeat' ((conv=>whnf);first|exact trivial|refine nb_ _ hE ?_|refine rE _ (htn) ?_|refine rE _ (htm) ?_|refine qx e1 ?_|refine qw e1 ?_|refine nT_ ?_|refine aE1 ?_|refine aE0 ?_|refine nD_ (fun hq=>?_) (fun hq=>?_)|refine rb1 ?_|refine rb0 ?_|refine aS ?_|fail)
  rw [if_neg k9]
  by_cases k6:k=6
  ·subst k6
   rw [if_pos rfl]
   cases br <;> repeat' ((conv=>whnf);first|exact trivial|refine rE _ (h1) ?_|refine nT_ ?_|refine aE1 ?_|refine aE0 ?_|refine rb0 ?_|refine rbx ?_|refine aS ?_|fail)
  rw [if_neg k6]
  by_cases k7:k=7∨k=8
  ·rw [if_pos k7]
   rcases k7 with rfl|rfl <;> cases br <;> repeat' ((conv=>whnf);first|exact trivial|refine rE _ (h2) ?_|refine nT_ ?_|refine aE1 ?_|refine aE0 ?_|refine rb0 ?_|refine rbx ?_|refine aS ?_|fail)
  rw [if_neg k7]
  repeat' ((conv=>whnf);first|exact trivial|refine nT_ ?_|refine aE0 ?_|refine rb0 ?_|refine aS ?_|fail)
end Go.TY
end
section
namespace Go.TY
open Go Go.DL Go.MM Go.Proofs
theorem En (l:List RP):DCalls Tryz.prog 163 [.slice 5 (l.map sQ),.nil,.clos 149 []] (.bool (l.length==0)):=by
 refine qO (rs:=[.tmp 6]) mixed Tryz.func163 Mh rfl rfl rfl (r:=[.bool _]) (nlZ rfl) ?_
 cases l with
 |cons a l=>
  repeat' ((conv=>whnf);first|exact trivial|refine aN1 ?_|refine rb0 ?_|refine aS ?_|fail)
 |nil=>
  repeat' ((conv=>whnf);first|refine aN0 ?_|refine aS ?_|fail)
  refine rq (α:=Unit) (fun _=>{sl:=[(15,.t (.slice 5 [])),(16,.t (I 0)),(17,.t (I 0))],bx:=[]}) (fun _=>True) (fun _=>0) () trivial ?_ ?_
  ·repeat' (first|exact trivial|exact LeV.same _|exact rfl|exact fun _ _ _=>trivial|refine And.intro ?_ ?_)
  rintro _ _
  repeat' ((conv=>whnf);first|exact trivial|refine aD0 ?_|refine rb1 ?_|refine aS ?_|fail)
theorem EV (r:RP):DCalls Tryz.prog 149 [.agg (sB r),.agg [I 0,.str e0,I 0,I 0,.nil]] (.bool (u9 r)):=by
 obtain ⟨k,f,n,m,l⟩:=r
 refine qO (rs:=[.tmp 4]) mixed Tryz.func149 L9 rfl rfl rfl (r:=[.bool _]) (nlZ rfl) ?_
 simp only [u9]
 have h2:=sU f e0
 have h3:=En l
 generalize sC f e0=b at *
 generalize (l.length==0)=z at *
 cases b <;> repeat' ((conv=>whnf);first|exact trivial|refine nb_ _ h2 ?_|refine rE _ (h3) ?_|refine nT_ ?_|refine nE_ (fun hq=>?_) (fun hq=>?_)|refine rb0 ?_|refine rbx ?_|refine aS ?_|fail)
def BW (k:Int) (emp br nd vn fp:Bool) (len:Nat) (al:Bool):Bool:=
 if k=1 then br&&(len==0)&&fp
 else if k=2 then emp&&(len==0)&&nd&&vn
 else if k=5 then emp&&br&&(((len:Int)==1)&&al)
 else if k=3∨k=4 then emp&&br&&(((len:Int)==2)&&al)
 else false
theorem Aj (k:Int) (p:RP) (f:ByteArray) (n:Int) (l:List RO):tD (.mk k p f n l)=BW k (u9 p) (xA f n) (tJ f) (um n) (tx p) l.length (l.all tD):=by
 rw [tD,xM]
 have hall:l.length=0→l.all tD=true:=fun h=>by rw [List.eq_nil_of_length_eq_zero h];rfl
 have leaf: ∀(x:Bool),(x&&(l.length==0)&&l.all tD)=(x&&(l.length==0)):=fun x=>by
  by_cases h0:l.length=0
  ·rw [hall h0,Bool.and_true]
  ·rw [show (l.length==0)=false from beq_false_of_ne h0,Bool.and_false,Bool.false_and]
 generalize l.all tD=al at *
 unfold BW okO zT
 by_cases h1:k=1
 ·subst h1
  simp only [if_true,show ¬((1:Int)=3∨(1:Int)=4) by omega,show ¬((1:Int)=5) by omega,if_false]
  rw [leaf]
  generalize tx p=a
  generalize xA f n=b
  cases a <;> cases b <;> simp
 rw [if_neg h1,if_neg h1]
 by_cases h2:k=2
 ·subst h2
  simp only [if_true,show ¬((2:Int)=3∨(2:Int)=4) by omega,show ¬((2:Int)=5) by omega,if_false]
  rw [leaf]
  unfold um
  generalize tJ f=a
  generalize u9 p=b
  generalize (l.length==0)=z
  cases a <;> cases b <;> cases z <;> simp
 rw [if_neg h2,if_neg h2]
 by_cases h5:k=5
 ·subst h5
  simp only [if_true,show ¬((5:Int)=3∨(5:Int)=4) by omega,or_true,if_false]
  rw [show ((l.length:Int)==1)=(l.length==1) from xt _ 1,Bool.and_assoc]
 simp only [h5,if_false,or_false]
 by_cases h3:k=3∨k=4
 ·rw [if_pos h3,if_pos h3,if_pos h3,show ((l.length:Int)==2)=(l.length==2) from xt _ 2,Bool.and_assoc]
 ·rw [if_neg h3,if_neg h3,if_neg h3]
  simp
theorem Er (N:Nat): ∀r:RO,r.wt≤N→N<2^60→vS r→DCalls Tryz.prog 115 [.agg (sA r)] (.bool (tD r)):=by
 induction N with
 |zero=>intro r h;obtain ⟨k,p,f,n,a⟩:=r;simp only [RO.wt] at h;omega
 |succ N ih=>
  rintro ⟨k,⟨pk,pf,pn,pm,pa⟩,f,n,l⟩ hr hN hnm
  refine qO (rs:=[.tmp 2]) mixed Tryz.func115 LJ rfl rfl rfl (r:=[.bool _]) (nlZ rfl) ?_
  simp only [RO.wt] at hr
  have hll:=vB l
  have h104:=xG f hnm.2.1
  have hvn:=xo n
  have hsp:=EV (.mk pk pf pn pm pa)
  have hfp:=zN _ (.mk pk pf pn pm pa) (Nat.le_refl _) (by omega) hnm.1
  have hev:=fun n=>zC l 115 n tD (by omega) fun i h=>ih l[i] (by
   have hn:=uG h
   have hm:=uh (l:=l) (j:=i+1)
   omega) (by omega) (yu hnm.2.2 i h)
  have h1:=hev 1
  have h2:=hev 2
  have hE:=sU f e0
  rw [Aj]
  clear ih hev hr
  repeat' ((conv=>whnf);first|refine aS ?_|fail)
  refine rA (β:=Unit) (fun _=>{sl:=[(1,.ptr 1 0),(3,.t (.bool (u9 (.mk pk pf pn pm pa)))),(4,.t (.bool (xA f n)))],bx:=[(1,.d 9 (sA (.mk k (.mk pk pf pn pm pa) f n l)))]}) (fun _=>True) ?_ ?_
  ·unfold xA
   generalize sC f e0=b at *
   generalize u9 (.mk pk pf pn pm pa)=em at *
   cases b <;> repeat' ((conv=>whnf);first|refine nb_ _ hE ?_|refine rE _ (hsp) ?_|(exact ⟨(),trivial,by (repeat' (first|exact trivial|exact LeV.same _|exact LeB.same _|exact rfl|exact fun _ _ _=>trivial|exact lB|refine And.intro ?_ ?_));done⟩)|refine nT_ ?_|refine nE_ (fun hq=>?_) (fun hq=>?_)|refine aS ?_|fail)
  rintro _ _
  generalize xA f n=br at *
  generalize tJ f=nd at *
  generalize u9 (.mk pk pf pn pm pa)=em at *
  generalize tx (.mk pk pf pn pm pa)=fp at *
  generalize l.all tD=al at *
  have hlen:(l.map s8).length=l.length:=List.length_map _
  have key: ∀(z:Bool),(l.length==0)=z→(z=true∧((l.map s8).length:Int)=0)∨(z=false∧((l.map s8).length:Int)≠0):=fun z hz=>by
   cases z with
   |true=>
    have h0:l.length=0:=by simpa using hz
    exact Or.inl ⟨rfl,by omega⟩
   |false=>
    have h0:l.length≠0:=by simpa using hz
    exact Or.inr ⟨rfl,by omega⟩
  unfold BW
  generalize hz:(l.length==0)=z at *
  generalize um n=vn at *
  by_cases k1:k=1
  ·subst k1
   rw [if_pos rfl]
   rcases key z rfl with ⟨rfl,e1⟩|⟨rfl,e1⟩ <;> cases br <;> repeat' ((conv=>whnf);first|exact trivial|refine rE _ (hfp) ?_|refine qx e1 ?_|refine qw e1 ?_|refine nT_ ?_|refine aE1 ?_|refine rb0 ?_|refine rbx ?_|refine aS ?_|fail)
  rw [if_neg k1]
  by_cases k2:k=2
  ·subst k2
   rw [if_pos rfl]
   rcases key z rfl with ⟨rfl,e1⟩|⟨rfl,e1⟩ <;> cases em <;> cases nd <;> repeat' ((conv=>whnf);first|exact trivial|refine rE _ (h104) ?_|refine rE _ (hvn) ?_|refine qx e1 ?_|refine qw e1 ?_|refine nT_ ?_|refine aE1 ?_|refine aE0 ?_|refine rb0 ?_|refine rbx ?_|refine aS ?_|fail)
  rw [if_neg k2]
  by_cases k5:k=5
  ·subst k5
   rw [if_pos rfl]
   cases em <;> cases br <;> repeat' ((conv=>whnf);first|exact trivial|refine rE _ (h1) ?_|refine nT_ ?_|refine aE1 ?_|refine aE0 ?_|refine rb0 ?_|refine rbx ?_|refine aS ?_|fail)
  rw [if_neg k5]
  by_cases k3:k=3∨k=4
  ·rw [if_pos k3]
   rcases k3 with rfl|rfl <;> cases em <;> cases br <;> repeat' ((conv=>whnf);first|exact trivial|refine rE _ (h2) ?_|refine nT_ ?_|refine aE1 ?_|refine aE0 ?_|refine rb0 ?_|refine rbx ?_|refine aS ?_|fail)
  rw [if_neg k3]
  repeat' ((conv=>whnf);first|exact trivial|refine nT_ ?_|refine aE0 ?_|refine rb0 ?_|refine aS ?_|fail)
theorem BP (n d:Nat) (f:FuncId) (c:T) (b:Bool) (h:DCalls Tryz.prog f [c] (.bool b)):DCalls Tryz.prog 106 [sz n d,.clos f [c]] (I (zW (yL n d) b)):=by
 refine qO (rs:=[.tmp 4]) mixed Tryz.func106 LC rfl rfl rfl (r:=[.int _ _]) (nlZ rfl) ?_
 have h1:=Gz n d
 unfold zW
 by_cases hl:yL n d=0
 ·rw [hl] at h1 ⊢
  rw [if_pos rfl]
  cases b <;> repeat' ((conv=>whnf);first|exact trivial|refine rE _ (h1) ?_|refine rE _ (h) ?_|refine aN0 ?_|refine rix ?_|refine aS ?_|fail)
 ·rw [if_neg hl]
  generalize yL n d=e at *
  repeat' ((conv=>whnf);first|exact trivial|refine rE _ (h1) ?_|refine aN1 ?_|refine rix ?_|refine aS ?_|fail)
theorem Bt (r:RP) (hr:r.nodes<2^60) (hn:vT r):DCalls Tryz.prog 68 [.agg (sB r)] (I (wY r)):=by
 refine qO (rs:=[.tmp 2]) mixed Tryz.func68 l68 rfl rfl rfl (r:=[.int _ _]) (nlZ rfl) ?_
 unfold wY
 have h1:=BR _ r (Nat.le_refl _) hr
 have h2:DCalls Tryz.prog 107 [.cptr (sB r) 0] (.bool (tx r)):=by
  refine qO (rs:=[.tmp 1]) mixed Tryz.func107 LD rfl rfl rfl (r:=[.bool _]) (nlZ rfl) ?_
  have h:=zN _ r (Nat.le_refl _) hr hn
  repeat' ((conv=>whnf);first|exact trivial|refine rE _ (h) ?_|refine nT_ ?_|refine rbx ?_|(refine And.intro (by first|exact sL _|fail) ?_)|fail)
 have h3:=BP r.nodes r.depth 107 _ _ h2
 repeat' ((conv=>whnf);first|exact trivial|refine rE _ (h1) ?_|refine rE _ (h3) ?_|refine rix ?_|(refine And.intro (by first|exact sL _|fail) ?_)|refine aS ?_|fail)
theorem xJ (r:RO) (hr:r.wt<2^60) (hn:vS r):DCalls Tryz.prog 72 [.agg (sA r)] (I (tX r)):=by
 refine qO (rs:=[.tmp 2]) mixed Tryz.func72 l72 rfl rfl rfl (r:=[.int _ _]) (nlZ rfl) ?_
 unfold tX
 have h1:=GA _ r (Nat.le_refl _) hr
 have h2:DCalls Tryz.prog 114 [.cptr (sA r) 0] (.bool (tD r)):=by
  refine qO (rs:=[.tmp 1]) mixed Tryz.func114 LI rfl rfl rfl (r:=[.bool _]) (nlZ rfl) ?_
  have h:=Er _ r (Nat.le_refl _) hr hn
  repeat' ((conv=>whnf);first|exact trivial|refine rE _ (h) ?_|refine nT_ ?_|refine rbx ?_|(refine And.intro (by first|exact sF _|fail) ?_)|fail)
 have h3:=BP r.size r.deep 114 _ _ h2
 repeat' ((conv=>whnf);first|exact trivial|refine rE _ (h1) ?_|refine rE _ (h3) ?_|refine rix ?_|(refine And.intro (by first|exact sF _|fail) ?_)|refine aS ?_|fail)
end Go.TY
end
noncomputable section
namespace Go.TY
open Go Go.DL Go.Proofs
def c15:aY:=(.seq (.region [oo 3 (.box 5 (tm 1)),oo 4 (.mov (Kc 0))] []) (.seq (.seq (.region [lA 6 5 3,oo 7 (.call 68 [tm 6]),mv 5 7] []) (.seq (.region [mv 8 5,oo 9 (.bin .neq (tm 8) (Kc 0))] []) (.cond (tm 9) (.seq (.region [mv 10 5,mv 4 10] []) .ret) .skip))) (.seq (.region [mv 11 0,lA 12 5 3,oo 13 (.call 69 [(tm 11),(tm 12)]),mv 4 13] []) .ret)))
theorem l15:(Tryz.f15.body.bind (bD Tryz.prog 14 []))=some c15:=by kernel_rfl
def c19:aY:=(.seq (.region [oo 2 (.box 1 (tm 0)),oo 3 (.box 6 (tm 1)),oo 4 (.mov (Kc 0))] []) (.seq (.seq (.region [lA 11 6 3,oo 12 (.call 79 [tm 11]),mv 5 12] []) (.seq (.region [mv 13 5,oo 14 (.bin .neq (tm 13) (Kc 0)),mv 15 14,oF 16 15 (.offA 0 (tm 3)),oF 17 15 (.load 1 false (tm 16)),oF 18 15 (.bin .eql (tm 17) (Kc 0)),oo 19 (.pick (tm 15) kT (tm 18))] []) (.cond (tm 19) (.seq (.region [mv 20 5,mv 4 20] []) .ret) .skip))) (.seq (.region [oo 21 (.mkfn 80 [tm 2]),mv 6 21] []) (.seq (.seq (.cut (.region [fa 22 3 3,ld 23 22,⟨some 24,.bin .neq (tm 23) (.const S0),none,[]⟩,mv 25 24,mT 26 6 25,oT 27 25 (.offA 3 (tm 3)),oT 28 25 (.load 1 false (tm 27)),oT 29 25 (.b8 (tm 26) [tm 28]),oT 30 25 (.not (tm 29)),oo 31 (.pick (tm 25) (tm 30) kF),mv 32 31,oF 33 32 (.offA 2 (tm 3)),oF 34 32 (.load 1 false (tm 33)),mF 35 6 32,oF 36 32 (.call 81 [(tm 34),(tm 35)]),oF 37 32 (.not (tm 36)),oo 38 (.pick (tm 32) kT (tm 37))] [])) (.cond (tm 38) (.seq (.region [oo 4 (.mov (Kc 4))] []) .ret) .skip)) (.seq (.seq (.region [fa 39 2 3,ld 40 39,ln 41 40,oo 42 (.mov (Kc 0))] []) (.block 0 (.loop (.seq (.region [oo 43 (.bin .lss (tm 42) (tm 41))] []) (.seq (.cond (tm 43) .skip (.exit 0)) (.seq (.block 1 (.seq (.region [mv 44 42,ix 45 1 40 42,ld 46 45,mv 7 44,mv 8 46] []) (.seq (.region [fa 47 2 3,ld 48 47,mv 49 7,oo 50 (.slice 1 (tm 48) none (some (tm 49))),mv 51 8,oo 52 (.call 82 [(tm 50),(tm 51)])] []) (.cond (tm 52) (.seq (.region [oo 4 (.mov (Kc 1))] []) .ret) .skip)))) (.region [oo 53 (.bin .add (tm 42) (Kc 1)),mv 42 53] []))))))) (.seq (.seq (.region [ld 55 2,fa 56 3 3,ld 57 56,oo 58 (.call 74 [(tm 55),(tm 57)]),mv 54 58,oo 59 (.ext (tm 54) 0),oo 60 (.ext (tm 54) 1),⟨some 9,.alloc [S0,Z0,Z0],none,[]⟩,o0 (.store 3 (tm 9) (tm 59)),mv 10 60] []) (.seq (.region [fa 61 0 3,ld 62 61,oo 63 (.bin .eql (tm 62) (Kc 4)),mv 64 63,oT 65 64 (.offA 5 (tm 3)),oT 66 64 (.load 1 false (tm 65)),oT 67 64 (.load 3 true (tm 9)),oT 68 64 (.call 75 [tm 67]),oT 69 64 (.bin .gtr (tm 66) (tm 68)),oo 70 (.pick (tm 64) (tm 69) kF)] []) (.cond (tm 70) (.seq (.region [oo 4 (.mov (Kc 1))] []) .ret) .skip))) (.seq (.region [oo 4 (.mov (Kc 0))] []) .ret)))))))
theorem l19:(Tryz.f19.body.bind (bD Tryz.prog 71 [6000005]))=some c19:=by kernel_rfl
def c80:aY:=(.seq (.region [oo 3 (.mov kF)] []) (.seq (.region [ld 7 1,mv 8 0,oo 9 (.call 74 [(tm 7),(tm 8)]),mv 6 9,oo 10 (.ext (tm 6) 0),oo 11 (.ext (tm 6) 1),⟨some 4,.alloc [S0,Z0,Z0],none,[]⟩,o0 (.store 3 (tm 4) (tm 10)),mv 5 11] []) (.seq (.region [mv 12 5,mv 3 12] []) .ret)))
theorem l80:(Tryz.f80.body.bind (bD Tryz.prog 13 []))=some c80:=by kernel_rfl
def c81:aY:=(.seq (.region [oo 3 (.box 1 (tm 1)),oo 4 (.mov kF)] []) (.seq (.region [mv 5 0,oo 6 (.mkfn 125 [tm 3]),oo 7 (.call 124 [(tm 5),(tm 6)]),oo 8 (.not (tm 7)),mv 4 8] []) .ret))
theorem l81:(Tryz.f81.body.bind (bD Tryz.prog 9 []))=some c81:=by kernel_rfl
def KK:aY:=(.seq (.region [oo 3 (.mov kF)] []) (.seq (.region [ld 4 1,mv 5 0,oo 6 (.b8 (tm 4) [tm 5]),oo 7 (.not (tm 6)),mv 3 7] []) .ret))
theorem LP:(Tryz.f125.body.bind (bD Tryz.prog 8 []))=some KK:=by kernel_rfl
def c82:aY:=(.seq (.region [oo 4 (.mov kF)] []) (.seq (.region [mv 5 0,mv 6 1,oo 7 (.call 126 [(tm 5),(tm 6)]),oo 8 (.bin .geq (tm 7) (Kc 0)),mv 4 8] []) .ret))
theorem l82:(Tryz.f82.body.bind (bD Tryz.prog 9 []))=some c82:=by kernel_rfl
def KL:aY:=(.seq (.region [oo 4 (.mov (Kc 0))] []) (.seq (.seq (.region [mv 6 0,ln 7 6,oo 8 (.mov (Kc 0))] []) (.block 0 (.loop (.seq (.region [oo 9 (.bin .lss (tm 8) (tm 7))] []) (.seq (.cond (tm 9) .skip (.exit 0)) (.seq (.block 1 (.seq (.region [mv 10 8,mv 5 10] []) (.seq (.region [mv 11 1,mv 12 0,mv 13 5,ix 14 1 12 13,ld 15 14,oo 16 (.bin .eql (tm 11) (tm 15))] []) (.cond (tm 16) (.seq (.region [mv 17 5,mv 4 17] []) .ret) .skip)))) (.region [oo 18 (.bin .add (tm 8) (Kc 1)),mv 8 18] []))))))) (.seq (.region [oo 4 (.mov (.const (.int .i64 (-1))))] []) .ret)))
theorem LQ:(Tryz.f126.body.bind (bD Tryz.prog 19 []))=some KL:=by kernel_rfl
def KO:aY:=(.seq (.region [oo 2 (.mov (Kc 0))] []) (.seq (.region [oo 3 (.buildS 3 1 7 [Z0] [(0,(Kc 0)),(1,(Kc 1)),(2,(Kc 2)),(3,(Kc 2)),(4,(Kc 3)),(5,(Kc 3)),(6,(Kc 4))]),mv 4 0,ix 5 1 3 4,ld 6 5,mv 2 6] []) .ret))
theorem LV:(Tryz.f137.body.bind (bD Tryz.prog 7 []))=some KO:=by kernel_rfl
def c38:aY:=(.seq (.region [oo 4 (.mov (Kc 0))] []) (.seq (.seq (.region [mv 12 1,oo 13 (.call 95 [tm 12]),mv 5 13] []) (.seq (.region [mv 14 5,oo 15 (.bin .neq (tm 14) (Kc 0))] []) (.cond (tm 15) (.seq (.region [mv 16 5,mv 4 16] []) .ret) .skip))) (.seq (.seq (.region [mv 17 1,ln 18 17,oo 19 (.mov (Kc 0))] []) (.block 0 (.loop (.seq (.region [oo 20 (.bin .lss (tm 19) (tm 18))] []) (.seq (.cond (tm 20) .skip (.exit 0)) (.seq (.block 1 (.seq (.region [ix 21 15 17 19,lA 22 15 21,⟨some 7,.alloc [Z0,Z0,S0,Z0,Z0,.nil,S0,Z0,.nil,Z0,S0,.nil,S0,Z0,Z0],none,[]⟩,o0 (.store 15 (tm 7) (tm 22))] []) (.seq (.seq (.region [mv 23 0,fa 24 0 7,lA 25 9 24,oo 26 (.call 17 [(tm 23),(tm 25)]),mv 8 26] []) (.seq (.region [mv 27 8,oo 28 (.bin .neq (tm 27) (Kc 0))] []) (.cond (tm 28) (.seq (.region [mv 29 8,mv 4 29] []) .ret) .skip))) (.seq (.region [mv 30 0,fa 31 9 7,lA 32 6 31,oo 33 (.call 19 [(tm 30),(tm 32)]),mv 9 33] []) (.seq (.region [mv 34 9,oo 35 (.bin .neq (tm 34) (Kc 0))] []) (.cond (tm 35) (.seq (.region [mv 36 9,mv 4 36] []) .ret) .skip)))))) (.region [oo 37 (.bin .add (tm 19) (Kc 1)),mv 19 37] []))))))) (.seq (.seq (.region [mv 39 0,mv 40 1,oo 41 (.call 96 [(tm 39),(tm 40)]),mv 38 41,oo 42 (.ext (tm 38) 0),oo 43 (.ext (tm 38) 1),mv 10 42,mv 11 43] []) (.seq (.region [mv 44 11,oo 45 (.not (tm 44))] []) (.cond (tm 45) (.seq (.region [oo 4 (.mov (Kc 11))] []) .ret) .skip))) (.seq (.region [oo 4 (.mov (Kc 0))] []) .ret)))))
theorem l38:(Tryz.f38.body.bind (bD Tryz.prog 46 []))=some c38:=by kernel_rfl
def c39:aY:=(.seq (.region [oo 4 (.mov (.const .nil))] []) (.seq (.region [mv 11 0,mv 12 1,oo 13 (.call 96 [(tm 11),(tm 12)]),mv 10 13,oo 14 (.ext (tm 10) 0),oo 15 (.ext (tm 10) 1),mv 5 14,mv 6 15] []) (.seq (.region [oo 7 (.mov (.const .nil))] []) (.seq (.seq (.region [mv 16 5,oo 17 (.call 97 [tm 16]),oo 18 (.call 87 [tm 17]),ln 19 18,oo 20 (.mov (Kc 0))] []) (.block 0 (.loop (.seq (.region [oo 21 (.bin .lss (tm 20) (tm 19))] []) (.seq (.cond (tm 21) .skip (.exit 0)) (.seq (.block 1 (.seq (.region [ix 22 1 18 20,ld 23 22,mv 9 23] []) (.region [mv 24 7,mv 25 5,mv 26 9,⟨some 27,.mlook false [.str] (.agg [S0,Z0,.nil,Z0,Z0]) false (tm 25) (tm 26),none,[]⟩,⟨some 28,.buildF 5 1 [S0,Z0,.nil,Z0,Z0] [(0,(tm 27))],none,[]⟩,oo 29 (.append 62 66 5 64 (tm 24) (tm 28)),mv 7 29] []))) (.region [oo 30 (.bin .add (tm 20) (Kc 1)),mv 20 30] []))))))) (.seq (.region [mv 31 7,mv 4 31] []) .ret)))))
theorem l39:(Tryz.f39.body.bind (bD Tryz.prog 32 [8000028]))=some c39:=by kernel_rfl
def c30:aY:=(.seq (.region [oo 1 (.box 9 (tm 0)),oo 2 (.mov (Kc 0))] []) (.seq (.seq (.region [fa 3 0 1,ld 4 3] []) (.block 0 (.seq (.region [oo 6 (.bin .eql (tm 4) (Kc 3)),mv 5 6] []) (.cond (tm 5) (.seq (.region [fa 7 8 1,ld 8 7,oo 9 (.idxL 9 (tm 8) (Kc 0)),lA 10 9 9,oo 11 (.call 30 [tm 10]),fa 12 8 1,ld 13 12,oo 14 (.idxL 9 (tm 13) (Kc 1)),lA 15 9 14,oo 16 (.call 30 [tm 15]),oo 17 (.bin .add (tm 11) (tm 16)),oo 18 (.minI (tm 17) (Kc 65536)),mv 2 18] []) .ret) (.seq (.region [oo 20 (.bin .eql (tm 4) (Kc 4)),mv 19 20] []) (.cond (tm 19) (.seq (.region [fa 21 8 1,ld 22 21,oo 23 (.idxL 9 (tm 22) (Kc 0)),lA 24 9 23,oo 25 (.call 30 [tm 24]),fa 26 8 1,ld 27 26,oo 28 (.idxL 9 (tm 27) (Kc 1)),lA 29 9 28,oo 30 (.call 30 [tm 29]),oo 31 (.bin .mul (tm 25) (tm 30)),oo 32 (.minI (tm 31) (Kc 65536)),mv 2 32] []) .ret) (.seq (.region [oo 34 (.bin .eql (tm 4) (Kc 5)),mv 33 34] []) (.cond (tm 33) (.seq (.seq (.region [fa 35 8 1,ld 36 35,oo 37 (.idxL 9 (tm 36) (Kc 0)),lA 38 9 37,oo 39 (.call 30 [tm 38]),oo 40 (.bin .eql (tm 39) (Kc 0))] []) (.cond (tm 40) (.seq (.region [oo 2 (.mov (Kc 1))] []) .ret) .skip)) (.seq (.region [oo 2 (.mov (Kc 65536))] []) .ret)) .skip)))))))) (.seq (.seq (.region [fa 41 0 1,ld 42 41,oo 43 (.bin .eql (tm 42) (Kc 1)),mv 44 43,oT 45 44 (.offA 1 (tm 1)),oT 46 44 (.offA 0 (tm 45)),oT 47 44 (.load 1 false (tm 46)),oT 48 44 (.bin .eql (tm 47) (Kc 2)),oo 49 (.pick (tm 44) (tm 48) kF)] []) (.cond (tm 49) (.seq (.region [oo 2 (.mov (Kc 0))] []) .ret) .skip)) (.seq (.region [oo 2 (.mov (Kc 1))] []) .ret))))
theorem l30:(Tryz.f30.body.bind (bD Tryz.prog 50 []))=some c30:=by kernel_rfl
def c99:aY:=(.seq (.region [oo 4 (.mov kF)] []) (.seq (.seq (.region [mv 6 0,ln 7 6,mv 8 1,ln 9 8,oo 10 (.bin .neq (tm 7) (tm 9))] []) (.cond (tm 10) (.seq (.region [oo 4 (.mov kF)] []) .ret) .skip)) (.seq (.seq (.region [mv 11 0,ln 12 11,oo 13 (.mov (Kc 0))] []) (.block 0 (.loop (.seq (.region [oo 14 (.bin .lss (tm 13) (tm 12))] []) (.seq (.cond (tm 14) .skip (.exit 0)) (.seq (.block 1 (.seq (.region [mv 15 13,mv 5 15] []) (.seq (.region [mv 16 0,mv 17 5,ix 18 1 16 17,ld 19 18,mv 20 1,mv 21 5,ix 22 1 20 21,ld 23 22,oo 24 (.bin .neq (tm 19) (tm 23))] []) (.cond (tm 24) (.seq (.region [oo 4 (.mov kF)] []) .ret) .skip)))) (.region [oo 25 (.bin .add (tm 13) (Kc 1)),mv 13 25] []))))))) (.seq (.region [oo 4 (.mov kT)] []) .ret))))
theorem l99:(Tryz.f99.body.bind (bD Tryz.prog 26 []))=some c99:=by kernel_rfl
end Go.TY
end
section
namespace Go.TY
open Go Go.DL Go.MM Go.Proofs
theorem H5 (l:List Fd) (hl:LOk l) (r:RP) (hr:r.nodes<2^40) (hn:vT r):DCalls Tryz.prog 15 [fds l,.agg (sB r)] (I (z7 l r)):=by
 refine qO (rs:=[.tmp 4]) mixed Tryz.func15 l15 rfl rfl rfl (r:=[.int _ _]) (nlZ rfl) ?_
 have h1:=Bt r (by omega) hn
 have h2:=Ep l hl r hr
 unfold z7
 by_cases hc:wY r=0
 ·rw [hc] at h1
  rw [if_neg (by simpa using hc)]
  repeat' ((conv=>whnf);first|exact trivial|refine rE _ (h1) ?_|refine rE _ (h2) ?_|refine aN0 ?_|refine rix ?_|(refine And.intro (by first|exact sL _|fail) ?_)|refine aS ?_|fail)
 ·rw [if_pos hc]
  generalize wY r=e at *
  repeat' ((conv=>whnf);first|exact trivial|refine rE _ (h1) ?_|refine aN1 ?_|refine rix ?_|(refine And.intro (by first|exact sL _|fail) ?_)|refine aS ?_|fail)
attribute [local irreducible] aI gR WCM YC
theorem A5 (l:List Fd) (hl:LOk l) (r:RO) (hr:r.wt<2^40) (hn:vS r):DCalls Tryz.prog 17 [fds l,.agg (sA r)] (I (ue l r)):=by
 rw [← uA]
 refine qP Tryz.func17 Lo rfl (r:=[I (ue l r)]) (nlZ rfl) ?_
 have hlen:(sG r).length≤r.wt:=by rw [s9,uJ];exact r.wZ
 have hwt: ∀o∈sG r,o.wt≤r.wt:=by rw [s9];exact uX r
 have hcp:=xJ r (by omega) hn
 rw [← uA] at hcp
 unfold ue
 rw [← s9]
 rw [show Tryz.f17.ntmps=47 from rfl,show Tryz.f17.results.toList=[.cell 4 33] from rfl,k17]
 have ht:=yp r
 rw [sO] at ht
 generalize hv:(sG r).map (wa l)=v at *
 refine aI.seq (I9 ?_)
 repeat' ((conv=>whnf);first|(refine And.intro (by first|exact tl _|fail) ?_)|refine aS ?_|fail)
 refine aI.seq (Jf ?_)
 by_cases hc:tX r=0
 case neg=>
  rw [if_pos hc]
  generalize tX r=e at *
  repeat' ((conv=>whnf);first|refine rE _ (hcp) ?_|refine aN1 ?_|refine aS ?_|fail)
  exact ⟨⟨⟨Nat.lt_succ_self 0,rfl⟩,trivial⟩,fun _ _=>trivial⟩
 rw [hc] at hcp
 rw [if_neg (by simpa using hc)]
 repeat' ((conv=>whnf);first|refine rE _ (hcp) ?_|refine aN0 ?_|refine aS ?_|fail)
 refine aI.seq (aI.seq (Jl ?_))
 repeat' ((conv=>whnf);first|refine rE _ (ht) ?_|fail)
 refine aI.bP (s:={sl:=[(2,.ptr 2 0),(4,.ptr 4 0),(16,.t (.clos 116 [.cptr (sW r) 0]))],bx:=[(2,.d 1 [fds l]),(4,.d 1 [I 0])]}) (by repeat' (first|exact trivial|exact LeV.same _|exact LeB.same _|exact rfl|exact fun _ _ _=>trivial|refine And.intro ?_ ?_)) ?_
 refine aI.block (vL (N:=47) rfl r rfl 100 (fun n=>10≤n∧n<100) 100 (Nat.le_refl _) (by omega) (fun n h=>rz fun p hp=>?_) (fun n h=>rz fun p hp=>?_) (by exact rU) (outs:=tA l v) (stop:=fun c cx o=>cx=(fun _ _=>True)∧wK l v c o) ?_ (fun l0 D fn tmps hN=>?_) ?_ ?_)
 ·simp only [List.mem_cons,List.not_mem_nil,or_false] at hp
  rcases hp with rfl|rfl <;> (dsimp only;omega)
 ·simp only [List.mem_cons,List.not_mem_nil,or_false] at hp
  rcases hp with rfl|rfl <;> (dsimp only;omega)
 ·intro q hq
  simp only [tA,List.mem_cons,List.not_mem_nil,or_false] at hq
  rcases hq with rfl|rfl <;> rfl
 ·refine dR.top (d:=6) (n:=9) (lo:=10) (hi:=100) (Eh l v) (fun n h1 h2=>⟨h1,h2⟩) hN (by decide) (fun hw=>Jr hw) rfl (by decide) (by decide) (fun x hx=>?_) (fun k cs b G C hk hcs=>?_)
  ·obtain ⟨t,_,rfl⟩:=List.mem_map.1 hx
   exact ⟨_,sO t,tl t⟩
  rw [List.getElem?_map,Option.map_eq_some_iff] at hk
  obtain ⟨t,htk,hte⟩:=hk
  rw [sO] at hte
  obtain rfl:sW t=cs:=T.agg.inj hte
  have hvk:v[k]? =some (wa l t):=by rw [← hv,List.getElem?_map,htk];rfl
  have hs:=Au hvk
  have hfst:=zK hvk
  have htw:=hwt t (List.mem_of_getElem? htk)
  cases hok:okB v k with
  |false=>exact aI.absurd (n:=4) (m:=1) (ts:=[]) (by show some (BX.d 1 (if okB v k=true then [I 0] else []))=_;rw [hok];rfl) (by decide)
  |true=>
  have ho:tA l v k=[(2,.d 1 [fds l]),(4,.d 1 [I 0])]:=by unfold tA;rw [hok];rfl
  rw [ho]
  rw [hok,Bool.true_and] at hs
  have hfst:=hfst hok
  clear hok ho
  refine Jx ?_
  clear hte
  obtain ⟨kd,⟨pk,pf,pn,pm,pa⟩,f,n,args⟩:=t
  have endN: ∀s:St,s.gh=G→s.cx=C→(∀ q, ¬(10≤q∧q<100)→s.bx q=aK b [(2,.d 1 [fds l]),(4,.d 1 [I 0])] q)→wa l (.mk kd (.mk pk pf pn pm pa) f n args)=0→RB b G C 10 100 (tA l v (k+1)) (wK l v) .normal s:=fun s h1 h2 h3 h4=>by
   refine ⟨h1,h2,_,h3,?_⟩
   unfold tA
   rw [hs,h4];rfl
  have endR: ∀s:St,s.gh=G→s.cx=C→(∀ q, ¬(10≤q∧q<100)→s.bx q=aK b [(2,.d 1 [fds l]),(4,.d 1 [I (wa l (.mk kd (.mk pk pf pn pm pa) f n args))])] q)→wa l (.mk kd (.mk pk pf pn pm pa) f n args)≠0→RB b G C 10 100 (tA l v (k+1)) (wK l v) .ret s:=fun s h1 h2 h3 h4=>by
   have e:=hfst h4
   exact ⟨h1,h2,_,h3,rfl,by rw [e];exact h4,by rw [e]⟩
  have hq:wa l (.mk kd (.mk pk pf pn pm pa) f n args)=(if kd=1 then yd l (.mk pk pf pn pm pa) else if kd=2 then Ai l f n else 0):=by simp only [wa]
  generalize wa l (.mk kd (.mk pk pf pn pm pa) f n args)=x at *
  by_cases k1:kd=1
  ·rw [if_pos k1] at hq
   have hf:=Ep l hl (.mk pk pf pn pm pa) (by simp only [RO.wt] at htw;omega)
   rw [← hq] at hf
   by_cases hx:x=0
   ·repeat' ((conv=>whnf);first|refine qx k1 ?_|(refine nv_ (.agg (sB (.mk pk pf pn pm pa))) (by first|(rfl;done)|fail) ?_)|refine rE _ (hf) ?_|refine qy hx ?_|refine nT_ ?_|refine aS ?_|fail)
    (conv=>whnf)
    refine endN _ rfl rfl (fun q hq=>?_) hx
    have hm:=qX (b:=b) hq
    show cond (Nat.beq q 16) _ (cond (Nat.beq q 2) _ (cond (Nat.beq q 4) _ (gE 10 100 b q)))=cond (Nat.beq q 2) _ (cond (Nat.beq q 4) _ (b q))
    rw [eS (show q≠16 by omega),hm];rfl
   ·repeat' ((conv=>whnf);first|refine qx k1 ?_|(refine nv_ (.agg (sB (.mk pk pf pn pm pa))) (by first|(rfl;done)|fail) ?_)|refine rE _ (hf) ?_|refine qz hx ?_|refine nT_ ?_|refine aS ?_|fail)
    (conv=>whnf)
    refine endR _ rfl rfl (fun q hq=>?_) hx
    have hm:=qX (b:=b) hq
    by_cases h4:q=4
    ·subst h4;rfl
    show cond (Nat.beq q 4) _ (cond (Nat.beq q 16) _ (cond (Nat.beq q 2) _ (cond (Nat.beq q 4) _ (gE 10 100 b q))))=cond (Nat.beq q 2) _ (cond (Nat.beq q 4) _ (b q))
    rw [eS (show q≠16 by omega),eS h4,hm];rfl
  rw [if_neg k1] at hq
  by_cases k2:kd=2
  ·rw [if_pos k2] at hq
   have h74:=t74 l f hl.len
   unfold xv at h74
   unfold Ai at hq
   cases hF:findF l f with
   |none=>
    rw [hF] at h74 hq
    dsimp only at h74 hq
    subst hq
    repeat' ((conv=>whnf);first|refine qw k1 ?_|refine qx k2 ?_|refine rE _ (h74) ?_|refine nT_ ?_|refine aS ?_|fail)
    (conv=>whnf)
    refine endR _ rfl rfl (fun q hq=>?_) (by decide)
    have hm:=qX (b:=b) hq
    by_cases h4:q=4
    ·subst h4;rfl
    show cond (Nat.beq q 4) _ (cond (Nat.beq q 18) _ (cond (Nat.beq q 18) _ (cond (Nat.beq q 16) _ (cond (Nat.beq q 2) _ (cond (Nat.beq q 4) _ (gE 10 100 b q))))))=cond (Nat.beq q 2) _ (cond (Nat.beq q 4) _ (b q))
    rw [eS (show q≠18 by omega),eS (show q≠16 by omega),eS h4,hm];rfl
   |some F=>
    rw [hF] at h74 hq
    dsimp only at h74 hq
    have h97:=t97 F (hl.find hF)
    generalize (2^F.w - 1:Nat)=M at *
    by_cases hb:n>(M:Int)
    ·rw [if_pos hb] at hq
     subst hq
     repeat' ((conv=>whnf);first|refine qw k1 ?_|refine qx k2 ?_|refine rE _ (h74) ?_|refine rE _ (h97) ?_|refine qv hb ?_|refine nT_ ?_|refine aS ?_|fail)
     (conv=>whnf)
     refine endR _ rfl rfl (fun q hq=>?_) (by decide)
     have hm:=qX (b:=b) hq
     by_cases h4:q=4
     ·subst h4;rfl
     show cond (Nat.beq q 4) _ (cond (Nat.beq q 18) _ (cond (Nat.beq q 18) _ (cond (Nat.beq q 16) _ (cond (Nat.beq q 2) _ (cond (Nat.beq q 4) _ (gE 10 100 b q))))))=cond (Nat.beq q 2) _ (cond (Nat.beq q 4) _ (b q))
     rw [eS (show q≠18 by omega),eS (show q≠16 by omega),eS h4,hm];rfl
    ·rw [if_neg hb] at hq
     repeat' ((conv=>whnf);first|refine qw k1 ?_|refine qx k2 ?_|refine rE _ (h74) ?_|refine rE _ (h97) ?_|refine qu hb ?_|refine nT_ ?_|refine aS ?_|fail)
     (conv=>whnf)
     refine endN _ rfl rfl (fun q hq=>?_) hq
     have hm:=qX (b:=b) hq
     show cond (Nat.beq q 18) _ (cond (Nat.beq q 18) _ (cond (Nat.beq q 16) _ (cond (Nat.beq q 2) _ (cond (Nat.beq q 4) _ (gE 10 100 b q)))))=cond (Nat.beq q 2) _ (cond (Nat.beq q 4) _ (b q))
     rw [eS (show q≠18 by omega),eS (show q≠16 by omega),hm];rfl
  ·rw [if_neg k2] at hq
   repeat' ((conv=>whnf);first|refine qw k1 ?_|refine qw k2 ?_|refine nT_ ?_|refine aS ?_|fail)
   (conv=>whnf)
   refine endN _ rfl rfl (fun q hq=>?_) hq
   have hm:=qX (b:=b) hq
   show cond (Nat.beq q 16) _ (cond (Nat.beq q 2) _ (cond (Nat.beq q 4) _ (gE 10 100 b q)))=cond (Nat.beq q 2) _ (cond (Nat.beq q 4) _ (b q))
   rw [eS (show q≠16 by omega),hm];rfl
 ·have hlv:(sG r).length=v.length:=by rw [← hv,List.length_map]
  rw [hlv]
  cases hok:okB v v.length with
  |false=>exact aI.absurd (n:=4) (m:=1) (ts:=[]) (by show some (BX.d 1 (if okB v v.length=true then [I 0] else []))=_;rw [hok];rfl) (by decide)
  |true=>
   rw [BH hok]
   have ho:tA l v v.length=[(2,.d 1 [fds l]),(4,.d 1 [I 0])]:=by unfold tA;rw [hok];rfl
   rw [ho]
   refine JC ?_
   repeat' ((conv=>whnf);first|refine aS ?_|fail)
   exact ⟨⟨⟨Nat.lt_succ_self 0,rfl⟩,trivial⟩,fun _ _=>trivial⟩
 ·rintro c cx o ⟨rfl,rfl,hne,rfl⟩
  refine Or.inl ⟨rfl,?_,fun _ _=>trivial⟩
  (conv=>whnf)
  exact ⟨⟨Nat.lt_succ_self 0,rfl⟩,trivial⟩
end Go.TY
end
section
namespace Go.TY
open Go Go.DL Go.MM Go.Proofs
theorem Eo (l:List ByteArray):DCalls Tryz.prog 166 [.slice 1 (l.map .str),.nil] (.bool (l.length==0)):=by
 refine qO (rs:=[.tmp 4]) mixed Tryz.func166 Mk rfl rfl rfl (r:=[.bool _]) (nlZ rfl) ?_
 cases l with
 |cons a l=>
  repeat' ((conv=>whnf);first|exact trivial|refine aN1 ?_|refine rb0 ?_|refine aS ?_|fail)
 |nil=>
  repeat' ((conv=>whnf);first|refine aN0 ?_|refine aS ?_|fail)
  refine rq (α:=Unit) (fun _=>{sl:=[(11,.t (.slice 1 [])),(12,.t (I 0)),(13,.t (I 0))],bx:=[]}) (fun _=>True) (fun _=>0) () trivial ?_ ?_
  ·repeat' (first|exact trivial|exact LeV.same _|exact rfl|exact fun _ _ _=>trivial|refine And.intro ?_ ?_)
  rintro _ _
  repeat' ((conv=>whnf);first|exact trivial|refine aD0 ?_|refine rb1 ?_|refine aS ?_|fail)
def wq (s:RS):Bool:=(s.kind==0)&&sC s.var e0&&sC s.field e0&&(s.n==0)&&(s.m==0)&&(s.key.length==0)
theorem EW (s:RS):DCalls Tryz.prog 151 [.agg (sZ s),.agg [I 0,.str e0,.nil,.str e0,I 0,I 0]] (.bool (wq s)):=by
 obtain ⟨k,v,l,f,n,m⟩:=s
 refine qO (rs:=[.tmp 4]) mixed Tryz.func151 Mb rfl rfl rfl (r:=[.bool _]) (nlZ rfl) ?_
 simp only [wq]
 have h1:=sU v e0
 have h2:=sU f e0
 have h3:=Eo l
 generalize sC v e0=a at *
 generalize sC f e0=b at *
 generalize (l.length==0)=z at *
 by_cases hk:k=0
 ·by_cases hn:n=0
  ·by_cases hm:m=0
   ·subst hk;subst hn;subst hm
    cases a <;> cases b <;> repeat' ((conv=>whnf);first|exact trivial|refine nb_ _ h1 ?_|refine nb_ _ h2 ?_|refine rE _ (h3) ?_|refine nT_ ?_|refine aE1 ?_|refine rb0 ?_|refine rbx ?_|refine aS ?_|fail)
   ·have e:(m==0)=false:=beq_false_of_ne hm
    rw [e,hk,hn]
    cases a <;> cases b <;> repeat' ((conv=>whnf);first|exact trivial|refine nb_ _ h1 ?_|refine nb_ _ h2 ?_|refine nT_ ?_|refine aE1 ?_|refine aE0 ?_|refine rb0 ?_|refine aS ?_|fail)
  ·have e:(n==0)=false:=beq_false_of_ne hn
   rw [e,hk]
   cases a <;> cases b <;> repeat' ((conv=>whnf);first|exact trivial|refine nb_ _ h1 ?_|refine nb_ _ h2 ?_|refine nT_ ?_|refine aE1 ?_|refine aE0 ?_|refine rb0 ?_|refine aS ?_|fail)
 ·have e:(k==0)=false:=beq_false_of_ne hk
  rw [e]
  repeat' ((conv=>whnf);first|exact trivial|refine nT_ ?_|refine aE0 ?_|refine rb0 ?_|refine aS ?_|fail)
def yY (k:Int) (br e nd:Bool) (n m:Int):Bool:=
 if k=1 then br&&(e||nd)
 else if k=2 then br&&e
 else if k=3 then vh n&&(m==0)&&e
 else if k=4 then nd&&um n&&um m&&decide (n≤m)
 else if k=5 then br&&nd
 else if k=6 then e&&decide (n≥1)&&um n&&decide (m≥1)&&vh m
 else false
def okS (s:RS):Bool:=wq s||(wD s.var&&decide (1≤s.key.length)&&decide (s.key.length≤4)&&s.key.all tJ&&yY s.kind ((s.n==0)&&(s.m==0)) (sC s.field e0) (tJ s.field) s.n s.m)
def ti (s:RS):Int:=if okS s then 0 else 1
theorem Es (s:RS) (hv:s.var.size<2^62) (hf:s.field.size<2^62) (hk: ∀k∈s.key,k.size<2^62) (hl:s.key.length<2^60):DCalls Tryz.prog 123 [.agg (sZ s)] (.bool (okS s)):=by
 refine qO (rs:=[.tmp 2]) mixed Tryz.func123 LN rfl rfl rfl (r:=[.bool _]) (nlZ rfl) ?_
 have h0:=EW s
 unfold okS
 generalize wq s=z0 at *
 obtain ⟨k,v,l,f,n,m⟩:=s
 dsimp only at hv hf hk hl ⊢
 cases z0 with
 |true=>repeat' ((conv=>whnf);first|exact trivial|refine rE _ (h0) ?_|refine rb1 ?_|refine aS ?_|fail)
 |false=>
 rw [Bool.false_or]
 have h1:=A4 v hv
 have h2:=zD l 141 l.length tJ hl fun i h=>xG l[i] (hk _ (List.getElem_mem h))
 rw [show ((l.length:Int)==(l.length:Int))=true by simp,Bool.true_and] at h2
 have h3:=xG f hf
 have hE:=sU f e0
 have hvn:=xo n
 have hvm:=xo m
 have htn:=zj n
 have htm:=zj m
 have hlen:((l.map T.str).length:Int)=(l.length:Int):=by rw [List.length_map]
 generalize wD v=pv at *
 generalize l.all tJ=al at *
 generalize tJ f=nd at *
 generalize sC f e0=e at *
 repeat' ((conv=>whnf);first|refine rE _ (h0) ?_|refine aS ?_|fail)
 refine rA (β:=Unit) (fun _=>{sl:=[(1,.ptr 1 0),(31,.t (.bool (!(pv&&decide (1≤l.length)&&decide (l.length≤4)&&al))))],bx:=[(1,.d 6 (sZ ⟨k,v,l,f,n,m⟩))]}) (fun _=>True) ?_ ?_
 ·have h2':DCalls Tryz.prog 153 [.slice 1 (l.map .str),I ((l.map T.str).length:Int),.clos 141 []] (.bool al):=by rw [hlen];exact h2
  by_cases c0:l.length=0
  ·have e0':((l.map T.str).length:Int)=0:=by omega
   rw [decide_eq_false (show ¬1≤l.length by omega),Bool.and_false,Bool.false_and,Bool.false_and]
   cases pv <;> repeat' ((conv=>whnf);first|refine rE _ (h1) ?_|refine qx e0' ?_|(exact ⟨(),trivial,by (repeat' (first|exact trivial|exact LeV.same _|exact LeB.same _|exact rfl|exact fun _ _ _=>trivial|refine And.intro ?_ ?_));done⟩)|refine nT_ ?_|refine aS ?_|fail)
  ·have e0':((l.map T.str).length:Int)≠0:=by omega
   rw [decide_eq_true (show 1≤l.length by omega),Bool.and_true]
   by_cases c4:l.length≤4
   ·have e4: ¬((l.map T.str).length:Int)>4:=by omega
    rw [decide_eq_true c4,Bool.and_true]
    cases pv <;> cases al <;> repeat' ((conv=>whnf);first|refine rE _ (h1) ?_|refine qw e0' ?_|refine qu e4 ?_|refine rE _ (h2') ?_|(exact ⟨(),trivial,by (repeat' (first|exact trivial|exact LeV.same _|exact LeB.same _|exact rfl|exact fun _ _ _=>trivial|refine And.intro ?_ ?_));done⟩)|refine nT_ ?_|refine aS ?_|fail)
   ·have e4:((l.map T.str).length:Int)>4:=by omega
    rw [decide_eq_false c4,Bool.and_false,Bool.false_and]
    cases pv <;> repeat' ((conv=>whnf);first|refine rE _ (h1) ?_|refine qw e0' ?_|refine qv e4 ?_|(exact ⟨(),trivial,by (repeat' (first|exact trivial|exact LeV.same _|exact LeB.same _|exact rfl|exact fun _ _ _=>trivial|refine And.intro ?_ ?_));done⟩)|refine nT_ ?_|refine aS ?_|fail)
 rintro _ _
 generalize (pv&&decide (1≤l.length)&&decide (l.length≤4)&&al)=g at *
 cases g with
 |false=>repeat' ((conv=>whnf);first|exact trivial|refine rb0 ?_|fail)
 |true=>
 rw [Bool.true_and]
 skip
 refine rA (β:=Unit) (fun _=>{sl:=[(1,.ptr 1 0),(3,.t (.bool ((n==0)&&(m==0))))],bx:=[(1,.d 6 (sZ ⟨k,v,l,f,n,m⟩))]}) (fun _=>True) ?_ ?_
 ·by_cases hn:n=0
  ·by_cases hm:m=0
   ·rw [show ((n==0)&&(m==0))=true by simp [hn,hm]]
    repeat' ((conv=>whnf);first|refine qx hn ?_|refine qx hm ?_|(exact ⟨(),trivial,by (repeat' (first|exact trivial|exact LeV.same _|exact LeB.same _|exact rfl|exact fun _ _ _=>trivial|refine And.intro ?_ ?_));done⟩)|refine nT_ ?_|refine aS ?_|fail)
   ·rw [show ((n==0)&&(m==0))=false by simp [hm]]
    repeat' ((conv=>whnf);first|refine qx hn ?_|refine qw hm ?_|(exact ⟨(),trivial,by (repeat' (first|exact trivial|exact LeV.same _|exact LeB.same _|exact rfl|exact fun _ _ _=>trivial|refine And.intro ?_ ?_));done⟩)|refine nT_ ?_|refine aS ?_|fail)
  ·rw [show ((n==0)&&(m==0))=false by simp [hn]]
   repeat' ((conv=>whnf);first|refine qw hn ?_|(exact ⟨(),trivial,by (repeat' (first|exact trivial|exact LeV.same _|exact LeB.same _|exact rfl|exact fun _ _ _=>trivial|refine And.intro ?_ ?_));done⟩)|refine nT_ ?_|refine aS ?_|fail)
 rintro _ _
 unfold yY
 generalize ((n==0)&&(m==0))=br at *
 generalize um n=vn at *
 generalize um m=vm at *
 generalize vh n=tn at *
 generalize vh m=tm at *
 by_cases k1:k=1
 ·subst k1
  rw [if_pos rfl]
  cases br <;> cases e <;> repeat' ((conv=>whnf);first|exact trivial|refine nb_ _ hE ?_|refine rE _ (h3) ?_|refine nT_ ?_|refine aE1 ?_|refine rb1 ?_|refine rb0 ?_|refine rbx ?_|refine aS ?_|fail)
 rw [if_neg k1]
 by_cases k2:k=2
 ·subst k2
  rw [if_pos rfl]
  cases br <;> repeat' ((conv=>whnf);first|exact trivial|refine nb_ _ hE ?_|refine nT_ ?_|refine aE1 ?_|refine aE0 ?_|refine rb0 ?_|refine rbx ?_|refine aS ?_|fail)
 rw [if_neg k2]
 by_cases k3:k=3
 ·subst k3
  rw [if_pos rfl]
  by_cases hm:m=0
  ·rw [show (m==0)=true by simp [hm]]
   cases tn <;> repeat' ((conv=>whnf);first|exact trivial|refine nb_ _ hE ?_|refine rE _ (htn) ?_|refine qx hm ?_|refine nT_ ?_|refine aE1 ?_|refine aE0 ?_|refine rb0 ?_|refine rbx ?_|refine aS ?_|fail)
  ·rw [show (m==0)=false by simp [hm]]
   cases tn <;> repeat' ((conv=>whnf);first|exact trivial|refine rE _ (htn) ?_|refine qw hm ?_|refine nT_ ?_|refine aE1 ?_|refine aE0 ?_|refine rb0 ?_|refine aS ?_|fail)
 rw [if_neg k3]
 by_cases k4:k=4
 ·subst k4
  rw [if_pos rfl]
  cases nd <;> cases vn <;> cases vm <;> repeat' ((conv=>whnf);first|exact trivial|refine rE _ (h3) ?_|refine rE _ (hvn) ?_|refine rE _ (hvm) ?_|refine nT_ ?_|refine aE1 ?_|refine aE0 ?_|refine nD_ (fun hq=>?_) (fun hq=>?_)|refine rb1 ?_|refine rb0 ?_|refine aS ?_|fail)
 rw [if_neg k4]
 by_cases k5:k=5
 ·subst k5
  rw [if_pos rfl]
  cases br <;> repeat' ((conv=>whnf);first|exact trivial|refine rE _ (h3) ?_|refine nT_ ?_|refine aE1 ?_|refine aE0 ?_|refine rb0 ?_|refine rbx ?_|refine aS ?_|fail)
 rw [if_neg k5]
 by_cases k6:k=6
 ·subst k6
  rw [if_pos rfl]
  cases e <;> cases vn <;> repeat' ((conv=>whnf);first|exact trivial|refine nb_ _ hE ?_|refine rE _ (hvn) ?_|refine rE _ (htm) ?_|refine nT_ ?_|refine aE1 ?_|refine aE0 ?_|refine nD_ (fun hq=>?_) (fun hq=>?_)|refine rb0 ?_|refine rbx ?_|refine aS ?_|fail)
 rw [if_neg k6]
 repeat' ((conv=>whnf);first|exact trivial|refine nT_ ?_|refine aE0 ?_|refine rb0 ?_|refine aS ?_|fail)
theorem yG (s:RS) (h:SmS (2^60) s):DCalls Tryz.prog 79 [.agg (sZ s)] (I (ti s)):=by
 refine qO (rs:=[.tmp 2]) mixed Tryz.func79 l79 rfl rfl rfl (r:=[.int _ _]) (nlZ rfl) ?_
 have h1:=Es s (by have:=h.var;omega) (by have:=h.field;omega) (fun k hk=>by have:=h.keys k hk;omega) h.len
 unfold ti
 generalize okS s=b at *
 cases b <;> repeat' ((conv=>whnf);first|exact trivial|refine rE _ (h1) ?_|refine rix ?_|(refine And.intro (by first|(rfl;done)|fail) ?_)|fail)
def fz2 {α:Type} (f g:α→Int) (xs:List α):Int:=sY (xs.flatMap fun x=>[f x,g x])
theorem Ca {α:Type} {f g:α→Int}: ∀{xs:List α} {i:Nat} (h:i<xs.length),(∀ j (h:j<xs.length),j<i→f xs[j]=0∧g xs[j]=0)→f xs[i]≠0→fz2 f g xs=f xs[i]
 |x::xs,0,h,_,h0=>by simp at h0;simp [fz2,sY,h0]
 |x::xs,i+1,h,hz,h0=>by
  have h1:=hz 0 (by simp) (by omega)
  simp only [List.getElem_cons_zero] at h1
  have:=Ca (f:=f) (g:=g) (xs:=xs) (i:=i) (by simpa using h) (fun j hj hlt=>hz (j+1) (by simpa using hj) (by omega)) h0
  unfold fz2 at this ⊢
  simp only [List.flatMap_cons,List.cons_append,List.nil_append,sY,h1.1,h1.2,ne_eq,not_true_eq_false,if_false,List.getElem_cons_succ]
  exact this
theorem Cb {α:Type} {f g:α→Int}: ∀{xs:List α} {i:Nat} (h:i<xs.length),(∀ j (h:j<xs.length),j<i→f xs[j]=0∧g xs[j]=0)→f xs[i]=0→g xs[i]≠0→fz2 f g xs=g xs[i]
 |x::xs,0,h,_,hf,h0=>by simp at h0 hf;simp [fz2,sY,h0,hf]
 |x::xs,i+1,h,hz,hf,h0=>by
  have h1:=hz 0 (by simp) (by omega)
  simp only [List.getElem_cons_zero] at h1
  have:=Cb (f:=f) (g:=g) (xs:=xs) (i:=i) (by simpa using h) (fun j hj hlt=>hz (j+1) (by simpa using hj) (by omega)) hf h0
  unfold fz2 at this ⊢
  simp only [List.flatMap_cons,List.cons_append,List.nil_append,sY,h1.1,h1.2,ne_eq,not_true_eq_false,if_false,List.getElem_cons_succ]
  exact this
theorem zY {α:Type} {f g:α→Int}: ∀{xs:List α},(∀ j (h:j<xs.length),f xs[j]=0∧g xs[j]=0)→fz2 f g xs=0
 |[],_=>rfl
 |x::xs,hz=>by
  have h1:=hz 0 (by simp)
  simp only [List.getElem_cons_zero] at h1
  have:=zY (f:=f) (g:=g) (xs:=xs) fun j hj=>hz (j+1) (by simpa using hj)
  unfold fz2 at this ⊢
  simp only [List.flatMap_cons,List.cons_append,List.nil_append,sY,h1.1,h1.2,ne_eq,not_true_eq_false,if_false]
  exact this
def uN (gs:List RG):Int:=if gs.length>8 then 2 else fz2 (fun g=>tX g.pol) (fun g=>ti g.st) gs
abbrev z15:List T:=[I 0,I 0,.str ⟨#[]⟩,I 0,I 0,.nil,.str ⟨#[]⟩,I 0,.nil,I 0,.str ⟨#[]⟩,.nil,.str ⟨#[]⟩,I 0,I 0]
theorem ug (g:RG):((aN z15 0 15 (sD g)).drop 0).take 9=sA g.pol:=by
 rw [mU (n:=15) rfl,List.drop_zero]
 unfold sD
 rw [← sF g.pol,List.take_left]
theorem wF (g:RG):((aN z15 0 15 (sD g)).drop 9).take 6=sZ g.st:=by
 rw [mU (n:=15) rfl]
 unfold sD
 have e:(sA g.pol++sZ g.st).drop 9=sZ g.st:=by
  rw [← sF g.pol,List.drop_left]
 rw [e];rfl
theorem zB (gs:List RG) (hl:gs.length<2^60) (hg: ∀g∈gs,SmG (2^59) g):DCalls Tryz.prog 95 [.slice 15 (gs.map sE)] (I (uN gs)):=by
 refine qO (rs:=[.tmp 2]) mixed Tryz.func95 l95 rfl rfl rfl (r:=[.int _ _]) (nlZ rfl) ?_
 have hlen:((gs.map sE).length:Int)=(gs.length:Int):=by rw [List.length_map]
 unfold uN
 by_cases h8:gs.length>8
 ·rw [if_pos h8]
  have e8:((gs.map sE).length:Int)>8:=by omega
  repeat' ((conv=>whnf);first|exact trivial|refine qv e8 ?_|refine rix ?_|refine aS ?_|fail)
 rw [if_neg h8]
 have e8: ¬((gs.map sE).length:Int)>8:=by omega
 repeat' ((conv=>whnf);first|refine qu e8 ?_|refine aS ?_|fail)
 refine rq (α:=Nat) (fun i=>{sl:=[(10,.t (.slice 15 (gs.map sE))),(11,.t (I gs.length)),(12,.t (I i))],bx:=[]})
  (fun i=>i≤gs.length∧ ∀j (h:j<gs.length),j<i→tX gs[j].pol=0∧ti gs[j].st=0) (fun i=>gs.length - i) 0 (by simp) ?_ ?_
 ·repeat' (first|(exact leI (by simp))|exact trivial|exact LeV.same _|exact rfl|exact fun _ _ _=>trivial|refine And.intro ?_ ?_)
 rintro i ⟨hi,hp⟩
 rcases Nat.lt_or_ge i gs.length with h|h
 ·have hm:=hg gs[i] (List.getElem_mem h)
  have h1:=xJ gs[i].pol (by have:=hm.wt;omega) (hm.names (by omega))
  have h2:=yG gs[i].st (hm.st.mono (by omega))
  have e0:gs[i]? =some gs[i]:=ggZ h
  by_cases c1:tX gs[i].pol=0
  ·rw [c1] at h1
   by_cases c2:ti gs[i].st=0
   ·rw [c2] at h2
    repeat' ((conv=>whnf);first|(refine nv_ (.agg (sD gs[i])) (by first|((simp [h];rfl);done)|fail) ?_)|(refine nv_ (.agg (sA gs[i].pol)) (by first|(exact congrArg T.agg (ug gs[i]);done)|fail) ?_)|(refine nv_ (.agg (sZ gs[i].st)) (by first|(exact congrArg T.agg (wF gs[i]);done)|fail) ?_)|refine rE _ (h1) ?_|refine rE _ (h2) ?_|refine aN0 ?_|refine aD1 ?_|(refine And.intro (by first|exact ⟨sK _,nlZ rfl⟩|exact sK _|fail) ?_)|refine aS ?_|fail)
    refine ⟨i+1,⟨h,fun j hj hlt=>?_⟩,by omega,?_⟩
    ·rcases Nat.lt_or_ge j i with h4|h4
     ·exact hp j hj h4
     ·obtain rfl:j=i:=by omega
      exact ⟨c1,c2⟩
    ·repeat' (first|exact trivial|exact LeV.same _|exact rfl|exact fun _ _ _=>trivial|exact lI|refine And.intro ?_ ?_)
   ·have e:=Cb (f:=fun g:RG=>tX g.pol) (g:=fun g=>ti g.st) h hp c1 c2
    rw [e]
    generalize ti gs[i].st=x at *
    repeat' ((conv=>whnf);first|exact trivial|(refine nv_ (.agg (sD gs[i])) (by first|((simp [h];rfl);done)|fail) ?_)|(refine nv_ (.agg (sA gs[i].pol)) (by first|(exact congrArg T.agg (ug gs[i]);done)|fail) ?_)|(refine nv_ (.agg (sZ gs[i].st)) (by first|(exact congrArg T.agg (wF gs[i]);done)|fail) ?_)|refine rE _ (h1) ?_|refine rE _ (h2) ?_|refine aN1 ?_|refine aN0 ?_|refine aD1 ?_|refine rix ?_|(refine And.intro (by first|exact ⟨sK _,nlZ rfl⟩|exact sK _|fail) ?_)|refine aS ?_|fail)
  ·have e:=Ca (f:=fun g:RG=>tX g.pol) (g:=fun g=>ti g.st) h hp c1
   rw [e]
   generalize tX gs[i].pol=x at *
   repeat' ((conv=>whnf);first|exact trivial|(refine nv_ (.agg (sD gs[i])) (by first|((simp [h];rfl);done)|fail) ?_)|(refine nv_ (.agg (sA gs[i].pol)) (by first|(exact congrArg T.agg (ug gs[i]);done)|fail) ?_)|refine rE _ (h1) ?_|refine aN1 ?_|refine aD1 ?_|refine rix ?_|(refine And.intro (by first|exact ⟨sK _,nlZ rfl⟩|exact sK _|fail) ?_)|refine aS ?_|fail)
 ·rw [zY fun j hj=>hp j hj (by omega)]
  repeat' ((conv=>whnf);first|exact trivial|refine aD0 ?_|refine rix ?_|refine aS ?_|fail)
end Go.TY
end
section
namespace Go.TY
open Go Go.DL Go.MM Go.Proofs
def tQ (l:List Fd) (s:ByteArray):Bool:=(findF l s).isSome
theorem BO (l:List Fd) (hl:LOk l) (s:ByteArray):DCalls Tryz.prog 80 [.str s,.cptr [fds l] 0] (.bool (tQ l s)):=by
 refine qO (rs:=[.tmp 3]) mixed Tryz.func80 l80 rfl rfl rfl (r:=[.bool _]) (nlZ rfl) ?_
 have h74:=t74 l s hl.len
 unfold xv at h74
 unfold tQ
 cases hF:findF l s with
 |none=>
  rw [hF] at h74
  dsimp only at h74
  repeat' ((conv=>whnf);first|exact trivial|refine rE _ (h74) ?_|refine nT_ ?_|refine rb0 ?_|refine aS ?_|fail)
 |some F=>
  rw [hF] at h74
  dsimp only at h74
  repeat' ((conv=>whnf);first|exact trivial|refine rE _ (h74) ?_|refine nT_ ?_|refine rb1 ?_|refine aS ?_|fail)
theorem H9 (xs:List ByteArray) (f:FuncId) (c:T) (p:ByteArray→Bool) (hl:xs.length<2^60) (hc: ∀x∈xs,DCalls Tryz.prog f [.str x,c] (.bool (p x))):
  DCalls Tryz.prog 81 [.slice 1 (xs.map .str),.clos f [c]] (.bool (xs.all p)):=by
 refine qO (rs:=[.tmp 4]) mixed Tryz.func81 l81 rfl rfl rfl (r:=[.bool _]) (nlZ rfl) ?_
 have h1: ∀(i:Nat) (h:i<xs.length),DCalls Tryz.prog 125 [.str xs[i],.cptr [.clos f [c]] 0] (.bool (!p xs[i])):=fun i h=>by
  refine qO (rs:=[.tmp 3]) mixed Tryz.func125 LP rfl rfl rfl (r:=[.bool _]) (nlZ rfl) ?_
  have h2:=hc xs[i] (List.getElem_mem h)
  repeat' ((conv=>whnf);first|exact trivial|refine rE _ (h2) ?_|refine nT_ ?_|refine rbx ?_|refine aS ?_|fail)
 have h2:=x4 xs 125 (.cptr [.clos f [c]] 0) (fun x=> !p x) hl h1
 have e:xs.all p= !(xs.any fun x=> !p x):=by rw [List.all_eq_not_any_not]
 rw [e]
 generalize (xs.any fun x=> !p x)=b at *
 repeat' ((conv=>whnf);first|exact trivial|refine rE _ (h2) ?_|refine rbx ?_|refine aS ?_|fail)
theorem Gt (xs:List ByteArray) (s:ByteArray) (hl:xs.length<2^60):DCalls Tryz.prog 126 [.slice 1 (xs.map .str),.str s] (I (va (fun x=>sC s x) xs)):=by
 refine qO (rs:=[.tmp 4]) mixed Tryz.func126 LQ rfl rfl rfl (r:=[.int _ _]) (nlZ rfl) ?_
 skip
 refine rq (α:=Nat) (fun i=>{sl:=[(0,.t (.slice 1 (xs.map .str))),(1,.t (.str s)),(6,.t (.slice 1 (xs.map .str))),(7,.t (I xs.length)),(8,.t (I i))],bx:=[]})
  (fun i=>i≤xs.length∧ ∀j (h:j<xs.length),j<i→(fun x=>sC s x) xs[j]=false) (fun i=>xs.length - i) 0 (by simp) ?_ ?_
 ·repeat' (first|(exact leI (by simp))|exact trivial|exact LeV.same _|exact rfl|exact fun _ _ _=>trivial|refine And.intro ?_ ?_)
 rintro i ⟨hi,hp⟩
 rcases Nat.lt_or_ge i xs.length with h|h
 ·have hE:=sU s xs[i]
  cases hb:sC s xs[i] with
  |true=>
   rw [hb] at hE
   rw [ye (p:=fun x=>sC s x) h hb hp]
   repeat' ((conv=>whnf);first|exact trivial|(refine nv_ (.str xs[i]) (by first|(simp [h];done)|fail) ?_)|refine nb_ _ hE ?_|refine nT_ ?_|refine aD1 ?_|refine rix ?_|refine aS ?_|fail)
  |false=>
   rw [hb] at hE
   repeat' ((conv=>whnf);first|(refine nv_ (.str xs[i]) (by first|(simp [h];done)|fail) ?_)|refine nb_ _ hE ?_|refine nT_ ?_|refine aD1 ?_|refine aS ?_|fail)
   refine ⟨i+1,⟨h,fun j hj hlt=>?_⟩,by omega,?_⟩
   ·rcases Nat.lt_or_ge j i with h4|h4
    ·exact hp j hj h4
    ·obtain rfl:j=i:=by omega
     exact hb
   ·repeat' (first|exact trivial|exact LeV.same _|exact rfl|exact fun _ _ _=>trivial|exact lI|refine And.intro ?_ ?_)
 ·rw [yg (p:=fun x=>sC s x) fun j hj=>hp j hj (by omega)]
  repeat' ((conv=>whnf);first|exact trivial|refine aD0 ?_|refine rix ?_|refine aS ?_|fail)
theorem CZ (xs:List ByteArray) (s:ByteArray) (hl:xs.length<2^60):DCalls Tryz.prog 82 [.slice 1 (xs.map .str),.str s] (.bool (xs.any fun x=>sC s x)):=by
 refine qO (rs:=[.tmp 4]) mixed Tryz.func82 l82 rfl rfl rfl (r:=[.bool _]) (nlZ rfl) ?_
 have h1:=Gt xs s hl
 rw [xy (fun x=>sC s x) xs]
 generalize va (fun x=>sC s x) xs=k at *
 repeat' ((conv=>whnf);first|exact trivial|refine rE _ (h1) ?_|refine nD_ (fun hq=>?_) (fun hq=>?_)|refine rb1 ?_|refine rb0 ?_|refine aS ?_|fail)
def yU (ks:List ByteArray) (i:Nat):Bool:=(ks.take i).any fun x=>sC (ks.getD i e0) x
def B0 (ks:List ByteArray):Bool:=(List.range ks.length).any (yU ks)
def EI (l:List Fd) (k:Int) (f:ByteArray) (m:Int):Int:=match findF l f with
 |none=>0
 |some F=>if k=4∧m>((2^F.w - 1:Nat):Int) then 1 else 0
def tK (l:List Fd) (s:RS):Int:=
 if ti s≠0 then ti s
 else if s.kind=0 then 0
 else if (!sC s.field e0&& !tQ l s.field)|| !s.key.all (tQ l) then 4
 else if B0 s.key then 1
 else EI l s.kind s.field s.m
theorem Ey {s:RS} (h:ti s=0) (hk:s.kind=4):sC s.field e0=false:=by
 unfold ti at h
 have h1:okS s=true:=by
  cases e:okS s with
  |true=>rfl
  |false=>rw [e] at h;simp at h
 unfold okS at h1
 have h2:wq s=false:=by unfold wq;rw [hk];rfl
 rw [h2,Bool.false_or] at h1
 simp only [Bool.and_eq_true] at h1
 have h3:=h1.2
 unfold yY at h3
 rw [hk] at h3
 simp only [show ¬((4:Int)=1) by omega,show ¬((4:Int)=2) by omega,show ¬((4:Int)=3) by omega,if_false,if_true,Bool.and_eq_true] at h3
 exact EK h3.1.1.1
theorem Em (l:List Fd) (hl:LOk l) (s:RS) (h:SmS (2^59) s):DCalls Tryz.prog 19 [fds l,.agg (sZ s)] (I (tK l s)):=by
 refine qO (rs:=[.tmp 4]) mixed Tryz.func19 l19 rfl rfl rfl (r:=[.int _ _]) (nlZ rfl) ?_
 have h1:=yG s (h.mono (by omega))
 have h4f:=fun h hk=>@Ey s h hk
 have hkl:=h.len
 unfold tK
 by_cases c0:ti s=0
 case neg=>
  rw [if_pos c0]
  generalize ti s=e at *
  obtain ⟨k,v,ks,f,n,m⟩:=s
  repeat' ((conv=>whnf);first|exact trivial|refine rE _ (h1) ?_|refine aN1 ?_|refine rix ?_|refine aS ?_|fail)
 rw [c0] at h1
 have h4f:=h4f c0
 rw [if_neg (by simpa using c0)]
 clear c0
 obtain ⟨k,v,ks,f,n,m⟩:=s
 dsimp only at hkl h4f ⊢
 by_cases k0:k=0
 ·rw [if_pos k0]
  repeat' ((conv=>whnf);first|exact trivial|refine rE _ (h1) ?_|refine qx k0 ?_|refine nT_ ?_|refine aN0 ?_|refine rix ?_|refine aS ?_|fail)
 rw [if_neg k0]
 have hf:=BO l hl f
 have hks:=H9 ks 80 (.cptr [fds l] 0) (tQ l) (by omega) fun x _=>BO l hl x
 have hE:=sU f e0
 generalize ks.all (tQ l)=al at *
 repeat' ((conv=>whnf);first|refine rE _ (h1) ?_|refine qw k0 ?_|refine nT_ ?_|refine aN0 ?_|refine aS ?_|fail)
 refine rA (β:=Unit) (fun _=>{sl:=[(2,.ptr 2 0),(3,.ptr 3 0),(38,.t (.bool ((!sC f e0&& !tQ l f)|| !al)))],bx:=[(2,.d 1 [fds l]),(3,.d 6 (sZ ⟨k,v,ks,f,n,m⟩))]}) (fun _=>True) ?_ ?_
 ·generalize tQ l f=fb at *
  generalize sC f e0=b at *
  have hN:(!(f.toList==e0.toList))= !b:=by rw [hE]
  cases b <;> cases fb <;> cases al <;> repeat' ((conv=>whnf);first|refine nb_ _ hN ?_|refine rE _ (hf) ?_|refine rE _ (hks) ?_|(exact ⟨(),trivial,by (repeat' (first|exact trivial|exact LeV.same _|exact LeB.same _|exact rfl|exact fun _ _ _=>trivial|refine And.intro ?_ ?_));done⟩)|refine nT_ ?_|refine aS ?_|fail)
 rintro _ _
 have hgood:((!sC f e0&& !tQ l f)|| !al)=false→k=4→tQ l f=true:=fun hb k4=>by
  rw [h4f k4] at hb
  cases hfb:tQ l f with
  |true=>rfl
  |false=>rw [hfb] at hb;simp at hb
 generalize ((!sC f e0&& !tQ l f)|| !al)=bad at *
 cases bad with
 |true=>repeat' ((conv=>whnf);first|exact trivial|refine rix ?_|fail)
 |false=>
 repeat' ((conv=>whnf);first|refine nT_ ?_|refine aS ?_|fail)
 refine qZ 0 (α:=Nat) (β:=Unit) (fun i=>{sl:=[(2,.ptr 2 0),(3,.ptr 3 0),(40,.t (.slice 1 (ks.map .str))),(41,.t (I ks.length)),(42,.t (I i))],bx:=[(2,.d 1 [fds l]),(3,.d 6 (sZ ⟨k,v,ks,f,n,m⟩))]})
  (fun i=>i≤ks.length∧ ∀j,j<i→yU ks j=false) (fun i=>ks.length - i)
  (fun _=>{sl:=[(2,.ptr 2 0),(3,.ptr 3 0)],bx:=[(2,.d 1 [fds l]),(3,.d 6 (sZ ⟨k,v,ks,f,n,m⟩))]}) (fun _=>B0 ks=false) 0 (by simp) ?_ ?_ ?_
 ·repeat' (first|(exact leI (by simp))|exact trivial|exact LeV.same _|exact LeB.same _|exact rfl|exact fun _ _ _=>trivial|refine And.intro ?_ ?_)
 ·rintro i ⟨hi,hp⟩
  rcases Nat.lt_or_ge i ks.length with h|h
  ·have hc:=CZ (ks.take i) ks[i] (by rw [List.length_take];omega)
   have hd:yU ks i=(ks.take i).any fun x=>sC ks[i] x:=by unfold yU;rw [List.getD_eq_getElem?_getD,ggZ h];rfl
   rw [← hd] at hc
   cases hb:yU ks i with
   |true=>
    rw [hb] at hc
    have e:B0 ks=true:=List.any_eq_true.2 ⟨i,List.mem_range.2 h,hb⟩
    rw [e]
    repeat' ((conv=>whnf);first|exact trivial|(refine nv_ (.str ks[i]) (by first|(simp [h];done)|fail) ?_)|(refine nv_ (.slice 1 ((ks.take i).map .str)) (by first|(simp;done)|fail) ?_)|refine rE _ (hc) ?_|refine nT_ ?_|refine aD1 ?_|refine rix ?_|(refine And.intro (by first|((simp;omega);done)|fail) ?_)|refine aS ?_|fail)
   |false=>
    rw [hb] at hc
    repeat' ((conv=>whnf);first|(refine nv_ (.str ks[i]) (by first|(simp [h];done)|fail) ?_)|(refine nv_ (.slice 1 ((ks.take i).map .str)) (by first|(simp;done)|fail) ?_)|refine rE _ (hc) ?_|refine nT_ ?_|refine aD1 ?_|(refine And.intro (by first|((simp;omega);done)|fail) ?_)|refine aS ?_|fail)
    refine ⟨i+1,⟨h,fun j hj=>?_⟩,by omega,?_⟩
    ·rcases Nat.lt_or_ge j i with h4|h4
     ·exact hp j h4
     ·obtain rfl:j=i:=by omega
      exact hb
    ·repeat' (first|exact trivial|exact LeV.same _|exact LeB.same _|exact rfl|exact fun _ _ _=>trivial|exact lI|refine And.intro ?_ ?_)
  ·repeat' ((conv=>whnf);first|refine aD0 ?_|refine aS ?_|fail)
   refine ⟨(),?_,?_⟩
   ·unfold B0
    rw [List.any_eq_false]
    intro j hj
    rw [hp j (by have:=List.mem_range.1 hj;omega)];simp
   ·repeat' (first|exact trivial|exact LeV.same _|exact LeB.same _|exact rfl|exact fun _ _ _=>trivial|refine And.intro ?_ ?_)
 ·rintro _ hd
  rw [hd]
  simp only [Bool.false_eq_true,if_false]
  have h74:=t74 l f hl.len
  unfold xv at h74
  have hy:EI l k f m=match findF l f with
   |none=>0
   |some F=>if k=4∧m>((2^F.w - 1:Nat):Int) then 1 else 0:=rfl
  generalize EI l k f m=y at *
  cases hF:findF l f with
  |none=>
   rw [hF] at h74 hy
   dsimp only at h74 hy
   subst hy
   by_cases k4:k=4
   ·have:=hgood rfl k4
    unfold tQ at this
    rw [hF] at this;cases this
   ·repeat' ((conv=>whnf);first|exact trivial|refine rE _ (h74) ?_|refine qw k4 ?_|refine nT_ ?_|refine rix ?_|refine aS ?_|fail)
  |some F=>
   rw [hF] at h74 hy
   dsimp only at h74 hy
   have h97:=t97 F (hl.find hF)
   generalize (2^F.w - 1:Nat)=M at *
   by_cases k4:k=4
   ·by_cases hm:m>(M:Int)
    ·rw [if_pos ⟨k4,hm⟩] at hy
     subst hy
     repeat' ((conv=>whnf);first|exact trivial|refine rE _ (h74) ?_|refine qx k4 ?_|refine rE _ (h97) ?_|refine qv hm ?_|refine nT_ ?_|refine rix ?_|refine aS ?_|fail)
    ·rw [if_neg (fun h=>hm h.2)] at hy
     subst hy
     repeat' ((conv=>whnf);first|exact trivial|refine rE _ (h74) ?_|refine qx k4 ?_|refine rE _ (h97) ?_|refine qu hm ?_|refine nT_ ?_|refine rix ?_|refine aS ?_|fail)
   ·rw [if_neg (fun h=>k4 h.1)] at hy
    subst hy
    repeat' ((conv=>whnf);first|exact trivial|refine rE _ (h74) ?_|refine qw k4 ?_|refine nT_ ?_|refine rix ?_|refine aS ?_|fail)
end Go.TY
end
section
namespace Go.TY
open Go Go.DL Go.MM
abbrev wo:RP:=.mk 0 e0 0 0 []
def xH (k:Int) (x y:RO):RO:=.mk k wo e0 0 [x,y]
end Go.TY
end
section
namespace Go.TY
open Go Go.DL Go.MM Go.Proofs
theorem EL {k:Int} {p:RP} {f:ByteArray} {n:Int} (h:okO k p f n=true):k=1∨k=2∨k=3∨k=4∨k=5:=by
 unfold okO at h
 by_cases h1:k=1
 ·exact Or.inl h1
 rw [if_neg h1] at h
 by_cases h2:k=2
 ·exact Or.inr (Or.inl h2)
 rw [if_neg h2] at h
 by_cases h3:k=3∨k=4∨k=5
 ·exact Or.inr (Or.inr h3)
 ·rw [if_neg h3] at h;cases h
theorem H8 (N:Nat): ∀r:RO,r.wt≤N→tD r=true→DCalls Tryz.prog 30 [.agg (sA r)] (I (tY r)):=by
 induction N with
 |zero=>intro r h;obtain ⟨k,p,f,n,a⟩:=r;simp only [RO.wt] at h;omega
 |succ N ih=>
  rintro ⟨k,⟨pk,pf,pn,pm,pa⟩,f,n,l⟩ hr hf
  refine qO (rs:=[.tmp 2]) mixed Tryz.func30 l30 rfl rfl rfl (r:=[.int _ _]) (nlZ rfl) ?_
  simp only [RO.wt] at hr
  simp only [tD,Bool.and_eq_true] at hf
  obtain ⟨⟨f1,f2⟩,f3⟩:=hf
  have f2:l.length=zT k:=by simpa using f2
  have hc:=EL f1
  by_cases h3:k=3∨k=4
  ·have h2:l.length=2:=by rw [f2];unfold zT;rw [if_pos h3]
   obtain ⟨x,y,rfl⟩: ∃x y,l=[x,y]:=by
    match l,h2 with
    |[x,y],_=>exact ⟨x,y,rfl⟩
   simp only [vq,Bool.and_eq_true] at f3
   simp only [tk] at hr
   have hx:=ih x (by omega) f3.1
   have hy:=ih y (by omega) f3.2.1
   have hlx:=Ac x
   have hly:=Ac y
   have hm:=Nat.mul_le_mul hlx hly
   rw [tY]
   simp only [vQ,List.getD_cons_zero,List.getD_cons_succ]
   have hp:((tY x * tY y:Nat):Int)=(tY x:Int) * (tY y:Int):=Int.natCast_mul _ _
   generalize tY x * tY y=pr at *
   generalize tY x=cx at *
   generalize tY y=cy at *
   rcases h3 with rfl|rfl
   ·rw [if_pos rfl]
    repeat' ((conv=>whnf);first|exact trivial|(refine nv_ (.agg (sA x)) (by first|exact sN x|fail) ?_)|(refine nv_ (.agg (sA y)) (by first|exact sN y|fail) ?_)|refine rE _ (hx) ?_|refine rE _ (hy) ?_|refine nT_ ?_|refine aE1 ?_|refine rix ?_|(refine And.intro (by first|exact sF _|fail) ?_)|refine aS ?_|fail)
   ·rw [if_neg (by omega),if_pos rfl]
    repeat' ((conv=>whnf);first|exact trivial|(refine nv_ (.agg (sA x)) (by first|exact sN x|fail) ?_)|(refine nv_ (.agg (sA y)) (by first|exact sN y|fail) ?_)|refine rE _ (hx) ?_|refine rE _ (hy) ?_|refine nT_ ?_|refine aE1 ?_|refine aE0 ?_|refine rix ?_|(refine And.intro (by first|exact sF _|fail) ?_)|refine aS ?_|fail)
  by_cases h5:k=5
  ·subst h5
   have h2:l.length=1:=by rw [f2];rfl
   obtain ⟨x,rfl⟩: ∃x,l=[x]:=by
    match l,h2 with
    |[x],_=>exact ⟨x,rfl⟩
   simp only [vq,Bool.and_eq_true] at f3
   simp only [tk] at hr
   have hx:=ih x (by omega) f3.1
   rw [tY]
   simp only [vQ,List.getD_cons_zero,show ¬((5:Int)=3) by omega,show ¬((5:Int)=4) by omega,if_false,if_true]
   generalize tY x=cx at *
   by_cases h0:cx=0
   ·subst h0
    rw [if_pos rfl]
    repeat' ((conv=>whnf);first|exact trivial|(refine nv_ (.agg (sA x)) (by first|exact sN x|fail) ?_)|refine rE _ (hx) ?_|refine nT_ ?_|refine aE1 ?_|refine aE0 ?_|refine rix ?_|(refine And.intro (by first|exact sF _|fail) ?_)|refine aS ?_|fail)
   ·rw [if_neg h0]
    repeat' ((conv=>whnf);first|exact trivial|(refine nv_ (.agg (sA x)) (by first|exact sN x|fail) ?_)|refine rE _ (hx) ?_|refine nT_ ?_|refine aE1 ?_|refine aE0 ?_|refine rix ?_|(refine And.intro (by first|exact sF _|fail) ?_)|refine aS ?_|fail)
  rw [tY,if_neg (by omega),if_neg (by omega),if_neg h5]
  show wpC _ _ _ (nW _ _ [I ((if k=1∧pk=2 then 0 else 1:Nat):Int)])
  by_cases h1:k=1
  ·by_cases hp:pk=2
   ·rw [if_pos ⟨h1,hp⟩]
    repeat' ((conv=>whnf);first|exact trivial|refine qx h1 ?_|refine qx hp ?_|refine nT_ ?_|refine aE0 ?_|refine rix ?_|refine aS ?_|fail)
   ·rw [if_neg (fun h=>hp h.2)]
    repeat' ((conv=>whnf);first|exact trivial|refine qx h1 ?_|refine qw hp ?_|refine nT_ ?_|refine aE0 ?_|refine rix ?_|refine aS ?_|fail)
  ·rw [if_neg (fun h=>h1 h.1)]
   repeat' ((conv=>whnf);first|exact trivial|refine qw h1 ?_|refine nT_ ?_|refine aE0 ?_|refine rix ?_|refine aS ?_|fail)
theorem EP (a b:List Int) (hl:a.length<2^60):DCalls Tryz.prog 99 [.slice 1 (a.map I),.slice 1 (b.map I)] (.bool (a==b)):=by
 refine qO (rs:=[.tmp 4]) mixed Tryz.func99 l99 rfl rfl rfl (r:=[.bool _]) (nlZ rfl) ?_
 have ha:((a.map I).length:Int)=a.length:=by rw [List.length_map]
 have hb:((b.map I).length:Int)=b.length:=by rw [List.length_map]
 by_cases hab:a.length=b.length
 case neg=>
  have e:(a==b)=false:=beq_false_of_ne fun e=>hab (by rw [e])
  rw [e]
  have hn:((a.map I).length:Int)≠((b.map I).length:Int):=by omega
  repeat' ((conv=>whnf);first|exact trivial|refine qz hn ?_|refine rb0 ?_|refine aS ?_|fail)
 have hn:((a.map I).length:Int)=((b.map I).length:Int):=by omega
 repeat' ((conv=>whnf);first|refine qy hn ?_|refine aS ?_|fail)
 refine rq (α:=Nat) (fun i=>{sl:=[(0,.t (.slice 1 (a.map I))),(1,.t (.slice 1 (b.map I))),(11,.t (.slice 1 (a.map I))),(12,.t (I a.length)),(13,.t (I i))],bx:=[]})
  (fun i=>i≤a.length∧ ∀j (h:j<a.length) (h':j<b.length),j<i→a[j]=b[j]) (fun i=>a.length - i) 0 (by simp) ?_ ?_
 ·repeat' (first|(exact leI (by simp))|exact trivial|exact LeV.same _|exact rfl|exact fun _ _ _=>trivial|refine And.intro ?_ ?_)
 rintro i ⟨hi,hp⟩
 rcases Nat.lt_or_ge i a.length with h|h
 ·have h':i<b.length:=by omega
  by_cases he:a[i]=b[i]
  ·repeat' ((conv=>whnf);first|(refine nv_ (I a[i]) (by first|(simp [h];done)|fail) ?_)|(refine nv_ (I b[i]) (by first|(simp [h'];done)|fail) ?_)|refine qy he ?_|refine nT_ ?_|refine aD1 ?_|refine aS ?_|fail)
   refine ⟨i+1,⟨h,fun j hj hj' hlt=>?_⟩,by omega,?_⟩
   ·rcases Nat.lt_or_ge j i with h4|h4
    ·exact hp j hj hj' h4
    ·obtain rfl:j=i:=by omega
     exact he
   ·repeat' (first|exact trivial|exact LeV.same _|exact rfl|exact fun _ _ _=>trivial|exact lI|refine And.intro ?_ ?_)
  ·have e:(a==b)=false:=beq_false_of_ne fun e=>he (by subst e;rfl)
   rw [e]
   repeat' ((conv=>whnf);first|exact trivial|(refine nv_ (I a[i]) (by first|(simp [h];done)|fail) ?_)|(refine nv_ (I b[i]) (by first|(simp [h'];done)|fail) ?_)|refine qz he ?_|refine nT_ ?_|refine aD1 ?_|refine rb0 ?_|refine aS ?_|fail)
 ·have e:(a==b)=true:=by
   have:a=b:=List.ext_getElem hab fun j h1 h2=>hp j h1 h2 (by omega)
   simp [this]
  rw [e]
  repeat' ((conv=>whnf);first|exact trivial|refine aD0 ?_|refine rb1 ?_|refine aS ?_|fail)
def wJ (a b:RV):Bool:=sC a.name b.name&&(a.fam==b.fam)&&(a.n==b.n)&&(a.m==b.m)&&(a.ws==b.ws)
theorem vW {a b:RV}:wJ a b=true↔a=b:=by
 obtain ⟨a1,a2,a3,a4,a5⟩:=a
 obtain ⟨b1,b2,b3,b4,b5⟩:=b
 unfold wJ
 simp only [Bool.and_eq_true,tf,beq_iff_eq,RV.mk.injEq]
 exact ⟨fun h=>⟨h.1.1.1.1,h.1.1.1.2,h.2,h.1.1.2,h.1.2⟩,fun h=>⟨⟨⟨⟨h.1,h.2.1⟩,h.2.2.2.1⟩,h.2.2.2.2⟩,h.2.2.1⟩⟩
theorem ET (k:Int) (h:1≤k∧k≤6):DCalls Tryz.prog 137 [I k] (I (tq k)):=by
 refine qO (rs:=[.tmp 2]) mixed Tryz.func137 LV rfl rfl rfl (r:=[.int _ _]) (nlZ rfl) ?_
 obtain rfl|rfl|rfl|rfl|rfl|rfl:k=1∨k=2∨k=3∨k=4∨k=5∨k=6:=by omega
 all_goals repeat' ((conv=>whnf);first|exact trivial|refine nT_ ?_|refine rix ?_|refine aS ?_|fail)
end Go.TY
end
section
namespace Go.TY
open Go Go.DL Go.Proofs
section
variable {α:Type} {enc:α→T} {d:α}
def ud (enc:α→T) (d:α) (ks:List α) (xs:List T):Prop:= ∃js:List Nat,js.Perm (List.range ks.length)∧xs=js.map fun j=>enc (ks.getD j d)
abbrev zx (enc:α→T) (d:α) (ks:List α) (ix:List Nat):List T:=ix.map fun j=>enc (ks.getD j d)
abbrev esK (enc:α→T) (ks:List α) (vs:List T):List (T×T):=(ks.map enc).zip vs
theorem zr {ks:List α} {vs:List T} {j:Nat} {e:T×T} (h:(esK enc ks vs)[j]? =some e):e.1=enc (ks.getD j d)∧j<ks.length:=by
 rw [List.getElem?_zip_eq_some] at h
 obtain ⟨h1,_⟩:=h
 rw [List.getElem?_map,Option.map_eq_some_iff] at h1
 obtain ⟨k,hk,hk2⟩:=h1
 refine ⟨?_,(gsZ hk).1⟩
 rw [List.getD_eq_getElem?_getD,hk, ←hk2];rfl
theorem xE {ix:List Nat} {n:Nat} (hn:ix.Nodup) (hl: ∀j∈ix,j<n) (ha: ∀j,j<n→j∈ix):ix.Perm (List.range n):=
 (List.perm_ext_iff_of_nodup hn List.nodup_range).2 fun j=>⟨fun h=>List.mem_range.2 (hl j h),fun h=>ha j (List.mem_range.1 h)⟩
theorem yI (es:List (T×T)) (ix:List Nat) (j:Nat) (e:T×T) (h:es[j]? =some e):jY es (ix++[j])= .tup [e.1,e.2]:=by
 unfold jY
 rw [List.getLast?_concat]
 simp [h]
theorem uv {β:Type} {f:Nat→β} {n:Nat} {v:β} (h:f n=v):upd f n v=f:=by
 funext m
 by_cases e:m=n
 ·rw [e,ah,h]
 ·rw [ae _ _ _ _ e]
theorem uY {ks:List α} {xs:List T} (h:ud enc d ks xs): ∃zs:List α,zs.Perm ks∧xs=zs.map enc:=by
 obtain ⟨js,hp,rfl⟩:=h
 refine ⟨js.map fun j=>ks.getD j d,?_,by simp⟩
 have h1:((List.range ks.length).map fun j=>ks.getD j d)=ks:=by
  apply List.ext_getElem?
  intro i
  rw [List.getElem?_map]
  by_cases h:i<ks.length
  ·simp [h]
  ·simp [h]
 have:=hp.map (fun j=>ks.getD j d)
 rwa [h1] at this
theorem zU (hc: ∀a,(enc a).cells=[enc a]): ∀zs:List α,(zs.map enc).flatMap T.cells=zs.map enc
 |[]=>rfl
 |z::zs=>by rw [List.map_cons,List.flatMap_cons,hc,zU hc zs];rfl
theorem uW (hc: ∀a,(enc a).cells=[enc a]) (hf: ∀a,(enc a).flat=true) (js:List Nat) (ks:List α): ∀t∈(js.map fun j=>enc (ks.getD j d)).flatMap T.cells,t.flat=true:=fun t ht=>by
 simp only [List.mem_flatMap,List.mem_map] at ht
 obtain ⟨x,⟨j,_,rfl⟩,hx⟩:=ht
 rw [hc,List.mem_singleton] at hx
 rw [hx];exact hf _
end
theorem x7: ∀(l:List T) (n:Nat),l.length=n→chunk 1 n l=l
 |[],0,_=>rfl
 |x::l,n+1,h=>by
  show x::chunk 1 n l=x::l
  rw [x7 l n (by simpa using h)]
 |x::l,0,h=>by simp at h
 |[],n+1,h=>by simp at h
theorem u7 {cs vs:List T} {n:Nat} (h:cs.length=n):aN cs 0 n vs=vs:=by simp [aN, ←h]
abbrev wP (x:List UInt8):T:=.str ⟨x.toArray⟩
theorem Bz (s:ByteArray):wP s.toList= .str s:=by
 unfold wP
 congr 1
 rw [ByteArray.toList_eq]
def vg (ks:List ByteArray):List ByteArray:=tZ ltS ks
theorem yo {ks zs:List ByteArray} (hn:ks.Nodup) (hp:zs.Perm ks):((zs.map ByteArray.toList).mergeSort (fun x y=>decide (x≤y))).map wP=(vg ks).map T.str:=by
 have hpm:=List.mergeSort_perm (zs.map ByteArray.toList) (fun x y=>decide (x≤y))
 have hs:=List.pairwise_mergeSort (le:=fun x y:List UInt8=>decide (x≤y)) (fun a b c h1 h2=>by simp only [decide_eq_true_eq] at *;exact List.le_trans h1 h2) (fun a b=>by simp only [Bool.or_eq_true,decide_eq_true_eq];exact List.le_total a b) (zs.map ByteArray.toList)
 generalize (zs.map ByteArray.toList).mergeSort (fun x y=>decide (x≤y))=ys at *
 have e1: ∀y:List UInt8,(⟨y.toArray⟩:ByteArray).toList=y:=fun y=>by rw [ByteArray.toList_eq]
 have e2:ys.map wP=(ys.map fun y=>(⟨y.toArray⟩:ByteArray)).map T.str:=by rw [List.map_map];rfl
 rw [e2]
 congr 1
 have hpz:(ys.map fun y=>(⟨y.toArray⟩:ByteArray)).Perm zs:=by
  have:=hpm.map (fun y=>(⟨y.toArray⟩:ByteArray))
  rw [List.map_map] at this
  have e3:zs.map ((fun y=>(⟨y.toArray⟩:ByteArray)) ∘ ByteArray.toList)=zs:=by
   refine (List.map_congr_left fun z _=>?_).trans (List.map_id zs)
   show (⟨z.toList.toArray⟩:ByteArray)=z
   rw [ByteArray.toList_eq]
  rwa [e3] at this
 refine yF zu ((hpz.trans hp).nodup_iff.2 hn) ?_ fun x=>(hpz.trans hp).mem_iff
 rw [List.pairwise_map]
 refine hs.imp fun {x y} h=>?_
 unfold ltS
 rw [e1,e1,Go.Proofs.bytesLess_eq]
 simp only [decide_eq_true_eq] at h
 exact decide_eq_false (List.not_lt.2 h)
def yO (ks:List Int):List Int:=tZ ltI ks
theorem BL {ks zs:List Int} (hn:ks.Nodup) (hp:zs.Perm ks):(zs.mergeSort (fun x y=>decide (x≤y)))=yO ks:=by
 have hpm:=List.mergeSort_perm zs (fun x y=>decide (x≤y))
 have hs:=List.pairwise_mergeSort (le:=fun x y:Int=>decide (x≤y)) (fun a b c h1 h2=>by simp only [decide_eq_true_eq] at *;omega) (fun a b=>by simp only [Bool.or_eq_true,decide_eq_true_eq];omega) zs
 generalize zs.mergeSort (fun x y=>decide (x≤y))=ys at *
 refine yF EG ((hpm.trans hp).nodup_iff.2 hn) (hs.imp fun {x y} h=>?_) fun x=>(hpm.trans hp).mem_iff
 simp only [decide_eq_true_eq] at h
 exact decide_eq_false (by omega)
end Go.TY
end
section
namespace Go.TY
open Go Go.DL Go.MM
theorem C7 (a b:ByteArray):(a==b)=decide (a=b):=by
 obtain ⟨a⟩:=a
 obtain ⟨b⟩:=b
 by_cases h:a=b
 ·subst h
  rw [decide_eq_true rfl]
  show (a==a)=true
  simp
 ·rw [decide_eq_false (fun e=>h (ByteArray.mk.inj e))]
  show (a==b)=false
  exact beq_false_of_ne h
def esS (ks:List ByteArray):List (T×T):=ks.map fun s=>(T.str s,T.bool true)
def esI (ks:List Int):List (T×T):=ks.map fun s=>(T.int .i64 s,T.bool true)
theorem Ar (s:ByteArray): ∀ks:List ByteArray,bK (.str s) (.bool true) (esS ks)=esS (if s∈ks then ks else ks++[s])
 |[]=>by simp [esS,bK]
 |k::ks=>by
  have ih:=Ar s ks
  show cond (eqL (T.str s).cells (T.str k).cells) _ _=_
  have e:eqL (T.str s).cells (T.str k).cells=decide (s=k):=by
   show ((s==k)&&true)=_
   rw [Bool.and_true,C7]
  rw [e]
  by_cases h:s=k
  ·subst h
   rw [decide_eq_true rfl,if_pos (by simp)];rfl
  ·rw [decide_eq_false h,cond_false]
   show (T.str k,T.bool true)::bK (.str s) (.bool true) (esS ks)=_
   rw [ih]
   by_cases hm:s∈ks
   ·rw [if_pos hm,if_pos (by simp [hm])];rfl
   ·rw [if_neg hm,if_neg (by simp [h,hm])];rfl
theorem y0 (s:Int): ∀ks:List Int,bK (.int .i64 s) (.bool true) (esI ks)=esI (if s∈ks then ks else ks++[s])
 |[]=>by simp [esI,bK]
 |k::ks=>by
  have ih:=y0 s ks
  show cond (eqL (T.int .i64 s).cells (T.int .i64 k).cells) _ _=_
  have e:eqL (T.int .i64 s).cells (T.int .i64 k).cells=decide (s=k):=by
   show ((s==k)&&true)=_
   rw [Bool.and_true]
   by_cases h:s=k <;> simp [h]
  rw [e]
  by_cases h:s=k
  ·subst h
   rw [decide_eq_true rfl,if_pos (by simp)];rfl
  ·rw [decide_eq_false h,cond_false]
   show (T.int .i64 k,T.bool true)::bK (.int .i64 s) (.bool true) (esI ks)=_
   rw [ih]
   by_cases hm:s∈ks
   ·rw [if_pos hm,if_pos (by simp [hm])];rfl
   ·rw [if_neg hm,if_neg (by simp [h,hm])];rfl
section
variable {α:Type} [DecidableEq α]
theorem vt: ∀{l acc:List α},(once acc l).length≤acc.length+l.length
 |[],acc=>Nat.le_refl _
 |x::l,acc=>by
  unfold once
  have:=vt (l:=l) (acc:=if x∈acc then acc else acc++[x])
  rw [List.length_cons]
  split at this
  ·rw [if_pos (by assumption)];omega
  ·rw [List.length_append,List.length_singleton] at this
   rw [if_neg (by assumption)];omega
end
mutual
theorem xC: ∀r:RO,((sG r).flatMap uo).length≤r.wt
 |.mk k p f n a=>by
  have:=zL a
  rw [sG,List.flatMap_cons,List.length_append]
  have h:(uo (.mk k p f n a)).length≤p.nodes:=by
   unfold uo
   split
   ·show (th p).length≤_
    rw [uq,ve];exact Nat.le_refl _
   ·simp
  simp only [RO.wt];omega
theorem zL: ∀l:List RO,((sS l).flatMap uo).length≤tk l
 |[]=>by simp [sS]
 |r::rs=>by
  have h1:=xC r
  have h2:=zL rs
  rw [sS,List.flatMap_append,List.length_append,tk];omega
end
theorem Aw (r:RO):tc r=Ci r:=by
 unfold tc Ci
 rw [s9]
 congr 1
 funext o
 unfold uo Hn
 split
 ·rw [uq]
 ·rfl
theorem wG {β γ:Type} {g:β→List γ}: ∀{xs:List β},(∀ x∈xs,(g x).length≤1)→(xs.flatMap g).length≤xs.length
 |[],_=>Nat.le_refl _
 |x::xs,h=>by
  have h1:=h x (by simp)
  have h2:=wG (xs:=xs) fun y hy=>h y (by simp [hy])
  rw [List.flatMap_cons,List.length_append,List.length_cons];omega
def s4 {β γ:Type} (g:β→List γ) (xs:List β) (k:Nat):List γ:=(xs.take k).flatMap g
theorem vF {β γ:Type} {g:β→List γ} {xs:List β} {k:Nat} {x:β} (h:xs[k]? =some x):s4 g xs (k+1)=s4 g xs k++g x:=by
 obtain ⟨hl,rfl⟩:=gsZ h
 unfold s4
 rw [List.take_succ_eq_append_getElem hl,List.flatMap_append]
 simp
theorem v8 {β γ:Type} {g:β→List γ} {xs:List β}:s4 g xs xs.length=xs.flatMap g:=by
 unfold s4;rw [List.take_length]
end Go.TY
end
section
namespace Go.TYV
open Go Go.DL Go.Proofs
noncomputable def c96:aY:=(.seq (.region [oo 4 (.mov (.const .nilmap)),oo 5 (.mov kF)] []) (.seq (.region [oo 19 (.mkmap false [.str]),mv 6 19] []) (.seq (.region [oo 20 (.mkmap false [.str]),mv 7 20] []) (.seq (.seq (.region [mv 21 1,ln 22 21,oo 23 (.mov (Kc 0))] []) (.block 0 (.loop (.seq (.region [oo 24 (.bin .lss (tm 23) (tm 22))] []) (.seq (.cond (tm 24) .skip (.exit 0)) (.seq (.block 1 (.seq (.region [ix 25 15 21 23,lA 26 15 25,⟨some 9,.alloc [Z0,Z0,S0,Z0,Z0,.nil,S0,Z0,.nil,Z0,S0,.nil,S0,Z0,Z0],none,[]⟩,o0 (.store 15 (tm 9) (tm 26))] []) (.seq (.region [fa 27 9 9,lA 28 6 27,⟨some 10,.alloc [Z0,S0,.nil,S0,Z0,Z0],none,[]⟩,o0 (.store 6 (tm 10) (tm 28))] []) (.seq (.seq (.region [fa 29 0 10,ld 30 29,oo 31 (.bin .eql (tm 30) (Kc 0))] []) (.cond (tm 31) (.exit 1) .skip)) (.seq (.region [fa 32 1 10,ld 33 32,fa 34 0 10,ld 35 34,oo 36 (.call 137 [tm 35]),⟨some 37,.build [S0,Z0,.nil,Z0,Z0] [(0,1,(tm 33)),(1,1,(tm 36))],none,[]⟩,⟨some 11,.alloc [S0,Z0,.nil,Z0,Z0],none,[]⟩,o0 (.store 5 (tm 11) (tm 37))] []) (.seq (.seq (.region [fa 38 2 10,ld 39 38,ln 40 39,oo 41 (.mov (Kc 0))] []) (.block 2 (.loop (.seq (.region [oo 42 (.bin .lss (tm 41) (tm 40))] []) (.seq (.cond (tm 42) .skip (.exit 2)) (.seq (.block 3 (.seq (.region [ix 43 1 39 41,ld 44 43,mv 13 44] []) (.seq (.region [mv 46 0,mv 47 13,oo 48 (.call 74 [(tm 46),(tm 47)]),mv 45 48,oo 49 (.ext (tm 45) 0),oo 50 (.ext (tm 45) 1),⟨some 14,.alloc [S0,Z0,Z0],none,[]⟩,o0 (.store 3 (tm 14) (tm 49)),mv 15 50] []) (.region [fa 51 2 11,ld 52 51,fa 53 2 14,ld 54 53,oo 55 (.buildF 1 1 [Z0] [(0,(tm 54))]),oo 56 (.append 46 3 1 8 (tm 52) (tm 55)),fa 57 2 11,o0 (.store 1 (tm 57) (tm 56))] [])))) (.region [oo 58 (.bin .add (tm 41) (Kc 1)),mv 41 58] []))))))) (.seq (.cut (.region [fa 59 0 10,ld 60 59,oo 61 (.bin .eql (tm 60) (Kc 4)),mv 62 61,oF 63 62 (.offA 0 (tm 10)),oF 64 62 (.load 1 false (tm 63)),oF 65 62 (.bin .eql (tm 64) (Kc 6)),oo 66 (.pick (tm 62) kT (tm 65)),mv 16 66] [])) (.seq (.region [mv 68 6,fa 69 1 10,ld 70 69,⟨some 71,.mlook false [.str] (.agg [S0,Z0,.nil,Z0,Z0]) true (tm 68) (tm 70),none,[]⟩,mv 67 71,oo 72 (.ext (tm 67) 0),oo 73 (.ext (tm 67) 1),⟨some 17,.alloc [S0,Z0,.nil,Z0,Z0],none,[]⟩,o0 (.store 5 (tm 17) (tm 72)),mv 18 73] []) (.seq (.cut (.seq (.region [mv 74 16] []) (.cond (tm 74) (.region [fa 75 4 10,ld 76 75,fa 77 5 10,ld 78 77,fa 79 3 11,o0 (.store 1 (tm 79) (tm 76)),fa 80 4 11,o0 (.store 1 (tm 80) (tm 78))] [[],[],[],[],[],[3],[],[]]) .skip))) (.seq (.seq (.cut (.region [mv 81 18,mv 82 81,oT 83 82 (.offA 1 (tm 17)),oT 84 82 (.load 1 false (tm 83)),oT 85 82 (.offA 1 (tm 11)),oT 86 82 (.load 1 false (tm 85)),oT 87 82 (.bin .neq (tm 84) (tm 86)),mT 88 87 82,oF 89 88 (.offA 2 (tm 17)),oF 90 88 (.load 1 false (tm 89)),oF 91 88 (.offA 2 (tm 11)),oF 92 88 (.load 1 false (tm 91)),oF 93 88 (.call 99 [(tm 90),(tm 92)]),oF 94 88 (.not (tm 93)),oT 95 82 (.pick (tm 88) kT (tm 94)),mT 96 95 82,mF 97 16 96,mF 98 97 96,mT 99 7 98,oT 100 98 (.offA 1 (tm 10)),oT 101 98 (.load 1 false (tm 100)),oT 102 98 (.mlook false [.str] (.bool false) false (tm 99) (tm 101)),oF 103 96 (.pick (tm 98) (tm 102) kF),mF 104 103 96,oT 105 104 (.offA 3 (tm 17)),oT 106 104 (.load 1 false (tm 105)),oT 107 104 (.offA 3 (tm 11)),oT 108 104 (.load 1 false (tm 107)),oT 109 104 (.bin .neq (tm 106) (tm 108)),mT 110 109 104,oF 111 110 (.offA 4 (tm 17)),oF 112 110 (.load 1 false (tm 111)),oF 113 110 (.offA 4 (tm 11)),oF 114 110 (.load 1 false (tm 113)),oF 115 110 (.bin .neq (tm 112) (tm 114)),oT 116 104 (.pick (tm 110) kT (tm 115)),oF 117 96 (.pick (tm 104) (tm 116) kF),oT 118 82 (.pick (tm 96) kT (tm 117)),oo 119 (.pick (tm 82) (tm 118) kF)] [])) (.cond (tm 119) (.seq (.region [oo 4 (.mov (.const .nilmap)),oo 5 (.mov kF)] []) .ret) .skip)) (.seq (.seq (.region [mv 120 18,oo 121 (.not (tm 120)),mv 122 121,mF 123 16 122,oo 124 (.pick (tm 122) kT (tm 123))] []) (.cond (tm 124) (.region [mv 125 6,fa 126 1 10,ld 127 126,lA 128 5 11,o0 (.bK false [.str] (tm 125) (tm 127) (tm 128))] []) .skip)) (.region [mv 129 7,fa 130 1 10,ld 131 130,mv 132 7,fa 133 1 10,ld 134 133,oo 135 (.mlook false [.str] (.bool false) false (tm 132) (tm 134)),mv 136 135,mF 137 16 136,oo 138 (.pick (tm 136) kT (tm 137)),o0 (.bK false [.str] (tm 129) (tm 131) (tm 138))] [])))))))))))) (.region [oo 139 (.bin .add (tm 23) (Kc 1)),mv 23 139] []))))))) (.seq (.region [mv 140 6,mv 4 140,oo 5 (.mov kT)] []) .ret)))))
theorem l96:(Tryz.f96.body.bind (bD Tryz.prog 141 [6000015,5000017,6000019,8000055]))=some c96:=by kernel_rfl
end Go.TYV
end
section
namespace Go.TY
open Go Go.DL Go.MM Go.Proofs
abbrev zV:T:=.agg [.str ⟨#[]⟩,I 0,.nil,I 0,I 0]
def esV (all:List RV):List (T×T):=all.map fun v=>(T.str v.name,sI v)
def esN (num:List (ByteArray×Bool)):List (T×T):=num.map fun p=>(T.str p.1,T.bool p.2)
theorem yc (a b:ByteArray):eqL (T.str a).cells (T.str b).cells=decide (a=b):=by
 show ((a==b)&&true)=_
 rw [Bool.and_true,C7]
theorem Dp (v:RV): ∀all:List RV,bK (.str v.name) (sI v) (esV all)=esV (uF v all)
 |[]=>rfl
 |x::xs=>by
  have ih:=Dp v xs
  show cond (eqL (T.str v.name).cells (T.str x.name).cells) _ _=esV (uF v (x::xs))
  rw [yc]
  unfold uF
  by_cases h:x.name=v.name
  ·rw [decide_eq_true h.symm,if_pos h];rfl
  ·rw [decide_eq_false (fun e=>h e.symm),if_neg h,cond_false]
   show (T.str x.name,sI x)::bK (.str v.name) (sI v) (esV xs)=_
   rw [ih];rfl
theorem Dm (n:ByteArray) (b:Bool): ∀num:List (ByteArray×Bool),bK (.str n) (.bool b) (esN num)=esN (wV n b num)
 |[]=>rfl
 |x::xs=>by
  have ih:=Dm n b xs
  show cond (eqL (T.str n).cells (T.str x.1).cells) _ _=esN (wV n b (x::xs))
  rw [yc]
  unfold wV
  by_cases h:x.1=n
  ·rw [decide_eq_true h.symm,if_pos h];rfl
  ·rw [decide_eq_false (fun e=>h e.symm),if_neg h,cond_false]
   show (T.str x.1,T.bool x.2)::bK (.str n) (.bool b) (esN xs)=_
   rw [ih];rfl
theorem zw (s:ByteArray): ∀all:List RV,ep (T.str s).cells (esV all)=(ta all s).map sI
 |[]=>rfl
 |x::xs=>by
  have ih:=zw s xs
  show cond (eqL (T.str s).cells (T.str x.name).cells) (some (sI x)) (ep (T.str s).cells (esV xs))=_
  rw [yc,ih]
  unfold ta
  rw [List.find?_cons]
  by_cases h:x.name=s
  ·rw [decide_eq_true h.symm,decide_eq_true h];rfl
  ·rw [decide_eq_false (fun e=>h e.symm),decide_eq_false h];rfl
theorem BF (s:ByteArray): ∀num:List (ByteArray×Bool),ep (T.str s).cells (esN num)=(tU num s).map T.bool
 |[]=>rfl
 |x::xs=>by
  have ih:=BF s xs
  show cond (eqL (T.str s).cells (T.str x.1).cells) (some (T.bool x.2)) (ep (T.str s).cells (esN xs))=_
  rw [yc,ih]
  unfold tU
  rw [List.find?_cons]
  by_cases h:x.1=s
  ·rw [decide_eq_true h.symm,decide_eq_true h];rfl
  ·rw [decide_eq_false (fun e=>h e.symm),decide_eq_false h];rfl
theorem GY (s:ByteArray) (all:List RV):mS zV true (ep (T.str s).cells (esV all))=match ta all s with
  |some v=>T.tup [sI v,.bool true]
  |none=>T.tup [zV,.bool false]:=by
 rw [zw]
 cases ta all s <;> rfl
theorem GX (s:ByteArray) (num:List (ByteArray×Bool)):mS (.bool false) false (ep (T.str s).cells (esN num))=T.bool ((tU num s).getD false):=by
 rw [BF]
 cases tU num s <;> rfl
theorem Ia (l:List Fd) (hl:LOk l) (k:ByteArray):DCalls Tryz.prog 74 [fds l,.str k] (.tup [.agg [.str (fld l k).name,I (fld l k).a,I (fld l k).w],.bool (tQ l k)]):=by
 have h:=t74 l k hl.len
 unfold xv at h
 unfold fld tQ
 cases hF:findF l k with
 |none=>rw [hF] at h;exact h
 |some F=>rw [hF] at h;exact h
theorem wL (l:List Fd): ∀{a b:List RS} {st:VS},uc l st (a++b)=(uc l st a).bind fun st=>uc l st b
 |[],b,st=>rfl
 |s::a,b,st=>by
  show (uR l st s).bind (fun st=>uc l st (a++b))=((uR l st s).bind fun st=>uc l st a).bind fun st=>uc l st b
  cases uR l st s with
  |none=>rfl
  |some st'=>exact wL l
def tI (l:List Fd) (gs:List RG):Option VS:=uc l ⟨[],[]⟩ (sH (gs.map (·.st)))
def F0:Option VS→T
 |some st=>.tup [.mapd false [.str] (st.all.map fun v=>.str v.name) (st.all.map sI),.bool true]
 |none=>.tup [.nilmap,.bool false]
theorem A2 (gs:List RG) (i:Nat) (h:i<gs.length):sH ((gs.take (i+1)).map (·.st))=sH ((gs.take i).map (·.st))++(if gs[i].st.kind=0 then [] else [gs[i].st]):=by
 rw [List.take_succ_eq_append_getElem h,List.map_append]
 unfold sH
 rw [List.filter_append]
 congr 1
 by_cases hk:gs[i].st.kind=0
 ·rw [if_pos hk];simp [hk]
 ·rw [if_neg hk];simp [hk]
def C3 (l:List Fd) (look:Option RV) (nb:Bool) (s:RS):Bool:=match look with
 |none=>false
 |some old=>(old.fam !=tq s.kind)|| !(old.ws==sP l s)||(s.own&&nb&&((old.n !=s.n)||(old.m !=s.m)))
theorem EZ (l:List Fd) (st:VS) (s:RS):uR l st s=if C3 l (ta st.all s.var) ((tU st.num s.var).getD false) s then none else some ⟨if (!(ta st.all s.var).isSome||s.own) then uF (vOf l s) st.all else st.all,wV s.var (((tU st.num s.var).getD false)||s.own) st.num⟩:=by
 unfold uR C3
 dsimp only
 cases ta st.all s.var with
 |none=>simp
 |some old=>simp
abbrev yT (l:List Fd) (s:RS) (n m:Int):List V:=[.t (.str s.var),.t (I (tq s.kind)),.t (.slice 1 ((sP l s).map I)),.t (I n),.t (I m)]
abbrev SVa (l:List Fd) (gs:List RG) (i:Nat) (st:VS) (x:List (Nat×V)) (b:List (Nat×BX)):Wk:=
 {sl:=(0,.t (fds l))::(6,.mp 19)::(7,.mp 20)::(21,.t (.slice 15 (gs.map sE)))::(22,.t (I gs.length))::(23,.t (I i))::x,bx:=(19,.m false [.str] (esV st.all) none)::(20,.m false [.str] (esN st.num) none)::b}
theorem Fb {ks:List Nat} {bx:Nat→Option BX} {ag:Bool} {sh:List Sh} {es es':List (T×T)} (h:es=es'):LeB ks bx (.m ag sh es none) (some (.m ag sh es' none)):=by rw [h];exact .same _
theorem Db {ks:List Nat} {bx:Nat→Option BX} {n e w:Nat} {us xs:List T} (h:us=xs):LeV ks bx (.t (.slice w us)) (.own n e w xs):=by rw [h];exact LeV.data _ _ _ _
theorem El (a b:List Int) (hl:b.length<2^60):DCalls Tryz.prog 99 [.slice 1 (a.map I),.slice 1 (b.map I)] (.bool (a==b)):=by
 by_cases hab:a.length=b.length
 case pos=>exact EP a b (by omega)
 refine qO (rs:=[.tmp 4]) mixed Tryz.func99 l99 rfl rfl rfl (r:=[.bool _]) (nlZ rfl) ?_
 have ha:((a.map I).length:Int)=a.length:=by rw [List.length_map]
 have hb:((b.map I).length:Int)=b.length:=by rw [List.length_map]
 have e:(a==b)=false:=beq_false_of_ne fun e=>hab (by rw [e])
 rw [e]
 have hn:((a.map I).length:Int)≠((b.map I).length:Int):=by omega
 repeat' ((conv=>whnf);first|exact trivial|refine qz hn ?_|refine rb0 ?_|refine aS ?_|fail)
theorem yH (l:List Fd) (hl:LOk l) (gs:List RG) (hgl:gs.length<2^40) (hg: ∀g∈gs,SmS (2^40) g.st∧0≤g.st.kind∧g.st.kind≤6):DCalls Tryz.prog 96 [fds l,.slice 15 (gs.map sE)] (F0 (tI l gs)):=by
 have hres: ∃r1 r2,F0 (tI l gs)= .tup [r1,r2]:=by cases tI l gs <;> exact ⟨_,_,rfl⟩
 obtain ⟨r1,r2,hr⟩:=hres
 rw [hr]
 refine qO (rs:=[.tmp 4,.tmp 5]) mixed Tryz.func96 Go.TYV.l96 rfl rfl rfl (r:=[r1,r2]) (nlZ rfl) ?_
 have hsome: ∀st,tI l gs=some st→r1= .mapd false [.str] (st.all.map fun v=>.str v.name) (st.all.map sI)∧r2= .bool true:=fun st h=>by
  rw [h] at hr
  have h1:=T.tup.inj hr
  simp only [List.cons.injEq,and_true] at h1
  exact ⟨h1.1.symm,h1.2.symm⟩
 have hnone:tI l gs=none→r1= .nilmap∧r2= .bool false:=fun h=>by
  rw [h] at hr
  have h1:=T.tup.inj hr
  simp only [List.cons.injEq,and_true] at h1
  exact ⟨h1.1.symm,h1.2.symm⟩
 clear hr
 skip
 refine qZ 0 (α:=Nat×VS) (β:=VS) (fun p=>SVa l gs p.1 p.2 [] []) (fun p=>p.1≤gs.length∧uc l ⟨[],[]⟩ (sH ((gs.take p.1).map (·.st)))=some p.2) (fun p=>gs.length - p.1)
  (fun st=>{sl:=[(6,.mp 19)],bx:=[(19,.m false [.str] (esV st.all) none)]}) (fun st=>tI l gs=some st) (0,⟨[],[]⟩) ⟨by simp,rfl⟩ ?_ ?_ ?_
 ·repeat' (first|(exact leI (by simp))|exact trivial|exact LeV.same _|exact LeB.same _|exact rfl|exact fun _ _ _=>trivial|refine And.intro ?_ ?_)
 ·rintro ⟨i,st⟩ ⟨hi,hst⟩
  dsimp only at hi hst
  rcases Nat.lt_or_ge i gs.length with h|h
  case inr=>
   have e:i=gs.length:=by omega
   subst e
   rw [List.take_length] at hst
   repeat' ((conv=>whnf);first|(exact ⟨st,hst,by (repeat' (first|exact trivial|exact LeV.same _|exact LeB.same _|exact rfl|exact fun _ _ _=>trivial|refine And.intro ?_ ?_));done⟩)|refine aD0 ?_|refine aS ?_|fail)
  obtain ⟨hsm,hk0,hk6⟩:=hg gs[i] (List.getElem_mem h)
  have hcell:=wF gs[i]
  have hso:=A2 gs i h
  have hnext: ∀st',uc l st (if gs[i].st.kind=0 then [] else [gs[i].st])=some st'→(i+1≤gs.length∧uc l ⟨[],[]⟩ (sH ((gs.take (i+1)).map (·.st)))=some st'):=fun st' h'=>⟨h,by rw [hso,wL,hst];exact h'⟩
  have hall:uc l st (if gs[i].st.kind=0 then [] else [gs[i].st])=none→tI l gs=none:=fun hn=>by
   unfold tI
   have e1:gs.map (·.st)=(gs.take (i+1)).map (·.st)++(gs.drop (i+1)).map (·.st):=by rw [← List.map_append,List.take_append_drop]
   rw [e1]
   have e2: ∀a b:List RS,sH (a++b)=sH a++sH b:=fun a b=>List.filter_append ..
   rw [e2,wL,hso,wL,hst,Option.bind_some,hn];rfl
  have hz:(aN z15 0 15 (sD gs[i])).length=15:=by rw [mU (n:=15) rfl];exact sK _
  by_cases k0:gs[i].st.kind=0
  ·rw [if_pos k0] at hnext
   have hnx:=hnext st rfl
   generalize gs[i].st=s at *
   obtain ⟨k,v,ks,f,n,m⟩:=s
   dsimp only at k0
   repeat' ((conv=>whnf);first|(refine nv_ (.agg (sD gs[i])) (by first|((simp [h];rfl);done)|fail) ?_)|(refine nv_ (.agg (sZ ⟨k,v,ks,f,n,m⟩)) (by first|exact congrArg T.agg hcell|fail) ?_)|refine qx k0 ?_|refine nT_ ?_|refine aD1 ?_|(refine And.intro (by first|exact ⟨sK _,nlZ rfl⟩|exact sK _|fail) ?_)|refine aS ?_|fail)
   refine ⟨(i+1,st),hnx,by dsimp only;omega,by repeat' (first|exact trivial|exact LeV.same _|exact LeB.same _|exact rfl|exact fun _ _ _=>trivial|exact lI|refine And.intro ?_ ?_)⟩
  rw [if_neg k0] at hnext hall
  have hst1:uc l st [gs[i].st]=uR l st gs[i].st:=by
   show (uR l st gs[i].st).bind _=_
   cases uR l st gs[i].st <;> rfl
  rw [hst1] at hnext hall
  clear hso hst1
  generalize gs[i].st=s at *
  have hfam:=ET s.kind ⟨by omega,hk6⟩
  obtain ⟨k,v,ks,f,n,m⟩:=s
  dsimp only at k0 hk0 hk6 hfam
  have hkl:ks.length<2^40:=hsm.len
  repeat' ((conv=>whnf);first|(refine nv_ (.agg (sD gs[i])) (by first|((simp [h];rfl);done)|fail) ?_)|(refine nv_ (.agg (sZ ⟨k,v,ks,f,n,m⟩)) (by first|exact congrArg T.agg hcell|fail) ?_)|refine qw k0 ?_|refine rE _ (hfam) ?_|refine nT_ ?_|refine aD1 ?_|(refine And.intro (by first|exact ⟨sK _,nlZ rfl⟩|exact sK _|fail) ?_)|refine aS ?_|fail)
  refine qZ 2 (α:=Nat) (β:=Unit) (fun j=>SVa l gs i st [(10,.ptr 10 0),(11,.ptr 11 0),(39,.t (.slice 1 (ks.map .str))),(40,.t (I ks.length)),(41,.t (I j))] [(10,.d 6 (sZ ⟨k,v,ks,f,n,m⟩)),(11,.v [.t (.str v),.t (I (tq k)),.own 56 3 1 ((ks.take j).map fun x=>I (fld l x).w),.t (I 0),.t (I 0)])])
   (fun j=>j≤ks.length) (fun j=>ks.length - j)
   (fun _=>SVa l gs i st [(10,.ptr 10 0),(11,.ptr 11 0)] [(10,.d 6 (sZ ⟨k,v,ks,f,n,m⟩)),(11,.v (yT l ⟨k,v,ks,f,n,m⟩ 0 0))]) (fun _=>True) 0 (by simp) ?_ ?_ ?_
  ·repeat' (first|(exact leI (by simp))|(refine LeB.dv _ _ _ ?_)|exact trivial|exact LeV.same _|exact LeB.same _|exact rfl|exact fun _ _ _=>trivial|exact LeV.nil _ _ _|refine And.intro ?_ ?_)
  ·rintro j hj
   rcases Nat.lt_or_ge j ks.length with h1|h1
   ·have ht:=Ia l hl ks[j]
    have hk:ks.take (j+1)=ks.take j++[ks[j]]:=by rw [List.take_succ_eq_append_getElem h1]
    repeat' ((conv=>whnf);first|(refine nv_ (.str ks[j]) (by first|(simp [h1];done)|fail) ?_)|refine rE _ (ht) ?_|refine nT_ ?_|refine aD1 ?_|(refine And.intro (by first|((simp only [List.length_map,List.length_take,List.length_cons,List.length_nil];omega);done)|fail) ?_)|refine aS ?_|fail)
    refine ⟨j+1,h1,by omega,?_⟩
    repeat' (first|(exact rX (by rw [hk,List.map_append];rfl))|(refine LeB.v _ _ ?_)|exact trivial|exact LeV.same _|exact LeB.same _|exact rfl|exact fun _ _ _=>trivial|exact lI|refine And.intro ?_ ?_)
   ·have:j=ks.length:=by omega
    subst this
    rw [List.take_length]
    have hw:((sP l ⟨k,v,ks,f,n,m⟩).map I)=ks.map fun x=>I (fld l x).w:=by unfold sP;rw [List.map_map];rfl
    repeat' ((conv=>whnf);first|(exact ⟨(),trivial,by (repeat' (first|(refine LeB.v _ _ ?_)|(exact Db hw)|exact trivial|exact LeV.same _|exact LeB.same _|exact rfl|exact fun _ _ _=>trivial|refine And.intro ?_ ?_));done⟩)|refine aD0 ?_|refine aS ?_|fail)
  rintro _ _
  obtain ⟨lc,is,hlc,hl5,hcase⟩: ∃lc is,mS zV true (ep (T.str v).cells (esV st.all))= .tup [.agg lc,.bool is]∧lc.length=5∧((is=false∧ta st.all v=none)∨ ∃o,is=true∧ta st.all v=some o∧lc=sR o):=by
   rw [GY]
   cases ta st.all v with
   |none=>exact ⟨_,_,rfl,rfl,Or.inl ⟨rfl,rfl⟩⟩
   |some o=>exact ⟨_,_,rfl,rfl,Or.inr ⟨o,rfl,rfl,rfl⟩⟩
  have hp5:lc=aN [.str ⟨#[]⟩,I 0,.nil,I 0,I 0] 0 5 lc:=(mU (n:=5) rfl).symm
  obtain ⟨ow,how⟩: ∃ow,ow=RS.own ⟨k,v,ks,f,n,m⟩:=⟨_,rfl⟩
  refine rA (β:=Unit) (fun _=>SVa l gs i st [(10,.ptr 10 0),(11,.ptr 11 0),(16,.t (.bool ow))] [(10,.d 6 (sZ ⟨k,v,ks,f,n,m⟩)),(11,.v (yT l ⟨k,v,ks,f,n,m⟩ 0 0))]) (fun _=>True) ?_ ?_
  ·by_cases k4:k=4
   ·have e:ow=true:=by rw [how];simp [RS.own,k4]
    subst e
    repeat' ((conv=>whnf);first|refine qx k4 ?_|(exact ⟨(),trivial,by (repeat' (first|exact trivial|exact LeV.same _|exact LeB.same _|exact rfl|exact fun _ _ _=>trivial|refine And.intro ?_ ?_));done⟩)|refine nT_ ?_|refine aS ?_|fail)
   by_cases k6:k=6
   ·have e:ow=true:=by rw [how];simp [RS.own,k6]
    subst e
    repeat' ((conv=>whnf);first|refine qw k4 ?_|refine qx k6 ?_|(exact ⟨(),trivial,by (repeat' (first|exact trivial|exact LeV.same _|exact LeB.same _|exact rfl|exact fun _ _ _=>trivial|refine And.intro ?_ ?_));done⟩)|refine nT_ ?_|refine aS ?_|fail)
   have e:ow=false:=by rw [how];simp [RS.own,k4,k6]
   subst e
   repeat' ((conv=>whnf);first|refine qw k4 ?_|refine qw k6 ?_|(exact ⟨(),trivial,by (repeat' (first|exact trivial|exact LeV.same _|exact LeB.same _|exact rfl|exact fun _ _ _=>trivial|refine And.intro ?_ ?_));done⟩)|refine nT_ ?_|refine aS ?_|fail)
  rintro _ _
  repeat' ((conv=>whnf);first|(refine nv_ (.tup [.agg lc,.bool is]) (by first|exact hlc|fail) ?_)|refine nT_ ?_|(refine And.intro (by first|exact hl5|exact ⟨rfl,trivial,trivial⟩|exact ⟨rfl,rfl,trivial⟩|exact ⟨rfl,trivial⟩|fail) ?_)|refine aS ?_|fail)
  refine rA (β:=Unit) (fun _=>SVa l gs i st [(10,.ptr 10 0),(11,.ptr 11 0),(16,.t (.bool ow)),(17,.ptr 17 0),(18,.t (.bool is))] [(10,.d 6 (sZ ⟨k,v,ks,f,n,m⟩)),(11,.v (yT l ⟨k,v,ks,f,n,m⟩ (cond ow n 0) (cond ow m 0))),(17,.d 5 lc)]) (fun _=>True) ?_ ?_
  ·cases ow <;> repeat' ((conv=>whnf);first|(exact ⟨(),trivial,by (repeat' (first|(exact su hp5)|exact trivial|exact LeV.same _|exact LeB.same _|exact rfl|exact fun _ _ _=>trivial|refine And.intro ?_ ?_));done⟩)|refine nT_ ?_|refine aS ?_|fail)
  rintro _ _
  clear hlc hp5
  obtain ⟨nb,hnb⟩: ∃nb,nb=(tU st.num v).getD false:=⟨_,rfl⟩
  have hln:=GX v st.num
  rw [← hnb] at hln
  have hst2:=EZ l st ⟨k,v,ks,f,n,m⟩
  dsimp only at hst2
  rw [← hnb, ←how] at hst2
  obtain ⟨bad,hbad⟩: ∃bad,bad=C3 l (ta st.all v) nb ⟨k,v,ks,f,n,m⟩:=⟨_,rfl⟩
  rw [← hbad] at hst2
  have heq:=fun o:RV=>El o.ws (sP l ⟨k,v,ks,f,n,m⟩) (by unfold sP;rw [List.length_map];exact Nat.lt_of_lt_of_le hkl (by decide))
  refine rA (β:=Unit) (fun _=>SVa l gs i st [(10,.ptr 10 0),(11,.ptr 11 0),(16,.t (.bool ow)),(18,.t (.bool is)),(119,.t (.bool bad))] [(10,.d 6 (sZ ⟨k,v,ks,f,n,m⟩)),(11,.v (yT l ⟨k,v,ks,f,n,m⟩ (cond ow n 0) (cond ow m 0)))]) (fun _=>True) ?_ ?_
  ·rcases hcase with ⟨rfl,hl0⟩|⟨o,rfl,hl0,rfl⟩
   ·rw [hl0] at hbad
    have e:bad=false:=hbad
    subst e
    repeat' ((conv=>whnf);first|(exact ⟨(),trivial,by (repeat' (first|exact trivial|exact LeV.same _|exact LeB.same _|exact rfl|exact fun _ _ _=>trivial|refine And.intro ?_ ?_));done⟩)|fail)
   rw [hl0] at hbad
   unfold C3 at hbad
   dsimp only at hbad
   rw [← how] at hbad
   have heq:=heq o
   generalize (o.ws==sP l ⟨k,v,ks,f,n,m⟩)=eqw at *
   generalize hb1:(o.fam !=tq k)=b1 at hbad
   generalize hb2:(o.n !=n)=b2 at hbad
   generalize hb3:(o.m !=m)=b3 at hbad
   subst hbad
   clear how hst2 hnb hall hnext
   cases b1 with
   |true=>repeat' ((conv=>whnf);first|refine nb_ _ hb1 ?_|(exact ⟨(),trivial,by (repeat' (first|exact trivial|exact LeV.same _|exact LeB.same _|exact rfl|exact fun _ _ _=>trivial|refine And.intro ?_ ?_));done⟩)|refine nT_ ?_|refine aS ?_|fail)
   |false=>
   cases eqw with
   |false=>repeat' ((conv=>whnf);first|refine nb_ _ hb1 ?_|refine rE _ (heq) ?_|(exact ⟨(),trivial,by (repeat' (first|exact trivial|exact LeV.same _|exact LeB.same _|exact rfl|exact fun _ _ _=>trivial|refine And.intro ?_ ?_));done⟩)|refine nT_ ?_|refine aS ?_|fail)
   |true=>
   cases ow with
   |false=>repeat' ((conv=>whnf);first|refine nb_ _ hb1 ?_|refine rE _ (heq) ?_|(exact ⟨(),trivial,by (repeat' (first|exact trivial|exact LeV.same _|exact LeB.same _|exact rfl|exact fun _ _ _=>trivial|refine And.intro ?_ ?_));done⟩)|refine nT_ ?_|refine aS ?_|fail)
   |true=>
   cases nb with
   |false=>repeat' ((conv=>whnf);first|refine nb_ _ hb1 ?_|refine rE _ (heq) ?_|(refine nv_ (.bool false) (by first|exact hln|fail) ?_)|(exact ⟨(),trivial,by (repeat' (first|exact trivial|exact LeV.same _|exact LeB.same _|exact rfl|exact fun _ _ _=>trivial|refine And.intro ?_ ?_));done⟩)|refine nT_ ?_|(refine And.intro (by first|exact ⟨rfl,trivial⟩|fail) ?_)|refine aS ?_|fail)
   |true=>
   cases b2 with
   |true=>repeat' ((conv=>whnf);first|refine nb_ _ hb1 ?_|refine rE _ (heq) ?_|(refine nv_ (.bool true) (by first|exact hln|fail) ?_)|refine nb_ _ hb2 ?_|(exact ⟨(),trivial,by (repeat' (first|exact trivial|exact LeV.same _|exact LeB.same _|exact rfl|exact fun _ _ _=>trivial|refine And.intro ?_ ?_));done⟩)|refine nT_ ?_|(refine And.intro (by first|exact ⟨rfl,trivial⟩|fail) ?_)|refine aS ?_|fail)
   |false=>
   cases b3 <;> repeat' ((conv=>whnf);first|refine nb_ _ hb1 ?_|refine rE _ (heq) ?_|(refine nv_ (.bool true) (by first|exact hln|fail) ?_)|refine nb_ _ hb2 ?_|refine nb_ _ hb3 ?_|(exact ⟨(),trivial,by (repeat' (first|exact trivial|exact LeV.same _|exact LeB.same _|exact rfl|exact fun _ _ _=>trivial|refine And.intro ?_ ?_));done⟩)|refine nT_ ?_|(refine And.intro (by first|exact ⟨rfl,trivial⟩|fail) ?_)|refine aS ?_|fail)
  rintro _ _
  clear heq
  cases bad with
  |true=>
   rw [if_pos rfl] at hst2
   obtain ⟨rfl,rfl⟩:=hnone (hall hst2)
   repeat' ((conv=>whnf);first|exact trivial|refine rb0 ?_|refine aS ?_|fail)
  |false=>
  rw [if_neg (by simp)] at hst2
  have hnx:=hnext _ hst2
  have his:(ta st.all v).isSome=is:=by rcases hcase with ⟨rfl,h⟩|⟨o,rfl,h,_⟩ <;> rw [h] <;> rfl
  have he:vOf l ⟨k,v,ks,f,n,m⟩=⟨v,tq k,sP l ⟨k,v,ks,f,n,m⟩,cond ow n 0,cond ow m 0⟩:=by
   unfold vOf
   rw [← how]
   cases ow <;> rfl
  rw [his,he] at hnx
  have hV:=Dp ⟨v,tq k,sP l ⟨k,v,ks,f,n,m⟩,cond ow n 0,cond ow m 0⟩ st.all
  have hN:=Dm v (nb||ow) st.num
  clear he his hst2 how hbad hnb hall hnext hcase
  cases is <;> cases ow <;> cases nb <;> (repeat' ((conv=>whnf);first|(refine nv_ (.bool _) (by first|exact hln|fail) ?_)|(refine ⟨(i+1,_),hnx,by (dsimp only;omega),by (repeat' (first|(exact Fb hV.symm)|(exact Fb hN.symm)|exact trivial|exact LeV.same _|exact LeB.same _|exact rfl|exact fun _ _ _=>trivial|exact lI|refine And.intro ?_ ?_));done⟩)|refine nT_ ?_|(refine And.intro (by first|exact ⟨rfl,trivial⟩|fail) ?_)|refine aS ?_|fail))
 ·rintro st hv
  obtain ⟨rfl,rfl⟩:=hsome st hv
  skip
  (conv=>whnf)
  refine ⟨?_,rfl,trivial⟩
  show some (T.mapd false [.str] ((esV st.all).map (·.1)) ((esV st.all).map (·.2)))=some _
  unfold esV
  rw [List.map_map,List.map_map];rfl
end Go.TY
end
section
namespace Go.TY
open Go Go.DL Go.MM Go.Proofs
theorem Bl {s:RS} (h:ti s=0):0≤s.kind∧s.kind≤6:=by
 unfold ti at h
 have h1:okS s=true:=by
  cases e:okS s with
  |true=>rfl
  |false=>rw [e] at h;simp at h
 unfold okS at h1
 rw [Bool.or_eq_true] at h1
 rcases h1 with h1|h1
 ·unfold wq at h1
  simp only [Bool.and_eq_true,beq_iff_eq] at h1
  omega
 simp only [Bool.and_eq_true] at h1
 have h3:=h1.2
 unfold yY at h3
 by_cases k1:s.kind=1
 ·omega
 by_cases k2:s.kind=2
 ·omega
 by_cases k3:s.kind=3
 ·omega
 by_cases k4:s.kind=4
 ·omega
 by_cases k5:s.kind=5
 ·omega
 by_cases k6:s.kind=6
 ·omega
 simp only [k1,k2,k3,k4,k5,k6,if_false] at h3
 cases h3
theorem wm {l:List Fd} {s:RS} (h:tK l s=0):0≤s.kind∧s.kind≤6:=by
 refine Bl ?_
 unfold tK at h
 by_cases c:ti s=0
 ·exact c
 ·rw [if_pos c] at h;exact h
theorem zt {α:Type} {f g:α→Int}: ∀{xs:List α},fz2 f g xs=0→ ∀x∈xs,f x=0∧g x=0
 |[],_,_,hx=>by cases hx
 |x::xs,h,y,hy=>by
  have h:sY (f x::g x::xs.flatMap fun x=>[f x,g x])=0:=h
  simp only [sY] at h
  by_cases h1:f x=0
  ·by_cases h2:g x=0
   ·simp only [h1,h2] at h
    rcases List.mem_cons.1 hy with rfl|hy
    ·exact ⟨h1,h2⟩
    ·exact zt (by simpa [fz2] using h) y hy
   ·simp [h1,h2] at h
  ·simp [h1] at h
def tV (l:List Fd) (gs:List RG):Int:=
 if uN gs≠0 then uN gs
 else if fz2 (fun g=>ue l g.pol) (fun g=>tK l g.st) gs≠0 then fz2 (fun g=>ue l g.pol) (fun g=>tK l g.st) gs
 else if (tI l gs).isNone then 11 else 0
theorem vY (l:List Fd) (hl:LOk l) (gs:List RG) (hgl:gs.length<2^40) (hg: ∀g∈gs,SmG (2^39) g):DCalls Tryz.prog 38 [fds l,.slice 15 (gs.map sE)] (I (tV l gs)):=by
 refine qO (rs:=[.tmp 4]) mixed Tryz.func38 l38 rfl rfl rfl (r:=[.int _ _]) (nlZ rfl) ?_
 have hc:=zB gs (by omega) fun g hgm=>⟨(hg g hgm).st.mono (by omega),by have:=(hg g hgm).wt;omega,fun _=>(hg g hgm).names (by omega)⟩
 unfold tV
 by_cases c0:uN gs=0
 case neg=>
  rw [if_pos c0]
  generalize uN gs=x at *
  repeat' ((conv=>whnf);first|exact trivial|refine rE _ (hc) ?_|refine qz c0 ?_|refine rix ?_|refine aS ?_|fail)
 rw [if_neg (by simpa using c0)]
 rw [c0] at hc
 repeat' ((conv=>whnf);first|refine rE _ (hc) ?_|refine aN0 ?_|refine aS ?_|fail)
 refine qZ 0 (α:=Nat) (β:=Unit) (fun i=>{sl:=[(0,.t (fds l)),(1,.t (.slice 15 (gs.map sE))),(17,.t (.slice 15 (gs.map sE))),(18,.t (I gs.length)),(19,.t (I i))],bx:=[]})
  (fun i=>i≤gs.length∧ ∀j (h:j<gs.length),j<i→ue l gs[j].pol=0∧tK l gs[j].st=0) (fun i=>gs.length - i)
  (fun _=>{sl:=[(0,.t (fds l)),(1,.t (.slice 15 (gs.map sE)))],bx:=[]}) (fun _=>fz2 (fun g=>ue l g.pol) (fun g=>tK l g.st) gs=0) 0 (by simp) ?_ ?_ ?_
 ·repeat' (first|(exact leI (by simp))|exact trivial|exact LeV.same _|exact rfl|exact fun _ _ _=>trivial|refine And.intro ?_ ?_)
 ·rintro i ⟨hi,hp⟩
  rcases Nat.lt_or_ge i gs.length with h|h
  ·have hm:=hg gs[i] (List.getElem_mem h)
   have h1:=A5 l hl gs[i].pol (by have:=hm.wt;omega) (hm.names (by omega))
   have h2:=Em l hl gs[i].st (hm.st.mono (by omega))
   by_cases c1:ue l gs[i].pol=0
   ·rw [c1] at h1
    by_cases c2:tK l gs[i].st=0
    ·rw [c2] at h2
     repeat' ((conv=>whnf);first|(refine nv_ (.agg (sD gs[i])) (by first|((simp [h];rfl);done)|fail) ?_)|(refine nv_ (.agg (sA gs[i].pol)) (by first|(exact congrArg T.agg (ug gs[i]);done)|fail) ?_)|(refine nv_ (.agg (sZ gs[i].st)) (by first|(exact congrArg T.agg (wF gs[i]);done)|fail) ?_)|refine rE _ (h1) ?_|refine rE _ (h2) ?_|refine aN0 ?_|refine aD1 ?_|(refine And.intro (by first|exact ⟨sK _,nlZ rfl⟩|exact sK _|fail) ?_)|refine aS ?_|fail)
     refine ⟨i+1,⟨h,fun j hj hlt=>?_⟩,by omega,?_⟩
     ·rcases Nat.lt_or_ge j i with h4|h4
      ·exact hp j hj h4
      ·obtain rfl:j=i:=by omega
       exact ⟨c1,c2⟩
     ·repeat' (first|exact trivial|exact LeV.same _|exact rfl|exact fun _ _ _=>trivial|exact lI|refine And.intro ?_ ?_)
    ·have e:=Cb (f:=fun g:RG=>ue l g.pol) (g:=fun g=>tK l g.st) h hp c1 c2
     have e2:fz2 (fun g:RG=>ue l g.pol) (fun g=>tK l g.st) gs≠0:=by rw [e];exact c2
     rw [if_pos e2,e]
     clear e e2
     dsimp only
     generalize tK l gs[i].st=x at *
     repeat' ((conv=>whnf);first|exact trivial|(refine nv_ (.agg (sD gs[i])) (by first|((simp [h];rfl);done)|fail) ?_)|(refine nv_ (.agg (sA gs[i].pol)) (by first|(exact congrArg T.agg (ug gs[i]);done)|fail) ?_)|(refine nv_ (.agg (sZ gs[i].st)) (by first|(exact congrArg T.agg (wF gs[i]);done)|fail) ?_)|refine rE _ (h1) ?_|refine rE _ (h2) ?_|refine qz c2 ?_|refine aN0 ?_|refine aD1 ?_|refine rix ?_|(refine And.intro (by first|exact ⟨sK _,nlZ rfl⟩|exact sK _|fail) ?_)|refine aS ?_|fail)
   ·have e:=Ca (f:=fun g:RG=>ue l g.pol) (g:=fun g=>tK l g.st) h hp c1
    have e2:fz2 (fun g:RG=>ue l g.pol) (fun g=>tK l g.st) gs≠0:=by rw [e];exact c1
    rw [if_pos e2,e]
    clear e e2
    dsimp only
    generalize ue l gs[i].pol=x at *
    repeat' ((conv=>whnf);first|exact trivial|(refine nv_ (.agg (sD gs[i])) (by first|((simp [h];rfl);done)|fail) ?_)|(refine nv_ (.agg (sA gs[i].pol)) (by first|(exact congrArg T.agg (ug gs[i]);done)|fail) ?_)|refine rE _ (h1) ?_|refine qz c1 ?_|refine aD1 ?_|refine rix ?_|(refine And.intro (by first|exact ⟨sK _,nlZ rfl⟩|exact sK _|fail) ?_)|refine aS ?_|fail)
  ·have e:=zY (f:=fun g:RG=>ue l g.pol) (g:=fun g=>tK l g.st) (xs:=gs) fun j hj=>hp j hj (by omega)
   repeat' ((conv=>whnf);first|(exact ⟨(),e,by (repeat' (first|exact trivial|exact LeV.same _|exact rfl|exact fun _ _ _=>trivial|refine And.intro ?_ ?_));done⟩)|refine aD0 ?_|refine aS ?_|fail)
 ·rintro _ hz
  have hk:=zt hz
  rw [if_neg (by simpa using hz)]
  have hv:=yH l hl gs hgl fun g hgm=>⟨(hg g hgm).st.mono (by omega),wm (hk g hgm).2⟩
  cases hq:tI l gs with
  |none=>
   rw [hq] at hv
   have hv:DCalls Tryz.prog 96 [fds l,.slice 15 (gs.map sE)] (.tup [.nilmap,.bool false]):=hv
   repeat' ((conv=>whnf);first|exact trivial|refine rE _ (hv) ?_|refine rix ?_|fail)
  |some st=>
   rw [hq] at hv
   have hv:DCalls Tryz.prog 96 [fds l,.slice 15 (gs.map sE)] (.tup [.mapd false [.str] (st.all.map fun v=>.str v.name) (st.all.map sI),.bool true]):=hv
   repeat' ((conv=>whnf);first|exact trivial|refine rE _ (hv) ?_|refine rix ?_|fail)
end Go.TY
end
noncomputable section
namespace Go.TY
open Go Go.DL Go.Proofs
def KM:aY:=(.seq (.region [oo 2 (.mov (.const .nil))] []) (.seq (.region [mv 3 0,oo 4 (.inl 156 [(.const .nil),(tm 3)]),mv 2 4] []) .ret))
theorem GU:(Tryz.f131.body.bind (bD Tryz.prog 5 [156]))=some KM:=by kernel_rfl
def c87:aY:=(.seq (.region [oo 2 (.mov (.const .nil))] []) (.seq (.region [mv 4 0,oo 5 (.inl 131 [tm 4]),mv 3 5] []) (.seq (.region [mv 6 3,oo 7 (.inl 132 [tm 6])] []) (.seq (.region [mv 8 3,mv 2 8] []) .ret))))
theorem l87:(Tryz.f87.body.bind (bD Tryz.prog 9 [131,132]))=some c87:=by kernel_rfl
def c88:aY:=(.seq (.region [oo 1 (.box 1 (tm 0)),oo 2 (.mov (.const .nilfn))] []) (.seq (.region [oo 3 (.mkfn 133 [tm 1]),mv 2 3] []) .ret))
theorem l88:(Tryz.f88.body.bind (bD Tryz.prog 4 []))=some c88:=by kernel_rfl
def c97:aY:=(.seq (.region [oo 1 (.box 1 (tm 0)),oo 2 (.mov (.const .nilfn))] []) (.seq (.region [oo 3 (.mkfn 138 [tm 1]),mv 2 3] []) .ret))
theorem l97:(Tryz.f97.body.bind (bD Tryz.prog 4 []))=some c97:=by kernel_rfl
def KN:aY:=(.seq (.region [oo 2 (.mov (.const .nil))] []) (.seq (.region [mv 3 0,oo 4 (.inl 159 [(.const .nil),(tm 3)]),mv 2 4] []) .ret))
theorem LS:(Tryz.f134.body.bind (bD Tryz.prog 5 [159]))=some KN:=by kernel_rfl
def c91:aY:=(.seq (.region [oo 2 (.mov (.const .nil))] []) (.seq (.region [mv 4 0,oo 5 (.inl 134 [tm 4]),mv 3 5] []) (.seq (.region [mv 6 3,oo 7 (.inl 135 [tm 6])] []) (.seq (.region [mv 8 3,mv 2 8] []) .ret))))
theorem l91:(Tryz.f91.body.bind (bD Tryz.prog 9 [134,135]))=some c91:=by kernel_rfl
def c92:aY:=(.seq (.region [oo 1 (.box 1 (tm 0)),oo 2 (.mov (.const .nilfn))] []) (.seq (.region [oo 3 (.mkfn 136 [tm 1]),mv 2 3] []) .ret))
theorem l92:(Tryz.f92.body.bind (bD Tryz.prog 4 []))=some c92:=by kernel_rfl
def GB:aY:=(.seq (.region [ld 4 1,oo 5 (.mrng (tm 4))] []) (.block 0 (.loop (.seq (.region [oo 6 (.mnext (tm 5)),oo 7 (.ext (tm 6) 0)] []) (.seq (.cond (tm 7) .skip (.exit 0)) (.block 1 (.seq (.region [oo 8 (.ment (tm 5)),oo 9 (.ext (tm 8) 0),mv 3 9] []) (.seq (.sem 14 (rg0 3 Tryz.f133.body)) (.cond (tm 13) .ret .skip)))))))))
theorem LR:(Tryz.f133.body.bind (bD Tryz.prog 14 [1000003]))=some GB:=by kernel_rfl
def GD:aY:=(.seq (.region [ld 4 1,oo 5 (.mrng (tm 4))] []) (.block 0 (.loop (.seq (.region [oo 6 (.mnext (tm 5)),oo 7 (.ext (tm 6) 0)] []) (.seq (.cond (tm 7) .skip (.exit 0)) (.block 1 (.seq (.region [oo 8 (.ment (tm 5)),oo 9 (.ext (tm 8) 0),mv 3 9] []) (.seq (.sem 14 (rg0 3 Tryz.f138.body)) (.cond (tm 13) .ret .skip)))))))))
theorem LW:(Tryz.f138.body.bind (bD Tryz.prog 14 [1000003]))=some GD:=by kernel_rfl
def GC:aY:=(.seq (.region [ld 4 1,oo 5 (.mrng (tm 4))] []) (.block 0 (.loop (.seq (.region [oo 6 (.mnext (tm 5)),oo 7 (.ext (tm 6) 0)] []) (.seq (.cond (tm 7) .skip (.exit 0)) (.block 1 (.seq (.region [oo 8 (.ment (tm 5)),oo 9 (.ext (tm 8) 0),mv 3 9] []) (.seq (.sem 14 (rg0 3 Tryz.f136.body)) (.cond (tm 13) .ret .skip)))))))))
theorem LU:(Tryz.f136.body.bind (bD Tryz.prog 14 [1000003]))=some GC:=by kernel_rfl
end Go.TY
end
section
namespace Go.Proofs
open Go.Shelf
def Tryz.Bp:Go.Shelf.Ren:=⟨fun|190=>132|125=>158|258=>157|128=>179|129=>180|302=>170|303=>171|304=>172|305=>173|306=>174|307=>175|308=>176|309=>177|310=>178|333=>200|329=>201|330=>202|334=>203|335=>204|336=>205|344=>215|n=>n,fun|31=>29|9=>9|3=>3|46=>156|0=>0|51=>172|53=>174|4=>4|183=>164|182=>163|131=>169|5=>5|218=>188|222=>192|228=>198|229=>199|n=>n,fun|n=>n⟩
theorem Tryz.BD:Go.Proofs.Lays.n190 Tryz.prog Tryz.Bp:={
 mixed:=by kernel_rfl
 f125:=Tryz.func158.trans (congrArg some (by kernel_rfl))
 f128:=Tryz.func179.trans (congrArg some (by kernel_rfl))
 f129:=Tryz.func180.trans (congrArg some (by kernel_rfl))
 f190:=Tryz.func132.trans (congrArg some (by kernel_rfl))
 f258:=Tryz.func157.trans (congrArg some (by kernel_rfl))
 f302:=Tryz.func170.trans (congrArg some (by kernel_rfl))
 f303:=Tryz.func171.trans (congrArg some (by kernel_rfl))
 f304:=Tryz.func172.trans (congrArg some (by kernel_rfl))
 f305:=Tryz.func173.trans (congrArg some (by kernel_rfl))
 f306:=Tryz.func174.trans (congrArg some (by kernel_rfl))
 f307:=Tryz.func175.trans (congrArg some (by kernel_rfl))
 f308:=Tryz.func176.trans (congrArg some (by kernel_rfl))
 f309:=Tryz.func177.trans (congrArg some (by kernel_rfl))
 f310:=Tryz.func178.trans (congrArg some (by kernel_rfl))
 f329:=Tryz.func201.trans (congrArg some (by kernel_rfl))
 f330:=Tryz.func202.trans (congrArg some (by kernel_rfl))
 f333:=Tryz.func200.trans (congrArg some (by kernel_rfl))
 f334:=Tryz.func203.trans (congrArg some (by kernel_rfl))
 f335:=Tryz.func204.trans (congrArg some (by kernel_rfl))
 f336:=Tryz.func205.trans (congrArg some (by kernel_rfl))
 f344:=Tryz.func215.trans (congrArg some (by kernel_rfl))
 t0:=Tryz.underlying0
 a0:=Tryz.isAgg0
 z0:=Tryz.sizeOf0
 v0:=Tryz.zeroValue0
 t3:=Tryz.underlying3
 a3:=Tryz.isAgg3
 z3:=Tryz.sizeOf3
 v3:=Tryz.zeroValue3
 t4:=Tryz.underlying4
 a4:=Tryz.isAgg4
 z4:=Tryz.sizeOf4
 v4:=Tryz.zeroValue4
 t5:=Tryz.underlying5
 a5:=Tryz.isAgg5
 z5:=Tryz.sizeOf5
 v5:=Tryz.zeroValue5
 t9:=Tryz.underlying9
 a9:=Tryz.isAgg9
 z9:=Tryz.sizeOf9
 v9:=Tryz.zeroValue9
 t31:=Tryz.underlying29
 a31:=Tryz.isAgg29
 z31:=Tryz.sizeOf29
 v31:=Tryz.zeroValue29
 t46:=Tryz.underlying156
 a46:=Tryz.isAgg156
 z46:=Tryz.sizeOf156
 v46:=Tryz.zeroValue156
 t51:=Tryz.underlying172
 a51:=Tryz.isAgg172
 z51:=Tryz.sizeOf172
 v51:=Tryz.zeroValue172
 t53:=Tryz.underlying174
 a53:=Tryz.isAgg174
 z53:=Tryz.sizeOf174
 v53:=Tryz.zeroValue174
 t131:=Tryz.underlying169
 a131:=Tryz.isAgg169
 z131:=Tryz.sizeOf169
 v131:=Tryz.zeroValue169
 t182:=Tryz.underlying163
 a182:=Tryz.isAgg163
 z182:=Tryz.sizeOf163
 v182:=Tryz.zeroValue163
 t183:=Tryz.underlying164
 a183:=Tryz.isAgg164
 z183:=Tryz.sizeOf164
 v183:=Tryz.zeroValue164
 t218:=Tryz.underlying188
 a218:=Tryz.isAgg188
 z218:=Tryz.sizeOf188
 v218:=Tryz.zeroValue188
 t222:=Tryz.underlying192
 a222:=Tryz.isAgg192
 z222:=Tryz.sizeOf192
 v222:=Tryz.zeroValue192
 t228:=Tryz.underlying198
 a228:=Tryz.isAgg198
 z228:=Tryz.sizeOf198
 v228:=Tryz.zeroValue198
 t229:=Tryz.underlying199
 a229:=Tryz.isAgg199
 z229:=Tryz.sizeOf199
 v229:=Tryz.zeroValue199 }
def Tryz.Bo:Go.Shelf.Ren:=⟨fun|189=>135|125=>158|257=>160|128=>179|129=>180|294=>181|295=>182|296=>183|297=>184|298=>185|299=>186|216=>187|300=>188|301=>189|328=>206|329=>201|330=>202|331=>207|332=>208|215=>209|343=>216|n=>n,fun|28=>46|3=>3|46=>156|0=>0|51=>172|53=>174|4=>4|183=>164|182=>163|131=>169|5=>5|9=>9|218=>188|222=>192|228=>198|229=>199|n=>n,fun|n=>n⟩
theorem Tryz.Gc:Go.Proofs.Lays.n189 Tryz.prog Tryz.Bo:={
 mixed:=by kernel_rfl
 f125:=Tryz.func158.trans (congrArg some (by kernel_rfl))
 f128:=Tryz.func179.trans (congrArg some (by kernel_rfl))
 f129:=Tryz.func180.trans (congrArg some (by kernel_rfl))
 f189:=Tryz.func135.trans (congrArg some (by kernel_rfl))
 f215:=Tryz.func209.trans (congrArg some (by kernel_rfl))
 f216:=Tryz.func187.trans (congrArg some (by kernel_rfl))
 f257:=Tryz.func160.trans (congrArg some (by kernel_rfl))
 f294:=Tryz.func181.trans (congrArg some (by kernel_rfl))
 f295:=Tryz.func182.trans (congrArg some (by kernel_rfl))
 f296:=Tryz.func183.trans (congrArg some (by kernel_rfl))
 f297:=Tryz.func184.trans (congrArg some (by kernel_rfl))
 f298:=Tryz.func185.trans (congrArg some (by kernel_rfl))
 f299:=Tryz.func186.trans (congrArg some (by kernel_rfl))
 f300:=Tryz.func188.trans (congrArg some (by kernel_rfl))
 f301:=Tryz.func189.trans (congrArg some (by kernel_rfl))
 f328:=Tryz.func206.trans (congrArg some (by kernel_rfl))
 f329:=Tryz.func201.trans (congrArg some (by kernel_rfl))
 f330:=Tryz.func202.trans (congrArg some (by kernel_rfl))
 f331:=Tryz.func207.trans (congrArg some (by kernel_rfl))
 f332:=Tryz.func208.trans (congrArg some (by kernel_rfl))
 f343:=Tryz.func216.trans (congrArg some (by kernel_rfl))
 t0:=Tryz.underlying0
 a0:=Tryz.isAgg0
 z0:=Tryz.sizeOf0
 v0:=Tryz.zeroValue0
 t3:=Tryz.underlying3
 a3:=Tryz.isAgg3
 z3:=Tryz.sizeOf3
 v3:=Tryz.zeroValue3
 t4:=Tryz.underlying4
 a4:=Tryz.isAgg4
 z4:=Tryz.sizeOf4
 v4:=Tryz.zeroValue4
 t5:=Tryz.underlying5
 a5:=Tryz.isAgg5
 z5:=Tryz.sizeOf5
 v5:=Tryz.zeroValue5
 t9:=Tryz.underlying9
 a9:=Tryz.isAgg9
 z9:=Tryz.sizeOf9
 v9:=Tryz.zeroValue9
 t28:=Tryz.underlying46
 a28:=Tryz.isAgg46
 z28:=Tryz.sizeOf46
 v28:=Tryz.zeroValue46
 t46:=Tryz.underlying156
 a46:=Tryz.isAgg156
 z46:=Tryz.sizeOf156
 v46:=Tryz.zeroValue156
 t51:=Tryz.underlying172
 a51:=Tryz.isAgg172
 z51:=Tryz.sizeOf172
 v51:=Tryz.zeroValue172
 t53:=Tryz.underlying174
 a53:=Tryz.isAgg174
 z53:=Tryz.sizeOf174
 v53:=Tryz.zeroValue174
 t131:=Tryz.underlying169
 a131:=Tryz.isAgg169
 z131:=Tryz.sizeOf169
 v131:=Tryz.zeroValue169
 t182:=Tryz.underlying163
 a182:=Tryz.isAgg163
 z182:=Tryz.sizeOf163
 v182:=Tryz.zeroValue163
 t183:=Tryz.underlying164
 a183:=Tryz.isAgg164
 z183:=Tryz.sizeOf164
 v183:=Tryz.zeroValue164
 t218:=Tryz.underlying188
 a218:=Tryz.isAgg188
 z218:=Tryz.sizeOf188
 v218:=Tryz.zeroValue188
 t222:=Tryz.underlying192
 a222:=Tryz.isAgg192
 z222:=Tryz.sizeOf192
 v222:=Tryz.zeroValue192
 t228:=Tryz.underlying198
 a228:=Tryz.isAgg198
 z228:=Tryz.sizeOf198
 v228:=Tryz.zeroValue198
 t229:=Tryz.underlying199
 a229:=Tryz.isAgg199
 z229:=Tryz.sizeOf199
 v229:=Tryz.zeroValue199 }
end Go.Proofs
end
noncomputable section
namespace Go.TY
open Go Go.DL Go.MM Go.Proofs
abbrev env:ByteArray→T:=T.str
abbrev mpv (ks:List ByteArray) (vs:List T):T:=.mapd false [.str] (ks.map env) vs
def tH (id:Nat) (c:Option Code):Array Oper:=match rg0 id c with
 |.region _ ops _=>ops
 |_=> #[]
abbrev fAv:Option Code:=Tryz.f156.body
abbrev fKv:Option Code:=Tryz.f138.body
theorem bAv:fAv=some (.seq (.region 0 (tH 0 fAv) false) (.seq (.seq (.region 1 (tH 1 fAv) false)
  (.block 0 (.rangeFunc (.tmp 6) #[7] (.region 2 (tH 2 fAv) false) (.block 1 (.region 3 (tH 3 fAv) false))))) (.seq (.region 4 (tH 4 fAv) false) .ret))):=by kernel_rfl
abbrev I0:List DI:=[⟨some 5,.mov (.tmp 7),none,[]⟩]
abbrev I3:List DI:=[⟨some 8,.load 1 false (.tmp 2),none,[]⟩,⟨some 9,.mov (.tmp 5),none,[]⟩,⟨some 10,.buildS 9 1 1 [.str ⟨#[]⟩] [(0,.tmp 9)],none,[1]⟩,
 ⟨some 11,.append 29 9 1 16 (.tmp 8) (.tmp 10),none,[0,2]⟩,⟨none,.store 1 (.tmp 2) (.tmp 11),none,[3,3,0,1,2,3]⟩]
theorem Ir:bX Tryz.prog 13 [] (tH 0 fAv) (tH 0 fAv).toList=some [⟨some 2,.box 1 (.tmp 0),none,[]⟩,⟨some 4,.mov (.const .nil),none,[]⟩]:=by kernel_rfl
theorem Iv:bX Tryz.prog 13 [] (tH 1 fAv) (tH 1 fAv).toList=some [⟨some 6,.mov (.tmp 1),none,[]⟩]:=by kernel_rfl
theorem Iy:bX Tryz.prog 13 [] (tH 2 fAv) (tH 2 fAv).toList=some I0:=by kernel_rfl
theorem IB:bX Tryz.prog 13 [] (tH 3 fAv) (tH 3 fAv).toList=some I3:=by kernel_rfl
theorem IE:bX Tryz.prog 13 [] (tH 4 fAv) (tH 4 fAv).toList=some [⟨some 12,.load 1 false (.tmp 2),none,[]⟩,⟨some 4,.mov (.tmp 12),none,[0,0]⟩]:=by kernel_rfl
abbrev yKv:Array Oper:=tH 3 fKv
theorem bKv:rg0 3 fKv= .region 3 yKv false:=by kernel_rfl
theorem II:dW Tryz.prog 14 yKv [0,1]=some [⟨some 10,.mov (.tmp 0),none,[]⟩,⟨some 11,.mov (.tmp 3),none,[]⟩]:=by kernel_rfl
theorem IL:dW Tryz.prog 14 yKv [3]=some [⟨some 13,.not (.tmp 12),none,[2]⟩]:=by kernel_rfl
theorem IQ: ∃o ats,yKv[2]? =some o∧o.guard=none∧o.op= .call {callee:=.value (.tmp 10),args:= #[.tmp 11],argTypes:=ats }∧o.dst=some 12:=by
 refine ⟨((tH 3 fKv)[2]?).getD default,(match (((tH 3 fKv)[2]?).getD default).op with|.call c=>c.argTypes|_=> #[]),by kernel_rfl,by kernel_rfl,by kernel_rfl,by kernel_rfl⟩
abbrev GR (l d:Nat) (f:FuncId) (tmps:Array Value):aa→World→Prop:=nr l (cW f tmps 7 (.region 2 (tH 2 fAv) false) (.block 1 (.region 3 (tH 3 fAv) false)) d)
abbrev WKv (l:Nat) (C:aa→World→Prop) (ks:List ByteArray) (vs:List T) (ix:List Nat):Wk:=
 {sl:=[(0,.raw (.func (.yield l) #[] #[])),(5,.ptr 2005 0)],bx:=[(2,.v [.own 3011 9 1 (zx env e0 ks ix)]),(2005,.itd (esK env ks vs) ix)],gh:=[(0,[(2,.ptr 2 0)])],off:=2000,cx:=C }
theorem GH (l d:Nat) (f:FuncId) (tmps:Array Value) (ht:tmps.size=13) (ks:List ByteArray) (vs:List T) (hvs:vs.length=ks.length) (hl:ks.length<2^40) (st0:St)
  (h0:st0=({sl:=[(2,.ptr 2 0),(6,.fn 138 [.t (.cptr [mpv ks vs] 0)])],bx:=[(2,.v [.own 3011 9 1 []])]}:Wk).mk'):
  wpC Tryz.prog GD (st0.iter l (cW f tmps 7 (.region 2 (tH 2 fAv) false) (.block 1 (.region 3 (tH 3 fAv) false)) d) [.t (.cptr [mpv ks vs] 0)] 2000)
   (qK st0 fun st=>st.sl 2= .ptr 2 0∧(∃ xs,ud env e0 ks xs∧st.bx 2=some (.v [.own 3011 9 1 xs]))∧ ∀S w,st.cx S w):=by
 subst h0
 have hes:(esK env ks vs).length=ks.length:=by simp [hvs]
 repeat' ((conv=>whnf);first|refine nT_ ?_|refine aS ?_|fail)
 refine qZ 0 (α:=List Nat) (β:=List Nat) (fun ix=>WKv l (GR l d f tmps) ks vs ix) (fun ix=>ix.Nodup∧ ∀j∈ix,j<ks.length) (fun ix=>ks.length - ix.length)
  (fun ix=>WKv l (GR l d f tmps) ks vs ix) (fun ix=>ix.Perm (List.range ks.length)) [] ⟨List.nodup_nil,by simp⟩ ?_ ?_ ?_
 ·exact ⟨⟨.same _,.same _,trivial⟩,⟨.same _,.same _,trivial⟩,⟨⟨.same _,trivial⟩,trivial⟩,rfl,fun _ _ h=>h,rfl⟩
 ·rintro ix ⟨hnd,hix⟩
  refine And.intro (fun j hj=>by rw [hes];exact hix j hj) (And.intro ?_ ?_)
  ·intro j e he hj
   obtain ⟨he1,hjl⟩:=zr (d:=e0) he
   have hent:=yI _ ix j e he
   have hje:(ix++[j]).getLast?.getD 0<(esK env ks vs).length:=by rw [List.getLast?_concat,hes];exact hjl
   obtain ⟨e1,e2⟩:=e
   dsimp only at he1 hent
   subst he1
   have hixl:ix.length≤ks.length:=by
    have:=hnd.length_le_of_subset (l₂:=List.range ks.length) (fun j hj=>List.mem_range.2 (hix j hj))
    simpa using this
   have hnd':(ix++[j]).Nodup:=by
    rw [List.nodup_append]
    exact ⟨hnd,by simp,fun a ha b hb=>by rw [List.mem_singleton.1 hb];exact fun e=>hj (e▸ha)⟩
   have hix': ∀i∈ix++[j],i<ks.length:=fun i hi=>by
    rcases List.mem_append.1 hi with h|h
    ·exact hix i h
    ·rw [List.mem_singleton.1 h];exact hjl
   have hixl':(ix++[j]).length≤ks.length:=by
    have:=hnd'.length_le_of_subset (l₂:=List.range ks.length) (fun j hj=>List.mem_range.2 (hix' j hj))
    simpa using this
   repeat' ((conv=>whnf);first|refine nv_ (.tup [env (ks.getD j e0),e2]) hent ?_|(refine And.intro (by first|exact ⟨by simp,hje⟩|fail) ?_)|fail)
   obtain ⟨o,ats,o1,o2,o3,o4⟩:=IQ
   have hsem: ∀(st:St) (Q:aB→St→Prop),p0 Tryz.prog 14 (.region 3 yKv false) st Q→p0 Tryz.prog 14 (rg0 3 fKv) st Q:=fun st Q h=>by rw [bKv];exact h
   refine hsem _ _ ?_
   refine q0 (P:=Tryz.prog) (k1:=[0,1]) (k:=2) (k2:=[3]) (by kernel_rfl) II rfl IL rfl o1 o2 o3 o4 (by decide) (p:=7) ht (by decide) Iy rfl IB rfl 3000 (l:=l) (fn:=f) (dd:=d) (id1:=2) (id2:=3) (bl:=1) ?_
   refine ⟨fun _ _ h=>h,rfl,?_⟩
   repeat' ((conv=>whnf);first|(refine And.intro (by first|exact fun _ _=>trivial|exact ⟨rfl,nlZ rfl⟩|((simp;omega);done)|exact .inl rfl|fail) ?_)|refine aS ?_|fail)
   refine ⟨ix++[j],⟨hnd',hix'⟩,by rw [List.length_append];simp at hixl' ⊢;omega,?_⟩
   refine ⟨⟨.same _,.same _,trivial⟩,⟨?_,.same _,trivial⟩,⟨⟨.same _,trivial⟩,trivial⟩,rfl,fun _ _ h=>h,rfl⟩
   refine .v _ _ ⟨rX ?_,trivial⟩
   simp [zx]
  ·intro hall
   skip
   refine ⟨ix,xE hnd hix (fun j hj=>hall j (by rw [hes];exact hj)),?_⟩
   exact ⟨⟨.same _,.same _,trivial⟩,⟨.same _,.same _,trivial⟩,⟨⟨.same _,trivial⟩,trivial⟩,rfl,fun _ _ h=>h,rfl⟩
 rintro ix hp
 repeat' ((conv=>whnf);first|refine aS ?_|fail)
 exact ⟨⟨_,⟨ix,hp,rfl⟩,rfl⟩,fun _ _=>trivial⟩
abbrev uP (ks:List ByteArray) (vs:List T):T:=.clos 138 [.cptr [mpv ks vs] 0]
theorem Ah (ks:List ByteArray) (vs:List T) (hvs:vs.length=ks.length) (hl:ks.length<2^40):fK Tryz.prog 156 [.nil,uP ks vs] 9 1 (ud env e0 ks):=by
 refine qm Tryz.func156 bAv rfl (nlZ rfl) ?_
 intro S w a0 hsr hdf
 let K0:St→Prop:=fun st=>aA Tryz.prog [⟨some 6,.mov (.tmp 1),none,[]⟩] st fun st=>
  bP {sl:=[(2,.ptr 2 0),(6,.t (uP ks vs))],bx:=[(2,.d 1 [.nil])]} st
 have hK0:aA Tryz.prog [⟨some 2,.box 1 (.tmp 0),none,[]⟩,⟨some 4,.mov (.const .nil),none,[]⟩] (eU [.nil,uP ks vs]) K0:=by
  repeat' ((conv=>whnf);first|refine aS ?_|fail)
  exact ⟨⟨.same _,.same _,trivial⟩,⟨.same _,trivial⟩,trivial,rfl,fun _ _ _=>trivial,rfl⟩
 refine wp_seq (nE (X:=[]) (N:=13) hsr Ir (fun a1 w1 h1=>?_) hK0)
 obtain ⟨E1,s1,rfl,k1,k2,k3⟩:=h1
 refine wp_seq (wp_seq (nE (X:=[]) k1 Iv (fun a2 w2 h2=>?_) k3))
 obtain ⟨E2,s2,rfl,k4,k5,k6⟩:=h2
 obtain ⟨E3,e3,k7⟩:=k4.bP k6
 rw [← e3]
 have k8:=k7.rG (k:=6) (k7.sl 6).rv
 obtain ⟨E4,e4,k10⟩:=SR.bP (a:=a2) (s:={sl:=[(2,.ptr 2 0),(6,.fn 138 [.t (.cptr [mpv ks vs] 0)])],bx:=[(2,.v [.own 3011 9 1 []])]}) k8 ⟨⟨.same _,.same _,trivial⟩,⟨.dv _ _ _ ⟨.nil _ _ _,trivial⟩,trivial⟩,trivial,rfl,fun _ _ _=>trivial,rfl⟩
 rw [← e4]
 refine wp_block ?_
 refine rh mixed k10 (fun _ _=>trivial) (y:=.tmp 6) rfl (gf:=138) (caps:=[.t (.cptr [mpv ks vs] 0)]) rfl Tryz.func138 LW rfl rfl rfl (nlZ rfl) 2000
  (K:=fun st=>st.sl 2= .ptr 2 0∧(∃ xs,ud env e0 ks xs∧st.bx 2=some (.v [.own 3011 9 1 xs]))∧ ∀S w,st.cx S w) (fun l d f tmps ht=>?_) (fun a5 w5 h5=>?_)
 ·exact GH l d f tmps ht ks vs hvs hl _ rfl
 ·obtain ⟨S0',E5,s5,D,rfl,q1,q2,q3,q4,q5,q6,r1,⟨xs,hxs,r2⟩,r3⟩:=h5
  have q6':a5.defers=[{target:=.collected D,args:= #[]}]:=by rw [q6,k5,k2,hdf]
  show Code.wp _ _ _ _ _
  refine wp_seq (nE (X:=[]) q1 IE (K:=fun st=>(∀ S w,st.cx S w)∧st.sl 4= .own 3011 9 1 xs) (fun a6 w6 h6=>?_) ?_)
  ·obtain ⟨E6,s6,rfl,p1,p2,p3,p4⟩:=h6
   obtain ⟨js,hjs,rfl⟩:=hxs
   refine wp_ret ⟨.inr rfl,S0',E6,s6,D,rfl,p1,q2,q3,q4,q5,by rw [p2,q6'],p3,_,_,⟨js,hjs,rfl⟩,uW (fun _=>rfl) (fun _=>rfl) js ks,?_,.inl ⟨3011,rfl⟩⟩
   have:dP s6 Tryz.f156.results.toList=some [s6.sl 4]:=by
    rw [show Tryz.f156.results.toList=[.tmp 4] from rfl];rfl
   rw [this,p4]
  ·obtain ⟨sl5,bx5,gh5,off5,cx5⟩:=s5
   dsimp only at r1 r2 r3
   obtain ⟨g,rfl⟩: ∃g,sl5=upd g 2 (.ptr 2 0):=⟨sl5,(uv r1).symm⟩
   obtain ⟨b,rfl⟩: ∃b,bx5=upd b 2 (some (.v [.own 3011 9 1 xs])):=⟨bx5,(uv r2).symm⟩
   exact ⟨r3,rfl⟩
theorem B6 (ks:List ByteArray) (vs:List T) (hvs:vs.length=ks.length) (hl:ks.length<2^40):fK Tryz.prog 131 [uP ks vs] 9 1 (ud env e0 ks):=by
 refine qG (rs:=[.tmp 2]) mixed Tryz.func131 GU rfl rfl rfl (nlZ rfl) ?_
 repeat' ((conv=>whnf);first|refine ru (ts:=[.nil,uP ks vs]) rfl (Ah ks vs hvs hl) (fun xs hx=>?_)|fail)
 obtain ⟨js,hjs,rfl⟩:=hx
 exact ⟨_,_,⟨js,hjs,rfl⟩,uW (fun _=>rfl) (fun _=>rfl) js ks,rfl,.inl ⟨_,rfl⟩⟩
theorem Ek:iz Tryz.prog 132 encStr (fun x y:List UInt8=>decide (x≤y)):=iz.str Tryz.BD rfl (bQ Tryz.func132 rfl rfl)
theorem Dq (ks:List ByteArray) (vs:List T) (hvs:vs.length=ks.length) (hl:ks.length<2^40) (hn:ks.Nodup):kI Tryz.prog 87 [uP ks vs] (.slice 1 ((vg ks).map env)):=by
 refine qS (rs:=[.tmp 2]) mixed Tryz.func87 l87 rfl rfl rfl (nlZ rfl) ?_
 repeat' ((conv=>whnf);first|refine rf (ts:=[uP ks vs]) rfl (B6 ks vs hvs hl) rfl (fun h0=>?_) (fun xs hx hc=>?_)|fail)
 ·obtain ⟨zs,hp,h0⟩:=uY h0
  have:zs=[]:=by
   cases zs with
   |nil=>rfl
   |cons z zs=>cases h0
  subst this
  have:ks=[]:=List.nil_perm.1 hp
  subst this
  repeat' ((conv=>whnf);first|refine qc Ek ?_|fail)
  exact ⟨.t .nil,rfl,.nil 1⟩
 ·obtain ⟨zs,hp,rfl⟩:=uY hx
  have hzl:zs.length<2^40:=by rw [hp.length_eq];exact hl
  have hfl:=zU (enc:=env) (fun _=>rfl) zs
  have hle:(zs.map env).length=zs.length:=List.length_map _
  have hsl:(vg ks).length=zs.length:=by
   have e:=congrArg List.length (yo hn hp)
   simp only [List.length_map,List.length_mergeSort] at e
   omega
  repeat' ((conv=>whnf);first|(refine re (n:=5) (off:=0) (len:=(zs.map env).length) (m:=(zs.map env).length * 1) (ts:=(zs.map env).flatMap T.cells) (encT:=wP) Ek rfl (zs.map ByteArray.toList) ?_ ?_ (by omega) (fun a S w v h=>by cases h;rfl) (fun a S w=>.str _) (fun _=>rfl) ?_)|fail)
  ·rw [hfl,List.drop_zero,List.take_of_length_le (by omega)]
   exact (by rw [List.map_map];exact List.map_congr_left fun z _=>(Bz z).symm)
  ·simp
  ·skip
   have e:=yo hn hp
   refine ⟨.view 5 0 (zs.map env).length 1,rfl,.view 5 0 (zs.map env).length 1 ((zs.map env).length * 1) (aN ((zs.map env).flatMap T.cells) 0 (zs.map env).length (((zs.map ByteArray.toList).mergeSort (fun x y:List UInt8=>decide (x≤y))).map wP)) _ [5] rfl ?_ ?_⟩
   ·rw [u7 (by rw [hfl]),e]
    intro t ht
    obtain ⟨z,_,rfl⟩:=List.mem_map.1 ht
    rfl
   ·show (cond (Nat.blt 0 1&&Nat.ble (0+(zs.map env).length * 1) ((zs.map env).length * 1)) (some (T.slice 1 (chunk 1 (zs.map env).length ((aN ((zs.map env).flatMap T.cells) 0 (zs.map env).length (((zs.map ByteArray.toList).mergeSort (fun x y:List UInt8=>decide (x≤y))).map wP)).drop 0)),[5])) none)=_
    rw [u7 (by rw [hfl]),e,Nat.zero_add,List.drop_zero,x7 _ _ (by rw [List.length_map];omega)]
    have:Nat.ble ((zs.map env).length * 1) ((zs.map env).length * 1)=true:=Nat.ble_eq_true_of_le (Nat.le_refl _)
    rw [this]
    rfl
theorem Gu (ks:List ByteArray) (vs:List T):DCalls Tryz.prog 97 [mpv ks vs] (uP ks vs):=by
 refine qO (rs:=[.tmp 2]) mixed Tryz.func97 l97 rfl rfl rfl (r:=[uP ks vs]) (nlZ rfl) ?_
 repeat' ((conv=>whnf);first|exact trivial|refine aS ?_|fail)
end Go.TY
end
section
namespace Go.TY
open Go Go.DL Go.MM Go.Proofs
theorem Eu {l:List Fd} {gs:List RG} {st:VS} (h:tI l gs=some st):wN l (sH (gs.map (·.st))) st:=by
 unfold tI at h
 have hs:=xI (ts:=sH (gs.map (·.st))) (wN.start (l:=l))
 rw [List.nil_append] at hs
 by_cases hp:PW l (sH (gs.map (·.st)))
 ·obtain ⟨st',h1,h2⟩:=hs.1 hp
  rw [h1] at h
  cases h;exact h2
 ·rw [hs.2 hp] at h;cases h
theorem x6 {l:List Fd} {gs:List RG}:(tI l gs).isNone=true↔ ¬PW l (sH (gs.map (·.st))):=by
 unfold tI
 have hs:=xI (ts:=sH (gs.map (·.st))) (wN.start (l:=l))
 rw [List.nil_append] at hs
 by_cases hp:PW l (sH (gs.map (·.st)))
 ·obtain ⟨st',h1,h2⟩:=hs.1 hp
  rw [h1];simp [hp]
 ·rw [hs.2 hp];simp [hp]
def tO (gs:List RG):List ByteArray:=vg (once [] ((sH (gs.map (·.st))).map (·.var)))
def v0:RV:=⟨e0,0,[],0,0⟩
def tB (l:List Fd) (gs:List RG):List RV:=(tO gs).map fun s=>(tW l (sH (gs.map (·.st))) s).getD v0
theorem Aq {ks:List ByteArray} (_:ks.Nodup) {x:ByteArray}:x∈vg ks↔x∈ks:=by
 unfold vg
 exact wg
theorem BK {α:Type} [DecidableEq α] {lt:α→α→Bool} {x:α}: ∀{l:List α},(put lt l x).length≤l.length+1
 |[]=>by simp [put]
 |y::l=>by
  have ih:=BK (lt:=lt) (x:=x) (l:=l)
  have hf:=List.length_filter_le (fun y'=> !decide (y'=x)) (y::l)
  unfold put
  split
  ·simp only [List.length_cons] at *;omega
  ·simp only [List.length_cons] at *;omega
theorem yA {α:Type} [DecidableEq α] {lt:α→α→Bool}: ∀{l acc:List α},(l.foldl (put lt) acc).length≤acc.length+l.length
 |[],_=>by simp
 |x::l,acc=>by
  have h1:=BK (lt:=lt) (x:=x) (l:=acc)
  have h2:=yA (lt:=lt) (l:=l) (acc:=put lt acc x)
  rw [List.foldl_cons,List.length_cons]
  omega
theorem y8 {α:Type} [DecidableEq α] {lt:α→α→Bool} {l:List α}:(tZ lt l).length≤l.length:=by
 have:=yA (lt:=lt) (l:=l) (acc:=[])
 rw [List.length_nil,Nat.zero_add] at this;exact this
theorem Gd (s:ByteArray) (all:List RV) (v:RV) (h:ta all s=some v):mS zV false (ep (T.str s).cells (esV all))= .agg (sR v):=by
 rw [zw,h];rfl
theorem De {all:List RV} {s:ByteArray} (h:s∈all.map (·.name)): ∃v,ta all s=some v:=by
 unfold ta
 obtain ⟨v,hv,rfl⟩:=List.mem_map.1 h
 cases e:all.find? fun x=>decide (x.name=v.name) with
 |some x=>exact ⟨x,rfl⟩
 |none=>
  have:=List.find?_eq_none.1 e v hv
  simp at this
theorem F8 (all:List RV):(((all.map fun v=>T.str v.name)).zip (all.map sI))=esV all:=by
 unfold esV
 induction all with
 |nil=>rfl
 |cons x xs ih=>simp only [List.map_cons,List.zip_cons_cons,ih]
theorem vO (l:List Fd) (hl:LOk l) (gs:List RG) (hgl:gs.length<2^39) (hg: ∀g∈gs,SmS (2^40) g.st∧0≤g.st.kind∧g.st.kind≤6) (st:VS) (hst:tI l gs=some st):
  DCalls Tryz.prog 39 [fds l,.slice 15 (gs.map sE)] (.slice 5 ((tB l gs).map sI)):=by
 refine qO (rs:=[.tmp 4]) mixed Tryz.func39 l39 rfl rfl rfl (r:=[.slice 5 ((tB l gs).map sI)]) (nlZ rfl) ?_
 have hv:DCalls Tryz.prog 96 [fds l,.slice 15 (gs.map sE)] (.tup [.mapd false [.str] (st.all.map fun v=>.str v.name) (st.all.map sI),.bool true]):=by
  have:=yH l hl gs (by omega) hg
  rw [hst] at this;exact this
 have hi:=Eu hst
 have hnd:(st.all.map (·.name)).Nodup:=by rw [hi.names];exact uk (l:=(sH (gs.map (·.st))).map (·.var)) (acc:=[]) List.nodup_nil
 have hln:(st.all.map (·.name)).length≤gs.length:=by
  rw [hi.names]
  have h1:=vt (l:=(sH (gs.map (·.st))).map (·.var)) (acc:=[])
  have h2:(sH (gs.map (·.st))).length≤gs.length:=by
   unfold sH
   exact Nat.le_trans (List.length_filter_le _ _) (by rw [List.length_map];omega)
  rw [List.length_map,List.length_nil] at h1
  omega
 have hks:=Gu (st.all.map (·.name)) (st.all.map sI)
 have hso:=(Dq (st.all.map (·.name)) (st.all.map sI) (by simp) (by omega) hnd).rD
 have hnm:vg (st.all.map (·.name))=tO gs:=by rw [hi.names];rfl
 have hmem: ∀x∈tO gs, ∃v,ta st.all x=some v:=fun x hx=>by
  rw [← hnm] at hx
  exact De ((Aq hnd).1 hx)
 have hsum:=hi.look
 have hnl:(tO gs).length<2^40:=by
  have:(tO gs).length≤(st.all.map (·.name)).length:=by rw [← hnm];exact y8
  omega
 rw [hnm] at hso
 have e1:mpv (st.all.map (·.name)) (st.all.map sI)= .mapd false [.str] (st.all.map fun v=>.str v.name) (st.all.map sI):=by unfold mpv;rw [List.map_map];rfl
 rw [e1] at hks
 unfold tB
 clear hnm hi hnd hln
 generalize tO gs=ns at *
 generalize sH (gs.map (·.st))=ss at *
 have hz:=F8 st.all
 generalize uP (st.all.map (·.name)) (st.all.map sI)=kc at *
 repeat' ((conv=>whnf);first|refine rE _ (hv) ?_|refine rE _ (hks) ?_|refine rE _ (hso) ?_|fail)
 refine qZ 0 (α:=Nat) (β:=Unit) (fun i=>{sl:=[(5,.t (.mapd false [.str] (st.all.map fun v=>.str v.name) (st.all.map sI))),(7,.own 29 66 5 ((ns.take i).map fun s=>sI ((tW l ss s).getD v0))),(18,.t (.slice 1 (ns.map env))),(19,.t (I ns.length)),(20,.t (I i))],bx:=[]})
  (fun i=>i≤ns.length) (fun i=>ns.length - i) (fun _=>{sl:=[(7,.t (.slice 5 ((ns.map fun s=>(tW l ss s).getD v0).map sI)))],bx:=[]}) (fun _=>True) 0 (by simp) ?_ ?_ ?_
 ·repeat' (first|(exact leI (by simp))|exact trivial|exact LeV.same _|exact rfl|exact fun _ _ _=>trivial|exact LeV.nil _ _ _|refine And.intro ?_ ?_)
 ·rintro i hi
  rcases Nat.lt_or_ge i ns.length with h|h
  ·obtain ⟨v,hv⟩:=hmem ns[i] (List.getElem_mem h)
   have hk:=Gd ns[i] st.all v hv
   rw [← hz] at hk
   have hv2:(tW l ss ns[i]).getD v0=v:=by rw [← hsum,hv];rfl
   have ht:ns.take (i+1)=ns.take i++[ns[i]]:=by rw [List.take_succ_eq_append_getElem h]
   repeat' ((conv=>whnf);first|(refine nv_ (.str ns[i]) (by first|(simp [h];done)|fail) ?_)|(refine nv_ (.agg (sR v)) (by first|exact hk|fail) ?_)|refine nT_ ?_|refine aD1 ?_|(refine And.intro (by first|exact ⟨rfl,trivial⟩|((simp only [List.length_map,List.length_take];omega);done)|fail) ?_)|refine aS ?_|fail)
   refine ⟨i+1,h,by omega,?_⟩
   repeat' (first|(exact rX (by rw [ht,List.map_append];exact congrArg (_++ ·) (congrArg (fun c=>[sI c]) hv2)))|exact trivial|exact LeV.same _|exact rfl|exact fun _ _ _=>trivial|exact lI|refine And.intro ?_ ?_)
  ·have:i=ns.length:=by omega
   subst this
   rw [List.take_length]
   repeat' ((conv=>whnf);first|(exact ⟨(),trivial,by (repeat' (first|(exact Db (by rw [List.map_map];rfl))|exact trivial|exact rfl|exact fun _ _ _=>trivial|refine And.intro ?_ ?_));done⟩)|refine aD0 ?_|refine aS ?_|fail)
 ·rintro _ _
  repeat' ((conv=>whnf);first|exact trivial|refine aS ?_|fail)
end Go.TY
end
noncomputable section
namespace Go.TY
open Go Go.DL Go.Proofs
def c22:aY:=(.seq (.region [oo 4 (.mov kF)] []) (.seq (.seq (.region [mv 6 0,ln 7 6,mv 8 1,ln 9 8,oo 10 (.bin .neq (tm 7) (tm 9))] []) (.cond (tm 10) (.seq (.region [oo 4 (.mov kF)] []) .ret) .skip)) (.seq (.seq (.region [oo 5 (.mov (Kc 0))] []) (.block 0 (.loop (.seq (.seq (.region [mv 11 5,mv 12 0,ln 13 12,oo 14 (.bin .lss (tm 11) (tm 13))] []) (.cond (tm 14) .skip (.exit 0))) (.seq (.block 1 (.seq (.region [mv 17 0,mv 18 5,ix 19 1 17 18,ld 20 19,mv 21 1,mv 22 5,ix 23 1 21 22,ld 24 23,oo 25 (.bin .neq (tm 20) (tm 24))] []) (.cond (tm 25) (.seq (.region [oo 4 (.mov kF)] []) .ret) .skip))) (.region [mv 15 5,oo 16 (.bin .add (tm 15) (Kc 1)),mv 5 16] [])))))) (.seq (.region [oo 4 (.mov kT)] []) .ret))))
theorem l22:(Tryz.f22.body.bind (bD Tryz.prog 26 []))=some c22:=by kernel_rfl
def c27:aY:=(.seq (.region [oo 4 (.mov kF)] []) (.seq (.seq (.region [mv 6 0,ln 7 6,mv 8 1,ln 9 8,oo 10 (.bin .neq (tm 7) (tm 9))] []) (.cond (tm 10) (.seq (.region [oo 4 (.mov kF)] []) .ret) .skip)) (.seq (.seq (.region [oo 5 (.mov (Kc 0))] []) (.block 0 (.loop (.seq (.seq (.region [mv 11 5,mv 12 0,ln 13 12,oo 14 (.bin .lss (tm 11) (tm 13))] []) (.cond (tm 14) .skip (.exit 0))) (.seq (.block 1 (.seq (.region [mv 17 0,mv 18 5,ix 19 1 17 18,ld 20 19,mv 21 1,mv 22 5,ix 23 1 21 22,ld 24 23,oo 25 (.bin .neq (tm 20) (tm 24))] []) (.cond (tm 25) (.seq (.region [oo 4 (.mov kF)] []) .ret) .skip))) (.region [mv 15 5,oo 16 (.bin .add (tm 15) (Kc 1)),mv 5 16] [])))))) (.seq (.region [oo 4 (.mov kT)] []) .ret))))
theorem l27:(Tryz.f27.body.bind (bD Tryz.prog 26 []))=some c27:=by kernel_rfl
def c42:aY:=(.seq (.region [oo 2 (.box 5 (tm 0)),oo 3 (.box 5 (tm 1)),oo 4 (.mov kF)] []) (.seq (.region [fa 6 2 2,ld 7 6,fa 8 2 3,ld 9 8,oo 10 (.call 27 [(tm 7),(tm 9)]),mv 5 10] []) (.seq (.region [mv 11 5,mv 12 11,oT 13 12 (.offA 0 (tm 2)),oT 14 12 (.load 1 false (tm 13)),oT 15 12 (.offA 0 (tm 3)),oT 16 12 (.load 1 false (tm 15)),oT 17 12 (.bin .eql (tm 14) (tm 16)),oo 18 (.pick (tm 12) (tm 17) kF),mv 19 18,oT 20 19 (.offA 1 (tm 2)),oT 21 19 (.load 1 false (tm 20)),oT 22 19 (.offA 1 (tm 3)),oT 23 19 (.load 1 false (tm 22)),oT 24 19 (.bin .eql (tm 21) (tm 23)),oo 25 (.pick (tm 19) (tm 24) kF),mv 26 25,oT 27 26 (.offA 3 (tm 2)),oT 28 26 (.load 1 false (tm 27)),oT 29 26 (.offA 3 (tm 3)),oT 30 26 (.load 1 false (tm 29)),oT 31 26 (.bin .eql (tm 28) (tm 30)),oo 32 (.pick (tm 26) (tm 31) kF),mv 33 32,oT 34 33 (.offA 4 (tm 2)),oT 35 33 (.load 1 false (tm 34)),oT 36 33 (.offA 4 (tm 3)),oT 37 33 (.load 1 false (tm 36)),oT 38 33 (.bin .eql (tm 35) (tm 37)),oo 39 (.pick (tm 33) (tm 38) kF),mv 4 39] []) .ret)))
theorem l42:(Tryz.f42.body.bind (bD Tryz.prog 40 []))=some c42:=by kernel_rfl
def c45:aY:=(.seq (.region [oo 4 (.mov kF)] []) (.seq (.seq (.region [mv 7 0,ln 8 7,mv 9 1,ln 10 9,oo 11 (.bin .neq (tm 8) (tm 10))] []) (.cond (tm 11) (.seq (.region [oo 4 (.mov kF)] []) .ret) .skip)) (.seq (.seq (.region [oo 5 (.mov (Kc 0))] []) (.block 0 (.loop (.seq (.seq (.region [mv 12 5,mv 13 0,ln 14 13,oo 15 (.bin .lss (tm 12) (tm 14))] []) (.cond (tm 15) .skip (.exit 0))) (.seq (.block 1 (.seq (.region [mv 18 0,mv 19 5,ix 20 5 18 19,lA 21 5 20,mv 22 1,mv 23 5,ix 24 5 22 23,lA 25 5 24,oo 26 (.call 42 [(tm 21),(tm 25)]),mv 6 26] []) (.seq (.region [mv 27 6,oo 28 (.not (tm 27))] []) (.cond (tm 28) (.seq (.region [oo 4 (.mov kF)] []) .ret) .skip)))) (.region [mv 16 5,oo 17 (.bin .add (tm 16) (Kc 1)),mv 5 17] [])))))) (.seq (.region [oo 4 (.mov kT)] []) .ret))))
theorem l45:(Tryz.f45.body.bind (bD Tryz.prog 29 []))=some c45:=by kernel_rfl
def c51:aY:=(.seq (.region [oo 2 (.box 5 (tm 0)),oo 3 (.box 5 (tm 1)),oo 4 (.mov kF)] []) (.seq (.seq (.region [fa 7 0 2,ld 8 7,fa 9 0 3,ld 10 9,oo 11 (.bin .neq (tm 8) (tm 10)),mv 12 11,oF 13 12 (.offA 1 (tm 2)),oF 14 12 (.load 1 false (tm 13)),oF 15 12 (.offA 1 (tm 3)),oF 16 12 (.load 1 false (tm 15)),oF 17 12 (.bin .neq (tm 14) (tm 16)),oo 18 (.pick (tm 12) kT (tm 17)),mv 19 18,oF 20 19 (.offA 2 (tm 2)),oF 21 19 (.load 1 false (tm 20)),oF 22 19 (.offA 2 (tm 3)),oF 23 19 (.load 1 false (tm 22)),oF 24 19 (.bin .neq (tm 21) (tm 23)),oo 25 (.pick (tm 19) kT (tm 24)),mv 26 25,oF 27 26 (.offA 3 (tm 2)),oF 28 26 (.load 1 false (tm 27)),oF 29 26 (.offA 3 (tm 3)),oF 30 26 (.load 1 false (tm 29)),oF 31 26 (.bin .neq (tm 28) (tm 30)),oo 32 (.pick (tm 26) kT (tm 31)),mv 33 32,oF 34 33 (.offA 4 (tm 2)),oF 35 33 (.load 1 false (tm 34)),oF 36 33 (.len (tm 35)),oF 37 33 (.offA 4 (tm 3)),oF 38 33 (.load 1 false (tm 37)),oF 39 33 (.len (tm 38)),oF 40 33 (.bin .neq (tm 36) (tm 39)),oo 41 (.pick (tm 33) kT (tm 40))] []) (.cond (tm 41) (.seq (.region [oo 4 (.mov kF)] []) .ret) .skip)) (.seq (.seq (.region [oo 5 (.mov (Kc 0))] []) (.block 0 (.loop (.seq (.seq (.region [mv 42 5,fa 43 4 2,ld 44 43,ln 45 44,oo 46 (.bin .lss (tm 42) (tm 45))] []) (.cond (tm 46) .skip (.exit 0))) (.seq (.block 1 (.seq (.region [fa 49 4 2,ld 50 49,mv 51 5,ix 52 5 50 51,lA 53 5 52,fa 54 4 3,ld 55 54,mv 56 5,ix 57 5 55 56,lA 58 5 57,oo 59 (.call 51 [(tm 53),(tm 58)]),mv 6 59] []) (.seq (.region [mv 60 6,oo 61 (.not (tm 60))] []) (.cond (tm 61) (.seq (.region [oo 4 (.mov kF)] []) .ret) .skip)))) (.region [mv 47 5,oo 48 (.bin .add (tm 47) (Kc 1)),mv 5 48] [])))))) (.seq (.region [oo 4 (.mov kT)] []) .ret))))
theorem l51:(Tryz.f51.body.bind (bD Tryz.prog 62 []))=some c51:=by kernel_rfl
def c48:aY:=(.seq (.region [oo 2 (.box 9 (tm 0)),oo 3 (.box 9 (tm 1)),oo 4 (.mov kF)] []) (.seq (.region [fa 8 1 2,lA 9 5 8,fa 10 1 3,lA 11 5 10,oo 12 (.call 51 [(tm 9),(tm 11)]),mv 5 12] []) (.seq (.seq (.region [mv 13 5,oo 14 (.not (tm 13)),mv 15 14,oF 16 15 (.offA 0 (tm 2)),oF 17 15 (.load 1 false (tm 16)),oF 18 15 (.offA 0 (tm 3)),oF 19 15 (.load 1 false (tm 18)),oF 20 15 (.bin .neq (tm 17) (tm 19)),oo 21 (.pick (tm 15) kT (tm 20)),mv 22 21,oF 23 22 (.offA 6 (tm 2)),oF 24 22 (.load 1 false (tm 23)),oF 25 22 (.offA 6 (tm 3)),oF 26 22 (.load 1 false (tm 25)),oF 27 22 (.bin .neq (tm 24) (tm 26)),oo 28 (.pick (tm 22) kT (tm 27)),mv 29 28,oF 30 29 (.offA 7 (tm 2)),oF 31 29 (.load 1 false (tm 30)),oF 32 29 (.offA 7 (tm 3)),oF 33 29 (.load 1 false (tm 32)),oF 34 29 (.bin .neq (tm 31) (tm 33)),oo 35 (.pick (tm 29) kT (tm 34)),mv 36 35,oF 37 36 (.offA 8 (tm 2)),oF 38 36 (.load 1 false (tm 37)),oF 39 36 (.len (tm 38)),oF 40 36 (.offA 8 (tm 3)),oF 41 36 (.load 1 false (tm 40)),oF 42 36 (.len (tm 41)),oF 43 36 (.bin .neq (tm 39) (tm 42)),oo 44 (.pick (tm 36) kT (tm 43))] []) (.cond (tm 44) (.seq (.region [oo 4 (.mov kF)] []) .ret) .skip)) (.seq (.seq (.region [oo 6 (.mov (Kc 0))] []) (.block 0 (.loop (.seq (.seq (.region [mv 45 6,fa 46 8 2,ld 47 46,ln 48 47,oo 49 (.bin .lss (tm 45) (tm 48))] []) (.cond (tm 49) .skip (.exit 0))) (.seq (.block 1 (.seq (.region [fa 52 8 2,ld 53 52,mv 54 6,ix 55 9 53 54,lA 56 9 55,fa 57 8 3,ld 58 57,mv 59 6,ix 60 9 58 59,lA 61 9 60,oo 62 (.call 48 [(tm 56),(tm 61)]),mv 7 62] []) (.seq (.region [mv 63 7,oo 64 (.not (tm 63))] []) (.cond (tm 64) (.seq (.region [oo 4 (.mov kF)] []) .ret) .skip)))) (.region [mv 50 6,oo 51 (.bin .add (tm 50) (Kc 1)),mv 6 51] [])))))) (.seq (.region [oo 4 (.mov kT)] []) .ret)))))
theorem l48:(Tryz.f48.body.bind (bD Tryz.prog 65 []))=some c48:=by kernel_rfl
def c13:aY:=(.seq (.region [oo 1 (.box 9 (tm 0)),oo 2 (.mov kF)] []) (.seq (.region [lA 5 9 1,oo 6 (.call 34 [tm 5]),oo 3 (.alloc [Z0,Z0]),o0 (.store 2 (tm 3) (tm 6))] []) (.seq (.region [fa 7 1 1,lA 8 5 7,oo 9 (.call 67 [tm 8]),oo 4 (.alloc [Z0,Z0]),o0 (.store 2 (tm 4) (tm 9))] []) (.seq (.region [fa 10 0 3,ld 11 10,oo 12 (.bin .leq (tm 11) (Kc 400)),mv 13 12,oT 14 13 (.offA 1 (tm 3)),oT 15 13 (.load 1 false (tm 14)),oT 16 13 (.bin .leq (tm 15) (Kc 60)),oo 17 (.pick (tm 13) (tm 16) kF),mv 18 17,oT 19 18 (.offA 0 (tm 4)),oT 20 18 (.load 1 false (tm 19)),oT 21 18 (.bin .leq (tm 20) (Kc 400)),oo 22 (.pick (tm 18) (tm 21) kF),mv 2 22] []) .ret))))
theorem l13:(Tryz.f13.body.bind (bD Tryz.prog 23 []))=some c13:=by kernel_rfl
def c37:aY:=(.seq (.region [oo 2 (.mov kF)] []) (.seq (.seq (.region [oo 3 (.mov (Kc 0))] []) (.block 0 (.loop (.seq (.seq (.region [mv 5 3,mv 6 0,ln 7 6,oo 8 (.bin .lss (tm 5) (tm 7)),mv 9 8,mT 10 3 9,oT 11 9 (.bin .lss (tm 10) (Kc 12)),oo 12 (.pick (tm 9) (tm 11) kF)] []) (.cond (tm 12) .skip (.exit 0))) (.seq (.block 1 (.seq (.region [mv 15 0,mv 16 3,ix 17 15 15 16,oo 18 (.nar 9 (tm 17)),lA 19 9 18,oo 20 (.call 13 [tm 19]),mv 4 20] []) (.seq (.region [mv 21 4,oo 22 (.not (tm 21)),mv 23 22,mF 24 0 23,mF 25 3 23,oF 26 23 (.idxL 15 (tm 24) (tm 25)),oF 27 23 (.offA 9 (tm 26)),oF 28 23 (.offA 2 (tm 27)),oF 29 23 (.load 1 false (tm 28)),oF 30 23 (.len (tm 29)),oF 31 23 (.bin .gtr (tm 30) (Kc 20)),oo 32 (.pick (tm 23) kT (tm 31))] []) (.cond (tm 32) (.seq (.region [oo 2 (.mov kF)] []) .ret) .skip)))) (.region [mv 13 3,oo 14 (.bin .add (tm 13) (Kc 1)),mv 3 14] [])))))) (.seq (.region [mv 33 0,ln 34 33,oo 35 (.bin .leq (tm 34) (Kc 12)),mv 2 35] []) .ret)))
theorem l37:(Tryz.f37.body.bind (bD Tryz.prog 36 [2000018000009]))=some c37:=by kernel_rfl
def c40:aY:=(.seq (.region [oo 4 (.mov (Kc 0))] []) (.seq (.seq (.region [oo 5 (.mov (Kc 0))] []) (.block 0 (.loop (.seq (.seq (.region [mv 6 5,mv 7 0,ln 8 7,oo 9 (.bin .lss (tm 6) (tm 8))] []) (.cond (tm 9) .skip (.exit 0))) (.seq (.block 1 (.seq (.region [mv 12 0,mv 13 5,ix 14 5 12 13,fa 15 0 14,ld 16 15,mv 17 1,oo 18 (.bin .eql (tm 16) (tm 17))] []) (.cond (tm 18) (.seq (.region [mv 19 5,mv 4 19] []) .ret) .skip))) (.region [mv 10 5,oo 11 (.bin .add (tm 10) (Kc 1)),mv 5 11] [])))))) (.seq (.region [oo 4 (.mov (.const (.int .i64 (-1))))] []) .ret)))
theorem l40:(Tryz.f40.body.bind (bD Tryz.prog 20 []))=some c40:=by kernel_rfl
def c41:aY:=(.seq (.region [oo 4 (.mov kF)] []) (.seq (.seq (.region [oo 5 (.mov (Kc 0))] []) (.block 0 (.loop (.seq (.seq (.region [mv 6 5,mv 7 0,ln 8 7,oo 9 (.bin .lss (tm 6) (tm 8))] []) (.cond (tm 9) .skip (.exit 0))) (.seq (.block 1 (.seq (.region [mv 12 0,mv 13 5,ix 14 15 12 13,fa 15 9 14,fa 16 0 15,ld 17 16,oo 18 (.bin .eql (tm 17) (Kc 4)),mv 19 18,mT 20 0 19,mT 21 5 19,oT 22 19 (.idxL 15 (tm 20) (tm 21)),oT 23 19 (.offA 9 (tm 22)),oT 24 19 (.offA 1 (tm 23)),oT 25 19 (.load 1 false (tm 24)),mT 26 1 19,oT 27 19 (.bin .eql (tm 25) (tm 26)),oo 28 (.pick (tm 19) (tm 27) kF)] []) (.cond (tm 28) (.seq (.region [oo 4 (.mov kT)] []) .ret) .skip))) (.region [mv 10 5,oo 11 (.bin .add (tm 10) (Kc 1)),mv 5 11] [])))))) (.seq (.region [oo 4 (.mov kF)] []) .ret)))
theorem l41:(Tryz.f41.body.bind (bD Tryz.prog 29 []))=some c41:=by kernel_rfl
end Go.TY
end
section
namespace Go.TY
open Go Go.DL Go.MM Go.Proofs
theorem za (a b:List Int) (hl:a.length<2^60∨b.length<2^60):DCalls Tryz.prog 27 [.slice 1 (a.map I),.slice 1 (b.map I)] (.bool (a==b)):=by
 refine qO (rs:=[.tmp 4]) mixed Tryz.func27 l27 rfl rfl rfl (r:=[.bool _]) (nlZ rfl) ?_
 have ha:((a.map I).length:Int)=a.length:=by rw [List.length_map]
 have hb:((b.map I).length:Int)=b.length:=by rw [List.length_map]
 by_cases hab:a.length=b.length
 case neg=>
  have e:(a==b)=false:=beq_false_of_ne fun e=>hab (by rw [e])
  rw [e]
  have hn:((a.map I).length:Int)≠((b.map I).length:Int):=by omega
  repeat' ((conv=>whnf);first|exact trivial|refine qz hn ?_|refine rb0 ?_|refine aS ?_|fail)
 have hl:a.length<2^60:=by omega
 have hn:((a.map I).length:Int)=((b.map I).length:Int):=by omega
 repeat' ((conv=>whnf);first|refine qy hn ?_|refine aS ?_|fail)
 refine rq (α:=Nat) (fun i=>{sl:=[(0,.t (.slice 1 (a.map I))),(1,.t (.slice 1 (b.map I))),(5,.t (I i))],bx:=[]})
  (fun i=>i≤a.length∧ ∀j (h:j<a.length) (h':j<b.length),j<i→a[j]=b[j]) (fun i=>a.length - i) 0 (by simp) ?_ ?_
 ·repeat' (first|exact trivial|exact LeV.same _|exact rfl|exact fun _ _ _=>trivial|refine And.intro ?_ ?_)
 rintro i ⟨hi,hp⟩
 rcases Nat.lt_or_ge i a.length with h|h
 ·have h':i<b.length:=by omega
  have hlt:(i:Int)<((a.map I).length:Int):=by omega
  by_cases he:a[i]=b[i]
  ·repeat' ((conv=>whnf);first|refine qv hlt ?_|(refine nv_ (I a[i]) (by first|(simp [h];done)|fail) ?_)|(refine nv_ (I b[i]) (by first|(simp [h'];done)|fail) ?_)|refine qy he ?_|refine nT_ ?_|refine aS ?_|fail)
   refine ⟨i+1,⟨h,fun j hj hj' hlt=>?_⟩,by omega,?_⟩
   ·rcases Nat.lt_or_ge j i with h4|h4
    ·exact hp j hj hj' h4
    ·obtain rfl:j=i:=by omega
     exact he
   ·repeat' (first|exact trivial|exact LeV.same _|exact rfl|exact fun _ _ _=>trivial|exact lI|refine And.intro ?_ ?_)
  ·have e:(a==b)=false:=beq_false_of_ne fun e=>he (by subst e;rfl)
   rw [e]
   repeat' ((conv=>whnf);first|exact trivial|refine qv hlt ?_|(refine nv_ (I a[i]) (by first|(simp [h];done)|fail) ?_)|(refine nv_ (I b[i]) (by first|(simp [h'];done)|fail) ?_)|refine qz he ?_|refine nT_ ?_|refine rb0 ?_|refine aS ?_|fail)
 ·have e:(a==b)=true:=by
   have:a=b:=List.ext_getElem hab fun j h1 h2=>hp j h1 h2 (by omega)
   simp [this]
  rw [e]
  have hlt: ¬(i:Int)<((a.map I).length:Int):=by omega
  repeat' ((conv=>whnf);first|exact trivial|refine qu hlt ?_|refine rb1 ?_|refine aS ?_|fail)
def wh:List ByteArray→List ByteArray→Bool
 |[],[]=>true
 |x::xs,y::ys=>sC x y&&wh xs ys
 |_,_=>false
theorem wI: ∀{a b:List ByteArray},wh a b=true↔a=b
 |[],[]=>by simp [wh]
 |[],_::_=>by simp [wh]
 |_::_,[]=>by simp [wh]
 |x::xs,y::ys=>by
  unfold wh
  rw [Bool.and_eq_true,wI (a:=xs),tf,List.cons.injEq]
theorem A1 {a b:List ByteArray} (h:a≠b):wh a b=false:=by
 cases e:wh a b with
 |false=>rfl
 |true=>exact (h (wI.1 e)).elim
theorem Bs (a b:List ByteArray) (hl:a.length<2^60∨b.length<2^60):DCalls Tryz.prog 22 [.slice 1 (a.map .str),.slice 1 (b.map .str)] (.bool (wh a b)):=by
 refine qO (rs:=[.tmp 4]) mixed Tryz.func22 l22 rfl rfl rfl (r:=[.bool _]) (nlZ rfl) ?_
 have ha:((a.map T.str).length:Int)=a.length:=by rw [List.length_map]
 have hb:((b.map T.str).length:Int)=b.length:=by rw [List.length_map]
 by_cases hab:a.length=b.length
 case neg=>
  rw [A1 fun e=>hab (by rw [e])]
  have hn:((a.map T.str).length:Int)≠((b.map T.str).length:Int):=by omega
  repeat' ((conv=>whnf);first|exact trivial|refine qz hn ?_|refine rb0 ?_|refine aS ?_|fail)
 have hl:a.length<2^60:=by omega
 have hn:((a.map T.str).length:Int)=((b.map T.str).length:Int):=by omega
 repeat' ((conv=>whnf);first|refine qy hn ?_|refine aS ?_|fail)
 refine rq (α:=Nat) (fun i=>{sl:=[(0,.t (.slice 1 (a.map .str))),(1,.t (.slice 1 (b.map .str))),(5,.t (I i))],bx:=[]})
  (fun i=>i≤a.length∧ ∀j (h:j<a.length) (h':j<b.length),j<i→a[j]=b[j]) (fun i=>a.length - i) 0 (by simp) ?_ ?_
 ·repeat' (first|exact trivial|exact LeV.same _|exact rfl|exact fun _ _ _=>trivial|refine And.intro ?_ ?_)
 rintro i ⟨hi,hp⟩
 rcases Nat.lt_or_ge i a.length with h|h
 ·have h':i<b.length:=by omega
  have hlt:(i:Int)<((a.map T.str).length:Int):=by omega
  have hE:=sU a[i] b[i]
  have hN:(!(a[i].toList==b[i].toList))= !sC a[i] b[i]:=by rw [hE]
  by_cases he:a[i]=b[i]
  ·rw [tf.2 he] at hN
   repeat' ((conv=>whnf);first|refine qv hlt ?_|(refine nv_ (.str a[i]) (by first|(simp [h];done)|fail) ?_)|(refine nv_ (.str b[i]) (by first|(simp [h'];done)|fail) ?_)|refine nb_ _ hN ?_|refine nT_ ?_|refine aS ?_|fail)
   refine ⟨i+1,⟨h,fun j hj hj' hlt=>?_⟩,by omega,?_⟩
   ·rcases Nat.lt_or_ge j i with h4|h4
    ·exact hp j hj hj' h4
    ·obtain rfl:j=i:=by omega
     exact he
   ·repeat' (first|exact trivial|exact LeV.same _|exact rfl|exact fun _ _ _=>trivial|exact lI|refine And.intro ?_ ?_)
  ·rw [A1 fun e=>he (by subst e;rfl)]
   have hs:sC a[i] b[i]=false:=by
    cases e:sC a[i] b[i] with
    |false=>rfl
    |true=>exact (he (tf.1 e)).elim
   rw [hs] at hN
   repeat' ((conv=>whnf);first|exact trivial|refine qv hlt ?_|(refine nv_ (.str a[i]) (by first|(simp [h];done)|fail) ?_)|(refine nv_ (.str b[i]) (by first|(simp [h'];done)|fail) ?_)|refine nb_ _ hN ?_|refine nT_ ?_|refine rb0 ?_|refine aS ?_|fail)
 ·rw [wI.2 (List.ext_getElem hab fun j h1 h2=>hp j h1 h2 (by omega))]
  have hlt: ¬(i:Int)<((a.map T.str).length:Int):=by omega
  repeat' ((conv=>whnf);first|exact trivial|refine qu hlt ?_|refine rb1 ?_|refine aS ?_|fail)
end Go.TY
end
section
namespace Go.TY
open Go Go.DL Go.MM Go.Proofs
theorem xg (a b:RV) (hl:a.ws.length<2^60∨b.ws.length<2^60):DCalls Tryz.prog 42 [sI a,sI b] (.bool (wJ a b)):=by
 obtain ⟨a1,a2,a3,a4,a5⟩:=a
 obtain ⟨b1,b2,b3,b4,b5⟩:=b
 refine qO (rs:=[.tmp 4]) mixed Tryz.func42 l42 rfl rfl rfl (r:=[.bool _]) (nlZ rfl) ?_
 have h1:=za a3 b3 hl
 have hE:=sU a1 b1
 simp only [wJ]
 generalize sC a1 b1=e at *
 generalize (a3==b3)=z at *
 by_cases c2:a2=b2
 case neg=>rw [beq_false_of_ne c2];cases e <;> cases z <;> repeat' ((conv=>whnf);first|exact trivial|refine rE _ (h1) ?_|refine nb_ _ hE ?_|refine qw c2 ?_|refine nT_ ?_|refine rb0 ?_|refine aS ?_|fail)
 by_cases c4:a4=b4
 case neg=>rw [beq_false_of_ne c4,c2];cases e <;> cases z <;> repeat' ((conv=>whnf);first|exact trivial|refine rE _ (h1) ?_|refine nb_ _ hE ?_|refine qw c4 ?_|refine nT_ ?_|refine aE1 ?_|refine rb0 ?_|refine aS ?_|fail)
 by_cases c5:a5=b5
 case neg=>rw [beq_false_of_ne c5,c2,c4];cases e <;> cases z <;> repeat' ((conv=>whnf);first|exact trivial|refine rE _ (h1) ?_|refine nb_ _ hE ?_|refine qw c5 ?_|refine nT_ ?_|refine aE1 ?_|refine rb0 ?_|refine aS ?_|fail)
 rw [c2,c4,c5]
 cases e <;> cases z <;> repeat' ((conv=>whnf);first|exact trivial|refine rE _ (h1) ?_|refine nb_ _ hE ?_|refine nT_ ?_|refine aE1 ?_|refine rb1 ?_|refine rb0 ?_|refine aS ?_|fail)
def vf:List RV→List RV→Bool
 |[],[]=>true
 |x::xs,y::ys=>wJ x y&&vf xs ys
 |_,_=>false
theorem wk: ∀{a b:List RV},vf a b=true↔a=b
 |[],[]=>by simp [vf]
 |[],_::_=>by simp [vf]
 |_::_,[]=>by simp [vf]
 |x::xs,y::ys=>by
  unfold vf
  rw [Bool.and_eq_true,wk (a:=xs),vW,List.cons.injEq]
theorem zM {a b:List RV} (h:a≠b):vf a b=false:=by
 cases e:vf a b with
 |false=>rfl
 |true=>exact (h (wk.1 e)).elim
theorem zb (a b:List RV) (hl:a.length<2^60∨b.length<2^60) (hw:(∀ v∈a,v.ws.length<2^60)∨(∀ v∈b,v.ws.length<2^60)):
  DCalls Tryz.prog 45 [.slice 5 (a.map sI),.slice 5 (b.map sI)] (.bool (vf a b)):=by
 refine qO (rs:=[.tmp 4]) mixed Tryz.func45 l45 rfl rfl rfl (r:=[.bool _]) (nlZ rfl) ?_
 have ha:((a.map sI).length:Int)=a.length:=by rw [List.length_map]
 have hb:((b.map sI).length:Int)=b.length:=by rw [List.length_map]
 by_cases hab:a.length=b.length
 case neg=>
  rw [zM fun e=>hab (by rw [e])]
  have hn:((a.map sI).length:Int)≠((b.map sI).length:Int):=by omega
  repeat' ((conv=>whnf);first|exact trivial|refine qz hn ?_|refine rb0 ?_|refine aS ?_|fail)
 have hl:a.length<2^60:=by omega
 have hn:((a.map sI).length:Int)=((b.map sI).length:Int):=by omega
 repeat' ((conv=>whnf);first|refine qy hn ?_|refine aS ?_|fail)
 refine rq (α:=Nat) (fun i=>{sl:=[(0,.t (.slice 5 (a.map sI))),(1,.t (.slice 5 (b.map sI))),(5,.t (I i))],bx:=[]})
  (fun i=>i≤a.length∧ ∀j (h:j<a.length) (h':j<b.length),j<i→a[j]=b[j]) (fun i=>a.length - i) 0 (by simp) ?_ ?_
 ·repeat' (first|exact trivial|exact LeV.same _|exact rfl|exact fun _ _ _=>trivial|refine And.intro ?_ ?_)
 rintro i ⟨hi,hp⟩
 rcases Nat.lt_or_ge i a.length with h|h
 ·have h':i<b.length:=by omega
  have hlt:(i:Int)<((a.map sI).length:Int):=by omega
  have hc:=xg a[i] b[i] (hw.imp (fun hw=>hw _ (List.getElem_mem h)) (fun hw=>hw _ (List.getElem_mem h')))
  by_cases he:a[i]=b[i]
  ·rw [vW.2 he] at hc
   repeat' ((conv=>whnf);first|refine qv hlt ?_|(refine nv_ (.agg (sR a[i])) (by first|((simp [h];rfl);done)|fail) ?_)|(refine nv_ (.agg (sR b[i])) (by first|((simp [h'];rfl);done)|fail) ?_)|refine rE _ (hc) ?_|refine aS ?_|fail)
   refine ⟨i+1,⟨h,fun j hj hj' hlt=>?_⟩,by omega,?_⟩
   ·rcases Nat.lt_or_ge j i with h4|h4
    ·exact hp j hj hj' h4
    ·obtain rfl:j=i:=by omega
     exact he
   ·repeat' (first|exact trivial|exact LeV.same _|exact rfl|exact fun _ _ _=>trivial|exact lI|refine And.intro ?_ ?_)
  ·rw [zM fun e=>he (by subst e;rfl)]
   have hs:wJ a[i] b[i]=false:=by
    cases e:wJ a[i] b[i] with
    |false=>rfl
    |true=>exact (he (vW.1 e)).elim
   rw [hs] at hc
   repeat' ((conv=>whnf);first|exact trivial|refine qv hlt ?_|(refine nv_ (.agg (sR a[i])) (by first|((simp [h];rfl);done)|fail) ?_)|(refine nv_ (.agg (sR b[i])) (by first|((simp [h'];rfl);done)|fail) ?_)|refine rE _ (hc) ?_|refine rb0 ?_|refine aS ?_|fail)
 ·rw [wk.2 (List.ext_getElem hab fun j h1 h2=>hp j h1 h2 (by omega))]
  have hlt: ¬(i:Int)<((a.map sI).length:Int):=by omega
  repeat' ((conv=>whnf);first|exact trivial|refine qu hlt ?_|refine rb1 ?_|refine aS ?_|fail)
end Go.TY
end
section
namespace Go.TY
open Go Go.DL Go.MM Go.Proofs
mutual
def xZ:RP→RP→Bool
 |.mk k f n m a,.mk k' f' n' m' a'=>(k==k')&&sC f f'&&(n==n')&&(m==m')&&vz a a'
def vz:List RP→List RP→Bool
 |[],[]=>true
 |x::xs,y::ys=>xZ x y&&vz xs ys
 |[],_::_=>false
 |_::_,[]=>false
end
mutual
theorem tj: ∀{a b:RP},xZ a b=true↔a=b
 |.mk k f n m a,.mk k' f' n' m' a'=>by
  simp only [xZ,Bool.and_eq_true,beq_iff_eq,tf,yE (a:=a) (b:=a'),RP.mk.injEq]
  exact ⟨fun h=>⟨h.1.1.1.1,h.1.1.1.2,h.1.1.2,h.1.2,h.2⟩,fun h=>⟨⟨⟨⟨h.1,h.2.1⟩,h.2.2.1⟩,h.2.2.2.1⟩,h.2.2.2.2⟩⟩
theorem yE: ∀{a b:List RP},vz a b=true↔a=b
 |[],[]=>by simp [vz]
 |[],_::_=>by simp [vz]
 |_::_,[]=>by simp [vz]
 |x::xs,y::ys=>by
  simp only [vz,Bool.and_eq_true,tj (a:=x) (b:=y),yE (a:=xs) (b:=ys),List.cons.injEq]
end
theorem tL {b:Bool} {p:Prop} (hi:b=true↔p) (h: ¬p):b=false:=by
 cases b with
 |false=>rfl
 |true=>exact (h (hi.1 rfl)).elim
theorem Cj (N:Nat): ∀a b:RP,a.nodes≤N→N<2^60→DCalls Tryz.prog 51 [.agg (sB a),.agg (sB b)] (.bool (xZ a b)):=by
 induction N with
 |zero=>intro r _ h;have:=r.uD;omega
 |succ N ih=>
  rintro ⟨k,f,n,m,l⟩ ⟨k',f',n',m',l'⟩ hr hN
  refine qO (rs:=[.tmp 4]) mixed Tryz.func51 l51 rfl rfl rfl (r:=[.bool _]) (nlZ rfl) ?_
  simp only [RP.nodes] at hr
  have hE:=sU f f'
  have hS:(!(f.toList==f'.toList))= !sC f f':=by rw [hE]
  by_cases c1:k=k'
  case neg=>rw [tL tj fun e=>c1 (by cases e;rfl)];repeat' ((conv=>whnf);first|exact trivial|refine qz c1 ?_|refine nT_ ?_|refine rb0 ?_|refine aS ?_|fail)
  by_cases c2:f=f'
  case neg=>
   rw [tL tj fun e=>c2 (by cases e;rfl)]
   rw [tL tf c2] at hS
   repeat' ((conv=>whnf);first|exact trivial|refine qy c1 ?_|refine nb_ _ hS ?_|refine nT_ ?_|refine rb0 ?_|refine aS ?_|fail)
  rw [tf.2 c2] at hS
  by_cases c3:n=n'
  case neg=>rw [tL tj fun e=>c3 (by cases e;rfl)];repeat' ((conv=>whnf);first|exact trivial|refine qy c1 ?_|refine nb_ _ hS ?_|refine qz c3 ?_|refine nT_ ?_|refine rb0 ?_|refine aS ?_|fail)
  by_cases c4:m=m'
  case neg=>rw [tL tj fun e=>c4 (by cases e;rfl)];repeat' ((conv=>whnf);first|exact trivial|refine qy c1 ?_|refine nb_ _ hS ?_|refine qy c3 ?_|refine qz c4 ?_|refine nT_ ?_|refine rb0 ?_|refine aS ?_|fail)
  have ha:((l.map sQ).length:Int)=l.length:=by rw [List.length_map]
  have hb:((l'.map sQ).length:Int)=l'.length:=by rw [List.length_map]
  by_cases hab:l.length=l'.length
  case neg=>
   rw [tL tj fun e=>hab (by cases e;rfl)]
   have hn:((l.map sQ).length:Int)≠((l'.map sQ).length:Int):=by omega
   repeat' ((conv=>whnf);first|exact trivial|refine qy c1 ?_|refine nb_ _ hS ?_|refine qy c3 ?_|refine qy c4 ?_|refine qz hn ?_|refine nT_ ?_|refine rb0 ?_|refine aS ?_|fail)
  have hn:((l.map sQ).length:Int)=((l'.map sQ).length:Int):=by omega
  have hnp:=uu l
  repeat' ((conv=>whnf);first|refine qy c1 ?_|refine nb_ _ hS ?_|refine qy c3 ?_|refine qy c4 ?_|refine qy hn ?_|refine nT_ ?_|refine aS ?_|fail)
  refine rq (α:=Nat) (fun i=>{sl:=[(2,.ptr 2 0),(3,.ptr 3 0),(5,.t (I i))],bx:=[(2,.d 5 (sB (.mk k f n m l))),(3,.d 5 (sB (.mk k' f' n' m' l')))]})
   (fun i=>i≤l.length∧ ∀j (h:j<l.length) (h':j<l'.length),j<i→l[j]=l'[j]) (fun i=>l.length - i) 0 (by simp) ?_ ?_
  ·repeat' (first|exact trivial|exact LeV.same _|exact LeB.same _|exact rfl|exact fun _ _ _=>trivial|refine And.intro ?_ ?_)
  rintro i ⟨hi,hp⟩
  rcases Nat.lt_or_ge i l.length with h|h
  ·have h':i<l'.length:=by omega
   have hlt:(i:Int)<((l.map sQ).length:Int):=by omega
   have hn:=tS h
   have hm:=tR (l:=l) (j:=i+1)
   have hc:=ih l[i] l'[i] (by omega) (by omega)
   by_cases he:l[i]=l'[i]
   ·rw [tj.2 he] at hc
    repeat' ((conv=>whnf);first|refine qv hlt ?_|(refine nv_ (.agg (sB l[i])) (by first|(simp [h,sJ];done)|fail) ?_)|(refine nv_ (.agg (sB l'[i])) (by first|(simp [h',sJ];done)|fail) ?_)|refine rE _ (hc) ?_|refine nT_ ?_|(refine And.intro (by first|exact sL _|fail) ?_)|refine aS ?_|fail)
    refine ⟨i+1,⟨h,fun j hj hj' hlt=>?_⟩,by omega,?_⟩
    ·rcases Nat.lt_or_ge j i with h4|h4
     ·exact hp j hj hj' h4
     ·obtain rfl:j=i:=by omega
      exact he
    ·repeat' (first|exact trivial|exact LeV.same _|exact LeB.same _|exact rfl|exact fun _ _ _=>trivial|exact lI|refine And.intro ?_ ?_)
   ·rw [tL tj he] at hc
    rw [tL tj fun e=>he (by cases e;rfl)]
    repeat' ((conv=>whnf);first|exact trivial|refine qv hlt ?_|(refine nv_ (.agg (sB l[i])) (by first|(simp [h,sJ];done)|fail) ?_)|(refine nv_ (.agg (sB l'[i])) (by first|(simp [h',sJ];done)|fail) ?_)|refine rE _ (hc) ?_|refine nT_ ?_|refine rb0 ?_|(refine And.intro (by first|exact sL _|fail) ?_)|refine aS ?_|fail)
  ·have e:l=l':=List.ext_getElem hab fun j h1 h2=>hp j h1 h2 (by omega)
   rw [tj.2 (by rw [c1,c2,c3,c4,e])]
   have hlt: ¬(i:Int)<((l.map sQ).length:Int):=by omega
   repeat' ((conv=>whnf);first|exact trivial|refine qu hlt ?_|refine nT_ ?_|refine rb1 ?_|refine aS ?_|fail)
end Go.TY
end
section
namespace Go.TY
open Go Go.DL Go.MM Go.Proofs
mutual
def vV:RO→RO→Bool
 |.mk k p f n a,.mk k' p' f' n' a'=>xZ p p'&&(k==k')&&sC f f'&&(n==n')&&vu a a'
def vu:List RO→List RO→Bool
 |[],[]=>true
 |x::xs,y::ys=>vV x y&&vu xs ys
 |[],_::_=>false
 |_::_,[]=>false
end
mutual
theorem uL: ∀{a b:RO},vV a b=true↔a=b
 |.mk k p f n a,.mk k' p' f' n' a'=>by
  simp only [vV,Bool.and_eq_true,beq_iff_eq,tf,tj,yD (a:=a) (b:=a'),RO.mk.injEq]
  exact ⟨fun h=>⟨h.1.1.1.2,h.1.1.1.1,h.1.1.2,h.1.2,h.2⟩,fun h=>⟨⟨⟨⟨h.2.1,h.1⟩,h.2.2.1⟩,h.2.2.2.1⟩,h.2.2.2.2⟩⟩
theorem yD: ∀{a b:List RO},vu a b=true↔a=b
 |[],[]=>by simp [vu]
 |[],_::_=>by simp [vu]
 |_::_,[]=>by simp [vu]
 |x::xs,y::ys=>by
  simp only [vu,Bool.and_eq_true,uL (a:=x) (b:=y),yD (a:=xs) (b:=ys),List.cons.injEq]
end
theorem Bi: ∀{l:List RO} {i:Nat} (h:i<l.length),l[i].wt≤tk l
 |r::rs,0,_=>by simp only [List.getElem_cons_zero,tk];omega
 |r::rs,i+1,h=>by
  have:=Bi (l:=rs) (i:=i) (by simpa using h)
  simp only [List.getElem_cons_succ,tk];omega
theorem Az (N:Nat): ∀a b:RO,a.wt≤N→N<2^60→DCalls Tryz.prog 48 [.agg (sA a),.agg (sA b)] (.bool (vV a b)):=by
 induction N with
 |zero=>intro r _ h;have:=r.xr;omega
 |succ N ih=>
  rintro ⟨k,p,f,n,l⟩ ⟨k',p',f',n',l'⟩ hr hN
  refine qO (rs:=[.tmp 4]) mixed Tryz.func48 l48 rfl rfl rfl (r:=[.bool _]) (nlZ rfl) ?_
  simp only [RO.wt] at hr
  have hS:(!(f.toList==f'.toList))= !sC f f':=by rw [sU]
  have hP:=Cj _ p p' (Nat.le_refl _) (by omega)
  by_cases c5:p=p'
  case neg=>
   rw [tL tj c5] at hP
   rw [tL uL fun e=>c5 (by cases e;rfl)]
   obtain ⟨pk,pf,pn,pm,pa⟩:=p
   obtain ⟨pk',pf',pn',pm',pa'⟩:=p'
   repeat' ((conv=>whnf);first|exact trivial|refine rE _ (hP) ?_|refine nT_ ?_|refine rb0 ?_|refine aS ?_|fail)
  rw [tj.2 c5] at hP
  have hno: ∀{q:Prop},((RO.mk k p f n l=RO.mk k' p' f' n' l')→q)→ ¬q→vV (.mk k p f n l) (.mk k' p' f' n' l')=false:=fun h1 h2=>tL uL fun e=>h2 (h1 e)
  have hyes:k=k'→f=f'→n=n'→l=l'→vV (.mk k p f n l) (.mk k' p' f' n' l')=true:=fun h1 h2 h3 h4=>uL.2 (by rw [h1,h2,h3,h4,c5])
  generalize vV (.mk k p f n l) (.mk k' p' f' n' l')=res at *
  clear c5
  obtain ⟨pk,pf,pn,pm,pa⟩:=p
  obtain ⟨pk',pf',pn',pm',pa'⟩:=p'
  by_cases c1:k=k'
  case neg=>rw [hno (fun e=>by cases e;rfl) c1];repeat' ((conv=>whnf);first|exact trivial|refine rE _ (hP) ?_|refine qz c1 ?_|refine nT_ ?_|refine rb0 ?_|refine aS ?_|fail)
  by_cases c2:f=f'
  case neg=>
   rw [hno (fun e=>by cases e;rfl) c2]
   rw [tL tf c2] at hS
   repeat' ((conv=>whnf);first|exact trivial|refine rE _ (hP) ?_|refine qy c1 ?_|refine nb_ _ hS ?_|refine nT_ ?_|refine rb0 ?_|refine aS ?_|fail)
  rw [tf.2 c2] at hS
  by_cases c3:n=n'
  case neg=>rw [hno (fun e=>by cases e;rfl) c3];repeat' ((conv=>whnf);first|exact trivial|refine rE _ (hP) ?_|refine qy c1 ?_|refine nb_ _ hS ?_|refine qz c3 ?_|refine nT_ ?_|refine rb0 ?_|refine aS ?_|fail)
  have ha:((l.map s8).length:Int)=l.length:=by rw [List.length_map]
  have hb:((l'.map s8).length:Int)=l'.length:=by rw [List.length_map]
  by_cases hab:l.length=l'.length
  case neg=>
   rw [hno (fun e=>by cases e;rfl) hab]
   have hn:((l.map s8).length:Int)≠((l'.map s8).length:Int):=by omega
   repeat' ((conv=>whnf);first|exact trivial|refine rE _ (hP) ?_|refine qy c1 ?_|refine nb_ _ hS ?_|refine qy c3 ?_|refine qz hn ?_|refine nT_ ?_|refine rb0 ?_|refine aS ?_|fail)
  have hn:((l.map s8).length:Int)=((l'.map s8).length:Int):=by omega
  have hlen:=vB l
  repeat' ((conv=>whnf);first|refine rE _ (hP) ?_|refine qy c1 ?_|refine nb_ _ hS ?_|refine qy c3 ?_|refine qy hn ?_|refine nT_ ?_|refine aS ?_|fail)
  refine rq (α:=Nat) (fun i=>{sl:=[(2,.ptr 2 0),(3,.ptr 3 0),(6,.t (I i))],bx:=[(2,.d 9 (sA (.mk k (.mk pk pf pn pm pa) f n l))),(3,.d 9 (sA (.mk k' (.mk pk' pf' pn' pm' pa') f' n' l')))]})
   (fun i=>i≤l.length∧ ∀j (h:j<l.length) (h':j<l'.length),j<i→l[j]=l'[j]) (fun i=>l.length - i) 0 (by simp) ?_ ?_
  ·repeat' (first|exact trivial|exact LeV.same _|exact LeB.same _|exact rfl|exact fun _ _ _=>trivial|refine And.intro ?_ ?_)
  rintro i ⟨hi,hp⟩
  rcases Nat.lt_or_ge i l.length with h|h
  ·have h':i<l'.length:=by omega
   have hlt:(i:Int)<((l.map s8).length:Int):=by omega
   have hg:=Bi h
   have hc:=ih l[i] l'[i] (by omega) (by omega)
   by_cases he:l[i]=l'[i]
   ·rw [uL.2 he] at hc
    repeat' ((conv=>whnf);first|refine qv hlt ?_|(refine nv_ (.agg (sA l[i])) (by first|(simp [h,sN];done)|fail) ?_)|(refine nv_ (.agg (sA l'[i])) (by first|(simp [h',sN];done)|fail) ?_)|refine rE _ (hc) ?_|refine nT_ ?_|(refine And.intro (by first|exact sF _|fail) ?_)|refine aS ?_|fail)
    refine ⟨i+1,⟨h,fun j hj hj' hlt=>?_⟩,by omega,?_⟩
    ·rcases Nat.lt_or_ge j i with h4|h4
     ·exact hp j hj hj' h4
     ·obtain rfl:j=i:=by omega
      exact he
    ·repeat' (first|exact trivial|exact LeV.same _|exact LeB.same _|exact rfl|exact fun _ _ _=>trivial|exact lI|refine And.intro ?_ ?_)
   ·rw [tL uL he] at hc
    rw [hno (q:=l[i]=l'[i]) (fun e=>by cases e;rfl) he]
    repeat' ((conv=>whnf);first|exact trivial|refine qv hlt ?_|(refine nv_ (.agg (sA l[i])) (by first|(simp [h,sN];done)|fail) ?_)|(refine nv_ (.agg (sA l'[i])) (by first|(simp [h',sN];done)|fail) ?_)|refine rE _ (hc) ?_|refine nT_ ?_|refine rb0 ?_|(refine And.intro (by first|exact sF _|fail) ?_)|refine aS ?_|fail)
  ·have e:l=l':=List.ext_getElem hab fun j h1 h2=>hp j h1 h2 (by omega)
   rw [hyes c1 c2 c3 e]
   have hlt: ¬(i:Int)<((l.map s8).length:Int):=by omega
   repeat' ((conv=>whnf);first|exact trivial|refine qu hlt ?_|refine nT_ ?_|refine rb1 ?_|refine aS ?_|fail)
end Go.TY
end
section
namespace Go.TY
open Go Go.DL Go.MM Go.Proofs
theorem C9 (g:RG):((sD g).drop 0).take 9=sA g.pol:=by
 have:=ug g
 rwa [mU (n:=15) rfl] at this
def B7 (r:RO):Bool:=decide (r.size≤400)&&decide (r.deep≤60)&&decide (r.pred.nodes≤400)
theorem zq {a b:Nat}:decide ((a:Int)≤(b:Int))=decide (a≤b):=by
 by_cases h:a≤b
 ·rw [decide_eq_true h,decide_eq_true (by omega)]
 ·rw [decide_eq_false h,decide_eq_false (by omega)]
theorem Br (r:RO) (hr:r.wt<2^60):DCalls Tryz.prog 13 [.agg (sA r)] (.bool (B7 r)):=by
 refine qO (rs:=[.tmp 2]) mixed Tryz.func13 l13 rfl rfl rfl (r:=[.bool _]) (nlZ rfl) ?_
 have h1:=t89 _ r (Nat.le_refl _) hr
 have hpn:r.pred.nodes<2^60:=by
  obtain ⟨k,p,f,n,l⟩:=r
  simp only [RO.wt] at hr
  show p.nodes<_;omega
 have h2:=t103 _ r.pred (Nat.le_refl _) hpn
 have d1:decide ((r.size:Int)≤400)=decide (r.size≤400):=zq
 have d2:decide ((r.deep:Int)≤60)=decide (r.deep≤60):=zq
 have d3:decide ((r.pred.nodes:Int)≤400)=decide (r.pred.nodes≤400):=zq
 unfold B7
 obtain ⟨k,⟨pk,pf,pn,pm,pa⟩,f,n,l⟩:=r
 have e:(RO.mk k (.mk pk pf pn pm pa) f n l).pred= .mk pk pf pn pm pa:=rfl
 rw [e] at h2 d3 ⊢
 clear hr hpn e
 generalize (RO.mk k (.mk pk pf pn pm pa) f n l).size=a at *
 generalize (RO.mk k (.mk pk pf pn pm pa) f n l).deep=d at *
 generalize (RP.mk pk pf pn pm pa).nodes=c at *
 generalize (RP.mk pk pf pn pm pa).depth=c' at *
 generalize decide (a≤400)=b1 at *
 generalize decide (d≤60)=b2 at *
 generalize decide (c≤400)=b3 at *
 cases b1 <;> cases b2 <;> repeat' ((conv=>whnf);first|exact trivial|refine rE _ (h1) ?_|refine rE _ (h2) ?_|refine nb_ _ d1 ?_|refine nb_ _ d2 ?_|refine nb_ _ d3 ?_|refine nT_ ?_|refine rb0 ?_|refine rbx ?_|refine aS ?_|fail)
end Go.TY
end
section
namespace Go.TY
open Go Go.DL Go.MM Go.Proofs
end Go.TY
end
section
namespace Go.TY
open Go Go.DL Go.MM Go.Proofs
theorem BG (g:RG):(sD g).take 9=sA g.pol:=by
 have:=C9 g
 rwa [List.drop_zero] at this
theorem EF (g:RG):9≤(sD g).length:=by rw [sK];exact nlZ rfl
theorem Fe (g:RG):11<(sD g).length:=by rw [sK];exact nlZ rfl
theorem Ce (g:RG):((sD g).take 9).length=9:=by rw [BG,sF]
end Go.TY
end
section
namespace Go.TY
open Go Go.DL Go.MM Go.Proofs
def vE (g:RG):Bool:=B7 g.pol&&decide (g.st.key.length≤20)
def wQ (gs:List RG):Bool:=gs.all vE&&decide (gs.length≤12)
theorem GS (g:RG):(sD g)[11]?.getD .nil= .slice 1 (g.st.key.map .str):=by
 unfold sD
 rw [List.getElem?_append_right (by rw [sF];omega),sF]
 rfl
theorem xT (gs:List RG) (hl:gs.length<2^60) (hg: ∀g∈gs,g.pol.wt<2^60):DCalls Tryz.prog 37 [.slice 15 (gs.map sE)] (.bool (wQ gs)):=by
 refine qO (rs:=[.tmp 2]) mixed Tryz.func37 l37 rfl rfl rfl (r:=[.bool _]) (nlZ rfl) ?_
 have hlen:((gs.map sE).length:Int)=(gs.length:Int):=by rw [List.length_map]
 skip
 refine qZ 0 (α:=Nat) (β:=Unit) (fun i=>{sl:=[(0,.t (.slice 15 (gs.map sE))),(3,.t (I i))],bx:=[]})
  (fun i=>i≤gs.length∧i≤12∧ ∀j (h:j<gs.length),j<i→vE gs[j]=true) (fun i=>gs.length - i)
  (fun _=>{sl:=[(0,.t (.slice 15 (gs.map sE)))],bx:=[]}) (fun _=>gs.length≤12→gs.all vE=true) 0 (by simp) ?_ ?_ ?_
 ·repeat' (first|exact trivial|exact LeV.same _|exact rfl|exact fun _ _ _=>trivial|refine And.intro ?_ ?_)
 ·rintro i ⟨hi,hi2,hp⟩
  have out:(¬ i<gs.length∨ ¬i<12)→gs.length≤12→gs.all vE=true:=fun hc h12=>by
   rw [List.all_eq_true]
   intro x hx
   obtain ⟨j,hj,rfl⟩:=List.getElem_of_mem hx
   exact hp j hj (by omega)
  rcases Nat.lt_or_ge i gs.length with h|h
  ·have hlt:(i:Int)<((gs.map sE).length:Int):=by omega
   rcases Nat.lt_or_ge i 12 with h12|h12
   ·have hlt2:(i:Int)<12:=by omega
    have h1:=Br gs[i].pol (hg gs[i] (List.getElem_mem h))
    have hx:(gs.map sE)[i]?.getD .nil= .agg (sD gs[i]):=by simp [h];rfl
    have hc1:=BG gs[i]
    have hc2:=GS gs[i]
    have hkl:((gs[i].st.key.map T.str).length:Int)=gs[i].st.key.length:=by rw [List.length_map]
    have bad:vE gs[i]=false→wQ gs=false:=fun hb=>by
     unfold wQ
     rw [show gs.all vE=false from List.all_eq_false.2 ⟨gs[i],List.getElem_mem h,by rw [hb];simp⟩,Bool.false_and]
    clear out
    cases hb:B7 gs[i].pol with
    |false=>
     rw [hb] at h1
     rw [bad (by unfold vE;rw [hb];rfl)]
     clear bad
     repeat' ((conv=>whnf);first|exact trivial|refine qv hlt ?_|refine qv hlt2 ?_|(refine nv_ (.agg (sD gs[i])) (by first|exact hx|fail) ?_)|(refine nv_ (.agg (sA gs[i].pol)) (by first|exact congrArg T.agg hc1|fail) ?_)|refine rE _ (h1) ?_|refine rb0 ?_|(refine And.intro (by first|exact Ce _|exact EF _|exact le15G _|fail) ?_)|refine aS ?_|fail)
    |true=>
     rw [hb] at h1
     by_cases c2:gs[i].st.key.length≤20
     ·have q: ¬((gs[i].st.key.map T.str).length:Int)>20:=by omega
      have good:vE gs[i]=true:=by unfold vE;rw [hb,decide_eq_true c2];rfl
      clear bad
      repeat' ((conv=>whnf);first|refine qv hlt ?_|refine qv hlt2 ?_|refine qu q ?_|(refine nv_ (.agg (sD gs[i])) (by first|exact hx|fail) ?_)|(refine nv_ (.agg (sA gs[i].pol)) (by first|exact congrArg T.agg hc1|fail) ?_)|(refine nv_ (.slice 1 (gs[i].st.key.map .str)) (by first|exact hc2|fail) ?_)|refine rE _ (h1) ?_|(refine And.intro (by first|exact Ce _|exact EF _|exact Fe _|fail) ?_)|refine aS ?_|fail)
      refine ⟨i+1,⟨h,by omega,fun j hj hlt=>?_⟩,by omega,?_⟩
      ·rcases Nat.lt_or_ge j i with h4|h4
       ·exact hp j hj h4
       ·obtain rfl:j=i:=by omega
        exact good
      ·repeat' (first|exact trivial|exact LeV.same _|exact rfl|exact fun _ _ _=>trivial|exact lI|refine And.intro ?_ ?_)
     ·have q:((gs[i].st.key.map T.str).length:Int)>20:=by omega
      rw [bad (by unfold vE;rw [decide_eq_false c2,Bool.and_false])]
      clear bad
      repeat' ((conv=>whnf);first|exact trivial|refine qv hlt ?_|refine qv hlt2 ?_|refine qv q ?_|(refine nv_ (.agg (sD gs[i])) (by first|exact hx|fail) ?_)|(refine nv_ (.agg (sA gs[i].pol)) (by first|exact congrArg T.agg hc1|fail) ?_)|(refine nv_ (.slice 1 (gs[i].st.key.map .str)) (by first|exact hc2|fail) ?_)|refine rE _ (h1) ?_|refine rb0 ?_|(refine And.intro (by first|exact Ce _|exact EF _|exact Fe _|fail) ?_)|refine aS ?_|fail)
   ·have hlt2: ¬(i:Int)<12:=by omega
    have o:=out (Or.inr (by omega))
    repeat' ((conv=>whnf);first|refine qv hlt ?_|refine qu hlt2 ?_|(exact ⟨(),o,by (repeat' (first|exact trivial|exact LeV.same _|exact rfl|exact fun _ _ _=>trivial|refine And.intro ?_ ?_));done⟩)|refine aS ?_|fail)
  ·have hlt: ¬(i:Int)<((gs.map sE).length:Int):=by omega
   have o:=out (Or.inl (by omega))
   repeat' ((conv=>whnf);first|refine qu hlt ?_|(exact ⟨(),o,by (repeat' (first|exact trivial|exact LeV.same _|exact rfl|exact fun _ _ _=>trivial|refine And.intro ?_ ?_));done⟩)|refine aS ?_|fail)
 ·rintro _ o
  unfold wQ
  by_cases c:gs.length≤12
  ·have q:((gs.map sE).length:Int)≤12:=by omega
   rw [o c,decide_eq_true c]
   repeat' ((conv=>whnf);first|exact trivial|refine qv q ?_|refine rb1 ?_|refine aS ?_|fail)
  ·have q: ¬((gs.map sE).length:Int)≤12:=by omega
   rw [decide_eq_false c,Bool.and_false]
   repeat' ((conv=>whnf);first|exact trivial|refine qu q ?_|refine rb0 ?_|refine aS ?_|fail)
end Go.TY
end
section
namespace Go.TY
open Go Go.DL Go.MM Go.Proofs
section
variable {α:Type} [DecidableEq α] {lt:α→α→Bool}
end
end Go.TY
end
noncomputable section
namespace Go.TY
open Go Go.DL Go.Proofs
def c49:aY:=(.seq (.region [oo 2 (.box 9 (tm 0)),oo 3 (.box 1 (tm 1)),⟨some 4,.alloc [Z0,Z0,S0,Z0,Z0,.nil,S0,Z0,.nil],none,[]⟩] []) (.seq (.region [oo 5 (.alloc [.nilfn])] []) (.seq (.cut (.region [oo 6 (.mkfn 103 [(tm 3),(tm 5)]),o0 (.store 1 (tm 5) (tm 6))] [])) (.seq (.region [ld 7 5,lA 8 9 2,oo 9 (.b8 (tm 7) [tm 8]),o0 (.store 9 (tm 4) (tm 9))] []) .ret))))
theorem l49:(Tryz.f49.body.bind (bD Tryz.prog 10 [6000002]))=some c49:=by kernel_rfl
def Kw:aY:=(.seq (.region [oo 3 (.box 9 (tm 0)),⟨some 4,.alloc [Z0,Z0,S0,Z0,Z0,.nil,S0,Z0,.nil],none,[]⟩] []) (.seq (.region [fa 8 1 3,lA 9 5 8,ld 10 1,oo 11 (.call 52 [(tm 9),(tm 10)]),fa 12 1 3,o0 (.store 5 (tm 12) (tm 11))] []) (.seq (.region [oo 5 (.mov (.const .nil))] []) (.seq (.seq (.region [fa 13 8 3,ld 14 13,ln 15 14,oo 16 (.mov (Kc 0))] []) (.block 0 (.loop (.seq (.region [oo 17 (.bin .lss (tm 16) (tm 15))] []) (.seq (.cond (tm 17) .skip (.exit 0)) (.seq (.block 1 (.seq (.region [ix 18 9 14 16,lA 19 9 18,⟨some 7,.alloc [Z0,Z0,S0,Z0,Z0,.nil,S0,Z0,.nil],none,[]⟩,o0 (.store 9 (tm 7) (tm 19))] []) (.region [mv 20 5,ld 21 2,lA 22 9 7,oo 23 (.b8 (tm 21) [tm 22]),⟨some 24,.buildS 28 9 1 [Z0,Z0,S0,Z0,Z0,.nil,S0,Z0,.nil] [(0,(tm 23))],none,[]⟩,oo 25 (.append 26 28 9 120 (tm 20) (tm 24)),mv 5 25] []))) (.region [oo 26 (.bin .add (tm 16) (Kc 1)),mv 16 26] []))))))) (.seq (.region [mv 27 5,fa 28 8 3,o0 (.store 1 (tm 28) (tm 27))] []) (.seq (.region [lA 29 9 3,o0 (.store 9 (tm 4) (tm 29))] []) .ret))))))
theorem LA:(Tryz.f103.body.bind (bD Tryz.prog 30 []))=some Kw:=by kernel_rfl
def c52:aY:=(.seq (.region [oo 2 (.box 5 (tm 0)),⟨some 4,.alloc [Z0,S0,Z0,Z0,.nil],none,[]⟩] []) (.seq (.seq (.region [fa 8 0 2,ld 9 8,oo 10 (.bin .eql (tm 9) (Kc 9))] []) (.cond (tm 10) (.seq (.seq (.region [fa 11 2 2,ld 12 11,mv 13 1,oo 14 (.bin .leq (tm 12) (tm 13)),mv 15 14,mT 16 1 15,oT 17 15 (.offA 3 (tm 2)),oT 18 15 (.load 1 false (tm 17)),oT 19 15 (.bin .lss (tm 16) (tm 18)),oo 20 (.pick (tm 15) (tm 19) kF)] []) (.cond (tm 20) (.seq (.region [⟨some 21,.build [Z0,S0,Z0,Z0,.nil] [(0,1,(Kc 1))],none,[]⟩,o0 (.store 5 (tm 4) (tm 21))] []) .ret) .skip)) (.seq (.region [⟨some 22,.build [Z0,S0,Z0,Z0,.nil] [(0,1,(Kc 2))],none,[]⟩,o0 (.store 5 (tm 4) (tm 22))] []) .ret)) .skip)) (.seq (.region [oo 5 (.mov (.const .nil))] []) (.seq (.seq (.region [fa 23 4 2,ld 24 23,ln 25 24,oo 26 (.mov (Kc 0))] []) (.block 0 (.loop (.seq (.region [oo 27 (.bin .lss (tm 26) (tm 25))] []) (.seq (.cond (tm 27) .skip (.exit 0)) (.seq (.block 1 (.seq (.region [ix 28 5 24 26,lA 29 5 28,⟨some 7,.alloc [Z0,S0,Z0,Z0,.nil],none,[]⟩,o0 (.store 5 (tm 7) (tm 29))] []) (.region [mv 30 5,lA 31 5 7,mv 32 1,oo 33 (.call 52 [(tm 31),(tm 32)]),⟨some 34,.buildS 25 5 1 [Z0,S0,Z0,Z0,.nil] [(0,(tm 33))],none,[]⟩,oo 35 (.append 23 25 5 64 (tm 30) (tm 34)),mv 5 35] []))) (.region [oo 36 (.bin .add (tm 26) (Kc 1)),mv 26 36] []))))))) (.seq (.region [mv 37 5,fa 38 4 2,o0 (.store 1 (tm 38) (tm 37))] []) (.seq (.region [lA 39 5 2,o0 (.store 5 (tm 4) (tm 39))] []) .ret))))))
theorem l52:(Tryz.f52.body.bind (bD Tryz.prog 40 []))=some c52:=by kernel_rfl
end Go.TY
end
section
namespace Go.TY
open Go Go.DL Go.MM Go.Proofs
inductive LeC:List T→List T→Prop
 |nil:LeC [] []
 |same (t:T) {ts us:List T} (h:LeC ts us):LeC (t::ts) (t::us)
 |none (n:Nat) {ts us:List T} (h:LeC ts us):LeC (.nil::ts) (.slice n []::us)
theorem LeC.len: ∀{ts us:List T},LeC ts us→ts.length=us.length
 |_,_,.nil=>rfl
 |_,_,.same _ h=>congrArg (· +1) h.len
 |_,_,.none _ h=>congrArg (· +1) h.len
theorem LeC.get: ∀{ts us:List T},LeC ts us→ ∀{i:Nat} {u:T},us[i]? =some u→ts[i]? =some u∨ ∃n,ts[i]? =some .nil∧u= .slice n []
 |_,_,.nil,i,u,h=>by simp at h
 |_,_,.same t h,i,u,hu=>by
  cases i with
  |zero=>exact .inl hu
  |succ i=>simpa using h.get (by simpa using hu)
 |_,_,.none n h,i,u,hu=>by
  cases i with
  |zero=>simp at hu;exact .inr ⟨n,rfl,hu.symm⟩
  |succ i=>simpa using h.get (by simpa using hu)
theorem Rep.leC {S:ar} {w:World} {v:Value} {ts us:List T} (h:Rep S w v (.agg ts)) (hl:LeC ts us):Rep S w v (.agg us):=by
 cases h with
 |agg cs _ hs h1 h=>
  refine .agg cs us (hs.trans hl.len) (fun t ht=>?_) fun i x u hx hu=>?_
  ·obtain ⟨i,hi⟩:=List.mem_iff_getElem?.1 ht
   rcases hl.get hi with e|⟨n,_,rfl⟩
   ·exact h1 t (List.mem_of_getElem? e)
   ·rfl
  ·rcases hl.get hu with e|⟨n,e,rfl⟩
   ·exact h i x u hx e
   ·exact Rep.kn n (h i x .nil hx e)
theorem Fa {P:Program} {f:FuncId} {xs ts us:List T} (h:DCalls P f xs (.agg ts)) (hl:LeC ts us):DCalls P f xs (.agg us):=h.res fun _ _ _ h=>Rep.leC h hl
theorem Ch {us:List T} (h:us.length=5): ∃a b c d e,us=[a,b,c,d,e]:=by
 match us,h with
 |[a,b,c,d,e],_=>exact ⟨a,b,c,d,e,rfl⟩
mutual
def wB (tick:Int):RP→RP
 |.mk k f n m a=>if k=9 then (if n≤tick∧tick<m then .mk 1 e0 0 0 [] else .mk 2 e0 0 0 []) else .mk k f n m (zX tick a)
def zX (tick:Int):List RP→List RP
 |[]=>[]
 |r::rs=>wB tick r::zX tick rs
end
theorem Al (tick:Int): ∀l:List RP,zX tick l=l.map (wB tick)
 |[]=>rfl
 |r::rs=>congrArg (wB tick r:: ·) (Al tick rs)
theorem t62 (tick:Int) (N:Nat): ∀r:RP,r.nodes≤N→N<2^40→DCalls Tryz.prog 52 [.agg (sB r),I tick] (.agg (sB (wB tick r))):=by
 induction N with
 |zero=>intro r h;have:=r.uD;omega
 |succ N ih=>
  rintro ⟨k,f,n,m,l⟩ hr hN
  simp only [RP.nodes,wB] at hr ⊢
  have go: ∀x,wpC Tryz.prog c52 (eU [.agg (sB (.mk k f n m l)),I tick]) (nW (dF Tryz.prog) [.cell 4 25] [x])→DCalls Tryz.prog 52 [.agg (sB (.mk k f n m l)),I tick] x:=fun x h=>
   qO (rs:=[.cell 4 25]) mixed Tryz.func52 l52 rfl rfl rfl (r:=[x]) (nlZ rfl) h
  by_cases hk:k=9
  ·rw [if_pos hk]
   by_cases hc:n≤tick∧tick<m
   ·rw [if_pos hc]
    refine Fa (go (.agg [I 1,nm0,I 0,I 0,.nil]) ?_) (.same _ (.same _ (.same _ (.same _ (.none _ .nil)))))
    repeat' ((conv=>whnf);first|exact trivial|refine nT_ ?_|refine aE1 ?_|refine aD1 ?_|refine aS ?_|fail)
   ·rw [if_neg hc]
    refine Fa (go (.agg [I 2,nm0,I 0,I 0,.nil]) ?_) (.same _ (.same _ (.same _ (.same _ (.none _ .nil)))))
    repeat' ((conv=>whnf);first|exact trivial|refine nT_ ?_|refine aE1 ?_|refine aD0 ?_|refine nD_ (fun hq=>?_) (fun hq=>?_)|refine aS ?_|fail)
    all_goals (exfalso;omega)
  ·rw [if_neg hk]
   have hl:=uu l
   refine go _ ?_
   repeat' ((conv=>whnf);first|refine nT_ ?_|refine aE0 ?_|refine aS ?_|fail)
   refine qZ 0 (α:=Nat) (β:=Unit) (fun q=>{sl:=[(1,.t (I tick)),(2,.ptr 2 0),(4,.ptr 4 0),(5,.own 35 25 5 ((l.take q).map fun x=>.agg (sB (wB tick x)))),(24,.t (.slice 5 (l.map sQ))),(25,.t (I l.length)),(26,.t (I q))],bx:=[(2,.d 5 (sB (.mk k f n m l))),(4,.d 5 [I 0,nm0,I 0,I 0,.nil])]})
    (fun q=>q≤l.length) (fun q=>l.length - q) (fun _=>{sl:=[(2,.ptr 2 0),(4,.ptr 4 0),(5,.t (.slice 5 (l.map fun x=>.agg (sB (wB tick x)))))],bx:=[(2,.d 5 (sB (.mk k f n m l))),(4,.d 5 [I 0,nm0,I 0,I 0,.nil])]}) (fun _=>True) 0 (by simp) ?_ ?_ ?_
   ·repeat' (first|exact trivial|exact LeV.same _|exact LeB.same _|exact rfl|exact fun _ _ _=>trivial|exact lI|exact LeV.nil _ _ _|refine And.intro ?_ ?_)
   ·rintro i hi
    rcases Nat.lt_or_ge i l.length with h|h
    ·have hn:=tS h
     have hm:=tR (l:=l) (j:=i+1)
     have hc:=ih l[i] (by omega) (by omega)
     have hcl:=sL (wB tick l[i])
     have hg:(l.map sQ)[i]?.getD .nil= .agg (sB l[i]):=by simp [h,sJ]
     have ht:l.take (i+1)=l.take i++[l[i]]:=by rw [List.take_succ_eq_append_getElem h]
     generalize l[i]=x at *
     obtain ⟨xk,xf,xn,xm,xl⟩:=x
     repeat' ((conv=>whnf);first|(refine nv_ (.agg (sB (.mk xk xf xn xm xl))) (by first|exact hg|fail) ?_)|refine rE _ (hc) ?_|refine nT_ ?_|refine aD1 ?_|(refine And.intro (by first|exact hcl|exact ⟨trivial,hcl⟩|((simp only [List.length_map,List.length_take,List.length_cons,List.length_nil];omega);done)|fail) ?_)|refine aS ?_|fail)
     refine ⟨i+1,h,by omega,?_⟩
     repeat' (first|(exact rX (by rw [ht];simp))|exact trivial|exact LeV.same _|exact LeB.same _|exact rfl|exact fun _ _ _=>trivial|exact lI|refine And.intro ?_ ?_)
    ·have:i=l.length:=by omega
     subst this
     rw [List.take_length]
     repeat' ((conv=>whnf);first|(exact ⟨(),trivial,by (repeat' (first|(exact LeV.data _ _ _ _)|exact trivial|exact LeV.same _|exact LeB.same _|exact rfl|exact fun _ _ _=>trivial|refine And.intro ?_ ?_));done⟩)|refine aD0 ?_|refine aS ?_|fail)
   ·rintro _ _
    have e:(l.map fun x=>T.agg (sB (wB tick x)))=(zX tick l).map sQ:=by rw [Al,List.map_map];exact List.map_congr_left fun x _=>(sJ _).symm
    rw [e]
    repeat' ((conv=>whnf);first|exact trivial|refine aS ?_|fail)
    all_goals exact ⟨congrArg some rfl,trivial⟩
mutual
def vr (tick:Int):RO→RO
 |.mk k p f n a=>.mk k (wB tick p) f n (yW tick a)
def yW (tick:Int):List RO→List RO
 |[]=>[]
 |r::rs=>vr tick r::yW tick rs
end
theorem Am (tick:Int): ∀l:List RO,yW tick l=l.map (vr tick)
 |[]=>rfl
 |r::rs=>congrArg (vr tick r:: ·) (Am tick rs)
abbrev ED (tick:Int):T:=.knot 103 [.cptr [I tick] 0] []
theorem t61 (tick:Int) (N:Nat): ∀r:RO,r.wt≤N→N<2^40→DCalls Tryz.prog 103 [.agg (sA r),.cptr [I tick] 0,ED tick] (.agg (sA (vr tick r))):=by
 induction N with
 |zero=>intro r h;have:=r.xr;omega
 |succ N ih=>
  rintro ⟨k,⟨pk,pf,pn,pm,pa⟩,f,n,l⟩ hr hN
  simp only [RO.wt,vr] at hr ⊢
  have h62:=t62 tick _ (.mk pk pf pn pm pa) (Nat.le_refl _) (by omega)
  obtain ⟨c0,c1,c2,c3,c4,he⟩:=Ch (sL (wB tick (.mk pk pf pn pm pa)))
  rw [he] at h62
  simp only [sA]
  rw [he]
  have hl:=vB l
  refine qO (rs:=[.cell 4 28]) mixed Tryz.func103 LA rfl rfl rfl (r:=[.agg (I k::([c0,c1,c2,c3,c4]++[.str f,I n,.slice 9 ((yW tick l).map s8)]))]) (nlZ rfl) ?_
  repeat' ((conv=>whnf);first|refine rE _ (h62) ?_|refine nT_ ?_|refine aS ?_|fail)
  refine qZ 0 (α:=Nat) (β:=Unit) (fun q=>{sl:=[(2,.t (ED tick)),(3,.ptr 3 0),(4,.ptr 4 0),(5,.own 25 28 9 ((l.take q).map fun x=>.agg (sA (vr tick x)))),(14,.t (.slice 9 (l.map s8))),(15,.t (I l.length)),(16,.t (I q))],bx:=[(3,.d 9 (I k::([c0,c1,c2,c3,c4]++[.str f,I n,.slice 9 (l.map s8)]))),(4,.d 9 [I 0,I 0,nm0,I 0,I 0,.nil,nm0,I 0,.nil])]})
   (fun q=>q≤l.length) (fun q=>l.length - q) (fun _=>{sl:=[(3,.ptr 3 0),(4,.ptr 4 0),(5,.t (.slice 9 (l.map fun x=>.agg (sA (vr tick x)))))],bx:=[(3,.d 9 (I k::([c0,c1,c2,c3,c4]++[.str f,I n,.slice 9 (l.map s8)]))),(4,.d 9 [I 0,I 0,nm0,I 0,I 0,.nil,nm0,I 0,.nil])]}) (fun _=>True) 0 (by simp) ?_ ?_ ?_
  ·repeat' (first|exact trivial|exact LeV.same _|exact LeB.same _|exact rfl|exact fun _ _ _=>trivial|exact lI|exact LeV.nil _ _ _|refine And.intro ?_ ?_)
  ·rintro i hi
   rcases Nat.lt_or_ge i l.length with h|h
   ·have hn:=uG h
    have hm:=uh (l:=l) (j:=i+1)
    have hc:=ih l[i] (by omega) (by omega)
    have hcl:=sF (vr tick l[i])
    have hg:(l.map s8)[i]?.getD .nil= .agg (sA l[i]):=by simp [h,sN]
    have ht:l.take (i+1)=l.take i++[l[i]]:=by rw [List.take_succ_eq_append_getElem h]
    generalize l[i]=x at *
    obtain ⟨xk,⟨yk,yf,yn,ym,ya⟩,xf,xn,xl⟩:=x
    repeat' ((conv=>whnf);first|(refine nv_ (.agg (sA (.mk xk (.mk yk yf yn ym ya) xf xn xl))) (by first|exact hg|fail) ?_)|refine rE _ (hc) ?_|refine nT_ ?_|refine aD1 ?_|(refine And.intro (by first|exact hcl|exact ⟨trivial,hcl⟩|((simp only [List.length_map,List.length_take,List.length_cons,List.length_nil];omega);done)|fail) ?_)|refine aS ?_|fail)
    refine ⟨i+1,h,by omega,?_⟩
    repeat' (first|(exact rX (by rw [ht];simp))|exact trivial|exact LeV.same _|exact LeB.same _|exact rfl|exact fun _ _ _=>trivial|exact lI|refine And.intro ?_ ?_)
   ·have:i=l.length:=by omega
    subst this
    rw [List.take_length]
    repeat' ((conv=>whnf);first|(exact ⟨(),trivial,by (repeat' (first|(exact LeV.data _ _ _ _)|exact trivial|exact LeV.same _|exact LeB.same _|exact rfl|exact fun _ _ _=>trivial|refine And.intro ?_ ?_));done⟩)|refine aD0 ?_|refine aS ?_|fail)
  ·rintro _ _
   have e:(l.map fun x=>T.agg (sA (vr tick x)))=(yW tick l).map s8:=by rw [Am,List.map_map];exact List.map_congr_left fun x _=>(sN _).symm
   rw [e]
   repeat' ((conv=>whnf);first|exact trivial|refine aS ?_|fail)
   all_goals exact ⟨congrArg some rfl,trivial⟩
theorem t39 (tick:Int) (r:RO) (hr:r.wt<2^39):DCalls Tryz.prog 49 [.agg (sA r),I tick] (.agg (sA (vr tick r))):=by
 refine qO (rs:=[.cell 4 28]) mixed Tryz.func49 l49 rfl rfl rfl (r:=[.agg (sA (vr tick r))]) (nlZ rfl) ?_
 have h61:=t61 tick _ r (Nat.le_refl _) (by omega)
 repeat' ((conv=>whnf);first|(refine And.intro (by first|exact sF _|fail) ?_)|refine aS ?_|fail)
 refine rA (β:=Unit) (fun _=>{sl:=[(2,.ptr 2 0),(4,.ptr 4 0),(5,.t (ED tick))],bx:=[(2,.d 9 (sA r)),(4,.d 9 [I 0,I 0,nm0,I 0,I 0,.nil,nm0,I 0,.nil])]}) (fun _=>True) ?_ ?_
 ·repeat' ((conv=>whnf);first|(exact ⟨(),trivial,by (repeat' (first|(exact LeV.knot 5 103 [.ptr 3 0] [] _ [3] _ [] rfl rfl rfl (by simp [Wk.keys]))|exact trivial|exact LeV.same _|exact LeB.same _|exact rfl|exact fun _ _ _=>trivial|refine And.intro ?_ ?_));done⟩)|refine aS ?_|fail)
 rintro _ _
 obtain ⟨k,p,f,n,a⟩:=r
 generalize vr tick (.mk k p f n a)=q at *
 obtain ⟨qk,⟨pk,pf,pn,pm,pa⟩,qf,qn,qa⟩:=q
 repeat' ((conv=>whnf);first|exact trivial|refine rE _ (h61) ?_|refine aS ?_|fail)
 all_goals exact ⟨congrArg some rfl,trivial⟩
end Go.TY
end
section
namespace Go.TY
open Go Go.DL Go.MM Go.Proofs
end Go.TY
end
noncomputable section
namespace Go.TY
open Go Go.DL Go.MM Go.Proofs
abbrev eni:Int→T:=I
abbrev mpi (ks:List Int) (vs:List T):T:=.mapd false [.int .i64] (ks.map eni) vs
def tG (id:Nat) (c:Option Code):Array Oper:=match rg0 id c with
 |.region _ ops _=>ops
 |_=> #[]
abbrev fAi:Option Code:=Tryz.f159.body
abbrev fKi:Option Code:=Tryz.f136.body
theorem bAi:fAi=some (.seq (.region 0 (tG 0 fAi) false) (.seq (.seq (.region 1 (tG 1 fAi) false)
  (.block 0 (.rangeFunc (.tmp 6) #[7] (.region 2 (tG 2 fAi) false) (.block 1 (.region 3 (tG 3 fAi) false))))) (.seq (.region 4 (tG 4 fAi) false) .ret))):=by kernel_rfl
abbrev IZ:List DI:=[⟨some 5,.mov (.tmp 7),none,[]⟩]
abbrev I2:List DI:=[⟨some 8,.load 1 false (.tmp 2),none,[]⟩,⟨some 9,.mov (.tmp 5),none,[]⟩,⟨some 10,.buildS 3 1 1 [.int .i64 0] [(0,.tmp 9)],none,[1]⟩,
 ⟨some 11,.append 46 3 1 8 (.tmp 8) (.tmp 10),none,[0,2]⟩,⟨none,.store 1 (.tmp 2) (.tmp 11),none,[3,3,0,1,2,3]⟩]
theorem Iq:bX Tryz.prog 13 [] (tG 0 fAi) (tG 0 fAi).toList=some [⟨some 2,.box 1 (.tmp 0),none,[]⟩,⟨some 4,.mov (.const .nil),none,[]⟩]:=by kernel_rfl
theorem Iu:bX Tryz.prog 13 [] (tG 1 fAi) (tG 1 fAi).toList=some [⟨some 6,.mov (.tmp 1),none,[]⟩]:=by kernel_rfl
theorem Ix:bX Tryz.prog 13 [] (tG 2 fAi) (tG 2 fAi).toList=some IZ:=by kernel_rfl
theorem IA:bX Tryz.prog 13 [] (tG 3 fAi) (tG 3 fAi).toList=some I2:=by kernel_rfl
theorem ID:bX Tryz.prog 13 [] (tG 4 fAi) (tG 4 fAi).toList=some [⟨some 12,.load 1 false (.tmp 2),none,[]⟩,⟨some 4,.mov (.tmp 12),none,[0,0]⟩]:=by kernel_rfl
abbrev yKi:Array Oper:=tG 3 fKi
theorem bKi:rg0 3 fKi= .region 3 yKi false:=by kernel_rfl
theorem IG:dW Tryz.prog 14 yKi [0,1]=some [⟨some 10,.mov (.tmp 0),none,[]⟩,⟨some 11,.mov (.tmp 3),none,[]⟩]:=by kernel_rfl
theorem IK:dW Tryz.prog 14 yKi [3]=some [⟨some 13,.not (.tmp 12),none,[2]⟩]:=by kernel_rfl
theorem IP: ∃o ats,yKi[2]? =some o∧o.guard=none∧o.op= .call {callee:=.value (.tmp 10),args:= #[.tmp 11],argTypes:=ats }∧o.dst=some 12:=by
 refine ⟨((tG 3 fKi)[2]?).getD default,(match (((tG 3 fKi)[2]?).getD default).op with|.call c=>c.argTypes|_=> #[]),by kernel_rfl,by kernel_rfl,by kernel_rfl,by kernel_rfl⟩
abbrev GQ (l d:Nat) (f:FuncId) (tmps:Array Value):aa→World→Prop:=nr l (cW f tmps 7 (.region 2 (tG 2 fAi) false) (.block 1 (.region 3 (tG 3 fAi) false)) d)
abbrev WKi (l:Nat) (C:aa→World→Prop) (ks:List Int) (vs:List T) (ix:List Nat):Wk:=
 {sl:=[(0,.raw (.func (.yield l) #[] #[])),(5,.ptr 2005 0)],bx:=[(2,.v [.own 3011 3 1 (zx eni 0 ks ix)]),(2005,.itd (esK eni ks vs) ix)],gh:=[(0,[(2,.ptr 2 0)])],off:=2000,cx:=C }
theorem GG (l d:Nat) (f:FuncId) (tmps:Array Value) (ht:tmps.size=13) (ks:List Int) (vs:List T) (hvs:vs.length=ks.length) (hl:ks.length<2^40) (st0:St)
  (h0:st0=({sl:=[(2,.ptr 2 0),(6,.fn 136 [.t (.cptr [mpi ks vs] 0)])],bx:=[(2,.v [.own 3011 3 1 []])]}:Wk).mk'):
  wpC Tryz.prog GC (st0.iter l (cW f tmps 7 (.region 2 (tG 2 fAi) false) (.block 1 (.region 3 (tG 3 fAi) false)) d) [.t (.cptr [mpi ks vs] 0)] 2000)
   (qK st0 fun st=>st.sl 2= .ptr 2 0∧(∃ xs,ud eni 0 ks xs∧st.bx 2=some (.v [.own 3011 3 1 xs]))∧ ∀S w,st.cx S w):=by
 subst h0
 have hes:(esK eni ks vs).length=ks.length:=by simp [hvs]
 repeat' ((conv=>whnf);first|refine nT_ ?_|refine aS ?_|fail)
 refine qZ 0 (α:=List Nat) (β:=List Nat) (fun ix=>WKi l (GQ l d f tmps) ks vs ix) (fun ix=>ix.Nodup∧ ∀j∈ix,j<ks.length) (fun ix=>ks.length - ix.length)
  (fun ix=>WKi l (GQ l d f tmps) ks vs ix) (fun ix=>ix.Perm (List.range ks.length)) [] ⟨List.nodup_nil,by simp⟩ ?_ ?_ ?_
 ·exact ⟨⟨.same _,.same _,trivial⟩,⟨.same _,.same _,trivial⟩,⟨⟨.same _,trivial⟩,trivial⟩,rfl,fun _ _ h=>h,rfl⟩
 ·rintro ix ⟨hnd,hix⟩
  refine And.intro (fun j hj=>by rw [hes];exact hix j hj) (And.intro ?_ ?_)
  ·intro j e he hj
   obtain ⟨he1,hjl⟩:=zr (d:=0) he
   have hent:=yI _ ix j e he
   have hje:(ix++[j]).getLast?.getD 0<(esK eni ks vs).length:=by rw [List.getLast?_concat,hes];exact hjl
   obtain ⟨e1,e2⟩:=e
   dsimp only at he1 hent
   subst he1
   have hixl:ix.length≤ks.length:=by
    have:=hnd.length_le_of_subset (l₂:=List.range ks.length) (fun j hj=>List.mem_range.2 (hix j hj))
    simpa using this
   have hnd':(ix++[j]).Nodup:=by
    rw [List.nodup_append]
    exact ⟨hnd,by simp,fun a ha b hb=>by rw [List.mem_singleton.1 hb];exact fun e=>hj (e▸ha)⟩
   have hix': ∀i∈ix++[j],i<ks.length:=fun i hi=>by
    rcases List.mem_append.1 hi with h|h
    ·exact hix i h
    ·rw [List.mem_singleton.1 h];exact hjl
   have hixl':(ix++[j]).length≤ks.length:=by
    have:=hnd'.length_le_of_subset (l₂:=List.range ks.length) (fun j hj=>List.mem_range.2 (hix' j hj))
    simpa using this
   repeat' ((conv=>whnf);first|refine nv_ (.tup [eni (ks.getD j 0),e2]) hent ?_|(refine And.intro (by first|exact ⟨by simp,hje⟩|fail) ?_)|fail)
   obtain ⟨o,ats,o1,o2,o3,o4⟩:=IP
   have hsem: ∀(st:St) (Q:aB→St→Prop),p0 Tryz.prog 14 (.region 3 yKi false) st Q→p0 Tryz.prog 14 (rg0 3 fKi) st Q:=fun st Q h=>by rw [bKi];exact h
   refine hsem _ _ ?_
   refine q0 (P:=Tryz.prog) (k1:=[0,1]) (k:=2) (k2:=[3]) (by kernel_rfl) IG rfl IK rfl o1 o2 o3 o4 (by decide) (p:=7) ht (by decide) Ix rfl IA rfl 3000 (l:=l) (fn:=f) (dd:=d) (id1:=2) (id2:=3) (bl:=1) ?_
   refine ⟨fun _ _ h=>h,rfl,?_⟩
   repeat' ((conv=>whnf);first|(refine And.intro (by first|exact fun _ _=>trivial|exact ⟨rfl,nlZ rfl⟩|((simp;omega);done)|exact .inl rfl|fail) ?_)|refine aS ?_|fail)
   refine ⟨ix++[j],⟨hnd',hix'⟩,by rw [List.length_append];simp at hixl' ⊢;omega,?_⟩
   refine ⟨⟨.same _,.same _,trivial⟩,⟨?_,.same _,trivial⟩,⟨⟨.same _,trivial⟩,trivial⟩,rfl,fun _ _ h=>h,rfl⟩
   refine .v _ _ ⟨rX ?_,trivial⟩
   simp [zx]
  ·intro hall
   skip
   refine ⟨ix,xE hnd hix (fun j hj=>hall j (by rw [hes];exact hj)),?_⟩
   exact ⟨⟨.same _,.same _,trivial⟩,⟨.same _,.same _,trivial⟩,⟨⟨.same _,trivial⟩,trivial⟩,rfl,fun _ _ h=>h,rfl⟩
 rintro ix hp
 repeat' ((conv=>whnf);first|refine aS ?_|fail)
 exact ⟨⟨_,⟨ix,hp,rfl⟩,rfl⟩,fun _ _=>trivial⟩
abbrev vd (ks:List Int) (vs:List T):T:=.clos 136 [.cptr [mpi ks vs] 0]
theorem Ag (ks:List Int) (vs:List T) (hvs:vs.length=ks.length) (hl:ks.length<2^40):fK Tryz.prog 159 [.nil,vd ks vs] 3 1 (ud eni 0 ks):=by
 refine qm Tryz.func159 bAi rfl (nlZ rfl) ?_
 intro S w a0 hsr hdf
 let K0:St→Prop:=fun st=>aA Tryz.prog [⟨some 6,.mov (.tmp 1),none,[]⟩] st fun st=>
  bP {sl:=[(2,.ptr 2 0),(6,.t (vd ks vs))],bx:=[(2,.d 1 [.nil])]} st
 have hK0:aA Tryz.prog [⟨some 2,.box 1 (.tmp 0),none,[]⟩,⟨some 4,.mov (.const .nil),none,[]⟩] (eU [.nil,vd ks vs]) K0:=by
  repeat' ((conv=>whnf);first|refine aS ?_|fail)
  exact ⟨⟨.same _,.same _,trivial⟩,⟨.same _,trivial⟩,trivial,rfl,fun _ _ _=>trivial,rfl⟩
 refine wp_seq (nE (X:=[]) (N:=13) hsr Iq (fun a1 w1 h1=>?_) hK0)
 obtain ⟨E1,s1,rfl,k1,k2,k3⟩:=h1
 refine wp_seq (wp_seq (nE (X:=[]) k1 Iu (fun a2 w2 h2=>?_) k3))
 obtain ⟨E2,s2,rfl,k4,k5,k6⟩:=h2
 obtain ⟨E3,e3,k7⟩:=k4.bP k6
 rw [← e3]
 have k8:=k7.rG (k:=6) (k7.sl 6).rv
 obtain ⟨E4,e4,k10⟩:=SR.bP (a:=a2) (s:={sl:=[(2,.ptr 2 0),(6,.fn 136 [.t (.cptr [mpi ks vs] 0)])],bx:=[(2,.v [.own 3011 3 1 []])]}) k8 ⟨⟨.same _,.same _,trivial⟩,⟨.dv _ _ _ ⟨.nil _ _ _,trivial⟩,trivial⟩,trivial,rfl,fun _ _ _=>trivial,rfl⟩
 rw [← e4]
 refine wp_block ?_
 refine rh mixed k10 (fun _ _=>trivial) (y:=.tmp 6) rfl (gf:=136) (caps:=[.t (.cptr [mpi ks vs] 0)]) rfl Tryz.func136 LU rfl rfl rfl (nlZ rfl) 2000
  (K:=fun st=>st.sl 2= .ptr 2 0∧(∃ xs,ud eni 0 ks xs∧st.bx 2=some (.v [.own 3011 3 1 xs]))∧ ∀S w,st.cx S w) (fun l d f tmps ht=>?_) (fun a5 w5 h5=>?_)
 ·exact GG l d f tmps ht ks vs hvs hl _ rfl
 ·obtain ⟨S0',E5,s5,D,rfl,q1,q2,q3,q4,q5,q6,r1,⟨xs,hxs,r2⟩,r3⟩:=h5
  have q6':a5.defers=[{target:=.collected D,args:= #[]}]:=by rw [q6,k5,k2,hdf]
  show Code.wp _ _ _ _ _
  refine wp_seq (nE (X:=[]) q1 ID (K:=fun st=>(∀ S w,st.cx S w)∧st.sl 4= .own 3011 3 1 xs) (fun a6 w6 h6=>?_) ?_)
  ·obtain ⟨E6,s6,rfl,p1,p2,p3,p4⟩:=h6
   obtain ⟨js,hjs,rfl⟩:=hxs
   refine wp_ret ⟨.inr rfl,S0',E6,s6,D,rfl,p1,q2,q3,q4,q5,by rw [p2,q6'],p3,_,_,⟨js,hjs,rfl⟩,uW (fun _=>rfl) (fun _=>rfl) js ks,?_,.inl ⟨3011,rfl⟩⟩
   have:dP s6 Tryz.f159.results.toList=some [s6.sl 4]:=by
    rw [show Tryz.f159.results.toList=[.tmp 4] from rfl];rfl
   rw [this,p4]
  ·obtain ⟨sl5,bx5,gh5,off5,cx5⟩:=s5
   dsimp only at r1 r2 r3
   obtain ⟨g,rfl⟩: ∃g,sl5=upd g 2 (.ptr 2 0):=⟨sl5,(uv r1).symm⟩
   obtain ⟨b,rfl⟩: ∃b,bx5=upd b 2 (some (.v [.own 3011 3 1 xs])):=⟨bx5,(uv r2).symm⟩
   exact ⟨r3,rfl⟩
theorem B5 (ks:List Int) (vs:List T) (hvs:vs.length=ks.length) (hl:ks.length<2^40):fK Tryz.prog 134 [vd ks vs] 3 1 (ud eni 0 ks):=by
 refine qG (rs:=[.tmp 2]) mixed Tryz.func134 LS rfl rfl rfl (nlZ rfl) ?_
 repeat' ((conv=>whnf);first|refine ru (ts:=[.nil,vd ks vs]) rfl (Ag ks vs hvs hl) (fun xs hx=>?_)|fail)
 obtain ⟨js,hjs,rfl⟩:=hx
 exact ⟨_,_,⟨js,hjs,rfl⟩,uW (fun _=>rfl) (fun _=>rfl) js ks,rfl,.inl ⟨_,rfl⟩⟩
theorem Ej:iz Tryz.prog 135 (Value.int .i64) (fun x y:Int=>decide (x≤y)):=iz.int Tryz.Gc rfl (bQ Tryz.func135 rfl rfl)
theorem zJ (ks:List Int) (vs:List T) (hvs:vs.length=ks.length) (hl:ks.length<2^40) (hn:ks.Nodup):kI Tryz.prog 91 [vd ks vs] (.slice 1 ((yO ks).map eni)):=by
 refine qS (rs:=[.tmp 2]) mixed Tryz.func91 l91 rfl rfl rfl (nlZ rfl) ?_
 repeat' ((conv=>whnf);first|refine rf (ts:=[vd ks vs]) rfl (B5 ks vs hvs hl) rfl (fun h0=>?_) (fun xs hx hc=>?_)|fail)
 ·obtain ⟨zs,hp,h0⟩:=uY h0
  have:zs=[]:=by
   cases zs with
   |nil=>rfl
   |cons z zs=>cases h0
  subst this
  have:ks=[]:=List.nil_perm.1 hp
  subst this
  repeat' ((conv=>whnf);first|refine qc Ej ?_|fail)
  exact ⟨.t .nil,rfl,.nil 1⟩
 ·obtain ⟨zs,hp,rfl⟩:=uY hx
  have hzl:zs.length<2^40:=by rw [hp.length_eq];exact hl
  have hfl:=zU (enc:=eni) (fun _=>rfl) zs
  have hle:(zs.map eni).length=zs.length:=List.length_map _
  have hsl:(yO ks).length=zs.length:=by
   have e:=congrArg List.length (congrArg (List.map I) (BL hn hp))
   simp only [List.length_map,List.length_mergeSort] at e
   omega
  repeat' ((conv=>whnf);first|(refine re (n:=5) (off:=0) (len:=(zs.map eni).length) (m:=(zs.map eni).length * 1) (ts:=(zs.map eni).flatMap T.cells) (encT:=I) Ej rfl zs ?_ ?_ (by omega) (fun a S w v h=>by cases h;rfl) (fun a S w=>.int _ _) (fun _=>rfl) ?_)|fail)
  ·rw [hfl,List.drop_zero,List.take_of_length_le (by omega)]
  ·simp
  ·skip
   have e:=congrArg (List.map I) (BL hn hp)
   refine ⟨.view 5 0 (zs.map eni).length 1,rfl,.view 5 0 (zs.map eni).length 1 ((zs.map eni).length * 1) (aN ((zs.map eni).flatMap T.cells) 0 (zs.map eni).length ((zs.mergeSort (fun x y:Int=>decide (x≤y))).map I)) _ [5] rfl ?_ ?_⟩
   ·rw [u7 (by rw [hfl]),e]
    intro t ht
    obtain ⟨z,_,rfl⟩:=List.mem_map.1 ht
    rfl
   ·show (cond (Nat.blt 0 1&&Nat.ble (0+(zs.map eni).length * 1) ((zs.map eni).length * 1)) (some (T.slice 1 (chunk 1 (zs.map eni).length ((aN ((zs.map eni).flatMap T.cells) 0 (zs.map eni).length ((zs.mergeSort (fun x y:Int=>decide (x≤y))).map I)).drop 0)),[5])) none)=_
    rw [u7 (by rw [hfl]),e,Nat.zero_add,List.drop_zero,x7 _ _ (by rw [List.length_map];omega)]
    have:Nat.ble ((zs.map eni).length * 1) ((zs.map eni).length * 1)=true:=Nat.ble_eq_true_of_le (Nat.le_refl _)
    rw [this]
    rfl
theorem BN (ks:List Int) (vs:List T):DCalls Tryz.prog 92 [mpi ks vs] (vd ks vs):=by
 refine qO (rs:=[.tmp 2]) mixed Tryz.func92 l92 rfl rfl rfl (r:=[vd ks vs]) (nlZ rfl) ?_
 repeat' ((conv=>whnf);first|exact trivial|refine aS ?_|fail)
end Go.TY
end
section
namespace Go.TY
open Go Go.DL Go.MM Go.Proofs
attribute [local irreducible] aI gR WCM YC
def bounds (gs:List RG):List Int:=gs.flatMap fun g=>Bg g.pol
def wW (gs:List RG):List Int:=tZ ltI (bounds gs)
theorem yM {α:Type} [DecidableEq α]: ∀{a acc b:List α},once acc (a++b)=once (once acc a) b
 |[],_,_=>rfl
 |x::a,acc,b=>by
  rw [List.cons_append]
  exact yM (a:=a)
def wc (pre:List Int) (r:RO) (k:Nat):List Int:=once (once [] pre) (s4 xp (tc r) k)
def vH (pre:List Int) (r:RO) (k:Nat):List (Nat×BX):=[(3,.v [.mp 7]),(7,.m false [.int .i64] (esI (wc pre r k)) none)]
theorem HZ (pre:List Int) (r:RO):ph (fun n=>10≤n∧n<100) 100 (fun _ _=>True) (vH pre r) (fun _ cx _=>cx=(fun _ _=>True)∧False) where
 fh:=fun n h=>h.2
 nm:=fun k p hp=>by
  simp only [vH,List.mem_cons,List.not_mem_nil,or_false] at hp
  rcases hp with rfl|rfl <;> exact ⟨by dsimp only;omega,by dsimp only;omega⟩
 nms:=fun c cx o ho=>ho.2.elim
 cov:=fun k k' p hp=>by
  simp only [vH,List.mem_cons,List.not_mem_nil,or_false] at hp ⊢
  rcases hp with rfl|rfl
  ·exact ⟨_,Or.inl rfl,rfl⟩
  ·exact ⟨_,Or.inr rfl,rfl⟩
 covs:=fun c cx o ho=>ho.2.elim
 safe:=fun k p hp=>by
  simp only [vH,List.mem_cons,List.not_mem_nil,or_false] at hp
  rcases hp with rfl|rfl
  ·intro c hc
   rw [List.mem_singleton.1 hc]
   exact .mp 7 ⟨(7,_),List.mem_cons_of_mem _ (List.mem_singleton.2 rfl),rfl⟩
  ·exact trivial
 safes:=fun c cx o ho=>ho.2.elim
 cxd:=fun c cx o ho=>ho.2.elim
 cxo_:=rT
 nd:=fun k=>by show ([3,7]:List Nat).Nodup;decide
abbrev SB (gs:List RG) (i:Nat):Wk:={sl:=[(3,.ptr 3 0),(8,.t (.slice 15 (gs.map sE))),(9,.t (I gs.length)),(10,.t (I i))],bx:=[(3,.v [.mp 7]),(7,.m false [.int .i64] (esI (once [] (bounds (gs.take i)))) none)]}
theorem A3 (gs:List RG) (hl:gs.length<2^39) (hg: ∀g∈gs,g.pol.wt<2^39) (hb:(bounds gs).length<2^40):DCalls Tryz.prog 57 [.slice 15 (gs.map sE)] (.slice 1 ((wW gs).map I)):=by
 refine qP Tryz.func57 Ls rfl (r:=[.slice 1 ((wW gs).map I)]) (nlZ rfl) ?_
 rw [show Tryz.f57.ntmps=31 from rfl,show Tryz.f57.results.toList=[.tmp 2] from rfl,k57]
 have hgl:((gs.map sE).length:Int)=(gs.length:Int):=by rw [List.length_map]
 refine aI.seq (Jd ?_)
 skip
 refine aI.seq (Jj ?_)
 repeat' ((conv=>whnf);first|refine aS ?_|fail)
 refine aI.seq (aI.seq (Jp ?_))
 skip
 refine aI.bP (s:=SB gs 0) (by repeat' (first|(exact leI (by simp))|exact trivial|exact LeV.same _|exact LeB.same _|exact rfl|exact fun _ _ _=>trivial|refine And.intro ?_ ?_)) ?_
 refine aI.block (aI.loop (fun m s=> ∃i,i≤gs.length∧m=gs.length - i∧s=(SB gs i).mk') gs.length ⟨0,by omega,by omega,rfl⟩ ?_)
 rintro m s ⟨i,hi,rfl,rfl⟩
 refine aI.seq (Jv ?_)
 rcases Nat.lt_or_ge i gs.length with h|h
 case inr=>
  have:i=gs.length:=by omega
  subst this
  have e:SB gs gs.length=({sl:=[(3,.ptr 3 0),(8,.t (.slice 15 (gs.map sE))),(9,.t (I gs.length)),(10,.t (I gs.length))],bx:=[(3,.v [.mp 7]),(7,.m false [.int .i64] (esI (once [] (bounds gs))) none)]}:Wk):=by unfold SB;rw [List.take_length]
  rw [e]
  clear e
  have hol:=vt (l:=bounds gs) (acc:=[])
  have hnd:=uk (l:=bounds gs) (acc:=[]) List.nodup_nil
  have hfin:yO (once [] (bounds gs))=wW gs:=by
   unfold yO wW
   refine vU EG fun x=>?_
   rw [uC]
   simp only [List.not_mem_nil,false_or]
  simp only [List.length_nil,Nat.zero_add] at hol
  generalize once [] (bounds gs)=ks at *
  have hk1:=BN ks (ks.map fun _=>T.bool true)
  have hk2:=(zJ ks (ks.map fun _=>T.bool true) (by simp) (by omega) hnd).rD
  rw [hfin] at hk2
  repeat' ((conv=>whnf);first|refine aD0 ?_|refine aS ?_|fail)
  refine aI.seq (Ff ?_)
  skip
  refine aI.bP (s:={sl:=[(3,.ptr 3 0)],bx:=[(3,.v [.t (mpi ks (ks.map fun _=>T.bool true))])]}) ⟨⟨.same _,trivial⟩,⟨.v _ _ ⟨.conv _ _ [7] ?_ (by simp [Wk.keys]),trivial⟩,trivial⟩,trivial,rfl,fun _ _ _=>trivial,rfl⟩ ?_
  ·show some (T.mapd false [.int .i64] ((esI ks).map (·.1)) ((esI ks).map (·.2)),[7])=_
   unfold esI
   rw [List.map_map,List.map_map];rfl
  refine G4 ?_
  repeat' ((conv=>whnf);first|refine rE _ (hk1) ?_|refine rE _ (hk2) ?_|fail)
  exact ⟨⟨rfl,trivial⟩,fun _ _=>trivial⟩
 obtain ⟨pre,hpre0⟩: ∃pre,pre=bounds (gs.take i):=⟨_,rfl⟩
 have e:SB gs i=({sl:=[(3,.ptr 3 0),(8,.t (.slice 15 (gs.map sE))),(9,.t (I gs.length)),(10,.t (I i))],bx:=[(3,.v [.mp 7]),(7,.m false [.int .i64] (esI (once [] pre)) none)]}:Wk):=by rw [hpre0]
 rw [e]
 clear e
 repeat' ((conv=>whnf);first|refine aD1 ?_|refine aS ?_|fail)
 refine aI.seq (Ff ?_)
 skip
 have hgi:=hg gs[i] (List.getElem_mem h)
 have hpol:=ug gs[i]
 have hG:sE gs[i]= .agg (sD gs[i]):=rfl
 have hpre:bounds (gs.take (i+1))=bounds (gs.take i)++Bg gs[i].pol:=by
  unfold bounds
  rw [List.take_succ_eq_append_getElem h,List.flatMap_append];simp
 rw [← hpre0] at hpre
 clear hpre0
 refine aI.seq (aI.block (aI.seq (JG ?_)))
 repeat' ((conv=>whnf);first|(refine nv_ (.agg (sD gs[i])) (by first|((simp [h];rfl);done)|fail) ?_)|(refine And.intro (by first|exact ⟨sK _,nlZ rfl⟩|exact sK _|fail) ?_)|refine aS ?_|fail)
 have ht:=BQ gs[i].pol
 rw [sO,uA] at ht
 refine aI.seq (JH ?_)
 repeat' ((conv=>whnf);first|(refine nv_ (.agg (sA gs[i].pol)) (by first|exact congrArg T.agg hpol|fail) ?_)|refine rE _ (ht) ?_|refine aS ?_|fail)
 generalize gs[i].pol=r at *
 rw [← uA]
 refine aI.bP (s:={sl:=[(3,.ptr 3 0),(8,.t (.slice 15 (gs.map sE))),(9,.t (I gs.length)),(10,.t (I i)),(16,.t (.clos 130 [.cptr (sW r) 0]))],bx:=[(3,.v [.mp 7]),(7,.m false [.int .i64] (esI (once [] pre)) none)]}) (by repeat' (first|exact trivial|exact LeV.same _|exact LeB.same _|exact rfl|exact fun _ _ _=>trivial|refine And.intro ?_ ?_)) ?_
 have hlen:(sG r).length≤r.wt:=by rw [s9,uJ];exact r.wZ
 have hwt: ∀o∈sG r,o.wt≤r.wt:=by rw [s9];exact uX r
 refine aI.block (yB (N:=31) rfl r rfl 100 (fun n=>10≤n∧n<100) 100 (Nat.le_refl _) (by omega) (fun o ho=>by have h1:=hwt o ho;rw [uq,ve];obtain ⟨k,p,f,n,a⟩:=o;simp only [RO.wt] at h1;show p.nodes<_;omega) (fun n h=>rz fun p hp=>?_) (fun n h=>rz fun p hp=>?_) (by exact rU) (outs:=vH pre r) (stop:=fun _ cx _=>cx=(fun _ _=>True)∧False) ?_ (fun l0 D fn tmps hN=>?_) ?_ (fun c cx o h=>h.2.elim))
 ·simp only [List.mem_cons,List.not_mem_nil,or_false] at hp
  rcases hp with rfl|rfl <;> (dsimp only;omega)
 ·simp only [List.mem_cons,List.not_mem_nil,or_false] at hp
  rcases hp with rfl|rfl <;> (dsimp only;omega)
 ·intro q hq
  simp only [vH,List.mem_cons,List.not_mem_nil,or_false] at hq
  rcases hq with rfl|rfl <;> rfl
 ·refine dR.top (d:=6) (n:=5) (lo:=10) (hi:=100) (stop:=fun _ _=>False) (HZ pre r) (fun n h1 h2=>⟨h1,h2⟩) hN (by decide) (fun hw=>JI hw) rfl (by decide) (by decide) (fun x hx=>?_) (fun k cs b G C hk hcs=>?_)
  ·obtain ⟨t,_,rfl⟩:=List.mem_map.1 hx
   exact ⟨_,sJ t,sL t⟩
  rw [List.getElem?_map,Option.map_eq_some_iff] at hk
  obtain ⟨t,htk,hte⟩:=hk
  rw [sJ] at hte
  obtain rfl:sB t=cs:=T.agg.inj hte
  have hfs:=vF (g:=xp) htk
  have hos:vH pre r k=[(3,.v [.mp 7]),(7,.m false [.int .i64] (esI (wc pre r k)) none)]:=rfl
  rw [hos]
  have hks:wc pre r (k+1)=once (wc pre r k) (xp t):=by unfold wc;rw [hfs,yM]
  have endN: ∀s:St,s.gh=G→s.cx=C→(∀ q, ¬(10≤q∧q<100)→s.bx q=aK b [(3,.v [.mp 7]),(7,.m false [.int .i64] (esI (wc pre r (k+1))) none)] q)→RB b G C 10 100 (vH pre r (k+1)) (fun _ _=>False) .normal s:=fun s h1 h2 h3=>⟨h1,h2,_,h3,rfl⟩
  generalize wc pre r (k+1)=ks' at *
  generalize wc pre r k=ks at *
  clear hte hos hfs
  refine JJ ?_
  obtain ⟨kd,f,n,m,args⟩:=t
  by_cases k9:kd=9
  ·have hmr:ks'=once ks [n,m]:=by rw [hks];unfold xp;exact congrArg (once ks) (if_pos k9)
   repeat' ((conv=>whnf);first|refine qx k9 ?_|refine nT_ ?_|(refine And.intro (by first|exact ⟨rfl,rfl,trivial⟩|fail) ?_)|refine aS ?_|fail)
   (conv=>whnf)
   refine endN _ rfl rfl fun q hq=>?_
   have hm:=qX (b:=b) hq
   by_cases h5:q=7
   ·subst h5
    show some (BX.m false [.int .i64] (bK (T.int .i64 m) (T.bool true) (bK (T.int .i64 n) (T.bool true) _)) none)=some (BX.m false [.int .i64] _ none)
    rw [y0,y0,hmr]
    rfl
   show cond (Nat.beq q 7) _ (cond (Nat.beq q 7) _ (cond (Nat.beq q 16) _ (cond (Nat.beq q 3) _ (cond (Nat.beq q 7) _ (gE 10 100 b q)))))=cond (Nat.beq q 3) _ (cond (Nat.beq q 7) _ (b q))
   rw [eS h5,eS (show q≠16 by omega),hm];rfl
  ·have hmr:ks'=ks:=by rw [hks];unfold xp;exact congrArg (once ks) (if_neg k9)
   subst hmr
   repeat' ((conv=>whnf);first|refine qw k9 ?_|refine nT_ ?_|refine aS ?_|fail)
   (conv=>whnf)
   refine endN _ rfl rfl fun q hq=>?_
   have hm:=qX (b:=b) hq
   show cond (Nat.beq q 16) _ (cond (Nat.beq q 3) _ (cond (Nat.beq q 7) _ (gE 10 100 b q)))=cond (Nat.beq q 3) _ (cond (Nat.beq q 7) _ (b q))
   rw [eS (show q≠16 by omega),hm];rfl
 ·have hes:vH pre r (tc r).length=[(3,.v [.mp 7]),(7,.m false [.int .i64] (esI (once [] (bounds (gs.take (i+1))))) none)]:=by
   unfold vH wc
   rw [v8,hpre,yM]
   unfold Bg
   rw [Aw]
  rw [hes]
  refine JK ?_
  skip
  exact ⟨gs.length - (i+1),SB gs (i+1),by omega,by (repeat' (first|exact trivial|exact LeV.same _|exact LeB.same _|exact rfl|exact fun _ _ _=>trivial|exact lI|refine And.intro ?_ ?_)),i+1,by omega,rfl,rfl⟩
end Go.TY
end
section
namespace Go.TY
open Go Go.DL Go.MM
theorem yJ {α:Type} {f g:α→Int} {xs:List α}:fz2 f g xs=0↔ ∀x∈xs,f x=0∧g x=0:=
 ⟨zt,fun h=>zY fun _ hj=>h _ (List.getElem_mem hj)⟩
theorem Da {l:List Fd} {r:RO} (h:ue l r=0):tX r=0:=by
 unfold ue at h
 by_cases c:tX r≠0
 ·rw [if_pos c] at h;exact absurd h c
 ·exact Decidable.not_not.1 c
theorem xK {l:List Fd} {s:RS} (h:tK l s=0):ti s=0:=by
 unfold tK at h
 by_cases c:ti s≠0
 ·rw [if_pos c] at h;exact absurd h c
 ·exact Decidable.not_not.1 c
theorem uZ {l:List Fd} {gs:List RG}:tV l gs=0↔gs.length≤8∧(∀ g∈gs,ue l g.pol=0∧tK l g.st=0)∧PW l (sH (gs.map (·.st))):=by
 unfold tV
 constructor
 ·intro h
  by_cases c:uN gs≠0
  ·rw [if_pos c] at h;exact absurd h c
  rw [if_neg c] at h
  have c:=Decidable.not_not.1 c
  by_cases d:fz2 (fun g=>ue l g.pol) (fun g=>tK l g.st) gs≠0
  ·rw [if_pos d] at h;exact absurd h d
  rw [if_neg d] at h
  have d:=Decidable.not_not.1 d
  refine ⟨?_,yJ.1 d,?_⟩
  ·unfold uN at c
   by_cases e:gs.length>8
   ·rw [if_pos e] at c;cases c
   ·omega
  ·cases hv:(tI l gs).isNone with
   |true=>rw [hv] at h;simp at h
   |false=>
    apply Classical.byContradiction
    intro hp
    rw [x6.2 hp] at hv;cases hv
 ·rintro ⟨h1,h2,h3⟩
  have c:uN gs=0:=by
   unfold uN
   rw [if_neg (by omega)]
   exact yJ.2 fun g hg=>⟨Da (h2 g hg).1,xK (h2 g hg).2⟩
  have d:=yJ.2 h2
  rw [if_neg (by rw [c];simp),if_neg (by rw [d];simp)]
  have:(tI l gs).isNone=false:=by
   cases hv:(tI l gs).isNone with
   |true=>exact absurd h3 (x6.1 hv)
   |false=>rfl
  rw [this];rfl
end Go.TY
end
section
namespace Go.TY
open Go Go.DL Go.MM Go.Proofs
end Go.TY
end
section
namespace Go.TY
open Go Go.DL Go.MM Go.Proofs
end Go.TY
end
section
namespace Go.TY
open Go Go.DL Go.MM
theorem td {gs:List RG} {s:RS}:s∈sH (gs.map (·.st))↔ ∃g∈gs,g.st=s∧s.kind≠0:=by
 unfold sH
 rw [List.mem_filter,List.mem_map]
 simp only [bne_iff_ne,ne_eq]
 exact ⟨fun ⟨⟨g,h1,h2⟩,h3⟩=>⟨g,h1,h2,h3⟩,fun ⟨g,h1,h2,h3⟩=>⟨⟨g,h1,h2⟩,h3⟩⟩
theorem HY {l:List Fd} {p q:List RG} (h:tV l p=0) (hl:q.length≤p.length) (hm: ∀g∈q,g∈p):tV l q=0:=by
 rw [uZ] at h ⊢
 obtain ⟨h1,h2,h3⟩:=h
 refine ⟨by omega,fun g hg=>h2 g (hm g hg),yP.2 fun s hs t ht e=>yP.1 h3 s ?_ t ?_ e⟩
 ·obtain ⟨g,k1,k2,k3⟩:=td.1 hs
  exact td.2 ⟨g,hm g k1,k2,k3⟩
 ·obtain ⟨g,k1,k2,k3⟩:=td.1 ht
  exact td.2 ⟨g,hm g k1,k2,k3⟩
theorem tP {gs:List RG} {x:ByteArray}:x∈tO gs↔ ∃s∈sH (gs.map (·.st)),s.var=x:=by
 unfold tO
 rw [Aq (uk (l:=(sH (gs.map (·.st))).map (·.var)) (acc:=[]) List.nodup_nil),uC,List.mem_map]
 simp
theorem ua {l:List Fd} {ss:List RS} {x:ByteArray} (h: ∃s∈ss,s.var=x): ∃s0∈ss,s0.var=x∧tW l ss x=some ⟨x,tq s0.kind,sP l s0,((sV ss x).map (·.n)).getD 0,((sV ss x).map (·.m)).getD 0⟩:=by
 obtain ⟨s,hs,hv⟩:=h
 unfold tW
 cases hf:ss.find? fun s=>decide (s.var=x) with
 |none=>
  have:=List.find?_eq_none.1 hf s hs
  simp [hv] at this
 |some s0=>exact ⟨s0,List.mem_of_find?_eq_some hf,by simpa using List.find?_some hf,rfl⟩
theorem zO {l:List Fd} {gs:List RG}: ∀v∈tB l gs,v.name∈tO gs:=by
 intro v hv
 obtain ⟨x,hx,rfl⟩:=List.mem_map.1 hv
 obtain ⟨s0,_,_,h⟩:=ua (l:=l) (tP.1 hx)
 rw [h]
 exact hx
theorem Eg {p q:List RG} (hm: ∀g∈q,g∈p) {x:ByteArray} (h:x∈tO q):x∈tO p:=by
 rw [tP] at h ⊢
 obtain ⟨s,hs,hv⟩:=h
 obtain ⟨g,k1,k2,k3⟩:=td.1 hs
 exact ⟨s,td.2 ⟨g,hm g k1,k2,k3⟩,hv⟩
def tE (gs:List RG) (x:ByteArray):Bool:=gs.any fun g=>g.st.kind==4&&decide (g.st.var=x)
def uw (p q:List RG) (a c:RV):RV:=
 let b:RV:=if (a.n=0∧a.m=0)∨(c.n=0∧c.m=0) then {a with n:=c.n,m:=c.m } else a
 if tE p a.name&&tE q a.name then {b with n:=a.n,m:=a.m } else b
def yQ (l:List Fd) (p q:List RG):Bool:=(tB l q).all fun c=>match (tB l p).find? fun a=>decide (a.name=c.name) with
 |none=>true
 |some a=>decide (uw p q a c=c)
theorem Ev {l:List Fd} {gs:List RG} {x:ByteArray}:(tB l gs).find? (fun a=>decide (a.name=x))=tW l (sH (gs.map (·.st))) x:=by
 by_cases h:x∈tO gs
 ·obtain ⟨s0,_,_,hs⟩:=ua (l:=l) (tP.1 h)
  rw [hs]
  cases hf:(tB l gs).find? fun a=>decide (a.name=x) with
  |none=>
   have:=List.find?_eq_none.1 hf _ (List.mem_map.2 ⟨x,h,rfl⟩)
   rw [hs] at this
   simp at this
  |some a=>
   have h1:=List.mem_of_find?_eq_some hf
   have h2:a.name=x:=by simpa using List.find?_some hf
   obtain ⟨y,hy,rfl⟩:=List.mem_map.1 h1
   obtain ⟨s1,_,_,k⟩:=ua (l:=l) (tP.1 hy)
   rw [k] at h2 ⊢
   have h2:y=x:=h2
   subst h2
   rw [Option.getD_some, ←k,hs]
 ·have hn:tW l (sH (gs.map (·.st))) x=none:=by
   unfold tW
   rw [show (sH (gs.map (·.st))).find? (fun s=>decide (s.var=x))=none from List.find?_eq_none.2 fun s hs=>by
    intro hc
    exact h (tP.2 ⟨s,hs,by simpa using hc⟩)]
  rw [hn,List.find?_eq_none]
  intro a ha hc
  have:=zO a ha
  have hc:a.name=x:=by simpa using hc
  exact h (hc▸this)
theorem yj {ss:List RS} {x:ByteArray} {s:RS} (h:sV ss x=some s):s∈ss∧s.var=x∧s.own=true:=
 ⟨List.mem_of_find?_eq_some h,by simpa using List.find?_some h⟩
theorem xB {ss:List RS} {s:RS} (h:s∈ss) (ho:s.own=true): ∃s1,sV ss s.var=some s1:=by
 cases hf:sV ss s.var with
 |some s1=>exact ⟨s1,rfl⟩
 |none=>
  have:=List.find?_eq_none.1 hf s h
  simp [ho] at this
theorem yN {s:RS} (h:s.own=true):s.kind=4∨s.kind=6:=by
 unfold RS.own at h
 simpa using h
theorem E8:tq 4=3:=by decide
theorem E9:tq 6=4:=by decide
theorem Aa {s:RS} (h:ti s=0) (hk:s.kind=6):1≤s.n:=by
 unfold ti at h
 have h1:okS s=true:=by
  cases e:okS s with
  |true=>rfl
  |false=>rw [e] at h;simp at h
 unfold okS at h1
 have h2:wq s=false:=by unfold wq;rw [hk];rfl
 rw [h2,Bool.false_or] at h1
 simp only [Bool.and_eq_true] at h1
 have h3:=h1.2
 unfold yY at h3
 rw [hk] at h3
 simp only [show ¬((6:Int)=1) by omega,show ¬((6:Int)=2) by omega,show ¬((6:Int)=3) by omega,show ¬((6:Int)=4) by omega,show ¬((6:Int)=5) by omega,if_false,if_true,Bool.and_eq_true,decide_eq_true_eq] at h3
 omega
theorem F3 {l:List Fd} {p q:List RG} (hl:p.length+q.length≤8) (hp:tV l p=0) (hq:tV l q=0):tV l (p++q)=0↔yQ l p q=true:=by
 obtain ⟨_,p2,p3⟩:=uZ.1 hp
 obtain ⟨_,q2,q3⟩:=uZ.1 hq
 have hst: ∀g∈p++q,ue l g.pol=0∧tK l g.st=0:=fun g hg=>by
  rcases List.mem_append.1 hg with h|h
  ·exact p2 g h
  ·exact q2 g h
 have e:sH ((p++q).map (·.st))=sH (p.map (·.st))++sH (q.map (·.st)):=by
  unfold sH
  rw [List.map_append,List.filter_append]
 have key:tV l (p++q)=0↔ ∀s∈sH (p.map (·.st)), ∀t∈sH (q.map (·.st)),s.var=t.var→uz l s t=true:=by
  rw [uZ,e]
  constructor
  ·rintro ⟨_,_,h⟩
   exact (List.pairwise_append.1 h).2.2
  ·intro h
   exact ⟨by rw [List.length_append];exact hl,hst,List.pairwise_append.2 ⟨p3,q3,h⟩⟩
 rw [key]
 have okP': ∀s∈sH (p.map (·.st)),ti s=0:=fun s hs=>by
  obtain ⟨g,k1,k2,_⟩:=td.1 hs
  rw [← k2];exact xK (p2 g k1).2
 have okQ': ∀s∈sH (q.map (·.st)),ti s=0:=fun s hs=>by
  obtain ⟨g,k1,k2,_⟩:=td.1 hs
  rw [← k2];exact xK (q2 g k1).2
 have trP: ∀x,tE p x=true↔ ∃s∈sH (p.map (·.st)),s.kind=4∧s.var=x:=fun x=>by
  unfold tE
  rw [List.any_eq_true]
  constructor
  ·rintro ⟨g,h1,h2⟩
   simp only [Bool.and_eq_true,beq_iff_eq,decide_eq_true_eq] at h2
   exact ⟨g.st,td.2 ⟨g,h1,rfl,by omega⟩,h2⟩
  ·rintro ⟨s,h1,h2⟩
   obtain ⟨g,k1,rfl,_⟩:=td.1 h1
   exact ⟨g,k1,by simp [h2.1,h2.2]⟩
 have trQ: ∀x,tE q x=true↔ ∃s∈sH (q.map (·.st)),s.kind=4∧s.var=x:=fun x=>by
  unfold tE
  rw [List.any_eq_true]
  constructor
  ·rintro ⟨g,h1,h2⟩
   simp only [Bool.and_eq_true,beq_iff_eq,decide_eq_true_eq] at h2
   exact ⟨g.st,td.2 ⟨g,h1,rfl,by omega⟩,h2⟩
  ·rintro ⟨s,h1,h2⟩
   obtain ⟨g,k1,rfl,_⟩:=td.1 h1
   exact ⟨g,k1,by simp [h2.1,h2.2]⟩
 have hv:yQ l p q=true↔ ∀c∈tB l q, ∀a,tW l (sH (p.map (·.st))) c.name=some a→uw p q a c=c:=by
  unfold yQ
  rw [List.all_eq_true]
  refine forall_congr' fun c=>forall_congr' fun hc=>?_
  rw [Ev]
  cases tW l (sH (p.map (·.st))) c.name with
  |none=>simp
  |some a=>simp
 rw [hv]
 have pP:=yP.1 p3
 have pQ:=yP.1 q3
 clear key hst e hv
 generalize hS:sH (p.map (·.st))=S at *
 generalize hR:sH (q.map (·.st))=R at *
 constructor
 ·intro h c hc a ha
  obtain ⟨x,hx,rfl⟩:=List.mem_map.1 hc
  rw [hR] at ha ⊢
  have hx':=tP.1 hx
  rw [hR] at hx'
  obtain ⟨t0,ht0,tv,ht⟩:=ua (l:=l) hx'
  rw [ht,Option.getD_some] at ha ⊢
  have ha:tW l S x=some a:=ha
  have hsx: ∃s∈S,s.var=x:=by
   unfold tW at ha
   cases hf:S.find? fun s=>decide (s.var=x) with
   |none=>rw [hf] at ha;cases ha
   |some s=>exact ⟨s,List.mem_of_find?_eq_some hf,by simpa using List.find?_some hf⟩
  obtain ⟨s0,hs0,sv,hs⟩:=ua (l:=l) hsx
  rw [hs] at ha
  have ha:=Option.some.inj ha
  subst ha
  have hag:=s7.1 (h s0 hs0 t0 ht0 (sv.trans tv.symm))
  unfold uw
  dsimp only
  have nums: ∀s1 t1,sV S x=some s1→sV R x=some t1→s1.n=t1.n∧s1.m=t1.m:=fun s1 t1 h1 h2=>by
   obtain ⟨a1,a2,a3⟩:=yj h1
   obtain ⟨b1,b2,b3⟩:=yj h2
   exact (s7.1 (h s1 a1 t1 b1 (a2.trans b2.symm))).1 a3 b3
  by_cases ht2:(tE p x&&tE q x)=true
  ·rw [if_pos ht2]
   rw [Bool.and_eq_true,trP,trQ] at ht2
   obtain ⟨⟨s,m1,k1,v1⟩,t,m2,k2,v2⟩:=ht2
   obtain ⟨s1,o1⟩:=xB m1 (by unfold RS.own;rw [k1];rfl)
   obtain ⟨t1,o2⟩:=xB m2 (by unfold RS.own;rw [k2];rfl)
   rw [v1] at o1
   rw [v2] at o2
   obtain ⟨n1,n2⟩:=nums s1 t1 o1 o2
   rw [o1,o2]
   simp only [Option.map_some,Option.getD_some]
   rw [hag.2.1,hag.2.2,n1,n2]
   split <;> rfl
  ·rw [if_neg ht2]
   split
   ·rw [hag.2.1,hag.2.2]
   ·rename_i hz
    cases o1:sV S x with
    |none=>rw [o1] at hz;simp at hz
    |some s1=>
     cases o2:sV R x with
     |none=>rw [o2] at hz;simp at hz
     |some t1=>
      obtain ⟨n1,n2⟩:=nums s1 t1 o1 o2
      simp only [Option.map_some,Option.getD_some]
      rw [hag.2.1,hag.2.2,n1,n2]
 ·intro h s hs t ht e
  have hx:t.var∈tO q:=tP.2 ⟨t,by rw [hR];exact ht,rfl⟩
  obtain ⟨t0,ht0,tv,hct⟩:=ua (l:=l) (ss:=R) (x:=t.var) ⟨t,ht,rfl⟩
  obtain ⟨s0,hs0,sv,hcs⟩:=ua (l:=l) (ss:=S) (x:=t.var) ⟨s,hs,e⟩
  have hc:=h ((tW l R t.var).getD v0) (by unfold tB;rw [hR];exact List.mem_map.2 ⟨t.var,hx,rfl⟩)
  rw [hct,Option.getD_some] at hc
  have hc:=hc _ hcs
  unfold uw at hc
  dsimp only at hc
  have a1:=s7.1 (pP s hs s0 hs0 (e.trans sv.symm))
  have a2:=s7.1 (pQ t ht t0 ht0 tv.symm)
  have fw:tq s0.kind=tq t0.kind∧sP l s0=sP l t0:=by
   split at hc <;> (try split at hc) <;> (injection hc with _ h2 h3 _ _;exact ⟨h2,h3⟩)
  refine s7.2 ⟨fun ho1 ho2=>?_,a1.2.1.trans (fw.2.trans a2.2.1.symm),a1.2.2.trans (fw.1.trans a2.2.2.symm)⟩
  have ff:tq s.kind=tq t.kind:=a1.2.2.trans (fw.1.trans a2.2.2.symm)
  obtain ⟨s1,o1⟩:=xB hs ho1
  obtain ⟨t1,o2⟩:=xB ht ho2
  rw [e] at o1
  obtain ⟨m1,m2,m3⟩:=yj o1
  obtain ⟨l1,l2,l3⟩:=yj o2
  have b1:=(s7.1 (pP s hs s1 m1 (e.trans m2.symm))).1 ho1 m3
  have b2:=(s7.1 (pQ t ht t1 l1 l2.symm)).1 ho2 l3
  rw [o1,o2] at hc
  simp only [Option.map_some,Option.getD_some] at hc
  have fin:s1.n=t1.n→s1.m=t1.m→s.n=t.n∧s.m=t.m:=fun h1 h2=>⟨by rw [b1.1,h1,b2.1],by rw [b1.2,h2,b2.2]⟩
  rcases yN ho1 with k1|k1
  ·have k2:t.kind=4:=by
    rcases yN ho2 with k2|k2
    ·exact k2
    ·rw [k1,k2,E8,E9] at ff;cases ff
   have hb:(tE p t.var&&tE q t.var)=true:=by
    rw [Bool.and_eq_true,trP,trQ]
    exact ⟨⟨s,hs,k1,e⟩,t,ht,k2,rfl⟩
   rw [if_pos hb] at hc
   injection hc with _ _ _ h4 h5
   exact fin h4 h5
  ·have k2:t.kind=6:=by
    rcases yN ho2 with k2|k2
    ·rw [k1,k2,E8,E9] at ff;cases ff
    ·exact k2
   have n1:=Aa (okP' s hs) k1
   have n2:=Aa (okQ' t ht) k2
   have hz: ¬((s1.n=0∧s1.m=0)∨(t1.n=0∧t1.m=0)):=by
    rw [← b1.1, ←b2.1];omega
   rw [if_neg hz] at hc
   split at hc
   ·injection hc with _ _ _ h4 h5
    exact fin h4 h5
   ·injection hc with _ _ _ h4 h5
    exact fin h4 h5
end Go.TY
end
section
namespace Go.TY
open Go Go.DL Go.MM
end Go.TY
end
section
namespace Go.TY
open Go Go.DL Go.MM Go.Proofs
end Go.TY
end
section
namespace Go.TY
open Go Go.DL Go.MM Go.Proofs
end Go.TY
end
section
namespace Go.TY
open Go Go.DL Go.MM Go.Proofs
def nmQ (gs:List RG):List ByteArray:=tZ ltS ((sH (gs.map (·.st))).map (·.var))
theorem Dr (gs:List RG):nmQ gs=tO gs:=by
 unfold nmQ tO vg
 exact vU zu fun x=>by rw [uC];simp
theorem Gh (gs:List RG):(nmQ gs).length≤gs.length:=by
 unfold nmQ
 refine Nat.le_trans y8 ?_
 rw [List.length_map]
 unfold sH
 exact Nat.le_trans (List.length_filter_le _ _) (by rw [List.length_map];omega)
theorem F9 (g:RG):(sD g)[9]?.getD .nil=I g.st.kind:=by
 unfold sD
 rw [List.getElem?_append_right (by rw [sF];omega),sF]
 rfl
theorem Io (g:RG):(sD g)[10]?.getD .nil= .str g.st.var:=by
 unfold sD
 rw [List.getElem?_append_right (by rw [sF];omega),sF]
 rfl
theorem EH (g:RG):9<(sD g).length:=by rw [sK];exact nlZ rfl
theorem Fc (g:RG):10<(sD g).length:=by rw [sK];exact nlZ rfl
end Go.TY
end
noncomputable section
namespace Go.TY
open Go Go.DL Go.Proofs
def c60:aY:=(.seq (.region [oo 0 (.mov (.const .nil))] []) (.seq (.region [⟨some 1,.build [S0,Z0,Z0] [(0,1,(.const (.str ⟨#[100,115,116]⟩))),(1,1,(Kc 16)),(2,1,(Kc 8))],none,[]⟩,⟨some 2,.build [S0,Z0,Z0] [(0,1,(.const (.str ⟨#[115,114,99]⟩))),(1,1,(Kc 24)),(2,1,(Kc 8))],none,[]⟩,⟨some 3,.build [S0,Z0,Z0] [(0,1,(.const (.str ⟨#[107,105,110,100]⟩))),(1,1,(Kc 33)),(2,1,(Kc 3))],none,[]⟩,⟨some 4,.buildS 88 3 3 [S0,Z0,Z0] [(0,(tm 1)),(1,(tm 2)),(2,(tm 3))],none,[]⟩,mv 0 4] []) .ret))
theorem l60:(Tryz.f60.body.bind (bD Tryz.prog 5 []))=some c60:=by kernel_rfl
def c62:aY:=(.seq (.region [⟨some 4,.alloc [Z0,S0,Z0,Z0,.nil],none,[]⟩] []) (.seq (.region [mv 5 0,mv 6 1,⟨some 7,.build [Z0,S0,Z0,Z0,.nil] [(0,1,(Kc 3)),(1,1,(tm 5)),(2,1,(tm 6))],none,[]⟩,o0 (.store 5 (tm 4) (tm 7))] []) .ret))
theorem l62:(Tryz.f62.body.bind (bD Tryz.prog 8 []))=some c62:=by kernel_rfl
def c63:aY:=(.seq (.region [⟨some 4,.alloc [Z0,Z0,S0,Z0,Z0,.nil,S0,Z0,.nil],none,[]⟩] []) (.seq (.region [mv 5 0,mv 6 1,⟨some 7,.build [Z0,Z0,S0,Z0,Z0,.nil,S0,Z0,.nil] [(0,1,(Kc 2)),(6,1,(tm 5)),(7,1,(tm 6))],none,[]⟩,o0 (.store 9 (tm 4) (tm 7))] []) .ret))
theorem l63:(Tryz.f63.body.bind (bD Tryz.prog 8 []))=some c63:=by kernel_rfl
def c61:aY:=(.seq (.region [oo 1 (.box 5 (tm 0)),⟨some 2,.alloc [Z0,Z0,S0,Z0,Z0,.nil,S0,Z0,.nil],none,[]⟩] []) (.seq (.region [lA 3 5 1,⟨some 4,.build [Z0,Z0,S0,Z0,Z0,.nil,S0,Z0,.nil] [(0,1,(Kc 1)),(1,5,(tm 3))],none,[]⟩,o0 (.store 9 (tm 2) (tm 4))] []) .ret))
theorem l61:(Tryz.f61.body.bind (bD Tryz.prog 5 []))=some c61:=by kernel_rfl
def c32:aY:=(.seq (.region [oo 2 (.box 9 (tm 0)),oo 3 (.box 9 (tm 1)),⟨some 4,.alloc [Z0,Z0,S0,Z0,Z0,.nil,S0,Z0,.nil],none,[]⟩] []) (.seq (.region [lA 5 9 2,lA 6 9 3,⟨some 7,.buildS 28 9 2 [Z0,Z0,S0,Z0,Z0,.nil,S0,Z0,.nil] [(0,(tm 5)),(1,(tm 6))],none,[]⟩,⟨some 8,.build [Z0,Z0,S0,Z0,Z0,.nil,S0,Z0,.nil] [(0,1,(Kc 4)),(8,1,(tm 7))],none,[]⟩,o0 (.store 9 (tm 4) (tm 8))] []) .ret))
theorem l32:(Tryz.f32.body.bind (bD Tryz.prog 9 []))=some c32:=by kernel_rfl
def c33:aY:=(.seq (.region [oo 2 (.box 9 (tm 0)),oo 3 (.box 9 (tm 1)),⟨some 4,.alloc [Z0,Z0,S0,Z0,Z0,.nil,S0,Z0,.nil],none,[]⟩] []) (.seq (.region [lA 5 9 2,lA 6 9 3,⟨some 7,.buildS 28 9 2 [Z0,Z0,S0,Z0,Z0,.nil,S0,Z0,.nil] [(0,(tm 5)),(1,(tm 6))],none,[]⟩,⟨some 8,.build [Z0,Z0,S0,Z0,Z0,.nil,S0,Z0,.nil] [(0,1,(Kc 3)),(8,1,(tm 7))],none,[]⟩,o0 (.store 9 (tm 4) (tm 8))] []) .ret))
theorem l33:(Tryz.f33.body.bind (bD Tryz.prog 9 []))=some c33:=by kernel_rfl
def c36:aY:=(.seq (.region [oo 4 (.mov kF)] []) (.seq (.region [mv 6 1,oo 7 (.call 37 [tm 6]),mv 5 7] []) (.seq (.region [mv 8 5,mv 9 8,mT 10 0 9,oT 11 9 (.call 11 [tm 10]),oT 12 9 (.bin .eql (tm 11) (Kc 0)),oo 13 (.pick (tm 9) (tm 12) kF),mv 4 13] []) .ret)))
theorem l36:(Tryz.f36.body.bind (bD Tryz.prog 14 []))=some c36:=by kernel_rfl
def c10:aY:=(.seq (.region [oo 0 (.mov kF)] []) (.seq (.region [oo 17 (.call 60 []),mv 1 17] []) (.seq (.region [⟨some 18,.build [Z0,S0,Z0,Z0,.nil] [(0,1,(Kc 1))],none,[]⟩,oo 19 (.call 61 [tm 18]),⟨some 2,.alloc [Z0,Z0,S0,Z0,Z0,.nil,S0,Z0,.nil],none,[]⟩,o0 (.store 9 (tm 2) (tm 19))] []) (.seq (.cut (.region [mv 20 1,⟨some 21,.call 62 [(.const (.str ⟨#[100,115,116]⟩)),(Kc 300)],none,[]⟩,oo 22 (.call 15 [(tm 20),(tm 21)]),oo 23 (.bin .eql (tm 22) (Kc 1)),mv 24 23,mT 25 1 24,⟨some 26,.call 62 [(.const (.str ⟨#[116,111,112]⟩)),(Kc 1)],some (24,true),[]⟩,oT 27 24 (.call 15 [(tm 25),(tm 26)]),oT 28 24 (.bin .eql (tm 27) (Kc 4)),oo 29 (.pick (tm 24) (tm 28) kF),mv 30 29,mT 31 1 30,⟨some 32,.build [Z0,S0,Z0,Z0,.nil] [(0,1,(Kc 4)),(1,1,(.const (.str ⟨#[107,105,110,100]⟩))),(2,1,(Kc 1)),(3,1,(Kc 4))],some (30,true),[]⟩,oT 33 30 (.call 15 [(tm 31),(tm 32)]),oT 34 30 (.bin .eql (tm 33) (Kc 1)),oo 35 (.pick (tm 30) (tm 34) kF),mv 3 35] [])) (.seq (.cut (.region [mv 36 1,⟨some 37,.call 62 [(.const (.str ⟨#[100,115,116]⟩)),(Kc 5)],none,[]⟩,oo 38 (.call 61 [tm 37]),⟨some 39,.call 63 [(.const (.str ⟨#[107,105,110,100]⟩)),(Kc 7)],none,[]⟩,oo 40 (.call 32 [(tm 38),(tm 39)]),oo 41 (.call 17 [(tm 36),(tm 40)]),oo 42 (.bin .eql (tm 41) (Kc 0)),mv 43 42,mT 44 1 43,⟨some 45,.call 63 [(.const (.str ⟨#[107,105,110,100]⟩)),(Kc 8)],some (43,true),[]⟩,oT 46 43 (.call 17 [(tm 44),(tm 45)]),oT 47 43 (.bin .eql (tm 46) (Kc 1)),oo 48 (.pick (tm 43) (tm 47) kF),mv 4 48] [])) (.seq (.cut (.region [mv 49 1,⟨some 50,.buildS 9 1 2 [S0] [(0,(.const (.str ⟨#[115,114,99]⟩))),(1,(.const (.str ⟨#[115,114,99]⟩)))],none,[]⟩,⟨some 51,.build [Z0,S0,.nil,S0,Z0,Z0] [(0,1,(Kc 1)),(1,1,(.const (.str ⟨#[99]⟩))),(2,1,(tm 50))],none,[]⟩,oo 52 (.call 19 [(tm 49),(tm 51)]),oo 53 (.bin .eql (tm 52) (Kc 1)),mv 54 53,mT 55 1 54,⟨some 56,.buildS 9 1 1 [S0] [(0,(.const (.str ⟨#[115,114,99]⟩)))],some (54,true),[]⟩,⟨some 57,.build [Z0,S0,.nil,S0,Z0,Z0] [(0,1,(Kc 4)),(1,1,(.const (.str ⟨#[116]⟩))),(2,1,(tm 56)),(3,1,(.const (.str ⟨#[107,105,110,100]⟩))),(4,1,(Kc 1)),(5,1,(Kc 9))],some (54,true),[]⟩,oT 58 54 (.call 19 [(tm 55),(tm 57)]),oT 59 54 (.bin .eql (tm 58) (Kc 1)),oo 60 (.pick (tm 54) (tm 59) kF),mv 5 60] [])) (.seq (.cut (.region [lA 61 9 2,⟨some 62,.buildS 9 1 1 [S0] [(0,(.const (.str ⟨#[115,114,99]⟩)))],none,[]⟩,⟨some 63,.build [Z0,S0,.nil,S0,Z0,Z0] [(0,1,(Kc 2)),(1,1,(.const (.str ⟨#[99]⟩))),(2,1,(tm 62))],none,[]⟩,⟨some 64,.build [Z0,Z0,S0,Z0,Z0,.nil,S0,Z0,.nil,Z0,S0,.nil,S0,Z0,Z0] [(0,9,(tm 61)),(9,6,(tm 63))],none,[]⟩,⟨some 6,.alloc [Z0,Z0,S0,Z0,Z0,.nil,S0,Z0,.nil,Z0,S0,.nil,S0,Z0,Z0],none,[]⟩,o0 (.store 15 (tm 6) (tm 64))] [])) (.seq (.cut (.region [lA 65 9 2,⟨some 66,.buildS 9 1 1 [S0] [(0,(.const (.str ⟨#[100,115,116]⟩)))],none,[]⟩,⟨some 67,.build [Z0,S0,.nil,S0,Z0,Z0] [(0,1,(Kc 3)),(1,1,(.const (.str ⟨#[99]⟩))),(2,1,(tm 66)),(4,1,(Kc 5))],none,[]⟩,⟨some 68,.build [Z0,Z0,S0,Z0,Z0,.nil,S0,Z0,.nil,Z0,S0,.nil,S0,Z0,Z0] [(0,9,(tm 65)),(9,6,(tm 67))],none,[]⟩,⟨some 7,.alloc [Z0,Z0,S0,Z0,Z0,.nil,S0,Z0,.nil,Z0,S0,.nil,S0,Z0,Z0],none,[]⟩,o0 (.store 15 (tm 7) (tm 68))] [])) (.seq (.cut (.region [lA 69 9 2,⟨some 70,.buildS 9 1 1 [S0] [(0,(.const (.str ⟨#[107,105,110,100]⟩)))],none,[]⟩,⟨some 71,.build [Z0,S0,.nil,S0,Z0,Z0] [(0,1,(Kc 3)),(1,1,(.const (.str ⟨#[99]⟩))),(2,1,(tm 70)),(4,1,(Kc 5))],none,[]⟩,⟨some 72,.build [Z0,Z0,S0,Z0,Z0,.nil,S0,Z0,.nil,Z0,S0,.nil,S0,Z0,Z0] [(0,9,(tm 69)),(9,6,(tm 71))],none,[]⟩,⟨some 8,.alloc [Z0,Z0,S0,Z0,Z0,.nil,S0,Z0,.nil,Z0,S0,.nil,S0,Z0,Z0],none,[]⟩,o0 (.store 15 (tm 8) (tm 72))] [])) (.seq (.cut (.region [lA 73 9 2,⟨some 74,.buildS 9 1 1 [S0] [(0,(.const (.str ⟨#[115,114,99]⟩)))],none,[]⟩,⟨some 75,.build [Z0,S0,.nil,S0,Z0,Z0] [(0,1,(Kc 1)),(1,1,(.const (.str ⟨#[99]⟩))),(2,1,(tm 74))],none,[]⟩,⟨some 76,.build [Z0,Z0,S0,Z0,Z0,.nil,S0,Z0,.nil,Z0,S0,.nil,S0,Z0,Z0] [(0,9,(tm 73)),(9,6,(tm 75))],none,[]⟩,⟨some 9,.alloc [Z0,Z0,S0,Z0,Z0,.nil,S0,Z0,.nil,Z0,S0,.nil,S0,Z0,Z0],none,[]⟩,o0 (.store 15 (tm 9) (tm 76))] [])) (.seq (.cut (.region [lA 77 9 2,⟨some 78,.buildS 9 1 1 [S0] [(0,(.const (.str ⟨#[115,114,99]⟩)))],none,[]⟩,⟨some 79,.build [Z0,S0,.nil,S0,Z0,Z0] [(0,1,(Kc 6)),(1,1,(.const (.str ⟨#[99]⟩))),(2,1,(tm 78)),(4,1,(Kc 1)),(5,1,(Kc 1))],none,[]⟩,⟨some 80,.build [Z0,Z0,S0,Z0,Z0,.nil,S0,Z0,.nil,Z0,S0,.nil,S0,Z0,Z0] [(0,9,(tm 77)),(9,6,(tm 79))],none,[]⟩,⟨some 10,.alloc [Z0,Z0,S0,Z0,Z0,.nil,S0,Z0,.nil,Z0,S0,.nil,S0,Z0,Z0],none,[]⟩,o0 (.store 15 (tm 10) (tm 80))] [])) (.seq (.cut (.region [mv 81 1,lA 82 15 6,lA 83 15 7,⟨some 84,.buildS 61 15 2 [Z0,Z0,S0,Z0,Z0,.nil,S0,Z0,.nil,Z0,S0,.nil,S0,Z0,Z0] [(0,(tm 82)),(1,(tm 83))],none,[]⟩,oo 85 (.call 38 [(tm 81),(tm 84)]),oo 86 (.bin .eql (tm 85) (Kc 0)),mv 87 86,mT 88 1 87,oT 89 87 (.load 15 true (tm 6)),oT 90 87 (.load 15 true (tm 8)),⟨some 91,.buildS 61 15 2 [Z0,Z0,S0,Z0,Z0,.nil,S0,Z0,.nil,Z0,S0,.nil,S0,Z0,Z0] [(0,(tm 89)),(1,(tm 90))],some (87,true),[]⟩,oT 92 87 (.call 38 [(tm 88),(tm 91)]),oT 93 87 (.bin .eql (tm 92) (Kc 11)),oo 94 (.pick (tm 87) (tm 93) kF),mv 95 94,mT 96 1 95,oT 97 95 (.load 15 true (tm 9)),oT 98 95 (.load 15 true (tm 10)),⟨some 99,.buildS 61 15 2 [Z0,Z0,S0,Z0,Z0,.nil,S0,Z0,.nil,Z0,S0,.nil,S0,Z0,Z0] [(0,(tm 97)),(1,(tm 98))],some (95,true),[]⟩,oT 100 95 (.call 38 [(tm 96),(tm 99)]),oT 101 95 (.bin .eql (tm 100) (Kc 11)),oo 102 (.pick (tm 95) (tm 101) kF),mv 11 102] [])) (.seq (.cut (.region [mv 103 1,lA 104 15 6,lA 105 15 7,⟨some 106,.buildS 61 15 2 [Z0,Z0,S0,Z0,Z0,.nil,S0,Z0,.nil,Z0,S0,.nil,S0,Z0,Z0] [(0,(tm 104)),(1,(tm 105))],none,[]⟩,oo 107 (.call 39 [(tm 103),(tm 106)]),mv 12 107] [])) (.seq (.cut (.region [⟨some 108,.build [Z0,S0,Z0,Z0,.nil] [(0,1,(Kc 9)),(2,1,(Kc 3)),(3,1,(Kc 7))],none,[]⟩,oo 109 (.call 61 [tm 108]),⟨some 13,.alloc [Z0,Z0,S0,Z0,Z0,.nil,S0,Z0,.nil],none,[]⟩,o0 (.store 9 (tm 13) (tm 109))] [])) (.seq (.cut (.region [lA 110 9 13,oo 111 (.call 49 [(tm 110),(Kc 3)]),lA 112 9 2,oo 113 (.call 48 [(tm 111),(tm 112)]),mv 114 113,oT 115 114 (.load 9 true (tm 13)),oT 116 114 (.call 49 [(tm 115),(Kc 7)]),⟨some 117,.build [Z0,S0,Z0,Z0,.nil] [(0,1,(Kc 2))],some (114,true),[]⟩,oT 118 114 (.call 61 [tm 117]),oT 119 114 (.call 48 [(tm 116),(tm 118)]),oo 120 (.pick (tm 114) (tm 119) kF),mv 14 120] [])) (.seq (.cut (.region [⟨some 121,.call 62 [(.const (.str ⟨#[100,115,116]⟩)),(Kc 5)],none,[]⟩,oo 122 (.call 61 [tm 121]),⟨some 123,.call 63 [(.const (.str ⟨#[112,111,114,116]⟩)),(Kc 2)],none,[]⟩,oo 124 (.call 32 [(tm 122),(tm 123)]),⟨some 125,.call 63 [(.const (.str ⟨#[112,111,114,116]⟩)),(Kc 1)],none,[]⟩,⟨some 126,.call 63 [(.const (.str ⟨#[115,114,99]⟩)),(Kc 0)],none,[]⟩,⟨some 127,.buildS 28 9 1 [Z0,Z0,S0,Z0,Z0,.nil,S0,Z0,.nil] [(0,(tm 126))],none,[]⟩,⟨some 128,.build [Z0,Z0,S0,Z0,Z0,.nil,S0,Z0,.nil] [(0,1,(Kc 5)),(8,1,(tm 127))],none,[]⟩,oo 129 (.call 32 [(tm 125),(tm 128)]),oo 130 (.call 33 [(tm 124),(tm 129)]),⟨some 15,.alloc [Z0,Z0,S0,Z0,Z0,.nil,S0,Z0,.nil],none,[]⟩,o0 (.store 9 (tm 15) (tm 130))] [])) (.seq (.cut (.region [lA 131 9 15,oo 132 (.call 23 [tm 131]),⟨some 133,.buildS 9 1 1 [S0] [(0,(.const (.str ⟨#[100,115,116]⟩)))],none,[]⟩,oo 134 (.call 22 [(tm 132),(tm 133)]),mv 135 134,oT 136 135 (.load 9 true (tm 15)),oT 137 135 (.call 25 [tm 136]),⟨some 138,.buildS 9 1 2 [S0] [(0,(.const (.str ⟨#[112,111,114,116]⟩))),(1,(.const (.str ⟨#[115,114,99]⟩)))],some (135,true),[]⟩,oT 139 135 (.call 22 [(tm 137),(tm 138)]),oo 140 (.pick (tm 135) (tm 139) kF),mv 141 140,oT 142 141 (.load 9 true (tm 15)),oT 143 141 (.call 28 [tm 142]),oT 144 141 (.buildS 3 1 2 [Z0] [(0,(Kc 1)),(1,(Kc 2))]),oT 145 141 (.call 27 [(tm 143),(tm 144)]),oo 146 (.pick (tm 141) (tm 145) kF),mv 147 146,oT 148 147 (.load 9 true (tm 15)),oT 149 147 (.call 30 [tm 148]),oT 150 147 (.bin .eql (tm 149) (Kc 65536)),oo 151 (.pick (tm 147) (tm 150) kF),mv 16 151] [])) (.seq (.region [mv 152 3,mv 153 152,mT 154 4 153,oo 155 (.pick (tm 153) (tm 154) kF),mv 156 155,mT 157 5 156,oo 158 (.pick (tm 156) (tm 157) kF),mv 159 158,mT 160 11 159,oo 161 (.pick (tm 159) (tm 160) kF),mv 162 161,mT 163 14 162,oo 164 (.pick (tm 162) (tm 163) kF),mv 165 164,mT 166 16 165,oo 167 (.pick (tm 165) (tm 166) kF),mv 168 167,mT 169 12 168,oT 170 168 (.buildS 3 1 1 [Z0] [(0,(Kc 8))]),⟨some 171,.build [S0,Z0,.nil,Z0,Z0] [(0,1,(.const (.str ⟨#[99]⟩))),(1,1,(Kc 2)),(2,1,(tm 170))],some (168,true),[]⟩,⟨some 172,.buildS 66 5 1 [S0,Z0,.nil,Z0,Z0] [(0,(tm 171))],some (168,true),[]⟩,oT 173 168 (.call 45 [(tm 169),(tm 172)]),oo 174 (.pick (tm 168) (tm 173) kF),mv 175 174,oT 176 175 (.load 9 true (tm 13)),⟨some 177,.build [Z0,Z0,S0,Z0,Z0,.nil,S0,Z0,.nil,Z0,S0,.nil,S0,Z0,Z0] [(0,9,(tm 176))],some (175,true),[]⟩,⟨some 178,.buildS 61 15 1 [Z0,Z0,S0,Z0,Z0,.nil,S0,Z0,.nil,Z0,S0,.nil,S0,Z0,Z0] [(0,(tm 177))],some (175,true),[]⟩,oT 179 175 (.call 57 [tm 178]),oT 180 175 (.buildS 3 1 2 [Z0] [(0,(Kc 3)),(1,(Kc 7))]),oT 181 175 (.call 27 [(tm 179),(tm 180)]),oo 182 (.pick (tm 175) (tm 181) kF),mv 0 182] []) .ret))))))))))))))))))
theorem l10:(Tryz.f10.body.bind (bD Tryz.prog 183 [6000003,6000004,6000005,6000006,6000007,6000008,6000009,6000010,6000011,6000012,6000013,6000014,6000015,6000016]))=some c10:=by kernel_rfl
end Go.TY
end
noncomputable section
namespace Go.TY
open Go Go.DL Go.MM Go.Proofs
abbrev enb:ByteArray→T:=T.str
abbrev mpb (ks:List ByteArray) (vs:List T):T:=.mapd false [.str] (ks.map enb) vs
def tF (id:Nat) (c:Option Code):Array Oper:=match rg0 id c with
 |.region _ ops _=>ops
 |_=> #[]
abbrev fAb:Option Code:=Tryz.f156.body
abbrev fKb:Option Code:=Tryz.f133.body
theorem bAb:fAb=some (.seq (.region 0 (tF 0 fAb) false) (.seq (.seq (.region 1 (tF 1 fAb) false)
  (.block 0 (.rangeFunc (.tmp 6) #[7] (.region 2 (tF 2 fAb) false) (.block 1 (.region 3 (tF 3 fAb) false))))) (.seq (.region 4 (tF 4 fAb) false) .ret))):=by kernel_rfl
abbrev IY:List DI:=[⟨some 5,.mov (.tmp 7),none,[]⟩]
abbrev I1:List DI:=[⟨some 8,.load 1 false (.tmp 2),none,[]⟩,⟨some 9,.mov (.tmp 5),none,[]⟩,⟨some 10,.buildS 9 1 1 [.str ⟨#[]⟩] [(0,.tmp 9)],none,[1]⟩,
 ⟨some 11,.append 29 9 1 16 (.tmp 8) (.tmp 10),none,[0,2]⟩,⟨none,.store 1 (.tmp 2) (.tmp 11),none,[3,3,0,1,2,3]⟩]
theorem Ip:bX Tryz.prog 13 [] (tF 0 fAb) (tF 0 fAb).toList=some [⟨some 2,.box 1 (.tmp 0),none,[]⟩,⟨some 4,.mov (.const .nil),none,[]⟩]:=by kernel_rfl
theorem Is:bX Tryz.prog 13 [] (tF 1 fAb) (tF 1 fAb).toList=some [⟨some 6,.mov (.tmp 1),none,[]⟩]:=by kernel_rfl
theorem Iw:bX Tryz.prog 13 [] (tF 2 fAb) (tF 2 fAb).toList=some IY:=by kernel_rfl
theorem Iz:bX Tryz.prog 13 [] (tF 3 fAb) (tF 3 fAb).toList=some I1:=by kernel_rfl
theorem IC:bX Tryz.prog 13 [] (tF 4 fAb) (tF 4 fAb).toList=some [⟨some 12,.load 1 false (.tmp 2),none,[]⟩,⟨some 4,.mov (.tmp 12),none,[0,0]⟩]:=by kernel_rfl
abbrev yKb:Array Oper:=tF 3 fKb
theorem bKb:rg0 3 fKb= .region 3 yKb false:=by kernel_rfl
theorem IF:dW Tryz.prog 14 yKb [0,1]=some [⟨some 10,.mov (.tmp 0),none,[]⟩,⟨some 11,.mov (.tmp 3),none,[]⟩]:=by kernel_rfl
theorem IJ:dW Tryz.prog 14 yKb [3]=some [⟨some 13,.not (.tmp 12),none,[2]⟩]:=by kernel_rfl
theorem IM: ∃o ats,yKb[2]? =some o∧o.guard=none∧o.op= .call {callee:=.value (.tmp 10),args:= #[.tmp 11],argTypes:=ats }∧o.dst=some 12:=by
 refine ⟨((tF 3 fKb)[2]?).getD default,(match (((tF 3 fKb)[2]?).getD default).op with|.call c=>c.argTypes|_=> #[]),by kernel_rfl,by kernel_rfl,by kernel_rfl,by kernel_rfl⟩
abbrev GP (l d:Nat) (f:FuncId) (tmps:Array Value):aa→World→Prop:=nr l (cW f tmps 7 (.region 2 (tF 2 fAb) false) (.block 1 (.region 3 (tF 3 fAb) false)) d)
abbrev WKb (l:Nat) (C:aa→World→Prop) (ks:List ByteArray) (vs:List T) (ix:List Nat):Wk:=
 {sl:=[(0,.raw (.func (.yield l) #[] #[])),(5,.ptr 2005 0)],bx:=[(2,.v [.own 3011 9 1 (zx enb e0 ks ix)]),(2005,.itd (esK enb ks vs) ix)],gh:=[(0,[(2,.ptr 2 0)])],off:=2000,cx:=C }
theorem GF (l d:Nat) (f:FuncId) (tmps:Array Value) (ht:tmps.size=13) (ks:List ByteArray) (vs:List T) (hvs:vs.length=ks.length) (hl:ks.length<2^40) (st0:St)
  (h0:st0=({sl:=[(2,.ptr 2 0),(6,.fn 133 [.t (.cptr [mpb ks vs] 0)])],bx:=[(2,.v [.own 3011 9 1 []])]}:Wk).mk'):
  wpC Tryz.prog GB (st0.iter l (cW f tmps 7 (.region 2 (tF 2 fAb) false) (.block 1 (.region 3 (tF 3 fAb) false)) d) [.t (.cptr [mpb ks vs] 0)] 2000)
   (qK st0 fun st=>st.sl 2= .ptr 2 0∧(∃ xs,ud enb e0 ks xs∧st.bx 2=some (.v [.own 3011 9 1 xs]))∧ ∀S w,st.cx S w):=by
 subst h0
 have hes:(esK enb ks vs).length=ks.length:=by simp [hvs]
 repeat' ((conv=>whnf);first|refine nT_ ?_|refine aS ?_|fail)
 refine qZ 0 (α:=List Nat) (β:=List Nat) (fun ix=>WKb l (GP l d f tmps) ks vs ix) (fun ix=>ix.Nodup∧ ∀j∈ix,j<ks.length) (fun ix=>ks.length - ix.length)
  (fun ix=>WKb l (GP l d f tmps) ks vs ix) (fun ix=>ix.Perm (List.range ks.length)) [] ⟨List.nodup_nil,by simp⟩ ?_ ?_ ?_
 ·exact ⟨⟨.same _,.same _,trivial⟩,⟨.same _,.same _,trivial⟩,⟨⟨.same _,trivial⟩,trivial⟩,rfl,fun _ _ h=>h,rfl⟩
 ·rintro ix ⟨hnd,hix⟩
  refine And.intro (fun j hj=>by rw [hes];exact hix j hj) (And.intro ?_ ?_)
  ·intro j e he hj
   obtain ⟨he1,hjl⟩:=zr (d:=e0) he
   have hent:=yI _ ix j e he
   have hje:(ix++[j]).getLast?.getD 0<(esK enb ks vs).length:=by rw [List.getLast?_concat,hes];exact hjl
   obtain ⟨e1,e2⟩:=e
   dsimp only at he1 hent
   subst he1
   have hixl:ix.length≤ks.length:=by
    have:=hnd.length_le_of_subset (l₂:=List.range ks.length) (fun j hj=>List.mem_range.2 (hix j hj))
    simpa using this
   have hnd':(ix++[j]).Nodup:=by
    rw [List.nodup_append]
    exact ⟨hnd,by simp,fun a ha b hb=>by rw [List.mem_singleton.1 hb];exact fun e=>hj (e▸ha)⟩
   have hix': ∀i∈ix++[j],i<ks.length:=fun i hi=>by
    rcases List.mem_append.1 hi with h|h
    ·exact hix i h
    ·rw [List.mem_singleton.1 h];exact hjl
   have hixl':(ix++[j]).length≤ks.length:=by
    have:=hnd'.length_le_of_subset (l₂:=List.range ks.length) (fun j hj=>List.mem_range.2 (hix' j hj))
    simpa using this
   repeat' ((conv=>whnf);first|refine nv_ (.tup [enb (ks.getD j e0),e2]) hent ?_|(refine And.intro (by first|exact ⟨by simp,hje⟩|fail) ?_)|fail)
   obtain ⟨o,ats,o1,o2,o3,o4⟩:=IM
   have hsem: ∀(st:St) (Q:aB→St→Prop),p0 Tryz.prog 14 (.region 3 yKb false) st Q→p0 Tryz.prog 14 (rg0 3 fKb) st Q:=fun st Q h=>by rw [bKb];exact h
   refine hsem _ _ ?_
   refine q0 (P:=Tryz.prog) (k1:=[0,1]) (k:=2) (k2:=[3]) (by kernel_rfl) IF rfl IJ rfl o1 o2 o3 o4 (by decide) (p:=7) ht (by decide) Iw rfl Iz rfl 3000 (l:=l) (fn:=f) (dd:=d) (id1:=2) (id2:=3) (bl:=1) ?_
   refine ⟨fun _ _ h=>h,rfl,?_⟩
   repeat' ((conv=>whnf);first|(refine And.intro (by first|exact fun _ _=>trivial|exact ⟨rfl,nlZ rfl⟩|((simp;omega);done)|exact .inl rfl|fail) ?_)|refine aS ?_|fail)
   refine ⟨ix++[j],⟨hnd',hix'⟩,by rw [List.length_append];simp at hixl' ⊢;omega,?_⟩
   refine ⟨⟨.same _,.same _,trivial⟩,⟨?_,.same _,trivial⟩,⟨⟨.same _,trivial⟩,trivial⟩,rfl,fun _ _ h=>h,rfl⟩
   refine .v _ _ ⟨rX ?_,trivial⟩
   simp [zx]
  ·intro hall
   skip
   refine ⟨ix,xE hnd hix (fun j hj=>hall j (by rw [hes];exact hj)),?_⟩
   exact ⟨⟨.same _,.same _,trivial⟩,⟨.same _,.same _,trivial⟩,⟨⟨.same _,trivial⟩,trivial⟩,rfl,fun _ _ h=>h,rfl⟩
 rintro ix hp
 repeat' ((conv=>whnf);first|refine aS ?_|fail)
 exact ⟨⟨_,⟨ix,hp,rfl⟩,rfl⟩,fun _ _=>trivial⟩
abbrev vb (ks:List ByteArray) (vs:List T):T:=.clos 133 [.cptr [mpb ks vs] 0]
theorem Af (ks:List ByteArray) (vs:List T) (hvs:vs.length=ks.length) (hl:ks.length<2^40):fK Tryz.prog 156 [.nil,vb ks vs] 9 1 (ud enb e0 ks):=by
 refine qm Tryz.func156 bAb rfl (nlZ rfl) ?_
 intro S w a0 hsr hdf
 let K0:St→Prop:=fun st=>aA Tryz.prog [⟨some 6,.mov (.tmp 1),none,[]⟩] st fun st=>
  bP {sl:=[(2,.ptr 2 0),(6,.t (vb ks vs))],bx:=[(2,.d 1 [.nil])]} st
 have hK0:aA Tryz.prog [⟨some 2,.box 1 (.tmp 0),none,[]⟩,⟨some 4,.mov (.const .nil),none,[]⟩] (eU [.nil,vb ks vs]) K0:=by
  repeat' ((conv=>whnf);first|refine aS ?_|fail)
  exact ⟨⟨.same _,.same _,trivial⟩,⟨.same _,trivial⟩,trivial,rfl,fun _ _ _=>trivial,rfl⟩
 refine wp_seq (nE (X:=[]) (N:=13) hsr Ip (fun a1 w1 h1=>?_) hK0)
 obtain ⟨E1,s1,rfl,k1,k2,k3⟩:=h1
 refine wp_seq (wp_seq (nE (X:=[]) k1 Is (fun a2 w2 h2=>?_) k3))
 obtain ⟨E2,s2,rfl,k4,k5,k6⟩:=h2
 obtain ⟨E3,e3,k7⟩:=k4.bP k6
 rw [← e3]
 have k8:=k7.rG (k:=6) (k7.sl 6).rv
 obtain ⟨E4,e4,k10⟩:=SR.bP (a:=a2) (s:={sl:=[(2,.ptr 2 0),(6,.fn 133 [.t (.cptr [mpb ks vs] 0)])],bx:=[(2,.v [.own 3011 9 1 []])]}) k8 ⟨⟨.same _,.same _,trivial⟩,⟨.dv _ _ _ ⟨.nil _ _ _,trivial⟩,trivial⟩,trivial,rfl,fun _ _ _=>trivial,rfl⟩
 rw [← e4]
 refine wp_block ?_
 refine rh mixed k10 (fun _ _=>trivial) (y:=.tmp 6) rfl (gf:=133) (caps:=[.t (.cptr [mpb ks vs] 0)]) rfl Tryz.func133 LR rfl rfl rfl (nlZ rfl) 2000
  (K:=fun st=>st.sl 2= .ptr 2 0∧(∃ xs,ud enb e0 ks xs∧st.bx 2=some (.v [.own 3011 9 1 xs]))∧ ∀S w,st.cx S w) (fun l d f tmps ht=>?_) (fun a5 w5 h5=>?_)
 ·exact GF l d f tmps ht ks vs hvs hl _ rfl
 ·obtain ⟨S0',E5,s5,D,rfl,q1,q2,q3,q4,q5,q6,r1,⟨xs,hxs,r2⟩,r3⟩:=h5
  have q6':a5.defers=[{target:=.collected D,args:= #[]}]:=by rw [q6,k5,k2,hdf]
  show Code.wp _ _ _ _ _
  refine wp_seq (nE (X:=[]) q1 IC (K:=fun st=>(∀ S w,st.cx S w)∧st.sl 4= .own 3011 9 1 xs) (fun a6 w6 h6=>?_) ?_)
  ·obtain ⟨E6,s6,rfl,p1,p2,p3,p4⟩:=h6
   obtain ⟨js,hjs,rfl⟩:=hxs
   refine wp_ret ⟨.inr rfl,S0',E6,s6,D,rfl,p1,q2,q3,q4,q5,by rw [p2,q6'],p3,_,_,⟨js,hjs,rfl⟩,uW (fun _=>rfl) (fun _=>rfl) js ks,?_,.inl ⟨3011,rfl⟩⟩
   have:dP s6 Tryz.f156.results.toList=some [s6.sl 4]:=by
    rw [show Tryz.f156.results.toList=[.tmp 4] from rfl];rfl
   rw [this,p4]
  ·obtain ⟨sl5,bx5,gh5,off5,cx5⟩:=s5
   dsimp only at r1 r2 r3
   obtain ⟨g,rfl⟩: ∃g,sl5=upd g 2 (.ptr 2 0):=⟨sl5,(uv r1).symm⟩
   obtain ⟨b,rfl⟩: ∃b,bx5=upd b 2 (some (.v [.own 3011 9 1 xs])):=⟨bx5,(uv r2).symm⟩
   exact ⟨r3,rfl⟩
theorem B4 (ks:List ByteArray) (vs:List T) (hvs:vs.length=ks.length) (hl:ks.length<2^40):fK Tryz.prog 131 [vb ks vs] 9 1 (ud enb e0 ks):=by
 refine qG (rs:=[.tmp 2]) mixed Tryz.func131 GU rfl rfl rfl (nlZ rfl) ?_
 repeat' ((conv=>whnf);first|refine ru (ts:=[.nil,vb ks vs]) rfl (Af ks vs hvs hl) (fun xs hx=>?_)|fail)
 obtain ⟨js,hjs,rfl⟩:=hx
 exact ⟨_,_,⟨js,hjs,rfl⟩,uW (fun _=>rfl) (fun _=>rfl) js ks,rfl,.inl ⟨_,rfl⟩⟩
theorem Ei:iz Tryz.prog 132 encStr (fun x y:List UInt8=>decide (x≤y)):=iz.str Tryz.BD rfl (bQ Tryz.func132 rfl rfl)
theorem zI (ks:List ByteArray) (vs:List T) (hvs:vs.length=ks.length) (hl:ks.length<2^40) (hn:ks.Nodup):kI Tryz.prog 87 [vb ks vs] (.slice 1 ((vg ks).map enb)):=by
 refine qS (rs:=[.tmp 2]) mixed Tryz.func87 l87 rfl rfl rfl (nlZ rfl) ?_
 repeat' ((conv=>whnf);first|refine rf (ts:=[vb ks vs]) rfl (B4 ks vs hvs hl) rfl (fun h0=>?_) (fun xs hx hc=>?_)|fail)
 ·obtain ⟨zs,hp,h0⟩:=uY h0
  have:zs=[]:=by
   cases zs with
   |nil=>rfl
   |cons z zs=>cases h0
  subst this
  have:ks=[]:=List.nil_perm.1 hp
  subst this
  repeat' ((conv=>whnf);first|refine qc Ei ?_|fail)
  exact ⟨.t .nil,rfl,.nil 1⟩
 ·obtain ⟨zs,hp,rfl⟩:=uY hx
  have hzl:zs.length<2^40:=by rw [hp.length_eq];exact hl
  have hfl:=zU (enc:=enb) (fun _=>rfl) zs
  have hle:(zs.map enb).length=zs.length:=List.length_map _
  have hsl:(vg ks).length=zs.length:=by
   have e:=congrArg List.length (yo hn hp)
   simp only [List.length_map,List.length_mergeSort] at e
   omega
  repeat' ((conv=>whnf);first|(refine re (n:=5) (off:=0) (len:=(zs.map enb).length) (m:=(zs.map enb).length * 1) (ts:=(zs.map enb).flatMap T.cells) (encT:=wP) Ei rfl (zs.map ByteArray.toList) ?_ ?_ (by omega) (fun a S w v h=>by cases h;rfl) (fun a S w=>.str _) (fun _=>rfl) ?_)|fail)
  ·rw [hfl,List.drop_zero,List.take_of_length_le (by omega)]
   exact (by rw [List.map_map];exact List.map_congr_left fun z _=>(Bz z).symm)
  ·simp
  ·skip
   have e:=yo hn hp
   refine ⟨.view 5 0 (zs.map enb).length 1,rfl,.view 5 0 (zs.map enb).length 1 ((zs.map enb).length * 1) (aN ((zs.map enb).flatMap T.cells) 0 (zs.map enb).length (((zs.map ByteArray.toList).mergeSort (fun x y:List UInt8=>decide (x≤y))).map wP)) _ [5] rfl ?_ ?_⟩
   ·rw [u7 (by rw [hfl]),e]
    intro t ht
    obtain ⟨z,_,rfl⟩:=List.mem_map.1 ht
    rfl
   ·show (cond (Nat.blt 0 1&&Nat.ble (0+(zs.map enb).length * 1) ((zs.map enb).length * 1)) (some (T.slice 1 (chunk 1 (zs.map enb).length ((aN ((zs.map enb).flatMap T.cells) 0 (zs.map enb).length (((zs.map ByteArray.toList).mergeSort (fun x y:List UInt8=>decide (x≤y))).map wP)).drop 0)),[5])) none)=_
    rw [u7 (by rw [hfl]),e,Nat.zero_add,List.drop_zero,x7 _ _ (by rw [List.length_map];omega)]
    have:Nat.ble ((zs.map enb).length * 1) ((zs.map enb).length * 1)=true:=Nat.ble_eq_true_of_le (Nat.le_refl _)
    rw [this]
    rfl
theorem BM (ks:List ByteArray) (vs:List T):DCalls Tryz.prog 88 [mpb ks vs] (vb ks vs):=by
 refine qO (rs:=[.tmp 2]) mixed Tryz.func88 l88 rfl rfl rfl (r:=[vb ks vs]) (nlZ rfl) ?_
 repeat' ((conv=>whnf);first|exact trivial|refine aS ?_|fail)
end Go.TY
end
section
namespace Go.TY
open Go Go.DL Go.MM Go.Proofs
attribute [local irreducible] aI gR WCM YC
def gr:RP→List ByteArray:=fun x=>if sC x.field e0 then [] else [x.field]
def vJ (r:RO) (k:Nat):List (Nat×BX):=[(3,.v [.mp 5]),(5,.m false [.str] (esS (once [] (s4 gr (tc r) k))) none)]
theorem H2 (r:RO):ph (fun n=>10≤n∧n<100) 100 (fun _ _=>True) (vJ r) (fun _ cx _=>cx=(fun _ _=>True)∧False) where
 fh:=fun n h=>h.2
 nm:=fun k p hp=>by
  simp only [vJ,List.mem_cons,List.not_mem_nil,or_false] at hp
  rcases hp with rfl|rfl <;> exact ⟨by dsimp only;omega,by dsimp only;omega⟩
 nms:=fun c cx o ho=>ho.2.elim
 cov:=fun k k' p hp=>by
  simp only [vJ,List.mem_cons,List.not_mem_nil,or_false] at hp ⊢
  rcases hp with rfl|rfl
  ·exact ⟨_,Or.inl rfl,rfl⟩
  ·exact ⟨_,Or.inr rfl,rfl⟩
 covs:=fun c cx o ho=>ho.2.elim
 safe:=fun k p hp=>by
  simp only [vJ,List.mem_cons,List.not_mem_nil,or_false] at hp
  rcases hp with rfl|rfl
  ·intro c hc
   rw [List.mem_singleton.1 hc]
   exact .mp 5 ⟨(5,_),List.mem_cons_of_mem _ (List.mem_singleton.2 rfl),rfl⟩
  ·exact trivial
 safes:=fun c cx o ho=>ho.2.elim
 cxd:=fun c cx o ho=>ho.2.elim
 cxo_:=rT
 nd:=fun k=>by show ([3,5]:List Nat).Nodup;decide
theorem Gy (r:RO) (hr:r.wt<2^39):DCalls Tryz.prog 23 [.agg (sA r)] (.slice 1 ((reads r).map T.str)):=by
 rw [← uA]
 refine qP Tryz.func23 Lp rfl (r:=[.slice 1 ((reads r).map T.str)]) (nlZ rfl) ?_
 have hlen:(sG r).length≤r.wt:=by rw [s9,uJ];exact r.wZ
 have hwt: ∀o∈sG r,o.wt≤r.wt:=by rw [s9];exact uX r
 have hpl:(tc r).length≤r.wt:=xC r
 rw [show Tryz.f23.ntmps=18 from rfl,show Tryz.f23.results.toList=[.tmp 2] from rfl,k23]
 have ht:=BQ r
 rw [sO] at ht
 refine aI.seq (Ja ?_)
 repeat' ((conv=>whnf);first|(refine And.intro (by first|exact tl _|fail) ?_)|fail)
 refine aI.seq (Jg ?_)
 repeat' ((conv=>whnf);first|refine aS ?_|fail)
 refine aI.seq (aI.seq (Jm ?_))
 repeat' ((conv=>whnf);first|refine rE _ (ht) ?_|fail)
 refine aI.bP (s:={sl:=[(3,.ptr 3 0),(7,.t (.clos 130 [.cptr (sW r) 0]))],bx:=[(3,.v [.mp 5]),(5,.m false [.str] [] none)]}) (by repeat' (first|exact trivial|exact LeV.same _|exact LeB.same _|exact rfl|exact fun _ _ _=>trivial|refine And.intro ?_ ?_)) ?_
 refine aI.block (yB (N:=18) rfl r rfl 100 (fun n=>10≤n∧n<100) 100 (Nat.le_refl _) (by omega) (fun o ho=>by have h1:=hwt o ho;rw [uq,ve];obtain ⟨k,p,f,n,a⟩:=o;simp only [RO.wt] at h1;show p.nodes<_;omega) (fun n h=>rz fun p hp=>?_) (fun n h=>rz fun p hp=>?_) (by exact rU) (outs:=vJ r) (stop:=fun _ cx _=>cx=(fun _ _=>True)∧False) ?_ (fun l0 D fn tmps hN=>?_) ?_ (fun c cx o h=>h.2.elim))
 ·simp only [List.mem_cons,List.not_mem_nil,or_false] at hp
  rcases hp with rfl|rfl <;> (dsimp only;omega)
 ·simp only [List.mem_cons,List.not_mem_nil,or_false] at hp
  rcases hp with rfl|rfl <;> (dsimp only;omega)
 ·intro q hq
  simp only [vJ,List.mem_cons,List.not_mem_nil,or_false] at hq
  rcases hq with rfl|rfl <;> rfl
 ·refine dR.top (d:=4) (n:=5) (lo:=10) (hi:=100) (stop:=fun _ _=>False) (H2 r) (fun n h1 h2=>⟨h1,h2⟩) hN (by decide) (fun hw=>Js hw) rfl (by decide) (by decide) (fun x hx=>?_) (fun k cs b G C hk hcs=>?_)
  ·obtain ⟨t,_,rfl⟩:=List.mem_map.1 hx
   exact ⟨_,sJ t,sL t⟩
  rw [List.getElem?_map,Option.map_eq_some_iff] at hk
  obtain ⟨t,htk,hte⟩:=hk
  rw [sJ] at hte
  obtain rfl:sB t=cs:=T.agg.inj hte
  have hfs:=vF (g:=gr) htk
  have hos:vJ r k=[(3,.v [.mp 5]),(5,.m false [.str] (esS (once [] (s4 gr (tc r) k))) none)]:=rfl
  rw [hos]
  generalize hks:once [] (s4 gr (tc r) k)=ks
  have endN: ∀s:St,s.gh=G→s.cx=C→(∀ q, ¬(10≤q∧q<100)→s.bx q=aK b [(3,.v [.mp 5]),(5,.m false [.str] (esS (once [] (s4 gr (tc r) (k+1)))) none)] q)→RB b G C 10 100 (vJ r (k+1)) (fun _ _=>False) .normal s:=fun s h1 h2 h3=>⟨h1,h2,_,h3,rfl⟩
  have same:gr t=[]→once [] (s4 gr (tc r) (k+1))=ks:=fun h=>by rw [hfs,h,List.append_nil,hks]
  have more: ∀s,gr t=[s]→once [] (s4 gr (tc r) (k+1))=if s∈ks then ks else ks++[s]:=fun s h=>by rw [hfs,h,uV,hks]
  generalize once [] (s4 gr (tc r) (k+1))=ks' at *
  clear hte hks hos hfs
  refine Jy ?_
  obtain ⟨kd,f,n,m,args⟩:=t
  have hE:=sU f e0
  have hN:(!(f.toList==e0.toList))= !(sC f e0):=by rw [hE]
  cases hb:sC f e0 with
  |true=>
   have hg:=same (by unfold gr;exact if_pos hb)
   subst hg
   rw [hb] at hN
   repeat' ((conv=>whnf);first|refine nb_ _ hN ?_|refine nT_ ?_|refine aS ?_|fail)
   (conv=>whnf)
   refine endN _ rfl rfl fun q hq=>?_
   have hm:=qX (b:=b) hq
   show cond (Nat.beq q 14) _ (cond (Nat.beq q 3) _ (cond (Nat.beq q 5) _ (gE 10 100 b q)))=cond (Nat.beq q 3) _ (cond (Nat.beq q 5) _ (b q))
   rw [eS (show q≠14 by omega),hm];rfl
  |false=>
   have hmr:=more f (by unfold gr;exact if_neg (show ¬(sC f e0=true) by rw [hb];simp))
   rw [hb] at hN
   repeat' ((conv=>whnf);first|refine nb_ _ hN ?_|refine nT_ ?_|(refine And.intro (by first|exact ⟨rfl,trivial⟩|fail) ?_)|refine aS ?_|fail)
   (conv=>whnf)
   refine endN _ rfl rfl fun q hq=>?_
   have hm:=qX (b:=b) hq
   by_cases h5:q=5
   ·subst h5
    show some (BX.m false [.str] (bK (T.str f) (T.bool true) _) none)=some (BX.m false [.str] _ none)
    rw [Ar,hmr]
   show cond (Nat.beq q 5) _ (cond (Nat.beq q 14) _ (cond (Nat.beq q 3) _ (cond (Nat.beq q 5) _ (gE 10 100 b q))))=cond (Nat.beq q 3) _ (cond (Nat.beq q 5) _ (b q))
   rw [eS h5,eS (show q≠14 by omega),hm];rfl
 ·have hes:vJ r (tc r).length=[(3,.v [.mp 5]),(5,.m false [.str] (esS (once [] ((tc r).flatMap gr))) none)]:=by unfold vJ;rw [v8]
  have hll:((tc r).flatMap gr).length≤(tc r).length:=wG fun x _=>by unfold gr;split <;> simp
  have hol:=vt (l:=(tc r).flatMap gr) (acc:=[])
  have hnd:=uk (l:=(tc r).flatMap gr) (acc:=[]) List.nodup_nil
  have hfin:vg (once [] ((tc r).flatMap gr))=reads r:=by
   unfold vg reads
   refine vU zu fun x=>?_
   rw [uC]
   simp only [List.not_mem_nil,false_or]
   rw [show (tc r).flatMap gr=Ed r by rw [Aw];rfl]
  rw [hes]
  simp only [List.length_nil,Nat.zero_add] at hol
  generalize once [] ((tc r).flatMap gr)=ks at *
  have hk1:=BM ks (ks.map fun _=>T.bool true)
  have hk2:=(zI ks (ks.map fun _=>T.bool true) (by simp) (by omega) hnd).rD
  rw [hfin] at hk2
  refine aI.bP (s:={sl:=[(3,.ptr 3 0)],bx:=[(3,.v [.t (mpb ks (ks.map fun _=>T.bool true))])]}) ⟨⟨.same _,trivial⟩,⟨.v _ _ ⟨.conv _ _ [5] ?_ (by simp [Wk.keys]),trivial⟩,trivial⟩,trivial,rfl,fun _ _ _=>trivial,rfl⟩ ?_
  ·show some (T.mapd false [.str] ((esS ks).map (·.1)) ((esS ks).map (·.2)),[5])=_
   unfold esS
   rw [List.map_map,List.map_map];rfl
  refine JD ?_
  repeat' ((conv=>whnf);first|refine rE _ (hk1) ?_|refine rE _ (hk2) ?_|fail)
  exact ⟨⟨rfl,trivial⟩,fun _ _=>trivial⟩
end Go.TY
end
section
namespace Go.TY
open Go Go.DL Go.MM Go.Proofs
attribute [local irreducible] aI gR WCM YC
def gw:RO→List ByteArray:=fun x=>if x.kind=2 then [x.field] else []
def vK (r:RO) (k:Nat):List (Nat×BX):=[(3,.v [.mp 5]),(5,.m false [.str] (esS (once [] (s4 gw (sG r) k))) none)]
theorem H3 (r:RO):ph (fun n=>10≤n∧n<100) 100 (fun _ _=>True) (vK r) (fun _ cx _=>cx=(fun _ _=>True)∧False) where
 fh:=fun n h=>h.2
 nm:=fun k p hp=>by
  simp only [vK,List.mem_cons,List.not_mem_nil,or_false] at hp
  rcases hp with rfl|rfl <;> exact ⟨by dsimp only;omega,by dsimp only;omega⟩
 nms:=fun c cx o ho=>ho.2.elim
 cov:=fun k k' p hp=>by
  simp only [vK,List.mem_cons,List.not_mem_nil,or_false] at hp ⊢
  rcases hp with rfl|rfl
  ·exact ⟨_,Or.inl rfl,rfl⟩
  ·exact ⟨_,Or.inr rfl,rfl⟩
 covs:=fun c cx o ho=>ho.2.elim
 safe:=fun k p hp=>by
  simp only [vK,List.mem_cons,List.not_mem_nil,or_false] at hp
  rcases hp with rfl|rfl
  ·intro c hc
   rw [List.mem_singleton.1 hc]
   exact .mp 5 ⟨(5,_),List.mem_cons_of_mem _ (List.mem_singleton.2 rfl),rfl⟩
  ·exact trivial
 safes:=fun c cx o ho=>ho.2.elim
 cxd:=fun c cx o ho=>ho.2.elim
 cxo_:=rT
 nd:=fun k=>by show ([3,5]:List Nat).Nodup;decide
theorem ES (r:RO) (hr:r.wt<2^39):DCalls Tryz.prog 25 [.agg (sA r)] (.slice 1 ((writes r).map T.str)):=by
 rw [← uA]
 refine qP Tryz.func25 Lq rfl (r:=[.slice 1 ((writes r).map T.str)]) (nlZ rfl) ?_
 have hlen:(sG r).length≤r.wt:=by rw [s9,uJ];exact r.wZ
 have hwt: ∀o∈sG r,o.wt≤r.wt:=by rw [s9];exact uX r
 have hpl:(tc r).length≤r.wt:=xC r
 rw [show Tryz.f25.ntmps=18 from rfl,show Tryz.f25.results.toList=[.tmp 2] from rfl,k25]
 have ht:=yp r
 rw [sO] at ht
 refine aI.seq (Jb ?_)
 repeat' ((conv=>whnf);first|(refine And.intro (by first|exact tl _|fail) ?_)|fail)
 refine aI.seq (Jh ?_)
 repeat' ((conv=>whnf);first|refine aS ?_|fail)
 refine aI.seq (aI.seq (Jn ?_))
 repeat' ((conv=>whnf);first|refine rE _ (ht) ?_|fail)
 refine aI.bP (s:={sl:=[(3,.ptr 3 0),(7,.t (.clos 116 [.cptr (sW r) 0]))],bx:=[(3,.v [.mp 5]),(5,.m false [.str] [] none)]}) (by repeat' (first|exact trivial|exact LeV.same _|exact LeB.same _|exact rfl|exact fun _ _ _=>trivial|refine And.intro ?_ ?_)) ?_
 refine aI.block (vL (N:=18) rfl r rfl 100 (fun n=>10≤n∧n<100) 100 (Nat.le_refl _) (by omega) (fun n h=>rz fun p hp=>?_) (fun n h=>rz fun p hp=>?_) (by exact rU) (outs:=vK r) (stop:=fun _ cx _=>cx=(fun _ _=>True)∧False) ?_ (fun l0 D fn tmps hN=>?_) ?_ (fun c cx o h=>h.2.elim))
 ·simp only [List.mem_cons,List.not_mem_nil,or_false] at hp
  rcases hp with rfl|rfl <;> (dsimp only;omega)
 ·simp only [List.mem_cons,List.not_mem_nil,or_false] at hp
  rcases hp with rfl|rfl <;> (dsimp only;omega)
 ·intro q hq
  simp only [vK,List.mem_cons,List.not_mem_nil,or_false] at hq
  rcases hq with rfl|rfl <;> rfl
 ·refine dR.top (d:=4) (n:=9) (lo:=10) (hi:=100) (stop:=fun _ _=>False) (H3 r) (fun n h1 h2=>⟨h1,h2⟩) hN (by decide) (fun hw=>Jt hw) rfl (by decide) (by decide) (fun x hx=>?_) (fun k cs b G C hk hcs=>?_)
  ·obtain ⟨t,_,rfl⟩:=List.mem_map.1 hx
   exact ⟨_,sO t,tl t⟩
  rw [List.getElem?_map,Option.map_eq_some_iff] at hk
  obtain ⟨t,htk,hte⟩:=hk
  rw [sO] at hte
  obtain rfl:sW t=cs:=T.agg.inj hte
  have hfs:=vF (g:=gw) htk
  have hos:vK r k=[(3,.v [.mp 5]),(5,.m false [.str] (esS (once [] (s4 gw (sG r) k))) none)]:=rfl
  rw [hos]
  generalize hks:once [] (s4 gw (sG r) k)=ks
  have endN: ∀s:St,s.gh=G→s.cx=C→(∀ q, ¬(10≤q∧q<100)→s.bx q=aK b [(3,.v [.mp 5]),(5,.m false [.str] (esS (once [] (s4 gw (sG r) (k+1)))) none)] q)→RB b G C 10 100 (vK r (k+1)) (fun _ _=>False) .normal s:=fun s h1 h2 h3=>⟨h1,h2,_,h3,rfl⟩
  have same:gw t=[]→once [] (s4 gw (sG r) (k+1))=ks:=fun h=>by rw [hfs,h,List.append_nil,hks]
  have more: ∀s,gw t=[s]→once [] (s4 gw (sG r) (k+1))=if s∈ks then ks else ks++[s]:=fun s h=>by rw [hfs,h,uV,hks]
  generalize once [] (s4 gw (sG r) (k+1))=ks' at *
  clear hte hks hos hfs
  refine Jz ?_
  obtain ⟨kd,p,f,n,args⟩:=t
  by_cases k2:kd=2
  ·have hmr:=more f (by unfold gw;exact if_pos k2)
   repeat' ((conv=>whnf);first|refine qx k2 ?_|refine nT_ ?_|(refine And.intro (by first|exact ⟨rfl,trivial⟩|fail) ?_)|refine aS ?_|fail)
   (conv=>whnf)
   refine endN _ rfl rfl fun q hq=>?_
   have hm:=qX (b:=b) hq
   by_cases h5:q=5
   ·subst h5
    show some (BX.m false [.str] (bK (T.str f) (T.bool true) _) none)=some (BX.m false [.str] _ none)
    rw [Ar,hmr]
   show cond (Nat.beq q 5) _ (cond (Nat.beq q 14) _ (cond (Nat.beq q 3) _ (cond (Nat.beq q 5) _ (gE 10 100 b q))))=cond (Nat.beq q 3) _ (cond (Nat.beq q 5) _ (b q))
   rw [eS h5,eS (show q≠14 by omega),hm];rfl
  ·have hg:=same (by unfold gw;exact if_neg k2)
   subst hg
   repeat' ((conv=>whnf);first|refine qw k2 ?_|refine nT_ ?_|refine aS ?_|fail)
   (conv=>whnf)
   refine endN _ rfl rfl fun q hq=>?_
   have hm:=qX (b:=b) hq
   show cond (Nat.beq q 14) _ (cond (Nat.beq q 3) _ (cond (Nat.beq q 5) _ (gE 10 100 b q)))=cond (Nat.beq q 3) _ (cond (Nat.beq q 5) _ (b q))
   rw [eS (show q≠14 by omega),hm];rfl
 ·have hes:vK r (sG r).length=[(3,.v [.mp 5]),(5,.m false [.str] (esS (once [] ((sG r).flatMap gw))) none)]:=by unfold vK;rw [v8]
  have hll:((sG r).flatMap gw).length≤(sG r).length:=wG fun x _=>by unfold gw;split <;> simp
  have hol:=vt (l:=(sG r).flatMap gw) (acc:=[])
  have hnd:=uk (l:=(sG r).flatMap gw) (acc:=[]) List.nodup_nil
  have hfin:vg (once [] ((sG r).flatMap gw))=writes r:=by
   unfold vg writes
   refine vU zu fun x=>?_
   rw [uC]
   simp only [List.not_mem_nil,false_or]
   rw [show (sG r).flatMap gw=BU r by rw [s9];rfl]
  rw [hes]
  simp only [List.length_nil,Nat.zero_add] at hol
  generalize once [] ((sG r).flatMap gw)=ks at *
  have hk1:=BM ks (ks.map fun _=>T.bool true)
  have hk2:=(zI ks (ks.map fun _=>T.bool true) (by simp) (by omega) hnd).rD
  rw [hfin] at hk2
  refine aI.bP (s:={sl:=[(3,.ptr 3 0)],bx:=[(3,.v [.t (mpb ks (ks.map fun _=>T.bool true))])]}) ⟨⟨.same _,trivial⟩,⟨.v _ _ ⟨.conv _ _ [5] ?_ (by simp [Wk.keys]),trivial⟩,trivial⟩,trivial,rfl,fun _ _ _=>trivial,rfl⟩ ?_
  ·show some (T.mapd false [.str] ((esS ks).map (·.1)) ((esS ks).map (·.2)),[5])=_
   unfold esS
   rw [List.map_map,List.map_map];rfl
  refine JE ?_
  repeat' ((conv=>whnf);first|refine rE _ (hk1) ?_|refine rE _ (hk2) ?_|fail)
  exact ⟨⟨rfl,trivial⟩,fun _ _=>trivial⟩
end Go.TY
end
section
namespace Go.TY
open Go Go.DL Go.MM Go.Proofs
attribute [local irreducible] aI gR WCM YC
def gp:RO→List Int:=fun x=>if x.kind=2∧sC x.field tg=true then [x.n] else []
def vI (r:RO) (k:Nat):List (Nat×BX):=[(3,.v [.mp 5]),(5,.m false [.int .i64] (esI (once [] (s4 gp (sG r) k))) none)]
theorem H0 (r:RO):ph (fun n=>10≤n∧n<100) 100 (fun _ _=>True) (vI r) (fun _ cx _=>cx=(fun _ _=>True)∧False) where
 fh:=fun n h=>h.2
 nm:=fun k p hp=>by
  simp only [vI,List.mem_cons,List.not_mem_nil,or_false] at hp
  rcases hp with rfl|rfl <;> exact ⟨by dsimp only;omega,by dsimp only;omega⟩
 nms:=fun c cx o ho=>ho.2.elim
 cov:=fun k k' p hp=>by
  simp only [vI,List.mem_cons,List.not_mem_nil,or_false] at hp ⊢
  rcases hp with rfl|rfl
  ·exact ⟨_,Or.inl rfl,rfl⟩
  ·exact ⟨_,Or.inr rfl,rfl⟩
 covs:=fun c cx o ho=>ho.2.elim
 safe:=fun k p hp=>by
  simp only [vI,List.mem_cons,List.not_mem_nil,or_false] at hp
  rcases hp with rfl|rfl
  ·intro c hc
   rw [List.mem_singleton.1 hc]
   exact .mp 5 ⟨(5,_),List.mem_cons_of_mem _ (List.mem_singleton.2 rfl),rfl⟩
  ·exact trivial
 safes:=fun c cx o ho=>ho.2.elim
 cxd:=fun c cx o ho=>ho.2.elim
 cxo_:=rT
 nd:=fun k=>by show ([3,5]:List Nat).Nodup;decide
theorem Gx (r:RO) (hr:r.wt<2^39):DCalls Tryz.prog 28 [.agg (sA r)] (.slice 1 ((y5 r).map I)):=by
 rw [← uA]
 refine qP Tryz.func28 Lr rfl (r:=[.slice 1 ((y5 r).map I)]) (nlZ rfl) ?_
 have hlen:(sG r).length≤r.wt:=by rw [s9,uJ];exact r.wZ
 have hwt: ∀o∈sG r,o.wt≤r.wt:=by rw [s9];exact uX r
 have hpl:(tc r).length≤r.wt:=xC r
 rw [show Tryz.f28.ntmps=23 from rfl,show Tryz.f28.results.toList=[.tmp 2] from rfl,k28]
 have ht:=yp r
 rw [sO] at ht
 refine aI.seq (Jc ?_)
 repeat' ((conv=>whnf);first|(refine And.intro (by first|exact tl _|fail) ?_)|fail)
 refine aI.seq (Ji ?_)
 repeat' ((conv=>whnf);first|refine aS ?_|fail)
 refine aI.seq (aI.seq (Jo ?_))
 repeat' ((conv=>whnf);first|refine rE _ (ht) ?_|fail)
 refine aI.bP (s:={sl:=[(3,.ptr 3 0),(7,.t (.clos 116 [.cptr (sW r) 0]))],bx:=[(3,.v [.mp 5]),(5,.m false [.int .i64] [] none)]}) (by repeat' (first|exact trivial|exact LeV.same _|exact LeB.same _|exact rfl|exact fun _ _ _=>trivial|refine And.intro ?_ ?_)) ?_
 refine aI.block (vL (N:=23) rfl r rfl 100 (fun n=>10≤n∧n<100) 100 (Nat.le_refl _) (by omega) (fun n h=>rz fun p hp=>?_) (fun n h=>rz fun p hp=>?_) (by exact rU) (outs:=vI r) (stop:=fun _ cx _=>cx=(fun _ _=>True)∧False) ?_ (fun l0 D fn tmps hN=>?_) ?_ (fun c cx o h=>h.2.elim))
 ·simp only [List.mem_cons,List.not_mem_nil,or_false] at hp
  rcases hp with rfl|rfl <;> (dsimp only;omega)
 ·simp only [List.mem_cons,List.not_mem_nil,or_false] at hp
  rcases hp with rfl|rfl <;> (dsimp only;omega)
 ·intro q hq
  simp only [vI,List.mem_cons,List.not_mem_nil,or_false] at hq
  rcases hq with rfl|rfl <;> rfl
 ·refine dR.top (d:=4) (n:=9) (lo:=10) (hi:=100) (stop:=fun _ _=>False) (H0 r) (fun n h1 h2=>⟨h1,h2⟩) hN (by decide) (fun hw=>Ju hw) rfl (by decide) (by decide) (fun x hx=>?_) (fun k cs b G C hk hcs=>?_)
  ·obtain ⟨t,_,rfl⟩:=List.mem_map.1 hx
   exact ⟨_,sO t,tl t⟩
  rw [List.getElem?_map,Option.map_eq_some_iff] at hk
  obtain ⟨t,htk,hte⟩:=hk
  rw [sO] at hte
  obtain rfl:sW t=cs:=T.agg.inj hte
  have hfs:=vF (g:=gp) htk
  have hos:vI r k=[(3,.v [.mp 5]),(5,.m false [.int .i64] (esI (once [] (s4 gp (sG r) k))) none)]:=rfl
  rw [hos]
  generalize hks:once [] (s4 gp (sG r) k)=ks
  have endN: ∀s:St,s.gh=G→s.cx=C→(∀ q, ¬(10≤q∧q<100)→s.bx q=aK b [(3,.v [.mp 5]),(5,.m false [.int .i64] (esI (once [] (s4 gp (sG r) (k+1)))) none)] q)→RB b G C 10 100 (vI r (k+1)) (fun _ _=>False) .normal s:=fun s h1 h2 h3=>⟨h1,h2,_,h3,rfl⟩
  have same:gp t=[]→once [] (s4 gp (sG r) (k+1))=ks:=fun h=>by rw [hfs,h,List.append_nil,hks]
  have more: ∀s,gp t=[s]→once [] (s4 gp (sG r) (k+1))=if s∈ks then ks else ks++[s]:=fun s h=>by rw [hfs,h,uV,hks]
  generalize once [] (s4 gp (sG r) (k+1))=ks' at *
  clear hte hks hos hfs
  refine JA ?_
  obtain ⟨kd,p,f,n,args⟩:=t
  have hE:=sU f tg
  by_cases k2:kd=2
  ·cases hb:sC f tg with
   |true=>
    have hmr:=more n (by unfold gp;exact if_pos ⟨k2,hb⟩)
    rw [hb] at hE
    repeat' ((conv=>whnf);first|refine qx k2 ?_|refine nb_ _ hE ?_|refine nT_ ?_|(refine And.intro (by first|exact ⟨rfl,rfl,trivial⟩|fail) ?_)|refine aS ?_|fail)
    (conv=>whnf)
    refine endN _ rfl rfl fun q hq=>?_
    have hm:=qX (b:=b) hq
    by_cases h5:q=5
    ·subst h5
     show some (BX.m false [.int .i64] (bK (T.int .i64 n) (T.bool true) _) none)=some (BX.m false [.int .i64] _ none)
     rw [y0,hmr]
    show cond (Nat.beq q 5) _ (cond (Nat.beq q 14) _ (cond (Nat.beq q 3) _ (cond (Nat.beq q 5) _ (gE 10 100 b q))))=cond (Nat.beq q 3) _ (cond (Nat.beq q 5) _ (b q))
    rw [eS h5,eS (show q≠14 by omega),hm];rfl
   |false=>
    have hg:=same (by unfold gp;exact if_neg (fun h=>by rw [show sC f tg=true from h.2] at hb;cases hb))
    subst hg
    rw [hb] at hE
    repeat' ((conv=>whnf);first|refine qx k2 ?_|refine nb_ _ hE ?_|refine nT_ ?_|refine aS ?_|fail)
    (conv=>whnf)
    refine endN _ rfl rfl fun q hq=>?_
    have hm:=qX (b:=b) hq
    show cond (Nat.beq q 14) _ (cond (Nat.beq q 3) _ (cond (Nat.beq q 5) _ (gE 10 100 b q)))=cond (Nat.beq q 3) _ (cond (Nat.beq q 5) _ (b q))
    rw [eS (show q≠14 by omega),hm];rfl
  ·have hg:=same (by unfold gp;exact if_neg (fun h=>k2 h.1))
   subst hg
   repeat' ((conv=>whnf);first|refine qw k2 ?_|refine nT_ ?_|refine aS ?_|fail)
   (conv=>whnf)
   refine endN _ rfl rfl fun q hq=>?_
   have hm:=qX (b:=b) hq
   show cond (Nat.beq q 14) _ (cond (Nat.beq q 3) _ (cond (Nat.beq q 5) _ (gE 10 100 b q)))=cond (Nat.beq q 3) _ (cond (Nat.beq q 5) _ (b q))
   rw [eS (show q≠14 by omega),hm];rfl
 ·have hes:vI r (sG r).length=[(3,.v [.mp 5]),(5,.m false [.int .i64] (esI (once [] ((sG r).flatMap gp))) none)]:=by unfold vI;rw [v8]
  have hll:((sG r).flatMap gp).length≤(sG r).length:=wG fun x _=>by unfold gp;split <;> simp
  have hol:=vt (l:=(sG r).flatMap gp) (acc:=[])
  have hnd:=uk (l:=(sG r).flatMap gp) (acc:=[]) List.nodup_nil
  have hfin:yO (once [] ((sG r).flatMap gp))=y5 r:=by
   unfold yO y5
   refine vU EG fun x=>?_
   rw [uC]
   simp only [List.not_mem_nil,false_or]
   rw [show (sG r).flatMap gp=DZ r by rw [s9];rfl]
  rw [hes]
  simp only [List.length_nil,Nat.zero_add] at hol
  generalize once [] ((sG r).flatMap gp)=ks at *
  have hk1:=BN ks (ks.map fun _=>T.bool true)
  have hk2:=(zJ ks (ks.map fun _=>T.bool true) (by simp) (by omega) hnd).rD
  rw [hfin] at hk2
  refine aI.bP (s:={sl:=[(3,.ptr 3 0)],bx:=[(3,.v [.t (mpi ks (ks.map fun _=>T.bool true))])]}) ⟨⟨.same _,trivial⟩,⟨.v _ _ ⟨.conv _ _ [5] ?_ (by simp [Wk.keys]),trivial⟩,trivial⟩,trivial,rfl,fun _ _ _=>trivial,rfl⟩ ?_
  ·show some (T.mapd false [.int .i64] ((esI ks).map (·.1)) ((esI ks).map (·.2)),[5])=_
   unfold esI
   rw [List.map_map,List.map_map];rfl
  refine JF ?_
  repeat' ((conv=>whnf);first|refine rE _ (hk1) ?_|refine rE _ (hk2) ?_|fail)
  exact ⟨⟨rfl,trivial⟩,fun _ _=>trivial⟩
end Go.TY
end
