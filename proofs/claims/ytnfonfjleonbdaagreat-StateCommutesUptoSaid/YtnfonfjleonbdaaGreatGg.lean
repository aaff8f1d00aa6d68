/- Joined by program: parts of a data level over the model, of the program's functions over it, and of the statement's proof. -/
import Derived.Test.YtnfonfjleonbdaaGreatGf
import Derived.Test.YtnfonfjleonbdaaGreatGd
import Derived.Shelf.Lays8
import Derived.Test.YtnfonfjleonbdaaGreatProg
import Derived.Test.YtnfonfjleonbdaaGreatGc
import Derived.KernelRfl
import Derived.Test.YtnfonfjleonbdaaGreatGe
set_option maxRecDepth 100000
set_option maxHeartbeats 8000000
section
namespace Go.RC
open Go Go.DL Go.Proofs
theorem GK(b:List Int)(l:vf b)(K:b.length<2^40):DCalls Tryz.prog 136 [.slice 1 (b.map Y),I 1,.clos 96 []] (gsT (uU b)):=by
 refine dl2 mixed [.tmp 6,.tmp 7,.tmp 8] [_,I _,I _] Tryz.func136 MS ?_;have x:=Az b 1 l (by omega) (by omega) (by omega);obtain ⟨G,B,A,E⟩:=Bj (least:=1) l (by omega);have c:uU b=if (gl b 1).2.2≠0 then ([],0,(gl b 1).2.2) else gis (gl b 1).1.toNat b (gl b 1).2.1 []:=rfl
 generalize gl b 1=g at *
 obtain ⟨n,u,e⟩:=g;dsimp only at *
 by_cases e0:e=0
 case neg=>
  rw [if_pos e0] at c;rw [c];show wpC _ _ _ (nX _ _ [if e≠0 then .nil else .slice 1 ([].map I),I 0,I e])
  rw [if_pos e0]
  repeat' ((conv=>whnf);first|refine uc _ (x) ?_|refine sG e0 ?_|refine rix ?_|refine aS ?_|exact trivial)
 rw [if_neg (fun h=>h e0)] at c;rw [c]
 repeat' ((conv=>whnf);first|refine uc _ (x) ?_|refine sF e0 ?_|refine aS ?_|fail)
 have D:gsT (gis n.toNat b u [])= .tup [if (gis n.toNat b u []).2.2≠0 then .nil else .slice 1 ((gis n.toNat b u []).1.map I),I (gis n.toNat b u []).2.1,I (gis n.toNat b u []).2.2]:=rfl;refine tx 0 (α:=Nat×Nat×Int×List Int) (β:=Nat×Int×List Int) (fun q=>{sl:=[(0,.t (.slice 1 (b.map Y))),(2,.t (.clos 96 [])),(10,.t (I q.2.2.1)),(12,.own q.1 3 1 (q.2.2.2.map I)),(26,.t (I n)),(27,.t (I q.2.1))],bx:=[]})
  (fun q=>q.2.1<=n.toNat/\q.2.2.2.length=q.2.1/\0<=q.2.2.1/\q.2.2.1<=b.length/\gis (n.toNat - q.2.1) b q.2.2.1 q.2.2.2=gis n.toNat b u []) (fun q=>n.toNat - q.2.1)
  (fun q=>{sl:=[(10,.t (I q.2.1)),(12,.own q.1 3 1 (q.2.2.map I))],bx:=[]}) (fun q=>gis n.toNat b u []=(q.2.2,q.2.1,0)) (44,0,u,[]) ⟨by simp,rfl,B,A,rfl⟩ ?_ ?_ ?_
 ·repeat' (first|exact wJ|refine And.intro ?_ ?_)
 ·rintro ⟨q,k,a,acc⟩ ⟨C,j,s,m,d⟩;dsimp only at C j s m d;rcases Nat.lt_or_ge k n.toNat with y|y
  ·rw [G7 k y] at d;have p:=ze (b.drop a.toNat) (vE l _) (by simp;omega);obtain ⟨F,H,z,L,J,M⟩:=yF (vE l a.toNat);rw [List.length_drop] at z;rw [List.map_drop,show (b.map Y).drop a.toNat=List.drop a.toNat (List.take ((((b.map Y).length:Nat):Int)).toNat (b.map Y)) by rw [Int.toNat_natCast,List.take_length]] at p;generalize gi (b.drop a.toNat)=g at *
   obtain ⟨v,w,f⟩:=g;dsimp only at *
   by_cases i:f=0
   ·rw [if_neg (fun h=>h i)] at d
    repeat' ((conv=>whnf);first|refine uc _ (p) ?_|refine sF i ?_|refine aD1 ?_|(refine And.intro (by first|((simp;omega);done)|fail) ?_)|refine aS ?_|refine nT_ ?_)
    have o:a+w=IntKind.i64.wrap (a+w):=(nW (by omega) (by omega)).symm;have r:((k+1:Nat):Int)=IntKind.i64.wrap ((k:Int)+1):=by rw [nW (by omega) (by omega)];rfl
    refine ⟨(44,k+1,a+w,acc++[v]),⟨by dsimp only;omega,by simp [j],by dsimp only;omega,by dsimp only;omega,d⟩,by dsimp only;omega,?_⟩
    repeat' (first|((refine leI ?_;first|exact o|exact r))|((refine ug ?_;simp;done))|exact wJ|refine And.intro ?_ ?_)
   ·rw [if_pos i] at d
    repeat' ((conv=>whnf);first|refine uc _ (p) ?_|refine sG i ?_|refine nT_ ?_|refine aD1 ?_|(refine And.intro (by first|((simp;omega);done)|fail) ?_)|refine aS ?_|refine rt ?_ (ri ?_ (ri ?_ trivial)))
    all_goals rw [<- d]
    exact (if_pos i).symm
  ·have:k=n.toNat:=by omega
   subst this;rw [Nat.sub_self] at d
   repeat' ((conv=>whnf);first|(refine su (by simp;omega) ?_)|refine aS ?_|fail)
   exact ⟨(q,a,acc),d.symm,by repeat' (first|exact wJ|refine And.intro ?_ ?_)⟩
 rintro ⟨q,a,acc⟩ h;rw [h]
 repeat' ((conv=>whnf);first|refine rix ?_|refine aS ?_|exact trivial)
theorem zn(b:List Int)(a:vf b)(c:b.length<2^40):DCalls Tryz.prog 98 [.slice 1 (b.map Y)] (gsT (uU b)):=by
 refine dl2 mixed [.tmp 2,.tmp 3,.tmp 4] [_,I _,I _] Tryz.func98 l98 ?_;have h:=GK b a c
 repeat' ((conv=>whnf);first|refine uc _ (h) ?_|refine rix ?_|refine aS ?_|exact trivial)
end Go.RC
end
section
end
section
end
section
namespace Go.RC
open Go Go.DL Go.Proofs
theorem K3(n:Int):un (zz n:Nat)=n:=by unfold un zz;split <;> split <;> omega
theorem K5{m:Nat}:zz (un (m:Int))=m:=by unfold un zz;split <;> split <;> omega
theorem Ki(m:Nat):1<=(vb m).length:=by
 by_cases h:m<128
 ·rw [zp h];simp
 ·rw [AF h];simp
theorem Cq(n:Int):1<=(vi n).length:=Ki _
theorem Nz:(128:Int)^9=9223372036854775808:=by decide
theorem Kq: ∀(m k:Nat) (z:Int) (r:List Int),0<=z->z+(m:Int) * 128^k<18446744073709551616->(k>0->m>0)->gz k z (vb m++r)=(un (z+(m:Int) * 128^k),(k:Int)+(vb m).length,0):=by
 intro m
 induction m using Nat.strongRecOn with
 |ind m g=>
  intro k z r l c f;have i:(0:Int)<128^k:=Int.pow_pos (by decide);have d:k=9->m<2:=fun h=>by subst h;rw [Nz] at c;omega
  by_cases h:m<128
  ·rw [zp h];show gz k z ((m:Int)::r)=_
   rw [gz,if_neg (by rintro (⟨a,b⟩|⟨a,b⟩);(have:=d a;omega);(have:=f a;omega)),if_pos (by omega)];rw [show (m:Int) % 128=m by omega];rfl
  ·rw [AF h];show gz k z (((m % 128+128:Nat):Int)::(vb (m / 128)++r))=_
   rw [gz,if_neg (by rintro (⟨a,b⟩|⟨a,b⟩);(have:=d a;omega);(omega)),if_neg (by omega)];rw [show ((m % 128+128:Nat):Int) % 128=((m % 128:Nat):Int) by omega];have e:z+((m % 128:Nat):Int) * 128^k+((m / 128:Nat):Int) * 128^(k+1)=z+(m:Int) * 128^k:=by
    rw [Int.pow_succ,Int.mul_comm (128^k) 128, <-Int.mul_assoc,Int.add_assoc, <-Int.add_mul]
    congr 2;omega
   have j:(0:Int)<=((m % 128:Nat):Int) * 128^k:=Int.mul_nonneg (by omega) (Int.le_of_lt i);rw [g (m / 128) (by omega) (k+1) _ r (by omega) (by rw [e];exact c) (fun _=>by omega),e,List.length_cons]
   congr 2
   omega
theorem De{n:Int}(h:i64 n)(r:List Int):gi (vi n++r)=(n,(((vi n).length:Nat):Int),0):=by
 have:=Kq (zz n) 0 0 r (by omega) (by have:=F1 h;omega) (fun h=>by omega)
 unfold gi vi;rw [this];have e:(0:Int)+((zz n:Nat):Int) * 128^0=((zz n:Nat):Int):=by simp
 rw [e,K3];simp
theorem Gb: ∀{b:List Int} {k:Nat} {z:Int},vf b->k<=9->0<=z->z<128^k->(gz k z b).2.2=0-> ∃m:Nat,(gz k z b).2.1=k+(vb m).length/\b=vb m++b.drop (vb m).length/\(gz k z b).1=un (z+(m:Int) * 128^k)/\(k>0->m>0)
 |[],k,z,_,_,_,_,h=>by rw [gz] at h;simp at h
 |c::r,k,z,hb,hk,hz,hz2,h=>by
  obtain ⟨a,g⟩:=hb c (by simp);obtain ⟨c,rfl⟩:=Int.eq_ofNat_of_zero_le a;have e:vf r:=fun x n=>hb x (by simp [n])
  rw [gz] at h ⊢
  by_cases d:(k=9/\(c:Int)>1)\/(k>0/\(c:Int)=0)
  ·rw [if_pos d] at h;simp at h
  rw [if_neg d] at h ⊢;obtain ⟨-,p,l,t⟩:=digit hz hz2 hk a g (fun h=>by omega)
  by_cases c8:(c:Int)<128
  ·rw [if_pos c8];refine ⟨c,?_,?_,?_,fun q=>by omega⟩
   ·rw [zp (by omega)];rfl
   ·rw [zp (by omega)];rfl
   ·rw [show (c:Int) % 128=c by omega]
  ·rw [if_neg c8] at h ⊢;obtain ⟨m,f,i,o,j⟩:=Gb (b:=r) (k:=k+1) e (by omega) p l h;have s:=j (by omega);refine ⟨c % 128+128 * m,?_,?_,?_,fun _=>by omega⟩
   ·rw [f,AF (z:=c % 128+128 * m) (by omega),show (c % 128+128 * m) / 128=m by omega,List.length_cons];omega
   ·rw [AF (z:=c % 128+128 * m) (by omega),show (c % 128+128 * m) / 128=m by omega,show (c % 128+128 * m) % 128+128=c by omega,List.length_cons,List.drop_succ_cons,List.cons_append, <-i]
   ·rw [o]
    congr 1
    rw [Int.pow_succ,Int.mul_comm (128^k) 128, <-Int.mul_assoc,Int.add_assoc, <-Int.add_mul]
    congr 2;omega
theorem DG{b:List Int}(c:vf b)(h:(gi b).2.2=0):(gi b).2.1=(vi (gi b).1).length/\b=vi (gi b).1++b.drop (gi b).2.1.toNat:=by
 obtain ⟨m,a,f,d,g⟩:=Gb (b:=b) (k:=0) (z:=0) c (by omega) (by omega) (by decide) h;have e:(gi b).1=un (m:Int):=by
  rw [show (gi b).1=un (0+(m:Int) * 128^0) from d];simp
 have a:(gi b).2.1=((vb m).length:Int):=by rw [show (gi b).2.1=((0:Nat):Int)+(vb m).length from a];simp
 rw [e];unfold vi;rw [K5,a];exact ⟨rfl,by simpa using f⟩
theorem Fl{k:Nat}{r:List Int}{least:Int}(b:0<least)(a:k<2^62)(h:(k:Int) * least<=r.length):gl (vi k++r) least=((k:Int),(((vi k).length:Nat):Int),0):=by
 unfold gl;rw [De (xr a)];dsimp only;rw [if_neg (by simp),if_neg (by omega),if_neg];have e:(((vi k++r).length:Nat):Int) - ((vi k).length:Int)=r.length:=by rw [List.length_append];omega
 rw [e]
 have:=(Int.le_ediv_iff_mul_le b).2 h
 omega
theorem Ga{b:List Int}{least:Int}(c:vf b)(h:(gl b least).2.2=0):0<=(gl b least).1/\i64 (gl b least).1/\(gl b least).2.1=(vi (gl b least).1).length/\b=vi (gl b least).1++b.drop (gl b least).2.1.toNat:=by
 have f:=DG c;obtain ⟨i, -⟩:=yF c;unfold gl at h ⊢
 by_cases a:(gi b).2.2≠0
 ·rw [if_pos a] at h;exact absurd h a
 rw [if_neg a] at h ⊢
 by_cases d:(gi b).1<0
 ·rw [if_pos d] at h;simp at h
 rw [if_neg d] at h ⊢
 by_cases e:(gi b).1>(b.length - (gi b).2.1) / least
 ·rw [if_pos e] at h;simp at h
 rw [if_neg e];obtain ⟨g,j⟩:=f (by simpa using a);exact ⟨by dsimp only;omega,i,g,j⟩
theorem DF: ∀(l:List Int),l.length<=(l.flatMap vi).length
 |[]=>by simp
 |x::l=>by
  have:=DF l
  have:=Cq x
  simp only [List.flatMap_cons,List.length_append,List.length_cons];omega
theorem DK{b r:List Int}: ∀{l acc:List Int} {a:Int},0<=a->b.drop a.toNat=l.flatMap vi++r->(∀ x∈l,i64 x)->gis l.length b a acc=(acc++l,a+(l.flatMap vi).length,0)
 |[],acc,a,h0,h,_=>by simp [gis]
 |x::l,acc,a,h0,h,hx=>by
  have d:gi (b.drop a.toNat)=(x,(((vi x).length:Nat):Int),0):=by rw [h,List.flatMap_cons,List.append_assoc];exact De (hx x (by simp)) _
  show gis (l.length+1) b a acc=_
  rw [gis,d,if_neg (by simp)];dsimp only;rw [DK (l:=l) (by omega) (by
   rw [show (a+((vi x).length:Int)).toNat=a.toNat+(vi x).length by omega, <-List.drop_drop,h,List.flatMap_cons,List.append_assoc,List.drop_left]) (fun y c=>hx y (by simp [c]))]
  simp only [List.append_assoc,List.singleton_append,List.flatMap_cons,List.length_append]
  congr 2
  omega
theorem AS{l r:List Int}(b:l.length<2^62)(a: ∀x∈l,i64 x):uU (vis l++r)=(l,(((vis l).length:Nat):Int),0):=by
 unfold uU vis;rw [List.append_assoc,Fl (by decide) b (by have:=DF l;rw [List.length_append];omega)];dsimp only;rw [if_neg (by simp),Int.toNat_natCast,DK (r:=r) (by omega) (by rw [Int.toNat_natCast,List.drop_left]) a];simp
theorem EF{b:List Int}(f:vf b): ∀{n:Nat} {acc:List Int} {a:Int},0<=a->(gis n b a acc).2.2=0-> ∃l,(gis n b a acc).1=acc++l/\l.length=n/\(∀ x∈l,i64 x)/\(gis n b a acc).2.1=a+(l.flatMap vi).length/\b.drop a.toNat=l.flatMap vi++b.drop (gis n b a acc).2.1.toNat
 |0,acc,a,h0,h=>⟨[],by simp [gis],rfl,by simp,by simp [gis],by simp [gis]⟩
 |n+1,acc,a,h0,h=>by
  have hd:=vE f a.toNat;rw [gis] at h ⊢
  by_cases c:(gi (b.drop a.toNat)).2.2≠0
  ·rw [if_pos c] at h;exact absurd h c
  rw [if_neg c] at h ⊢;obtain ⟨r,j⟩:=DG hd (by simpa using c);obtain ⟨q, -⟩:=yF hd;generalize gi (b.drop a.toNat)=g at *
  obtain ⟨v,u,e⟩:=g;dsimp only at *
  obtain ⟨l,m,o,i,p,k⟩:=EF f (n:=n) (acc:=acc++[v]) (a:=a+u) (by omega) h;refine ⟨v::l,?_,by simp [o],?_,?_,?_⟩
  ·rw [m];simp
  ·intro x d;rcases List.mem_cons.1 d with rfl|d
   ·exact q
   ·exact i x d
  ·rw [p,List.flatMap_cons,List.length_append];omega
  ·rw [j,List.drop_drop,show a.toNat+u.toNat=(a+u).toNat by omega,k,List.flatMap_cons,List.append_assoc]
theorem AR{b:List Int}(d:vf b)(h:(uU b).2.2=0):(∀ x∈(uU b).1,i64 x)/\(uU b).2.1=(vis (uU b).1).length/\b=vis (uU b).1++b.drop (uU b).2.1.toNat:=by
 have q:=@Ga b 1 d;unfold uU at h ⊢
 by_cases c:(gl b 1).2.2≠0
 ·rw [if_pos c] at h;exact absurd h c
 rw [if_neg c] at h ⊢;obtain ⟨r, -,j,m⟩:=q (by simpa using c);generalize gl b 1=g at *
 obtain ⟨n,u,e⟩:=g;dsimp only at *
 obtain ⟨l,f,s,k,p,o⟩:=EF d (n:=n.toNat) (acc:=[]) (a:=u) (by omega) h;rw [List.nil_append] at f;rw [f];have i:((l.length:Nat):Int)=n:=by omega
 refine ⟨k,?_,?_⟩
 ·rw [p,vis,i,List.length_append,j];omega
 ·rw [vis,i,List.append_assoc, <-o];exact m
end Go.RC
end
section
namespace Go.ST
open Go Go.DL Go.TY
open Go.RC (vi vis vs gi gl uU i64 vf vE sB Y De Fl AS yF Bj DG Ga AR xr CH ER A9 yK Cq)
def wa(e:RE):List Int:=vs e.var++(vis e.key++vis [e.n,e.at_])
def xV(st:List RE):List Int:=vi st.length++st.flatMap wa
def gb(b:List Int):ByteArray×Int×Int:=if (gl b 1).2.2≠0 then (⟨#[]⟩,0,(gl b 1).2.2) else (oG (((b.drop (gl b 1).2.1.toNat).take (gl b 1).1.toNat).map Y),(gl b 1).2.1+(gl b 1).1,0)
def BN(b:List Int):RE×List Int×Int:=
 if (gb b).2.2≠0 then (⟨⟨#[]⟩,[],0,0⟩,[],(gb b).2.2) else
 if (uU (b.drop (gb b).2.1.toNat)).2.2≠0 then (⟨⟨#[]⟩,[],0,0⟩,[],(uU (b.drop (gb b).2.1.toNat)).2.2) else
 let a:=(b.drop (gb b).2.1.toNat).drop (uU (b.drop (gb b).2.1.toNat)).2.1.toNat
 if (uU a).2.2≠0 then (⟨⟨#[]⟩,[],0,0⟩,[],(uU a).2.2) else
 if (uU a).1.length≠2 then (⟨⟨#[]⟩,[],0,0⟩,[],6) else
 (⟨(gb b).1,(uU (b.drop (gb b).2.1.toNat)).1,(uU a).1.getD 0 0,(uU a).1.getD 1 0⟩,a.drop (uU a).2.1.toNat,0)
def xU:Nat->List Int->List RE->List RE×List Int×Int
 |0,b,acc=>(acc,b,0)
 |n+1,b,acc=>if (BN b).2.2≠0 then ([],[],(BN b).2.2) else xU n (BN b).2.1 (acc++[(BN b).1])
def yQ(b:List Int):List RE×Int:=
 if (gi b).2.2≠0 then ([],(gi b).2.2) else if (gi b).1<0 then ([],6) else
 if (xU (gi b).1.toNat (b.drop (gi b).2.1.toNat) []).2.2≠0 then ([],(xU (gi b).1.toNat (b.drop (gi b).2.1.toNat) []).2.2)
 else if (xU (gi b).1.toNat (b.drop (gi b).2.1.toNat) []).2.1≠[] then ([],6) else ((xU (gi b).1.toNat (b.drop (gi b).2.1.toNat) []).1,0)
structure SzE (e:RE):Prop where
 var:e.var.size<2^40
 key:e.key.length<2^40
 keys: ∀x∈e.key,i64 x
 n:i64 e.n
 at_:i64 e.at_
theorem J1{a b:ByteArray}(h:sB a=sB b):a=b:=by
 have key: ∀(x y:List UInt8),x.map (fun b=>(b.toNat:Int))=y.map (fun b=>(b.toNat:Int))->x=y:=by
  intro x
  induction x with
  |nil=>intro y h;cases y with
   |nil=>rfl
   |cons _ _=>simp at h
  |cons a r d=>intro y h;cases y with
   |nil=>simp at h
   |cons c s=>
    simp only [List.map_cons,List.cons.injEq] at h
    have:a=c:=UInt8.toNat_inj.1 (by have:=h.1;omega)
    rw [this,d s h.2]
 exact ByteArray.ext (Array.ext' (key _ _ h))
theorem Je(s:ByteArray):oG ((sB s).map Y)=s:=J1 (ER _ (CH s))
theorem Kn{s:ByteArray}(h:s.size<2^40)(r:List Int):gb (vs s++r)=(s,(((vs s).length:Nat):Int),0):=by
 unfold gb vs;rw [List.append_assoc,Fl (by decide) (by omega) (by rw [List.length_append,A9];omega)];dsimp only;rw [if_neg (by simp),Int.toNat_natCast,Int.toNat_natCast,List.drop_left, <-A9,List.take_left,Je];simp only [List.length_append,A9,Int.natCast_add]
theorem GY{e:RE}(h:SzE e)(r:List Int):BN (wa e++r)=(e,r,0):=by
 unfold BN wa;rw [List.append_assoc,List.append_assoc,Kn h.var];dsimp only;rw [if_neg (by simp),Int.toNat_natCast,List.drop_left,AS (by have:=h.key;omega) h.keys];dsimp only;rw [if_neg (by simp),Int.toNat_natCast,List.drop_left,AS (by simp) (by simp;exact ⟨h.n,h.at_⟩)];dsimp only;rw [if_neg (by simp),if_neg (by simp),Int.toNat_natCast,List.drop_left];rfl
theorem Dw: ∀{st acc:List RE} {r:List Int},(∀ e∈st,SzE e)->xU st.length (st.flatMap wa++r) acc=(acc++st,r,0)
 |[],acc,r,_=>by simp [xU]
 |e::st,acc,r,h=>by
  show xU (st.length+1) _ _=_
  rw [xU,List.flatMap_cons,List.append_assoc,GY (h e (by simp)),if_neg (by simp)];dsimp only;rw [Dw fun x a=>h x (by simp [a])];simp
theorem GZ{st:List RE}(h: ∀e∈st,SzE e)(a:st.length<2^40):yQ (xV st)=(st,0):=by
 unfold yQ xV;rw [De (xr (by omega))];dsimp only
 have:=Dw (acc:=[]) (r:=[]) h
 rw [List.append_nil,List.nil_append] at this;rw [if_neg (by simp),if_neg (by omega),Int.toNat_natCast,Int.toNat_natCast,List.drop_left,this];dsimp only;rw [if_neg (by simp),if_neg (by simp)]
end Go.ST
end
section
namespace Go.Proofs
open Go.Shelf
def Tryz.Ce:Go.Shelf.Ren:=⟨fun|4=>137|n=>n,fun|22=>98|25=>5|3=>3|4=>4|9=>9|20=>20|0=>0|n=>n,fun|n=>n⟩
theorem Tryz.El:Go.Proofs.Lays8.n4 Tryz.prog Tryz.Ce:={
 mixed:=by kernel_rfl
 f4:=⟨Tryz.f137.name,by decide,Tryz.func137.trans (congrArg some (by kernel_rfl))⟩
 t0:=Tryz.underlying0
 a0:=Tryz.isAgg0
 z0:=Tryz.sizeOf0
 v0:=Tryz.zeroValue0
 t3:=Tryz.underlying3
 a3:=Tryz.isAgg3
 z3:=Tryz.sizeOf3
 v3:=Tryz.zeroValue3
 t4:=Tryz.underlying4
 a4:=Tryz.isAgg4
 z4:=Tryz.sizeOf4
 v4:=Tryz.zeroValue4
 t9:=Tryz.underlying9
 a9:=Tryz.isAgg9
 z9:=Tryz.sizeOf9
 v9:=Tryz.zeroValue9
 t20:=Tryz.underlying20
 a20:=Tryz.isAgg20
 z20:=Tryz.sizeOf20
 v20:=Tryz.zeroValue20
 t22:=Tryz.underlying98
 a22:=Tryz.isAgg98
 z22:=Tryz.sizeOf98
 v22:=Tryz.zeroValue98 }
end Go.Proofs
end
section
namespace Go.ST
open Go Go.DL Go.MM Go.Proofs
open Go.TY hiding Fd
open Go.RC (vi vis vs gi gl uU i64 vf Y)
theorem Kx:(Tryz.prog.info? 5).map (fun i=>(i.zero.map (fun z=>z.cells.size),i.size,i.bytes))=some (some 1,1,1):=by kernel_rfl
theorem Iv(n:Nat)(h:n<2^40):eC Tryz.prog 137 [.nil,I n] 5 1 [] []:=by
 have b:=Kx;cases d:Tryz.prog.info? 5 with
 |none=>rw [d] at b;cases b
 |some j=>
  rw [d] at b;simp only [Option.map_some,Option.some.injEq,Prod.mk.injEq] at b;obtain ⟨a,e,f⟩:=b;cases c:j.zero with
  |none=>rw [c] at a;cases a
  |some z=>
   rw [c] at a;have a:z.cells.size=1:=by simpa using a
   have:=sN Tryz.El (i0:=j) (z:=z) d c (by omega) (by omega) n (by rw [f];omega) (by omega) (eb Tryz.func137 rfl rfl)
   rw [e] at this;exact this
abbrev bT(l:List Int):T:=.slice 1 (l.map Y)
def wK(ls:List (List Int)):Nat:=(ls.map List.length).sum
theorem Cf{ls:List (List Int)}{k:Nat}(h:k<ls.length):wK (ls.take (k+1))=wK (ls.take k)+ls[k].length:=by
 unfold wK;rw [List.take_succ_eq_append_getElem h,List.map_append,List.sum_append];simp
theorem BQ(ls:List (List Int))(k:Nat):wK (ls.take k)<=wK ls:=by
 conv=>rhs;rw [<- List.take_append_drop k ls]
 unfold wK;rw [List.map_append,List.sum_append];omega
theorem Fy(ls:List (List Int)):ls.flatten.length=wK ls:=by unfold wK;rw [List.length_flatten]
theorem Jt{ls:List (List Int)}{j:Nat}{l:List Int}(h:ls[j]? =some l):((ls.map bT)[j]?.getD .nil)=bT l:=by
 rw [List.getElem?_map,h];rfl
theorem GJ(ls:List (List Int))(s:ls.length<2^20)(v:wK ls<2^30):DCalls Tryz.prog 100 [.slice 1 (ls.map bT)] (bT ls.flatten):=by
 refine dl2 mixed [.tmp 2] [bT _] Tryz.func100 Go.ST6.Mu ?_
 skip
 refine tx 0 (α:=Nat) (β:=Unit) (fun k=>{sl:=[(0,.t (.slice 1 (ls.map bT))),(2,.t .nil),(3,.t (I (wK (ls.take k)))),(9,.t (.slice 1 (ls.map bT))),(10,.t (I ls.length)),(11,.t (I k))],bx:=[]})
  (fun k=>k<=ls.length) (fun k=>ls.length - k) (fun _=>{sl:=[(0,.t (.slice 1 (ls.map bT))),(2,.t .nil),(3,.t (I (wK ls)))],bx:=[]}) (fun _=>True) 0 (by omega) ?_ ?_ ?_
 ·repeat' (first|((refine leI ?_;simp;done))|exact wJ|refine And.intro ?_ ?_)
 ·rintro k m;rcases Nat.lt_or_ge k ls.length with c|c
  ·have a:ls[k]? =some ls[k]:=ggZ c;have b:=Cf c;have i:=BQ ls k;have u:=BQ ls (k+1);generalize ls[k]=l at a b;have e:0<=(k:Int)/\(k:Int)<((ls.map bT).length:Int):=by rw [List.length_map];omega
   have d:(ls.map bT)[((k:Int)).toNat]?.getD .nil=bT l:=Jt (by rw [Int.toNat_natCast];exact a);have j:IntKind.i64.wrap ((wK (ls.take k):Int)+(((l.map Y).length:Nat):Int))=(wK (ls.take (k+1)):Int):=by
    rw [List.length_map,b,nW (by omega) (by omega)];push_cast;rfl
   have h:=j.symm;have r: ¬IntKind.i64.wrap ((wK (ls.take k):Int)+(((l.map Y).length:Nat):Int))<0:=by rw [j];omega
   repeat' ((conv=>whnf);first|refine sC (by omega) ?_|(refine nv_ (bT l) (by first|exact d) ?_)|refine su r ?_|(refine And.intro (by first|exact e) ?_)|refine aS ?_|refine nT_ ?_)
   exact ⟨k+1,by omega,by omega,by repeat' (first|(exact leI h)|exact wJ|refine And.intro ?_ ?_)⟩
  ·have:k=ls.length:=by omega
   subst this
   repeat' ((conv=>whnf);first|refine su (by omega) ?_|refine aS ?_|fail)
   exact ⟨(),trivial,by repeat' (first|((refine leI ?_;rw [List.take_length]))|exact wJ|refine And.intro ?_ ?_)⟩
 rintro - -;have p:=Iv (wK ls) (by omega)
 repeat' ((conv=>whnf);first|refine tY rfl p ?_)
 refine tx 2 (α:=Nat×Nat) (β:=Nat) (fun q=>{sl:=[(2,.t .nil),(6,.own q.1 5 1 ((ls.take q.2).flatten.map Y)),(25,.t (.slice 1 (ls.map bT))),(26,.t (I ls.length)),(27,.t (I q.2))],bx:=[]})
  (fun q=>q.2<=ls.length/\(q.1=24\/q.1=33)) (fun q=>ls.length - q.2) (fun q=>{sl:=[(2,.t .nil),(6,.own q 5 1 (ls.flatten.map Y))],bx:=[]}) (fun q=>q=24\/q=33) (24,0) (by simp) ?_ ?_ ?_
 ·repeat' (first|((refine leI ?_;simp;done))|exact wJ|refine And.intro ?_ ?_)
 ·rintro ⟨q,k⟩ ⟨m,g⟩;dsimp only at m g;rcases Nat.lt_or_ge k ls.length with c|c
  ·have a:ls[k]? =some ls[k]:=ggZ c;have b:=Cf c;have f:(ls.take (k+1)).flatten=(ls.take k).flatten++ls[k]:=by rw [List.take_succ_eq_append_getElem c,List.flatten_append];simp
   have i:=BQ ls (k+1);have n:=Fy (ls.take k);generalize ls[k]=l at a b f;have e:0<=(k:Int)/\(k:Int)<((ls.map bT).length:Int):=by rw [List.length_map];omega
   have d:(ls.map bT)[((k:Int)).toNat]?.getD .nil=bT l:=Jt (by rw [Int.toNat_natCast];exact a);have o:(((ls.take k).flatten.map Y).length+(l.map Y).length) * 1<=140737488355328:=by simp only [List.length_map];omega
   rcases g with rfl|rfl
   all_goals repeat' ((conv=>whnf);first|refine sC (by omega) ?_|(refine nv_ (bT l) (by first|exact d) ?_)|(refine And.intro (by first|exact e|exact o) ?_)|refine aS ?_|refine nT_ ?_)
   all_goals refine ⟨(33,k+1),⟨by dsimp only;omega,.inr rfl⟩,by dsimp only;omega,?_⟩
   all_goals repeat' (first|((refine ug ?_;rw [f,List.map_append]))|exact wJ|refine And.intro ?_ ?_)
  ·have:k=ls.length:=by omega
   subst this
   repeat' ((conv=>whnf);first|refine su (by omega) ?_|refine aS ?_|fail)
   exact ⟨q,g,by repeat' (first|((refine ug ?_;rw [List.take_length]))|exact wJ|refine And.intro ?_ ?_)⟩
 rintro q g
 repeat' ((conv=>whnf);first|refine aS ?_|exact trivial)
end Go.ST
end
section
namespace Go.ST
open Go Go.DL Go.MM Go.Proofs
open Go.TY hiding Fd
open Go.RC (vi vis vs gi gl uU i64 vf Y xr B6 EB DB)
theorem Dz(st:List RE)(i:Nat):((st.take i).flatMap wa).length<=(st.flatMap wa).length:=by
 conv=>rhs;rw [<- List.take_append_drop i st,List.flatMap_append,List.length_append]
 omega
theorem HE(st:List RE)(v: ∀e∈st,SzE e)(u:st.length<2^28)(H:(xV st).length<2^28):DCalls Tryz.prog 46 [esT st] (bT (xV st)):=by
 refine dl2 mixed [.tmp 2] [bT _] Tryz.func46 Go.ST6.l46 ?_;have m:((st.map um).length:Int)=st.length:=by rw [List.length_map]
 have o:=(B6 ((st.map um).length:Int) (by rw [m];exact xr (by omega))).ua;rw [m] at o;have D:I ((st.map um).length:Int)=I (st.length:Int):=by rw [m]
 rw [<- m] at o
 repeat' ((conv=>whnf);first|refine uc _ (o) ?_)
 have G:bT (vi ((st.map um).length:Int))=bT (vi (st.length:Int)++(st.take 0).flatMap wa):=by rw [m];simp
 refine tx 0 (α:=Nat) (β:=Unit) (fun i=>{sl:=[(3,.t (bT (vi (st.length:Int)++(st.take i).flatMap wa))),(9,.t (esT st)),(10,.t (I st.length)),(11,.t (I i))],bx:=[]})
  (fun i=>i<=st.length) (fun i=>st.length - i) (fun _=>{sl:=[(3,.t (bT (xV st)))],bx:=[]}) (fun _=>True) 0 (Nat.zero_le _) ?_ ?_ ?_
 ·repeat' (first|(exact leI m.symm)|(exact leT G.symm)|exact wJ|refine And.intro ?_ ?_)
 ·rintro i J;rcases Nat.lt_or_ge i st.length with h|h
  ·have b:(i:Int)<(st.length:Int):=by omega
   have r:((i+1:Nat):Int)=IntKind.wrap .i64 ((i:Int)+1):=by rw [nW] <;> omega
   have E:(st.map um)[((i:Int)).toNat]?.getD .nil= .agg (uk st[i]):=by rw [Int.toNat_natCast];exact uQ h
   have s:0<=(i:Int)/\(i:Int)<((st.map um).length:Int):=by omega
   have a:=v _ (List.getElem_mem h);have d:=Dz st (i+1);have g:(st.take (i+1)).flatMap wa=(st.take i).flatMap wa++wa st[i]:=by rw [List.take_succ_eq_append_getElem h,List.flatMap_append];simp
   have z:(xV st).length=(vi (st.length:Int)).length+(st.flatMap wa).length:=by unfold xV;rw [List.length_append]
   rw [g,List.length_append] at d;generalize st[i]=x at *
   obtain ⟨k,l,c,f⟩:=x;have w:=(EB k a.var).ua;have A:=(DB l a.key a.keys).ua;have B: ∀y∈[c,f],i64 y:=fun y j=>by
    simp only [List.mem_cons,List.not_mem_nil,or_false] at j;rcases j with j|j
    ·rw [j];exact a.n
    ·rw [j];exact a.at_
   have C:=(DB [c,f] (by simp) B).ua;have F:=GJ [vi (st.length:Int)++(st.take i).flatMap wa,vs k,vis l,vis [c,f]] (by simp) (by
    rw [show wa ⟨k,l,c,f⟩=vs k++(vis l++vis [c,f]) from rfl,List.length_append,List.length_append] at d;simp only [wK,List.map_cons,List.map_nil,List.sum_cons,List.sum_nil,List.length_append]
    omega)
   have p:bT (vi (st.length:Int)++(st.take (i+1)).flatMap wa)=bT [vi (st.length:Int)++(st.take i).flatMap wa,vs k,vis l,vis [c,f]].flatten:=by
    rw [g];unfold wa;simp [List.flatten_cons,List.append_assoc]
   have q:st.length - (i+1)<st.length - i:=by omega
   clear g z d
   repeat' ((conv=>whnf);first|refine sC b ?_|(refine nv_ (.agg (uk ⟨k,l,c,f⟩)) (by first|exact E) ?_)|refine uc _ (w) ?_|refine uc _ (A) ?_|refine uc _ (C) ?_|refine uc _ (F) ?_|(exact ⟨i+1,h,q,by (repeat' (first|(exact leI r)|(exact leT p)|exact wJ|refine And.intro ?_ ?_));done⟩)|(refine And.intro (by first|exact s|exact uo _) ?_)|refine aS ?_|refine nT_ ?_)
  ·have b: ¬(i:Int)<(st.length:Int):=by omega
   have p:bT (xV st)=bT (vi (st.length:Int)++(st.take i).flatMap wa):=by rw [List.take_of_length_le h];rfl
   repeat' ((conv=>whnf);first|refine su b ?_|(exact ⟨(),trivial,by (repeat' (first|(exact leT p)|exact wJ|refine And.intro ?_ ?_));done⟩)|refine aS ?_|fail)
 ·rintro - -
  repeat' ((conv=>whnf);first|refine aS ?_|exact trivial)
end Go.ST
end
section
namespace Go.ST
open Go Go.DL Go.MM Go.Proofs
open Go.TY hiding Fd
open Go.RC (vi vis vs gi gl uU i64 vf Y xr gT gsT Az zn ze yF Bj vE)
theorem Eu: ∀l:List Int,jY (l.map Y)
 |[]=>trivial
 |_::l=>Eu l
theorem NI(b:List Int)(u n:Nat):((b.map Y).take (u+n)).drop u=((b.drop u).take n).map Y:=by
 rw [<- List.map_take, <-List.map_drop,List.drop_take,show u+n - u=n by omega]
theorem FX(b:List Int)(h:vf b)(r:b.length<2^40):DCalls Tryz.prog 97 [bT b] (.tup [.str (gb b).1,I (gb b).2.1,I (gb b).2.2]):=by
 refine dl2 mixed [.tmp 2,.tmp 3,.tmp 4] [.str _,I _,I _] Tryz.func97 Go.ST6.l97 ?_;have k:=Az b 1 h (by omega) (by decide) (by decide);obtain ⟨j,i,p,l⟩:=Bj h (least:=1) (by decide);unfold gb;generalize gl b 1=q at *
 obtain ⟨n,u,e⟩:=q;dsimp only at j i p l ⊢
 by_cases c:e≠0
 ·rw [if_pos c]
  repeat' ((conv=>whnf);first|refine uc _ (k) ?_|refine sG c ?_|refine rix ?_|refine aS ?_|exact trivial)
 ·rw [if_neg c];have o:e=0:=by omega
  subst o;obtain ⟨n,rfl⟩:=Int.eq_ofNat_of_zero_le j;obtain ⟨u,rfl⟩:=Int.eq_ofNat_of_zero_le i;have a:IntKind.wrap .i64 ((u:Int)+(n:Int))=((u+n:Nat):Int):=by rw [nW (by omega) (by omega)];omega
  have g:T.slice 1 (((b.map Y).take (IntKind.wrap .i64 ((u:Int)+(n:Int))).toNat).drop ((u:Int)).toNat)=T.slice 1 (((b.drop u).take n).map Y):=by
   rw [a,Int.toNat_natCast,Int.toNat_natCast,NI]
  have f:0<=(u:Int)/\(u:Int)<=IntKind.wrap .i64 ((u:Int)+(n:Int))/\IntKind.wrap .i64 ((u:Int)+(n:Int))<=((b.map Y).length:Int):=by rw [a,List.length_map];omega
  have d:=Eu ((b.drop u).take n);have m:I ((u:Int)+(n:Int))=I (IntKind.wrap .i64 ((u:Int)+(n:Int))):=by rw [a];congr 1
  rw [Int.toNat_natCast,Int.toNat_natCast,m]
  repeat' ((conv=>whnf);first|exact trivial|refine uc _ (k) ?_|(refine nv_ (.slice 1 (((b.drop u).take n).map Y)) (by first|exact g) ?_)|refine aN0 ?_|refine rix ?_|(refine And.intro (by first|exact f|exact d) ?_)|refine aS ?_|refine nT_ ?_)
end Go.ST
end
section
namespace Go.ST9
open Go Go.DL Go.Proofs
noncomputable def c45:aV:=(sr [oo 2 (.mov (.const .nil)),oo 3 (.mov (Kc 0))] (sr [mv 16 0,oo 17 (.call 96 [tm 16]),mv 15 17,oo 18 (.ext (tm 15) 0),oo 19 (.ext (tm 15) 1),oo 20 (.ext (tm 15) 2),mv 4 18,mv 5 19,mv 6 20] (.seq (.block 0 (sr [mv 22 6,oo 23 (.bin .neq (tm 22) (Kc 0)),mv 21 23] (.cond (tm 21) (sr [mv 24 6,oo 2 (.mov (.const .nil)),mv 3 24] .ret) (sr [mv 26 4,oo 27 (.bin .lss (tm 26) (Kc 0)),mv 25 27] (.cond (tm 25) (sr [oo 2 (.mov (.const .nil)),oo 3 (.mov (Kc 6))] .ret) .skip))))) (sr [mv 28 0,mv 29 5,oo 30 (.slice 1 (tm 28) (some (tm 29)) none),mv 0 30] (sr [oo 7 (.mov (.const .nil))] (.seq (sr [mv 31 4,oo 32 (.mov (Kc 0))] (.block 1 (.loop (sr [oo 33 (.bin .lss (tm 32) (tm 31))] (.seq (.cond (tm 33) .skip (.exit 1)) (.seq (.block 2 (.seq (.cut (rg [mv 35 0,oo 36 (.call 97 [tm 35]),mv 34 36,oo 37 (.ext (tm 34) 0),oo 38 (.ext (tm 34) 1),oo 39 (.ext (tm 34) 2),mv 8 37,mv 9 38,mv 10 39])) (.seq (sr [mv 40 10,oo 41 (.bin .neq (tm 40) (Kc 0))] (.cond (tm 41) (sr [mv 42 10,oo 2 (.mov (.const .nil)),mv 3 42] .ret) .skip)) (.seq (.cut (rg [mv 44 0,mv 45 9,oo 46 (.slice 1 (tm 44) (some (tm 45)) none),oo 47 (.call 98 [tm 46]),mv 43 47,oo 48 (.ext (tm 43) 0),oo 49 (.ext (tm 43) 1),oo 50 (.ext (tm 43) 2),mv 11 48,mv 12 49,mv 10 50])) (.seq (sr [mv 51 10,oo 52 (.bin .neq (tm 51) (Kc 0))] (.cond (tm 52) (sr [mv 53 10,oo 2 (.mov (.const .nil)),mv 3 53] .ret) .skip)) (.seq (.cut (rg [mv 55 0,mv 56 9,mv 57 12,oo 58 (.bin .add (tm 56) (tm 57)),oo 59 (.slice 1 (tm 55) (some (tm 58)) none),oo 60 (.call 98 [tm 59]),mv 54 60,oo 61 (.ext (tm 54) 0),oo 62 (.ext (tm 54) 1),oo 63 (.ext (tm 54) 2),mv 13 61,mv 14 62,mv 10 63])) (.seq (.block 3 (sr [mv 65 10,oo 66 (.bin .neq (tm 65) (Kc 0)),mv 64 66] (.cond (tm 64) (sr [mv 67 10,oo 2 (.mov (.const .nil)),mv 3 67] .ret) (sr [mv 69 13,ln 70 69,oo 71 (.bin .neq (tm 70) (Kc 2)),mv 68 71] (.cond (tm 68) (sr [oo 2 (.mov (.const .nil)),oo 3 (.mov (Kc 6))] .ret) .skip))))) (sr [mv 72 7,mv 73 8,mv 74 11,mv 75 13,oo 76 (.idxL 1 (tm 75) (Kc 0)),ld 77 76,mv 78 13,oo 79 (.idxL 1 (tm 78) (Kc 1)),ld 80 79,⟨some 81,.build [S0,.nil,Z0,Z0] [(0,1,(tm 73)),(1,1,(tm 74)),(2,1,(tm 77)),(3,1,(tm 80))],none,[]⟩,⟨some 82,.buildT 4 1 [S0,.nil,Z0,Z0] [(0,(tm 81))],none,[]⟩,oo 83 (.append 25 64 4 56 (tm 72) (tm 82)),mv 7 83] (rg [mv 84 0,mv 85 9,mv 86 12,oo 87 (.bin .add (tm 85) (tm 86)),mv 88 14,oo 89 (.bin .add (tm 87) (tm 88)),oo 90 (.slice 1 (tm 84) (some (tm 89)) none),mv 0 90]))))))))) (rg [oo 91 (.bin .add (tm 32) (Kc 1)),mv 32 91]))))))) (.seq (sr [mv 92 0,ln 93 92,oo 94 (.bin .gtr (tm 93) (Kc 0))] (.cond (tm 94) (sr [oo 2 (.mov (.const .nil)),oo 3 (.mov (Kc 6))] .ret) .skip)) (sr [mv 95 7,mv 2 95,oo 3 (.mov (Kc 0))] .ret))))))))
theorem l45:(Tryz.f45.body.bind (bt Tryz.prog 96 [6000010,6000013,6000016]))=some c45:=by kernel_rfl
end Go.ST9
end
section
namespace Go.ST
open Go Go.DL Go.MM Go.Proofs
open Go.TY hiding Fd
open Go.RC (vi vis vs gi gl uU i64 vf Y xr gT gsT Az zn ze yF Bj vE AR Cq)
theorem Km{b:List Int}(a:vf b)(h:(gb b).2.2=0):0<=(gb b).2.1/\(gb b).2.1<=b.length:=by
 obtain ⟨g,d,f,e⟩:=Bj a (least:=1) (by decide);unfold gb at h ⊢
 by_cases c:(gl b 1).2.2≠0
 ·rw [if_pos c] at h;exact absurd h c
 ·rw [if_neg c];exact ⟨by dsimp only;omega,by dsimp only;omega⟩
theorem DH{b:List Int}(a:vf b)(h:(uU b).2.2=0):1<=(uU b).2.1/\(uU b).2.1<=b.length:=by
 obtain ⟨e,f,c⟩:=AR a h;have g:1<=(vis (uU b).1).length:=by
  unfold vis;rw [List.length_append]
  have:=Cq ((uU b).1.length:Int)
  omega
 have d:=congrArg List.length c;rw [List.length_append] at d;omega
abbrev Mb(x:List RE×Int):T:=.tup [if x.2≠0 then .nil else esT x.1,I x.2]
theorem B5(b:List Int)(u:Nat):((b.map Y).take ((((b.map Y).length:Nat):Int)).toNat).drop u=(b.drop u).map Y:=by
 rw [Int.toNat_natCast,List.take_length,List.map_drop]
theorem HD(b:List Int)(hb:vf b)(hl:b.length<2^40):DCalls Tryz.prog 45 [bT b] (Mb (yQ b)):=by
 have hG:=ze b hb (by omega);obtain ⟨⟨q0,q0'⟩,q1,q2,q3,q4,q5⟩:=yF hb;have main: ∀(m:T) (H:Int),((yQ b).2≠0->m= .nil/\H=(yQ b).2)->((yQ b).2=0->m=esT (yQ b).1/\H=0)->DCalls Tryz.prog 45 [bT b] (.tup [m,I H]):=fun m H q y=>by
  refine dl2 mixed [.tmp 2,.tmp 3] [m,I H] Tryz.func45 Go.ST9.l45 ?_;unfold yQ at q y;generalize gi b=g at *
  obtain ⟨n,u,e⟩:=g;dsimp only at q0 q0' q1 q2 q3 q4 q5 q y hG
  by_cases c0:e≠0
  ·rw [if_pos c0] at q y;obtain ⟨rfl,rfl⟩:=q c0
   repeat' ((conv=>whnf);first|refine uc _ (hG) ?_|refine sG c0 ?_|refine rix ?_|refine aS ?_|exact trivial)
  rw [if_neg c0] at q y;have e0:e=0:=by omega
  by_cases c1:n<0
  ·rw [if_pos c1] at q y;obtain ⟨rfl,rfl⟩:=q (by decide)
   repeat' ((conv=>whnf);first|refine uc _ (hG) ?_|refine sF e0 ?_|refine sC c1 ?_|refine rix ?_|refine aS ?_|exact trivial)
  rw [if_neg c1] at q y;obtain ⟨n,rfl⟩:=Int.eq_ofNat_of_zero_le (show 0<=n by omega);obtain ⟨u,rfl⟩:=Int.eq_ofNat_of_zero_le q1;rw [Int.toNat_natCast,Int.toNat_natCast] at q y;obtain ⟨D,hD⟩: ∃D,D=xU n (b.drop u) []:=⟨_,rfl⟩
  rw [<- hD] at q y;have S:0<=(u:Int)/\(u:Int)<=((b.map Y).length:Int)/\((b.map Y).length:Int)<=((b.map Y).length:Int):=by rw [List.length_map];omega
  have hsl:T.slice 1 (((b.map Y).take ((((b.map Y).length:Nat):Int)).toNat).drop ((u:Int)).toNat)=bT (b.drop u):=by
   rw [Int.toNat_natCast,B5]
  have F:D.2.2≠0->m= .nil/\H=D.2.2:=fun h=>by
   have:=q (by rw [if_pos h];exact h)
   rw [if_pos h] at this;exact this
  have hD6:D.2.2=0->D.2.1≠[]->m= .nil/\H=6:=fun h V=>by
   have:=q (by rw [if_neg (by simpa using h),if_pos V];decide)
   rw [if_neg (by simpa using h),if_pos V] at this;exact this
  have hDo:D.2.2=0->D.2.1=[]->m=esT D.1/\H=0:=fun h V=>by
   have:=y (by rw [if_neg (by simpa using h),if_neg (by simpa using V)])
   rw [if_neg (by simpa using h),if_neg (by simpa using V)] at this;exact this
  clear q y;have hbl:(b.drop u).length<=b.length:=by rw [List.length_drop];omega
  repeat' ((conv=>whnf);first|refine uc _ (hG) ?_|refine sF e0 ?_|refine su c1 ?_|(refine nv_ (bT (b.drop u)) (by first|exact hsl) ?_)|(refine And.intro (by first|exact S) ?_)|refine aS ?_|fail)
  refine tx 1 (α:=Nat×List Int×List RE) (β:=List Int×List RE) (fun p=>{sl:=[(0,.t (bT p.2.1)),(7,.own 83 64 4 (p.2.2.map um)),(31,.t (I n)),(32,.t (I p.1))],bx:=[]})
   (fun p=>p.1<=n/\vf p.2.1/\p.2.2.length+p.2.1.length<=b.length/\xU (n - p.1) p.2.1 p.2.2=D) (fun p=>n - p.1)
   (fun p=>{sl:=[(0,.t (bT p.1)),(7,.own 83 64 4 (p.2.map um))],bx:=[]}) (fun p=>D=(p.2,p.1,0)) (0,b.drop u,[]) ⟨Nat.zero_le _,vE hb _,by simp,hD.symm⟩ ?_ ?_ ?_
  ·repeat' (first|exact wJ|refine And.intro ?_ ?_)
  ·rintro ⟨i,r,acc⟩ ⟨hi,Q,hal,k⟩;dsimp only at hi Q hal k;rcases Nat.lt_or_ge i n with h|h
   ·have M:(i:Int)<(n:Int):=by omega
    have hnx:((i+1:Nat):Int)=IntKind.wrap .i64 ((i:Int)+1):=by rw [nW] <;> omega
    rw [show n - i=(n - (i+1))+1 by omega,xU] at k;have hB:=FX r Q (by omega);have J:=@Km r Q;unfold BN at k;generalize gb r=g1 at *
    obtain ⟨v,f,e1⟩:=g1;dsimp only at hB J k;clear hG hsl S
    repeat' ((conv=>whnf);first|refine sC M ?_|refine aS ?_|fail)
    refine tV (β:=Unit) (fun _=>{sl:=[(0,.t (bT r)),(7,.own 83 64 4 (acc.map um)),(8,.t (.str v)),(9,.t (I f)),(10,.t (I e1)),(31,.t (I n)),(32,.t (I i))],bx:=[]}) (fun _=>True) ?_ ?_
    ·repeat' ((conv=>whnf);first|refine uc _ (hB) ?_|(exact ⟨(),trivial,by (repeat' (first|exact wJ|refine And.intro ?_ ?_));done⟩)|fail)
    rintro _ _;clear hB
    by_cases d1:e1≠0
    ·rw [if_pos d1,if_pos d1] at k;obtain ⟨rfl,rfl⟩:=F (by rw [<- k];exact d1);rw [<- k]
     repeat' ((conv=>whnf);first|refine sG d1 ?_|refine rix ?_|refine aS ?_|exact trivial)
    have R:e1=0:=by omega
    obtain ⟨f1,f2⟩:=J R;obtain ⟨f,rfl⟩:=Int.eq_ofNat_of_zero_le f1;rw [if_neg d1,Int.toNat_natCast] at k;have hI:=zn (r.drop f) (vE Q _) (by rw [List.length_drop];omega);have K:=@DH (r.drop f) (vE Q _);have W:0<=(f:Int)/\(f:Int)<=((r.map Y).length:Int)/\((r.map Y).length:Int)<=((r.map Y).length:Int):=by rw [List.length_map];omega
    have hs1:T.slice 1 (((r.map Y).take ((((r.map Y).length:Nat):Int)).toNat).drop ((f:Int)).toNat)=bT (r.drop f):=by
     rw [Int.toNat_natCast,B5]
    generalize hg2:uU (r.drop f)=g2 at *
    obtain ⟨ks,j,w⟩:=g2;dsimp only at K k;obtain ⟨C,E⟩: ∃C:T,(w≠0->C= .nil)/\(w=0->C= .slice 1 (ks.map I)):=⟨if w≠0 then .nil else .slice 1 (ks.map I),fun h=>if_pos h,fun h=>if_neg (by simpa using h)⟩
    have hI:DCalls Tryz.prog 98 [bT (r.drop f)] (.tup [C,I j,I w]):=by
     have e:gsT (ks,j,w)= .tup [C,I j,I w]:=by
      show T.tup [if w≠0 then .nil else _,_,_]=_
      by_cases d:w=0
      ·rw [if_neg (by simpa using d),E.2 d]
      ·rw [if_pos d,E.1 d]
     rw [<- e];exact hI
    repeat' ((conv=>whnf);first|refine sF R ?_|refine aS ?_|fail)
    refine tV (β:=Unit) (fun _=>{sl:=[(0,.t (bT r)),(7,.own 83 64 4 (acc.map um)),(8,.t (.str v)),(9,.t (I f)),(10,.t (I w)),(11,.t C),(12,.t (I j)),(31,.t (I n)),(32,.t (I i))],bx:=[]}) (fun _=>True) ?_ ?_
    ·repeat' ((conv=>whnf);first|(refine nv_ (bT (r.drop f)) (by first|exact hs1) ?_)|refine uc _ (hI) ?_|(exact ⟨(),trivial,by (repeat' (first|exact wJ|refine And.intro ?_ ?_));done⟩)|(refine And.intro (by first|exact W) ?_)|fail)
    rintro _ _;clear hI hs1 W
    by_cases Z:w≠0
    ·rw [if_pos Z,if_pos Z] at k;obtain ⟨rfl,rfl⟩:=F (by rw [<- k];exact Z);rw [<- k]
     repeat' ((conv=>whnf);first|refine sG Z ?_|refine rix ?_|refine aS ?_|exact trivial)
    have L:w=0:=by omega
    rw [E.2 L];obtain ⟨k1,k2⟩:=K L;rw [List.length_drop] at k2;obtain ⟨j,rfl⟩:=Int.eq_ofNat_of_zero_le (show 0<=j by omega);rw [if_neg Z,Int.toNat_natCast] at k;have O:vf ((r.drop f).drop j):=vE (vE Q _) _;have z:=zn ((r.drop f).drop j) O (by rw [List.length_drop,List.length_drop];omega);have Ft:=DH O;rw [List.length_drop,List.length_drop] at Ft;have G:IntKind.wrap .i64 ((f:Int)+(j:Int))=((f+j:Nat):Int):=by rw [nW (by omega) (by omega)];omega
    have hb2:0<=IntKind.wrap .i64 ((f:Int)+(j:Int))/\IntKind.wrap .i64 ((f:Int)+(j:Int))<=((r.map Y).length:Int)/\((r.map Y).length:Int)<=((r.map Y).length:Int):=by rw [G,List.length_map];omega
    have U:T.slice 1 (((r.map Y).take ((((r.map Y).length:Nat):Int)).toNat).drop (IntKind.wrap .i64 ((f:Int)+(j:Int))).toNat)=bT ((r.drop f).drop j):=by
     rw [G,Int.toNat_natCast (n:=f+j),B5,List.drop_drop]
    generalize uU ((r.drop f).drop j)=g3 at *
    obtain ⟨x,l,s⟩:=g3;dsimp only at Ft k;obtain ⟨P,B⟩: ∃C:T,(s≠0->C= .nil)/\(s=0->C= .slice 1 (x.map I)):=⟨if s≠0 then .nil else .slice 1 (x.map I),fun h=>if_pos h,fun h=>if_neg (by simpa using h)⟩
    have z:DCalls Tryz.prog 98 [bT ((r.drop f).drop j)] (.tup [P,I l,I s]):=by
     have e:gsT (x,l,s)= .tup [P,I l,I s]:=by
      show T.tup [if s≠0 then .nil else _,_,_]=_
      by_cases d:s=0
      ·rw [if_neg (by simpa using d),B.2 d]
      ·rw [if_pos d,B.1 d]
     rw [<- e];exact z
    repeat' ((conv=>whnf);first|refine sF L ?_|refine aS ?_|fail)
    refine tV (β:=Unit) (fun _=>{sl:=[(0,.t (bT r)),(7,.own 83 64 4 (acc.map um)),(8,.t (.str v)),(9,.t (I f)),(10,.t (I s)),(11,.t (.slice 1 (ks.map I))),(12,.t (I j)),(13,.t P),(14,.t (I l)),(31,.t (I n)),(32,.t (I i))],bx:=[]}) (fun _=>True) ?_ ?_
    ·repeat' ((conv=>whnf);first|(refine nv_ (bT ((r.drop f).drop j)) (by first|exact U) ?_)|refine uc _ (z) ?_|(exact ⟨(),trivial,by (repeat' (first|exact wJ|refine And.intro ?_ ?_));done⟩)|(refine And.intro (by first|exact hb2) ?_)|fail)
    rintro _ _;clear z U hb2
    by_cases X:s≠0
    ·rw [if_pos X,if_pos X] at k;obtain ⟨rfl,rfl⟩:=F (by rw [<- k];exact X);rw [<- k]
     repeat' ((conv=>whnf);first|refine sG X ?_|refine rix ?_|refine aS ?_|exact trivial)
    have A:s=0:=by omega
    rw [B.2 A];rw [if_neg X] at k;have hlw:((x.map I).length:Int)=x.length:=by rw [List.length_map]
    by_cases d4:x.length≠2
    ·rw [if_pos d4,if_pos (by decide)] at k;obtain ⟨rfl,rfl⟩:=F (by rw [<- k];decide);rw [<- k];have d4':((x.map I).length:Int)≠2:=by omega
     repeat' ((conv=>whnf);first|refine sF A ?_|refine sG d4' ?_|refine rix ?_|refine aS ?_|exact trivial)
    obtain ⟨k3,k4⟩:=Ft A;obtain ⟨l,rfl⟩:=Int.eq_ofNat_of_zero_le (show 0<=l by omega);rw [if_neg d4,if_neg (by simp),Int.toNat_natCast] at k;dsimp only at k;obtain ⟨a,c,rfl⟩: ∃a c,x=[a,c]:=by
     match x,(show x.length=2 by omega) with
     |[a,c],_=>exact ⟨a,c,rfl⟩
    have N:IntKind.wrap .i64 (IntKind.wrap .i64 ((f:Int)+(j:Int))+(l:Int))=((f+j+l:Nat):Int):=by rw [G,nW (by omega) (by omega)];omega
    have hb3:0<=IntKind.wrap .i64 (IntKind.wrap .i64 ((f:Int)+(j:Int))+(l:Int))/\IntKind.wrap .i64 (IntKind.wrap .i64 ((f:Int)+(j:Int))+(l:Int))<=((r.map Y).length:Int)/\((r.map Y).length:Int)<=((r.map Y).length:Int):=by rw [N,List.length_map];omega
    have hs3:T.slice 1 (((r.map Y).take ((((r.map Y).length:Nat):Int)).toNat).drop (IntKind.wrap .i64 (IntKind.wrap .i64 ((f:Int)+(j:Int))+(l:Int))).toNat)=bT (((r.drop f).drop j).drop l):=by
     rw [N,Int.toNat_natCast (n:=f+j+l),B5,List.drop_drop,List.drop_drop,Nat.add_assoc]
    have hr4:vf (((r.drop f).drop j).drop l):=vE O _;have Mc:(acc++[(⟨v,ks,a,c⟩:RE)]).length+(((r.drop f).drop j).drop l).length<=b.length:=by
     rw [List.length_append,List.length_drop,List.length_drop,List.length_drop,List.length_cons,List.length_nil];omega
    have hrm:((acc.map um).length+1) * 56<=140737488355328:=by rw [List.length_map];omega
    have hsn:(acc++[(⟨v,ks,a,c⟩:RE)]).map um=acc.map um++[um ⟨v,ks,a,c⟩]:=by rw [List.map_append];rfl
    have hmu:n - (i+1)<n - i:=by omega
    have Fq:xU (n - (i+1)) (((r.drop f).drop j).drop l) (acc++[(⟨v,ks,a,c⟩:RE)])=D:=k;clear k K Ft J hlw G N E B
    repeat' ((conv=>whnf);first|refine sF A ?_|(refine nv_ (bT (((r.drop f).drop j).drop l)) (by first|exact hs3) ?_)|(exact ⟨(i+1,((r.drop f).drop j).drop l,acc++[⟨v,ks,a,c⟩]),⟨h,hr4,Mc,Fq⟩,hmu,by (repeat' (first|(exact leI hnx)|(exact ug hsn)|exact wJ|refine And.intro ?_ ?_));done⟩)|refine aN0 ?_|(refine And.intro (by first|exact hb3|exact hrm) ?_)|refine aS ?_|refine nT_ ?_)
   ·have M: ¬(i:Int)<(n:Int):=by omega
    rw [show n - i=0 by omega] at k;have Fq:D=(acc,r,0):=k.symm
    repeat' ((conv=>whnf);first|refine su M ?_|(exact ⟨(r,acc),Fq,by (repeat' (first|exact wJ|refine And.intro ?_ ?_));done⟩)|refine aS ?_|fail)
  ·rintro ⟨r,acc⟩ o;dsimp only at o;have hrl:((r.map Y).length:Int)=r.length:=by rw [List.length_map]
   by_cases c5:r=[]
   ·obtain ⟨rfl,rfl⟩:=hDo (by rw [o]) (by rw [o];exact c5);have c6: ¬((r.map Y).length:Int)>0:=by rw [c5];simp
    rw [o]
    repeat' ((conv=>whnf);first|refine su c6 ?_|refine rix ?_|refine aS ?_|exact trivial)
   ·obtain ⟨rfl,rfl⟩:=hD6 (by rw [o]) (by rw [o];exact c5);have c6:((r.map Y).length:Int)>0:=by
     have:=List.length_pos_iff.2 c5
     omega
    repeat' ((conv=>whnf);first|refine sC c6 ?_|refine rix ?_|refine aS ?_|exact trivial)
 have h:=main (if (yQ b).2≠0 then .nil else esT (yQ b).1) (yQ b).2 (fun h=>⟨if_pos h,rfl⟩) (fun h=>⟨if_neg (by simpa using h),h⟩);exact h
end Go.ST
end
section
namespace Go.ST8
open Go Go.DL Go.Proofs
noncomputable def c9:aV:=(sr [oo 0 (.mov kF)] (sr [oo 1 (.mov (.const .nil))] (.seq (sr [oo 2 (.mov (Kc 0))] (.block 0 (.loop (.seq (sr [mv 24 2,oo 25 (.bin .lss (tm 24) (Kc 10))] (.cond (tm 25) .skip (.exit 0))) (.seq (.block 1 (rg [mv 28 1,mv 29 2,oo 30 (.build [Z0,Z0,Z0] [(0,1,(Kc 5)),(1,1,(Kc 0)),(2,1,(tm 29))]),oo 31 (.buildF 3 1 [Z0,Z0,Z0] [(0,(tm 30))]),oo 32 (.append 91 92 3 24 (tm 28) (tm 31)),mv 1 32])) (rg [mv 26 2,oo 27 (.bin .add (tm 26) (Kc 1)),mv 2 27])))))) (.seq (.cut (rg [⟨some 34,.call 43 [(Kc 1),(.const (.str ⟨#[107,105,110,100]⟩)),(Kc 0),(Kc 0)],none,[]⟩,mv 35 1,⟨some 36,.call 42 [(tm 34),(.const .nil),(.const (.str ⟨#[107,105,110,100]⟩)),(tm 35)],none,[]⟩,mv 33 36,oo 37 (.ext (tm 33) 0),oo 38 (.ext (tm 33) 1),mv 3 37,mv 4 38])) (.seq (.cut (rg [mv 39 3,oo 40 (.call 44 [tm 39]),mv 41 40,mT 42 4 41,oT 43 41 (.len (tm 42)),oT 44 41 (.bin .eql (tm 43) (Kc 1)),oo 45 (.pick (tm 41) (tm 44) kF),mv 46 45,mT 47 4 46,oT 48 46 (.idxL 4 (tm 47) (Kc 0)),oT 49 46 (.offA 2 (tm 48)),oT 50 46 (.load 1 false (tm 49)),oT 51 46 (.bin .eql (tm 50) (Kc 10)),oo 52 (.pick (tm 46) (tm 51) kF),mv 5 52])) (.seq (.cut (rg [⟨some 54,.call 43 [(Kc 3),(.const S0),(Kc 3),(Kc 0)],none,[]⟩,oo 55 (.build [Z0,Z0,Z0] [(0,1,(Kc 7)),(1,1,(Kc 0)),(2,1,(Kc 10))]),oo 56 (.buildS 92 3 1 [Z0,Z0,Z0] [(0,(tm 55))]),⟨some 57,.call 42 [(tm 54),(.const .nil),(.const (.str ⟨#[115,114,99]⟩)),(tm 56)],none,[]⟩,mv 53 57,oo 58 (.ext (tm 53) 0),oo 59 (.ext (tm 53) 1),mv 6 58,mv 7 59])) (.seq (.cut (rg [⟨some 61,.call 43 [(Kc 2),(.const S0),(Kc 0),(Kc 0)],none,[]⟩,mv 62 7,oo 63 (.build [Z0,Z0,Z0] [(0,1,(Kc 7)),(1,1,(Kc 0)),(2,1,(Kc 10))]),oo 64 (.buildS 92 3 1 [Z0,Z0,Z0] [(0,(tm 63))]),⟨some 65,.call 42 [(tm 61),(tm 62),(.const (.str ⟨#[115,114,99]⟩)),(tm 64)],none,[]⟩,mv 60 65,oo 66 (.ext (tm 60) 0),oo 67 (.ext (tm 60) 1),mv 8 66,mv 9 67])) (.seq (.cut (rg [⟨some 69,.call 43 [(Kc 3),(.const S0),(Kc 3),(Kc 0)],none,[]⟩,mv 70 9,oo 71 (.build [Z0,Z0,Z0] [(0,1,(Kc 7)),(1,1,(Kc 0)),(2,1,(Kc 13))]),oo 72 (.build [Z0,Z0,Z0] [(0,1,(Kc 7)),(1,1,(Kc 0)),(2,1,(Kc 14))]),oo 73 (.buildS 92 3 2 [Z0,Z0,Z0] [(0,(tm 71)),(1,(tm 72))]),⟨some 74,.call 42 [(tm 69),(tm 70),(.const (.str ⟨#[115,114,99]⟩)),(tm 73)],none,[]⟩,mv 68 74,oo 75 (.ext (tm 68) 0),oo 76 (.ext (tm 68) 1),mv 10 75,mv 11 76])) (.seq (.cut (rg [mv 77 6,ln 78 77,oo 79 (.bin .eql (tm 78) (Kc 1)),mv 80 79,mT 81 6 80,oT 82 80 (.idxL 1 (tm 81) (Kc 0)),oT 83 80 (.load 1 false (tm 82)),oT 84 80 (.bin .eql (tm 83) (.const (.int .i64 (-1)))),oo 85 (.pick (tm 80) (tm 84) kF),mv 86 85,mT 87 9 86,oT 88 86 (.len (tm 87)),oT 89 86 (.bin .eql (tm 88) (Kc 1)),oo 90 (.pick (tm 86) (tm 89) kF),mv 91 90,mT 92 10 91,oT 93 91 (.buildS 3 1 2 [Z0] [(0,(Kc 7)),(1,(.const (.int .i64 (-1))))]),oT 94 91 (.call 21 [(tm 92),(tm 93)]),oT 95 91 (.bin .eql (tm 94) (Kc 0)),oo 96 (.pick (tm 91) (tm 95) kF),mv 12 96])) (.seq (.cut (rg [⟨some 98,.call 43 [(Kc 4),(.const (.str ⟨#[100,115,116]⟩)),(Kc 20),(Kc 21)],none,[]⟩,oo 99 (.build [Z0,Z0,Z0] [(0,1,(Kc 1)),(1,1,(Kc 0)),(2,1,(Kc 0))]),oo 100 (.build [Z0,Z0,Z0] [(0,1,(Kc 2)),(1,1,(Kc 0)),(2,1,(Kc 0))]),oo 101 (.build [Z0,Z0,Z0] [(0,1,(Kc 1)),(1,1,(Kc 0)),(2,1,(Kc 0))]),oo 102 (.build [Z0,Z0,Z0] [(0,1,(Kc 3)),(1,1,(Kc 0)),(2,1,(Kc 0))]),oo 103 (.buildS 92 3 4 [Z0,Z0,Z0] [(0,(tm 99)),(1,(tm 100)),(2,(tm 101)),(3,(tm 102))]),⟨some 104,.call 42 [(tm 98),(.const .nil),(.const (.str ⟨#[100,115,116]⟩)),(tm 103)],none,[]⟩,mv 97 104,oo 105 (.ext (tm 97) 0),oo 106 (.ext (tm 97) 1),mv 13 105,mv 14 106])) (.seq (.cut (rg [⟨some 108,.call 43 [(Kc 5),(.const (.str ⟨#[100,115,116]⟩)),(Kc 0),(Kc 0)],none,[]⟩,mv 109 14,oo 110 (.build [Z0,Z0,Z0] [(0,1,(Kc 9)),(1,1,(Kc 21)),(2,1,(Kc 0))]),oo 111 (.build [Z0,Z0,Z0] [(0,1,(Kc 9)),(1,1,(Kc 22)),(2,1,(Kc 0))]),oo 112 (.buildS 92 3 2 [Z0,Z0,Z0] [(0,(tm 110)),(1,(tm 111))]),⟨some 113,.call 42 [(tm 108),(tm 109),(.const (.str ⟨#[115,114,99]⟩)),(tm 112)],none,[]⟩,mv 107 113,oo 114 (.ext (tm 107) 0),oo 115 (.ext (tm 107) 1),mv 15 114,mv 16 115])) (.seq (.cut (rg [mv 116 13,oo 117 (.buildS 3 1 4 [Z0] [(0,(Kc 20)),(1,(Kc 21)),(2,(Kc 20)),(3,(.const (.int .i64 (-1))))]),oo 118 (.call 21 [(tm 116),(tm 117)]),oo 119 (.bin .eql (tm 118) (Kc 0)),mv 120 119,mT 121 14 120,oT 122 120 (.len (tm 121)),oT 123 120 (.bin .eql (tm 122) (Kc 2)),oo 124 (.pick (tm 120) (tm 123) kF),mv 125 124,mT 126 15 125,oT 127 125 (.buildS 3 1 2 [Z0] [(0,(Kc 2)),(1,(.const (.int .i64 (-1))))]),oT 128 125 (.call 21 [(tm 126),(tm 127)]),oT 129 125 (.bin .eql (tm 128) (Kc 0)),oo 130 (.pick (tm 125) (tm 129) kF),mv 17 130])) (.seq (.cut (rg [⟨some 132,.call 43 [(Kc 6),(.const S0),(Kc 2),(Kc 10)],none,[]⟩,oo 133 (.build [Z0,Z0,Z0] [(0,1,(Kc 4)),(1,1,(Kc 0)),(2,1,(Kc 0))]),oo 134 (.build [Z0,Z0,Z0] [(0,1,(Kc 4)),(1,1,(Kc 0)),(2,1,(Kc 0))]),oo 135 (.build [Z0,Z0,Z0] [(0,1,(Kc 4)),(1,1,(Kc 0)),(2,1,(Kc 0))]),oo 136 (.build [Z0,Z0,Z0] [(0,1,(Kc 4)),(1,1,(Kc 0)),(2,1,(Kc 9))]),oo 137 (.build [Z0,Z0,Z0] [(0,1,(Kc 4)),(1,1,(Kc 0)),(2,1,(Kc 10))]),oo 138 (.build [Z0,Z0,Z0] [(0,1,(Kc 4)),(1,1,(Kc 0)),(2,1,(Kc 11))]),oo 139 (.build [Z0,Z0,Z0] [(0,1,(Kc 4)),(1,1,(Kc 0)),(2,1,(Kc 40))]),oo 140 (.build [Z0,Z0,Z0] [(0,1,(Kc 4)),(1,1,(Kc 0)),(2,1,(Kc 40))]),oo 141 (.build [Z0,Z0,Z0] [(0,1,(Kc 4)),(1,1,(Kc 0)),(2,1,(Kc 40))]),oo 142 (.buildS 92 3 9 [Z0,Z0,Z0] [(0,(tm 133)),(1,(tm 134)),(2,(tm 135)),(3,(tm 136)),(4,(tm 137)),(5,(tm 138)),(6,(tm 139)),(7,(tm 140)),(8,(tm 141))]),⟨some 143,.call 42 [(tm 132),(.const .nil),(.const (.str ⟨#[115,114,99]⟩)),(tm 142)],none,[]⟩,mv 131 143,oo 144 (.ext (tm 131) 0),oo 145 (.ext (tm 131) 1),mv 18 144,mv 19 145])) (.seq (.cut (rg [mv 147 14,oo 148 (.call 46 [tm 147]),oo 149 (.call 45 [tm 148]),mv 146 149,oo 150 (.ext (tm 146) 0),oo 151 (.ext (tm 146) 1),mv 20 150,mv 21 151])) (.seq (.cut (rg [mv 153 4,oo 154 (.call 27 [(tm 153),(.const .nil)]),mv 152 154,oo 155 (.ext (tm 152) 0),oo 156 (.ext (tm 152) 1),mv 22 155,mv 23 156])) (sr [mv 157 5,mv 158 157,mT 159 12 158,oo 160 (.pick (tm 158) (tm 159) kF),mv 161 160,mT 162 17 161,oo 163 (.pick (tm 161) (tm 162) kF),mv 164 163,mT 165 18 164,oT 166 164 (.buildS 3 1 9 [Z0] [(0,(Kc 4)),(1,(Kc 4)),(2,(.const (.int .i64 (-1)))),(3,(.const (.int .i64 (-1)))),(4,(Kc 4)),(5,(.const (.int .i64 (-1)))),(6,(Kc 4)),(7,(Kc 4)),(8,(.const (.int .i64 (-1))))]),oT 167 164 (.call 21 [(tm 165),(tm 166)]),oT 168 164 (.bin .eql (tm 167) (Kc 0)),oo 169 (.pick (tm 164) (tm 168) kF),mv 170 169,mT 171 21 170,oT 172 170 (.bin .eql (tm 171) (Kc 0)),oo 173 (.pick (tm 170) (tm 172) kF),mv 174 173,mT 175 20 174,mT 176 14 174,oT 177 174 (.call 47 [(tm 175),(tm 176)]),oo 178 (.pick (tm 174) (tm 177) kF),mv 179 178,mT 180 14 179,mT 181 4 179,oT 182 179 (.call 47 [(tm 180),(tm 181)]),oT 183 179 (.not (tm 182)),oo 184 (.pick (tm 179) (tm 183) kF),mv 185 184,mT 186 23 185,oT 187 185 (.bin .eql (tm 186) (Kc 0)),oo 188 (.pick (tm 185) (tm 187) kF),mv 189 188,mT 190 22 189,oT 191 189 (.len (tm 190)),oT 192 189 (.bin .eql (tm 191) (Kc 1)),oo 193 (.pick (tm 189) (tm 192) kF),mv 194 193,mT 195 4 194,oT 196 194 (.call 23 [(.const .nil),(tm 195)]),oT 197 194 (.bin .eql (tm 196) (Kc 4)),oo 198 (.pick (tm 194) (tm 197) kF),mv 0 198] .ret))))))))))))))))
theorem l9:(Tryz.f9.body.bind (bt Tryz.prog 199 [6000006,6000007,6000008,6000009,6000010,6000011,6000012,6000013,6000014,6000015,6000016,6000017,8000031]))=some c9:=by kernel_rfl
end Go.ST8
end
section
namespace Go.ST
open Go Go.DL Go.MM Go.Proofs
open Go.TY hiding Fd
open Go.RC (vi vis vs vf yK EW)
abbrev EA:List RE:=[⟨vN,[5],10,9⟩]
abbrev EO:List RE:=[⟨vN,[7],0,10⟩]
abbrev EN:List RE:=[⟨vN,[1],20,0⟩,⟨vN,[2],21,0⟩]
abbrev E6:List RE:=[⟨vN,[4],0,40⟩]
abbrev AA:List (Int×Int×Int):=[(5,0,0),(5,0,1),(5,0,2),(5,0,3),(5,0,4),(5,0,5),(5,0,6),(5,0,7),(5,0,8),(5,0,9)]
abbrev NH:List (Int×Int×Int):=[(4,0,0),(4,0,0),(4,0,0),(4,0,9),(4,0,10),(4,0,11),(4,0,40),(4,0,40),(4,0,40)]
theorem FR(k:Int)(f:ByteArray)(n m:Int)(st:List RE)(name:ByteArray)(ts:List (Int×Int×Int))(a:List Int)(b:List RE)(e:ts.length<2^20)(c:CI L17 (stp k f n m) name ts st=true)(d:uA L17 name=true)(h:wg L17 (stp k f n m) name ts ([],st)=(a,b)):
  DCalls Tryz.prog 42 [vu (stp k f n m),esT st,.str name,BY ts] (.tup [.slice 1 (a.map I),esT b]):=by
 have:=HL (stp k f n m) st name ts e c d
 rwa [h] at this
theorem Dj(k:Int)(f:ByteArray)(n m:Int)(name:ByteArray)(ts:List (Int×Int×Int))(a:List Int)(b:List RE)(e:ts.length<2^20)(c:CI L17 (stp k f n m) name ts []=true)(d:uA L17 name=true)(h:wg L17 (stp k f n m) name ts ([],[])=(a,b)):
  DCalls Tryz.prog 42 [vu (stp k f n m),.nil,.str name,BY ts] (.tup [.slice 1 (a.map I),esT b]):=
 (FR k f n m [] name ts a b e c d h).lesAll ⟨Les.refl _,Les.nil 4,Les.refl _,Les.refl _,trivial⟩
theorem Di(a:List Int)(h:a.length<2^60):DCalls Tryz.prog 21 [.slice 1 (a.map I),.slice 1 (a.map I)] (I 0):=by
 have:=A5 a a h h
 rwa [wP.2 rfl] at this
theorem Ja(a:List Int)(h:a.length<2^40)(b:zH a=true):DCalls Tryz.prog 44 [.slice 1 (a.map I)] (.bool true):=by
 have:=D5 a h
 rwa [b] at this
theorem HO(l:List Int):vf (vis l):=fun b a=>by
 unfold vis at a;rcases List.mem_append.1 a with h|h
 ·exact yK _ b h
 ·obtain ⟨x,_,c⟩:=List.mem_flatMap.1 h;exact yK x b c
theorem F7(st:List RE):vf (xV st):=fun b a=>by
 unfold xV at a;rcases List.mem_append.1 a with h|h
 ·exact yK _ b h
 ·obtain ⟨e,_,c⟩:=List.mem_flatMap.1 h;unfold wa at c;rcases List.mem_append.1 c with h|h
  ·exact EW _ b h
  ·rcases List.mem_append.1 h with h|h <;> exact HO _ b h
theorem szN: ∀e∈EN,SzE e:=fun e a=>by
 simp only [List.mem_cons,List.not_mem_nil,or_false] at a;rcases a with rfl|rfl
 all_goals exact ⟨by decide,by decide,fun x b=>by rw [List.mem_singleton.1 b];unfold Go.RC.i64;decide,by unfold Go.RC.i64;decide,by unfold Go.RC.i64;decide⟩
theorem ND(st:List RE)(a: ∀e∈st,SzE e)(c:st.length<2^20)(_:st≠[])(d:(xV st).length<2^28):DCalls Tryz.prog 45 [bT (xV st)] (.tup [esT st,I 0]):=by
 have:=HD (xV st) (F7 st) (by omega)
 rw [GZ a (by omega)] at this;exact this
theorem Ia(a b:List RE)(x:Bool)(e:a.length<2^40)(d:b.length<2^40)(f: ∀x∈a,kOk x)(c: ∀x∈b,kOk x)(h:decide (a=b)=x):DCalls Tryz.prog 47 [esT a,esT b] (.bool x):=h▸J7 a b e d f c
theorem KW(a:List RE)(b:uH a)(d:a.length<2^30)(c: ∀x∈a,kOk x)(h:Ca a []=some a):DCalls Tryz.prog 27 [esT a,.nil] (.tup [esT a,I 0]):=by
 have:=J5 a [] b List.Pairwise.nil d (by decide) c (fun x e=>by cases e)
 rw [h] at this;exact this.lesAll ⟨Les.refl _,Les.nil 4,trivial⟩
theorem I9(st:List RE)(c:st.length<2^60)(b: ∀e∈st,kOk e)(x:Int)(h:zr [] st=x):DCalls Tryz.prog 23 [.nil,esT st] (I x):=
 (h▸Jf [] (by decide) (fun v a=>by cases a) st c b:DCalls Tryz.prog 23 [vsT [],esT st] (I x)).lesAll ⟨Les.nil 5,Les.refl _,trivial⟩
theorem kEA: ∀e∈EA,kOk e:=by decide
theorem kEN: ∀e∈EN,kOk e:=by decide
theorem HK:DCalls Tryz.prog 9 [] (.bool true):=by
 refine dl2 mixed [.tmp 0] [.bool true] Tryz.func9 Go.ST8.l9 ?_
 skip
 refine tx 0 (α:=Nat) (β:=Unit) (fun i=>{sl:=[(1,.own 32 92 3 ((AA.take i).map tri)),(2,.t (I i))],bx:=[]}) (fun i=>i<=10) (fun i=>10 - i)
  (fun _=>{sl:=[(1,.t (BY AA))],bx:=[]}) (fun _=>True) 0 (by decide) ?_ ?_ ?_
 ·repeat' (first|exact wJ|refine And.intro ?_ ?_)
 ·rintro i y;rcases Nat.lt_or_ge i 10 with h|h
  ·have A:(AA.take (i+1)).map tri=(AA.take i).map tri++[tri (5,0,i)]:=by
    have:i=0\/i=1\/i=2\/i=3\/i=4\/i=5\/i=6\/i=7\/i=8\/i=9:=by omega
    rcases this with rfl|rfl|rfl|rfl|rfl|rfl|rfl|rfl|rfl|rfl <;> rfl
   have B:((AA.take i).map tri).length=i:=by rw [List.length_map,List.length_take];exact Nat.min_eq_left y
   generalize (AA.take i).map tri=xs at *
   repeat' ((conv=>whnf);first|refine aD1 ?_|refine aS ?_|fail)
   exact ⟨i+1,h,by omega,by repeat' (first|(exact ug A)|exact wJ|refine And.intro ?_ ?_)⟩
  ·obtain rfl:i=10:=by omega
   repeat' ((conv=>whnf);first|(exact ⟨(),trivial,by (repeat' (first|(exact AX rfl)|exact wJ|refine And.intro ?_ ?_));done⟩)|refine aD0 ?_|refine aS ?_|fail)
 rintro _ _;have k1:=yY 1 Dh 0 0;have k2:=Dj 1 Dh 0 0 Dh AA [1,2,3,4,5,6,7,7,7,7] EA (by decide) (by decide+kernel) (by decide+kernel) (by decide+kernel)
 skip
 refine tV (β:=Unit) (fun _=>{sl:=[(3,.t (.slice 1 ([1,2,3,4,5,6,7,7,7,7].map I))),(4,.t (esT EA))],bx:=[]}) (fun _=>True) ?_ ?_
 ·repeat' ((conv=>whnf);first|refine uc _ (k1) ?_|refine uc _ (k2) ?_|(exact ⟨(),trivial,by (repeat' (first|exact wJ|refine And.intro ?_ ?_));done⟩)|fail)
 rintro _ _;clear k1 k2;have u:=Ja [1,2,3,4,5,6,7,7,7,7] (by decide) (by decide+kernel)
 skip
 refine tV (β:=Unit) (fun _=>{sl:=[(4,.t (esT EA)),(5,.t (.bool true))],bx:=[]}) (fun _=>True) ?_ ?_
 ·repeat' ((conv=>whnf);first|refine uc _ (u) ?_|(exact ⟨(),trivial,by (repeat' (first|exact wJ|refine And.intro ?_ ?_));done⟩)|refine aE1 ?_|refine aS ?_|refine nT_ ?_)
 rintro _ _;clear u;have o:=yY 3 e0 3 0;have q:=Dj 3 e0 3 0 BU [(7,0,10)] [-1] [] (by decide) (by decide+kernel) (by decide+kernel) (by decide+kernel)
 skip
 refine tV (β:=Unit) (fun _=>{sl:=[(4,.t (esT EA)),(5,.t (.bool true)),(6,.t (.slice 1 ([-1].map I))),(7,.t (esT []))],bx:=[]}) (fun _=>True) ?_ ?_
 ·repeat' ((conv=>whnf);first|refine uc _ (o) ?_|refine uc _ (q) ?_|(exact ⟨(),trivial,by (repeat' (first|exact wJ|refine And.intro ?_ ?_));done⟩)|refine aS ?_|fail)
 rintro _ _;clear o q;have p:=yY 2 e0 0 0;have s:=FR 2 e0 0 0 [] BU [(7,0,10)] [7] EO (by decide) (by decide+kernel) (by decide+kernel) (by decide+kernel)
 skip
 refine tV (β:=Unit) (fun _=>{sl:=[(4,.t (esT EA)),(5,.t (.bool true)),(6,.t (.slice 1 ([-1].map I))),(9,.t (esT EO))],bx:=[]}) (fun _=>True) ?_ ?_
 ·repeat' ((conv=>whnf);first|refine uc _ (p) ?_|refine uc _ (s) ?_|(exact ⟨(),trivial,by (repeat' (first|exact wJ|refine And.intro ?_ ?_));done⟩)|refine aS ?_|fail)
 rintro _ _;clear p s;have r:=yY 3 e0 3 0;have n:=FR 3 e0 3 0 EO BU [(7,0,13),(7,0,14)] [7, -1] EO (by decide) (by decide+kernel) (by decide+kernel) (by decide+kernel)
 skip
 refine tV (β:=Unit) (fun _=>{sl:=[(4,.t (esT EA)),(5,.t (.bool true)),(6,.t (.slice 1 ([-1].map I))),(9,.t (esT EO)),(10,.t (.slice 1 ([7, -1].map I)))],bx:=[]}) (fun _=>True) ?_ ?_
 ·repeat' ((conv=>whnf);first|refine uc _ (r) ?_|refine uc _ (n) ?_|(exact ⟨(),trivial,by (repeat' (first|exact wJ|refine And.intro ?_ ?_));done⟩)|refine aS ?_|fail)
 rintro _ _;clear r n;have c:=Di [7, -1] (by decide)
 skip
 refine tV (β:=Unit) (fun _=>{sl:=[(4,.t (esT EA)),(5,.t (.bool true)),(12,.t (.bool true))],bx:=[]}) (fun _=>True) ?_ ?_
 ·repeat' ((conv=>whnf);first|refine uc _ (c) ?_|(exact ⟨(),trivial,by (repeat' (first|exact wJ|refine And.intro ?_ ?_));done⟩)|refine aE1 ?_|refine aS ?_|refine nT_ ?_)
 rintro _ _;clear c;have k11:=yY 4 Cw 20 21;have b:=Dj 4 Cw 20 21 Cw [(1,0,0),(2,0,0),(1,0,0),(3,0,0)] [20,21,20, -1] EN (by decide) (by decide+kernel) (by decide+kernel) (by decide+kernel)
 skip
 refine tV (β:=Unit) (fun _=>{sl:=[(4,.t (esT EA)),(5,.t (.bool true)),(12,.t (.bool true)),(13,.t (.slice 1 ([20,21,20, -1].map I))),(14,.t (esT EN))],bx:=[]}) (fun _=>True) ?_ ?_
 ·repeat' ((conv=>whnf);first|refine uc _ (k11) ?_|refine uc _ (b) ?_|(exact ⟨(),trivial,by (repeat' (first|exact wJ|refine And.intro ?_ ?_));done⟩)|refine aS ?_|fail)
 rintro _ _;clear k11 b;have l:=yY 5 Cw 0 0;have f:=FR 5 Cw 0 0 EN BU [(9,21,0),(9,22,0)] [2, -1] EN (by decide) (by decide+kernel) (by decide+kernel) (by decide+kernel)
 skip
 refine tV (β:=Unit) (fun _=>{sl:=[(4,.t (esT EA)),(5,.t (.bool true)),(12,.t (.bool true)),(13,.t (.slice 1 ([20,21,20, -1].map I))),(14,.t (esT EN)),(15,.t (.slice 1 ([2, -1].map I)))],bx:=[]}) (fun _=>True) ?_ ?_
 ·repeat' ((conv=>whnf);first|refine uc _ (l) ?_|refine uc _ (f) ?_|(exact ⟨(),trivial,by (repeat' (first|exact wJ|refine And.intro ?_ ?_));done⟩)|refine aS ?_|fail)
 rintro _ _;clear l f;have m:=Di [20,21,20, -1] (by decide);have e:=Di [2, -1] (by decide)
 skip
 refine tV (β:=Unit) (fun _=>{sl:=[(4,.t (esT EA)),(5,.t (.bool true)),(12,.t (.bool true)),(14,.t (esT EN)),(17,.t (.bool true))],bx:=[]}) (fun _=>True) ?_ ?_
 ·repeat' ((conv=>whnf);first|refine uc _ (m) ?_|refine uc _ (e) ?_|(exact ⟨(),trivial,by (repeat' (first|exact wJ|refine And.intro ?_ ?_));done⟩)|refine aE1 ?_|refine aS ?_|fail)
 rintro _ _;clear m e;have k:=yY 6 e0 2 10;have d:=Dj 6 e0 2 10 BU NH [4,4, -1, -1,4, -1,4,4, -1] E6 (by decide) (by decide+kernel) (by decide+kernel) (by decide+kernel)
 skip
 refine tV (β:=Unit) (fun _=>{sl:=[(4,.t (esT EA)),(5,.t (.bool true)),(12,.t (.bool true)),(14,.t (esT EN)),(17,.t (.bool true)),(18,.t (.slice 1 ([4,4, -1, -1,4, -1,4,4, -1].map I)))],bx:=[]}) (fun _=>True) ?_ ?_
 ·repeat' ((conv=>whnf);first|refine uc _ (k) ?_|refine uc _ (d) ?_|(exact ⟨(),trivial,by (repeat' (first|exact wJ|refine And.intro ?_ ?_));done⟩)|refine aS ?_|fail)
 rintro _ _;clear k d;have a:=HE EN szN (by decide) (by decide+kernel);have g:=ND EN szN (by decide) (by simp) (by decide+kernel)
 skip
 refine tV (β:=Unit) (fun _=>{sl:=[(4,.t (esT EA)),(5,.t (.bool true)),(12,.t (.bool true)),(14,.t (esT EN)),(17,.t (.bool true)),(18,.t (.slice 1 ([4,4, -1, -1,4, -1,4,4, -1].map I))),(20,.t (esT EN)),(21,.t (I 0))],bx:=[]}) (fun _=>True) ?_ ?_
 ·repeat' ((conv=>whnf);first|refine uc _ (a) ?_|refine uc _ (g) ?_|(exact ⟨(),trivial,by (repeat' (first|exact wJ|refine And.intro ?_ ?_));done⟩)|fail)
 rintro _ _;clear a g;have j:=KW EA (xY.1 (by decide+kernel)) (by decide) kEA (by decide+kernel)
 skip
 refine tV (β:=Unit) (fun _=>{sl:=[(4,.t (esT EA)),(5,.t (.bool true)),(12,.t (.bool true)),(14,.t (esT EN)),(17,.t (.bool true)),(18,.t (.slice 1 ([4,4, -1, -1,4, -1,4,4, -1].map I))),(20,.t (esT EN)),(21,.t (I 0)),(22,.t (esT EA)),(23,.t (I 0))],bx:=[]}) (fun _=>True) ?_ ?_
 ·repeat' ((conv=>whnf);first|refine uc _ (j) ?_|(exact ⟨(),trivial,by (repeat' (first|exact wJ|refine And.intro ?_ ?_));done⟩)|fail)
 rintro _ _;clear j;have v:=Di [4,4, -1, -1,4, -1,4,4, -1] (by decide);have w:=Ia EN EN true (by decide) (by decide) kEN kEN (by decide+kernel);have z:=Ia EN EA false (by decide) (by decide) kEN kEA (by decide+kernel);have x:=I9 EA (by decide) kEA 4 (by decide+kernel)
 repeat' ((conv=>whnf);first|refine uc _ (v) ?_|refine uc _ (w) ?_|refine uc _ (z) ?_|refine uc _ (x) ?_|refine aE1 ?_|refine rb1 ?_|refine aS ?_|exact trivial)
end Go.ST
end
section
namespace Go.ST
open Go Go.DL Go.MM Go.Proofs
open Go.TY hiding Fd
theorem FW(k:Int):DCalls Tryz.prog 83 [I k] (.bool (decide (k=4)||decide (k=5))):=by
 refine dl2 mixed [.tmp 2] [.bool _] Tryz.func83 Go.ST7.l83 ?_
 by_cases a:k=4
 ·subst a;repeat' ((conv=>whnf);first|refine aE1 ?_|refine rb1 ?_|refine aS ?_|exact trivial)
 ·rw [decide_eq_false a]
  by_cases b:k=5
  ·subst b;repeat' ((conv=>whnf);first|refine aE1 ?_|refine aE0 ?_|refine rb1 ?_|refine aS ?_|exact trivial)
  ·rw [decide_eq_false b];repeat' ((conv=>whnf);first|refine aE0 ?_|refine rb0 ?_|refine aS ?_|exact trivial)
structure EX (l:List Fd) (st:List RE) (s:RS) (g:List Int) (t:RS) (h:List Int):Prop where
 lok:LOk l
 g:HOk g
 h:HOk h
 len:st.length<2^40
 sk:s.kind≠0->t.kind≠0-> ∀k∈s.key,uA l k=true
 tk:s.kind≠0->t.kind≠0-> ∀k∈t.key,uA l k=true
 sl:s.key.length<2^40
 tl:t.key.length<2^40
theorem GR(a b:List Int):(a==b)=decide (a=b):=by
 by_cases h:a=b
 ·subst h;simp
 ·rw [decide_eq_false h];simpa using h
theorem C9{l:List Fd}{st:List RE}{s t:RS}{g h:List Int}(p:EX l st s g t h):DCalls Tryz.prog 32 [fds l,esT st,vu s,hd g,vu t,hd h] (.bool (vT l st s g t h)):=by
 obtain ⟨m,i,j,E,F,G⟩:=s;obtain ⟨v,r,n,D,B,tm⟩:=t;rw [show vu ⟨m,i,j,E,F,G⟩=T.agg [I m,.str i,.slice 1 (j.map .str),.str E,I F,I G] from rfl,show vu ⟨v,r,n,D,B,tm⟩=T.agg [I v,.str r,.slice 1 (n.map .str),.str D,I B,I tm] from rfl];refine dl2 mixed [.tmp 12] [.bool _] Tryz.func32 Go.ST7.l32 ?_;have x:=fun a b=>FY l p.lok j (p.sk a b) p.sl g p.g
 have kT:=fun a b=>FY l p.lok n (p.tk a b) p.tl h p.h
 have C:=J6 st i p.len;have u:=HG (keyOf l j g) (keyOf l n h) (by unfold keyOf;rw [List.length_map];have:j.length<2^40:=p.sl;omega);rw [GR] at u;have k:=eqS i r;have w:=FW m;have y:(ofE st i).length=uC st i:=rfl;have Y:uC st i<=st.length:=yj;have X:(((ofE st i).map um).length:Int)=uC st i:=by rw [List.length_map,y]
 have M:=p.len;obtain ⟨x0,x1,x2,x3,x4,x5,x6,x7,x8,x9,rfl⟩:=ten p.g;obtain ⟨N,P,U,H,V,O,R,J,W,K,rfl⟩:=ten p.h;clear p;dsimp only at *
 unfold vT;dsimp only
 by_cases a:m=0
 ·rw [if_pos (Or.inl a)];subst a;repeat' ((conv=>whnf);first|exact trivial|refine aE1 ?_|refine rb1 ?_|refine aS ?_|refine nT_ ?_)
 by_cases b:v=0
 ·rw [if_pos (Or.inr (Or.inl b))];subst b;repeat' ((conv=>whnf);first|exact trivial|refine aE1 ?_|refine aE0 ?_|refine rb1 ?_|refine aS ?_|refine nT_ ?_)
 by_cases c:i=r
 case neg=>
  rw [if_pos (Or.inr (Or.inr c))];rw [decide_eq_false c] at k;have k:(!(i.toList==r.toList))=true:=by rw [k];rfl
  repeat' ((conv=>whnf);first|exact trivial|refine nb_ _ k ?_|refine aE0 ?_|refine rb1 ?_|refine aS ?_|refine nT_ ?_)
 have L: ¬(m=0\/v=0\/i≠r):=fun e=>e.elim a fun e=>e.elim b fun e=>e c
 rw [if_neg L];rw [decide_eq_true c] at k;have k:(!(i.toList==r.toList))=false:=by rw [k];rfl
 replace x:=x a b
 replace kT:=kT a b
 generalize keyOf l j [x0,x1,x2,x3,x4,x5,x6,x7,x8,x9]=ka at *
 generalize keyOf l n [N,P,U,H,V,O,R,J,W,K]=kb at *
 generalize uC st i=cn at *
 by_cases d:m=v/\(m=3\/m=5)
 ·rw [if_pos d];obtain ⟨S,Q⟩:=d;subst S;rcases Q with rfl|rfl <;> repeat' ((conv=>whnf);first|exact trivial|refine nb_ _ k ?_|refine aE1 ?_|refine aE0 ?_|refine rb1 ?_|refine aS ?_|refine nT_ ?_)
 rw [if_neg d]
 by_cases e:m=4\/m=5
 ·rw [if_pos e];rcases e with rfl|rfl <;> repeat' ((conv=>whnf);first|exact trivial|refine nb_ _ k ?_|refine uc _ (w) ?_|refine aE0 ?_|refine nE_ (fun o=>?_) (fun o=>?_)|refine rb0 ?_|refine aS ?_|refine nT_ ?_)
 rw [if_neg e];have A:(decide (m=4)||decide (m=5))=false:=by
  rw [decide_eq_false (fun h=>e (Or.inl h)),decide_eq_false (fun h=>e (Or.inr h))];rfl
 rw [A] at w;clear A
 by_cases f:ka=kb
 ·subst f;rw [decide_eq_true rfl] at u;rw [decide_eq_false (show ¬ka≠ka from fun h=>h rfl)]
  repeat' ((conv=>whnf);first|exact trivial|refine nb_ _ k ?_|refine uc _ (w) ?_|refine uc _ (x) ?_|refine uc _ (kT) ?_|refine uc _ (u) ?_|refine aE0 ?_|refine nE_ (fun o=>?_) (fun o=>?_)|refine rb0 ?_|refine aS ?_|refine nT_ ?_)
 ·rw [decide_eq_false f] at u;rw [decide_eq_true (show ka≠kb from f)]
  by_cases q:cn<=98
  ·have z:(((ofE st i).map um).length:Int)<=98:=by omega
   rw [decide_eq_true q]
   repeat' ((conv=>whnf);first|exact trivial|refine nb_ _ k ?_|refine uc _ (w) ?_|refine uc _ (x) ?_|refine uc _ (kT) ?_|refine uc _ (u) ?_|refine uc _ (C) ?_|refine sC z ?_|refine aE0 ?_|refine nE_ (fun o=>?_) (fun o=>?_)|refine rb1 ?_|refine aS ?_|refine nT_ ?_)
  ·have z: ¬(((ofE st i).map um).length:Int)<=98:=by omega
   rw [decide_eq_false q]
   repeat' ((conv=>whnf);first|exact trivial|refine nb_ _ k ?_|refine uc _ (w) ?_|refine uc _ (x) ?_|refine uc _ (kT) ?_|refine uc _ (u) ?_|refine uc _ (C) ?_|refine su z ?_|refine aE0 ?_|refine nE_ (fun o=>?_) (fun o=>?_)|refine rb0 ?_|refine aS ?_|refine nT_ ?_)
theorem Gv{l:List Fd}{st:List RE}{s t:RS}{g h:List Int}(p:EX l st s g t h):DCalls Tryz.prog 33 [fds l,esT st,vu s,hd g,vu t,hd h] (.bool (vT l st s g t h)):=by
 obtain ⟨n,m,j,B,C,E⟩:=s;obtain ⟨v,r,i,A,x,tm⟩:=t;rw [show vu ⟨n,m,j,B,C,E⟩=T.agg [I n,.str m,.slice 1 (j.map .str),.str B,I C,I E] from rfl,show vu ⟨v,r,i,A,x,tm⟩=T.agg [I v,.str r,.slice 1 (i.map .str),.str A,I x,I tm] from rfl];refine dl2 mixed [.tmp 12] [.bool _] Tryz.func33 Go.ST7.l33 ?_;have u:=fun a b=>FF l p.lok j (p.sk a b) p.sl g p.g
 have kT:=fun a b=>FF l p.lok i (p.tk a b) p.tl h p.h
 have y:=CF st m (by have:=p.len;omega);have w:=A5 (keyOf l j g) (keyOf l i h) (by unfold keyOf;rw [List.length_map];have:j.length<2^40:=p.sl;omega) (by unfold keyOf;rw [List.length_map];have:i.length<2^40:=p.tl;omega);have k:=eqS m r;obtain ⟨x0,x1,x2,x3,x4,x5,x6,x7,x8,x9,rfl⟩:=ten p.g;obtain ⟨K,M,Q,F,R,L,O,G,S,H,rfl⟩:=ten p.h;clear p;dsimp only at *
 unfold vT;dsimp only
 by_cases a:n=0
 ·rw [if_pos (Or.inl a)];subst a;repeat' ((conv=>whnf);first|exact trivial|refine aE1 ?_|refine rb1 ?_|refine aS ?_|refine nT_ ?_)
 by_cases b:v=0
 ·rw [if_pos (Or.inr (Or.inl b))];subst b;repeat' ((conv=>whnf);first|exact trivial|refine aE1 ?_|refine aE0 ?_|refine rb1 ?_|refine aS ?_|refine nT_ ?_)
 by_cases c:m=r
 case neg=>
  rw [if_pos (Or.inr (Or.inr c))];rw [decide_eq_false c] at k;have k:(!(m.toList==r.toList))=true:=by rw [k];rfl
  repeat' ((conv=>whnf);first|exact trivial|refine nb_ _ k ?_|refine aE0 ?_|refine rb1 ?_|refine aS ?_|refine nT_ ?_)
 have J: ¬(n=0\/v=0\/m≠r):=fun e=>e.elim a fun e=>e.elim b fun e=>e c
 rw [if_neg J];rw [decide_eq_true c] at k;have k:(!(m.toList==r.toList))=false:=by rw [k];rfl
 replace u:=u a b
 replace kT:=kT a b
 generalize keyOf l j [x0,x1,x2,x3,x4,x5,x6,x7,x8,x9]=ka at *
 generalize keyOf l i [K,M,Q,F,R,L,O,G,S,H]=kb at *
 generalize uC st m=cn at *
 by_cases d:n=v/\(n=3\/n=5)
 ·rw [if_pos d];obtain ⟨P,N⟩:=d;subst P;rcases N with rfl|rfl <;> repeat' ((conv=>whnf);first|exact trivial|refine nb_ _ k ?_|refine aE1 ?_|refine aE0 ?_|refine rb1 ?_|refine aS ?_|refine nT_ ?_)
 rw [if_neg d]
 by_cases e:n=4\/n=5
 ·rw [if_pos e];rcases e with rfl|rfl <;> repeat' ((conv=>whnf);first|exact trivial|refine nb_ _ k ?_|refine uc _ (u) ?_|refine uc _ (kT) ?_|refine aE0 ?_|refine aN1 ?_|refine aN0 ?_|refine nE_ (fun o=>?_) (fun o=>?_)|refine rb0 ?_|refine aS ?_|refine nT_ ?_)
 rw [if_neg e]
 by_cases f:ka=kb
 ·subst f;rw [wP.2 rfl] at w;rw [decide_eq_false (show ¬ka≠ka from fun h=>h rfl)]
  repeat' ((conv=>whnf);first|exact trivial|refine nb_ _ k ?_|refine uc _ (u) ?_|refine uc _ (kT) ?_|refine uc _ (w) ?_|refine aE0 ?_|refine aN1 ?_|refine aN0 ?_|refine nE_ (fun o=>?_) (fun o=>?_)|refine rb0 ?_|refine aS ?_|refine nT_ ?_)
 ·have D:u9 ka kb≠0:=fun h=>f (wP.1 h)
  generalize u9 ka kb=z at *
  rw [decide_eq_true (show ka≠kb from f)]
  by_cases q:cn<=98
  ·rw [decide_eq_true q]
   repeat' ((conv=>whnf);first|exact trivial|refine nb_ _ k ?_|refine uc _ (u) ?_|refine uc _ (kT) ?_|refine uc _ (w) ?_|refine uc _ (y) ?_|refine sG D ?_|refine aE0 ?_|refine aN1 ?_|refine aD1 ?_|refine nE_ (fun o=>?_) (fun o=>?_)|refine rb1 ?_|refine aS ?_|refine nT_ ?_)
  ·rw [decide_eq_false q]
   repeat' ((conv=>whnf);first|exact trivial|refine nb_ _ k ?_|refine uc _ (u) ?_|refine uc _ (kT) ?_|refine uc _ (w) ?_|refine uc _ (y) ?_|refine sG D ?_|refine aE0 ?_|refine aN1 ?_|refine aD0 ?_|refine nE_ (fun o=>?_) (fun o=>?_)|refine rb0 ?_|refine aS ?_|refine nT_ ?_)
end Go.ST
end
section
end
section
end
section
namespace Go.ST
open Go Go.DL Go.MM Go.Proofs
open Go.TY hiding Fd
theorem BB(p:RE->Bool): ∀st:List RE,st.length=(st.filter p).length+(st.filter fun x=> !p x).length
 |[]=>rfl
 |x::xs=>by
  have a:=BB p xs;rw [List.filter_cons,List.filter_cons];cases p x
  ·simp;omega
  ·simp;omega
theorem CZ: ∀(ns:List ByteArray) (st:List RE),(∀ e∈st,e.var∈ns)->(∀ v,uC st v<=100)->st.length<=100 * ns.length
 |[],st,h,_=>by
  cases st with
  |nil=>simp
  |cons a r=>exact absurd (h a (by simp)) (by simp)
 |n::ns,st,h,hc=>by
  have g:=BB (fun e=>decide (e.var=n)) st;have i:(st.filter fun e=>decide (e.var=n)).length<=100:=hc n;have j:=CZ ns (st.filter fun e=> !decide (e.var=n)) (fun e d=>by
   obtain ⟨f,c⟩:=List.mem_filter.1 d;rcases List.mem_cons.1 (h e f) with b|b
   ·simp [b] at c
   ·exact b) (fun v=>Nat.le_trans (List.Sublist.length_le (List.Sublist.filter _ (List.filter_sublist))) (hc v))
  rw [List.length_cons];omega
theorem OkS.len{vars:List RV}{st:List RE}(h:OkS vars st):st.length<=100 * vars.length:=by
 have:=CZ (vars.map (·.name)) st (fun e d=>by
  obtain ⟨v,a, -⟩:=(h.fit e d).ex;unfold varOf at a;have b:=List.mem_of_find?_eq_some a;have c:=List.find?_some a;exact List.mem_map.2 ⟨v,b,by simpa using c⟩) h.few
 rwa [List.length_map] at this
theorem OkS.kok{vars:List RV}(c: ∀v∈vars,VOk v){st:List RE}(h:OkS vars st): ∀e∈st,kOk e:=fun e d=>by
 obtain ⟨v,a,b, -⟩:=(h.fit e d).ex;unfold varOf at a
 have:=(c v (List.mem_of_find?_eq_some a)).len
 have:=Ab b
 show e.key.length<2^60
 omega
abbrev gsT(gs:List RG):T:=.slice 15 (gs.map uE)
def yx(g:RG):Bool:=decide (g.pol.size<=20)&&decide (g.pol.wy<=2)&&zL g.pol.wy g.pol.yz
def A7(L:List Fd)(gs:List RG)(st:List RE):Bool:=decide (zj L gs=0)&&decide (st.length<=250)&&decide (zr (wL L gs) st=0)
theorem IZ(L:List Fd)(b:LOk L)(gs:List RG)(q:gs.length<2^30)(k: ∀g∈gs,SmG (2^39) g)(st:List RE)(m:st.length<2^60)(p: ∀e∈st,kOk e):
  DCalls Tryz.prog 41 [fds L,gsT gs,esT st] (.bool (A7 L gs st)):=by
 refine dl2 mixed [.tmp 6] [.bool _] Tryz.func41 Go.ST7.l41 ?_;have a:=Gw L b gs (by omega) k;have r:((st.map um).length:Int)=st.length:=by rw [List.length_map]
 unfold A7
 by_cases c:zj L gs=0
 case neg=>
  rw [decide_eq_false c];generalize zj L gs=x at *
  repeat' ((conv=>whnf);first|refine uc _ (a) ?_|refine sG c ?_|refine rb0 ?_|refine aS ?_|exact trivial)
 rw [decide_eq_true c];have i:=EC c;have j:=Eo L b gs (by omega) (fun g o=>by have:=(k g o).st.len;omega) i.pw;have f:=BZ b i;have n:=Bb (l:=L) (gs:=gs);rw [c] at a;have h:=IY (wL L gs) (by omega) f st m p;generalize wL L gs=vars at *
 by_cases d:st.length<=250
 ·rw [decide_eq_true d]
  by_cases e:zr vars st=0
  ·rw [decide_eq_true e];rw [e] at h
   repeat' ((conv=>whnf);first|refine uc _ (a) ?_|refine uc _ (j) ?_|refine uc _ (h) ?_|refine aE1 ?_|refine aN0 ?_|refine aD0 ?_|refine rb1 ?_|refine aS ?_|exact trivial)
  ·rw [decide_eq_false e];generalize zr vars st=x at *
   repeat' ((conv=>whnf);first|refine uc _ (a) ?_|refine uc _ (j) ?_|refine uc _ (h) ?_|refine sD e ?_|refine aN0 ?_|refine aD0 ?_|refine rb0 ?_|refine aS ?_|exact trivial)
 ·rw [decide_eq_false d]
  repeat' ((conv=>whnf);first|refine uc _ (a) ?_|refine aN0 ?_|refine aD1 ?_|refine rb0 ?_|refine aS ?_|exact trivial)
def A6(l:List RF)(gs:List RG)(st:List RE)(h:List Int)(tick:Int):Bool:=
 decide (yN l=0)&&Aa gs&&vS h&&decide (0<=tick)&&decide (tick<=1073741824)&&gs.all yx&&A7 (l.map RF.fd) gs st
theorem IL(l:List RF)(S:l.length<2^60)(W: ∀f∈l,f.name.size<2^62)(gs:List RG)(H:gs.length<2^30)(D: ∀g∈gs,SmG (2^39) g)(st:List RE)(G:st.length<2^60)(U: ∀e∈st,kOk e)(h:List Int)(Q:h.length=10)(tick:Int):
  DCalls Tryz.prog 8 [yd l,gsT gs,esT st,hd h,I tick] (.bool (A6 l gs st h tick)):=by
 refine dl2 mixed [.tmp 10] [.bool _] Tryz.func8 Go.ST7.l8 ?_;have n:=t47 l S W;have o:=D3 gs (by omega) fun g V=>by have:=(D g V).wt;omega
 have q:=t11 h Q;have M:((gs.map uE).length:Int)=(gs.length:Int):=by rw [List.length_map]
 have d:(h.map I).length=10:=by rw [List.length_map];exact Q
 unfold A6
 by_cases s:yN l=0
 case neg=>
  rw [decide_eq_false s];generalize yN l=c at *
  repeat' ((conv=>whnf);first|refine uc _ (n) ?_|refine uc _ (o) ?_|refine uc _ (q) ?_|refine sG s ?_|refine rb0 ?_|(refine And.intro (by first|exact d) ?_)|refine aS ?_|exact trivial)
 have R:=B4 s;have F:=R.ok;have B:=R.fds;rw [s] at n;rw [decide_eq_true s,Bool.true_and];have v:=IZ (l.map RF.fd) F gs H D st G U;generalize A7 (l.map RF.fd) gs st=b4 at *
 generalize l.map RF.fd=L at *
 rw [B] at n ⊢;generalize Aa gs=b2 at *
 generalize vS h=b3 at *
 cases b2
 ·repeat' ((conv=>whnf);first|refine uc _ (n) ?_|refine uc _ (o) ?_|refine uc _ (q) ?_|refine aN0 ?_|refine rb0 ?_|(refine And.intro (by first|exact d) ?_)|refine aS ?_|exact trivial)
 cases b3
 ·repeat' ((conv=>whnf);first|refine uc _ (n) ?_|refine uc _ (o) ?_|refine uc _ (q) ?_|refine aN0 ?_|refine rb0 ?_|(refine And.intro (by first|exact d) ?_)|refine aS ?_|exact trivial)
 by_cases w:0<=tick
 case neg=>rw [decide_eq_false w];repeat' ((conv=>whnf);first|refine uc _ (n) ?_|refine uc _ (o) ?_|refine uc _ (q) ?_|refine aN0 ?_|refine aD1 ?_|refine rb0 ?_|(refine And.intro (by first|exact d) ?_)|refine aS ?_|exact trivial)
 by_cases N:tick<=1073741824
 case neg=>rw [decide_eq_true w,decide_eq_false N];repeat' ((conv=>whnf);first|refine uc _ (n) ?_|refine uc _ (o) ?_|refine uc _ (q) ?_|refine aN0 ?_|refine aD1 ?_|refine aD0 ?_|refine rb0 ?_|(refine And.intro (by first|exact d) ?_)|refine aS ?_|exact trivial)
 rw [decide_eq_true w,decide_eq_true N]
 repeat' ((conv=>whnf);first|refine uc _ (n) ?_|refine uc _ (o) ?_|refine uc _ (q) ?_|refine aN0 ?_|refine aD0 ?_|(refine And.intro (by first|exact d) ?_)|refine aS ?_|fail)
 refine tx 0 (α:=Nat) (β:=Unit) (fun i=>{sl:=[(0,.t (fds L)),(1,.t (gsT gs)),(2,.t (esT st)),(14,.t (I i))],bx:=[]})
  (fun i=>i<=gs.length/\ ∀j (h:j<gs.length),j<i->yx gs[j]=true) (fun i=>gs.length - i)
  (fun _=>{sl:=[(0,.t (fds L)),(1,.t (gsT gs)),(2,.t (esT st))],bx:=[]}) (fun _=>gs.all yx=true) 0 (by simp) ?_ ?_ ?_
 ·repeat' (first|exact wJ|refine And.intro ?_ ?_)
 ·rintro i ⟨X,O⟩;rcases Nat.lt_or_ge i gs.length with h|h
  ·have a:(i:Int)<((gs.map uE).length:Int):=by omega
   have p:(gs.map uE)[i]?.getD .nil= .agg (uw gs[i]):=by simp [h];rfl
   have k:=zQ gs[i];have Y:=(D gs[i] (List.getElem_mem h)).wt;have u:=t89 _ gs[i].pol (Nat.le_refl _) (by omega);have y:=t59 _ gs[i].pol (Nat.le_refl _) (by omega);have J:=t38 gs[i].pol (by omega);have m:yx gs[i]=false->gs.all yx=false:=fun C=>List.all_eq_false.2 ⟨gs[i],List.getElem_mem h,by rw [C];simp⟩
   have step:yx gs[i]=true-> ∀j (r:j<gs.length),j<i+1->yx gs[j]=true:=fun C j r a=>by
    rcases Nat.lt_or_ge j i with v|v
    ·exact O j r v
    ·obtain rfl:j=i:=by omega
     exact C
   have b:yx gs[i]=(decide (gs[i].pol.size<=20)&&decide (gs[i].pol.wy<=2)&&zL gs[i].pol.wy gs[i].pol.yz):=rfl;generalize yx gs[i]=pb at *
   generalize gs[i].pol.size=z at *
   generalize gs[i].pol.deep=dp at *
   generalize zL gs[i].pol.wy gs[i].pol.yz=lb at *
   generalize gs[i].pol.wy=sr at *
   by_cases K:z<=20
   case neg=>
    rw [m (by rw [b,decide_eq_false K];rfl)]
    repeat' ((conv=>whnf);first|exact trivial|refine sC a ?_|(refine nv_ (.agg (uw gs[i])) (by first|exact p) ?_)|(refine nv_ (.agg (uy gs[i].pol)) (by first|exact congrArg T.agg k) ?_)|refine uc _ (u) ?_|refine aD1 ?_|refine rb0 ?_|(refine And.intro (by first|exact xu _|exact xW _|exact wc _) ?_)|refine aS ?_|refine nT_ ?_)
   by_cases P:sr<=2
   case neg=>
    rw [m (by rw [b,decide_eq_false P,Bool.and_false];rfl)]
    repeat' ((conv=>whnf);first|exact trivial|refine sC a ?_|(refine nv_ (.agg (uw gs[i])) (by first|exact p) ?_)|(refine nv_ (.agg (uy gs[i].pol)) (by first|exact congrArg T.agg k) ?_)|refine uc _ (u) ?_|refine uc _ (y) ?_|refine aD1 ?_|refine aD0 ?_|refine rb0 ?_|(refine And.intro (by first|exact xu _|exact xW _|exact wc _) ?_)|refine aS ?_|refine nT_ ?_)
   cases lb with
   |false=>
    rw [m (by rw [b,Bool.and_false])]
    repeat' ((conv=>whnf);first|exact trivial|refine sC a ?_|(refine nv_ (.agg (uw gs[i])) (by first|exact p) ?_)|(refine nv_ (.agg (uy gs[i].pol)) (by first|exact congrArg T.agg k) ?_)|refine uc _ (u) ?_|refine uc _ (y) ?_|refine uc _ (J) ?_|refine aD0 ?_|refine rb0 ?_|(refine And.intro (by first|exact xu _|exact xW _|exact wc _) ?_)|refine aS ?_|refine nT_ ?_)
   |true=>
    have A:i+1<=gs.length/\ ∀j (r:j<gs.length),j<i+1->yx gs[j]=true:=⟨h,step (by rw [b,decide_eq_true K,decide_eq_true P];rfl)⟩
    clear m step
    repeat' ((conv=>whnf);first|refine sC a ?_|(refine nv_ (.agg (uw gs[i])) (by first|exact p) ?_)|(refine nv_ (.agg (uy gs[i].pol)) (by first|exact congrArg T.agg k) ?_)|refine uc _ (u) ?_|refine uc _ (y) ?_|refine uc _ (J) ?_|refine aD0 ?_|(refine And.intro (by first|exact xu _|exact xW _|exact wc _) ?_)|refine aS ?_|refine nT_ ?_)
    exact ⟨i+1,A,by omega,by repeat' (first|exact wJ|refine And.intro ?_ ?_)⟩
  ·have a: ¬(i:Int)<((gs.map uE).length:Int):=by omega
   have E:gs.all yx=true:=List.all_eq_true.2 fun x p=>by
    obtain ⟨j,r,rfl⟩:=List.getElem_of_mem p;exact O j r (by omega)
   repeat' ((conv=>whnf);first|refine su a ?_|(exact ⟨(),E,by (repeat' (first|exact wJ|refine And.intro ?_ ?_));done⟩)|refine aS ?_|fail)
 ·rintro _ E;rw [E]
  repeat' ((conv=>whnf);first|refine uc _ (v) ?_|refine rbx ?_|exact trivial)
structure Dp (l:List RF) (gs:List RG) (st:List RE) (h:List Int) (tick:Int):Prop where
 ck:MM.Checked l
 few:Aa gs=true
 hh:HOk h
 t0:0<=tick
 t1:tick<=1073741824
 pol: ∀g∈gs,g.pol.size<=20/\g.pol.wy<=2/\zL g.pol.wy g.pol.yz=true
 fits:Fits (l.map RF.fd) gs
 prog:zj (l.map RF.fd) gs=0
 len:st.length<=250
 st:OkS (wL (l.map RF.fd) gs) st
theorem GC{l:List RF}{gs:List RG}{st:List RE}{h:List Int}{tick:Int}(e:h.length=10)(a:A6 l gs st h tick=true):Dp l gs st h tick:=by
 unfold A6 A7 at a;simp only [Bool.and_eq_true,decide_eq_true_eq,List.all_eq_true] at a;obtain ⟨⟨⟨⟨⟨⟨d,c⟩,f⟩,n⟩,m⟩,j⟩,⟨b,i⟩,k⟩:=a;refine ⟨B4 d,c,⟨e,f⟩,n,m,fun g o=>?_,EC b,b,i,Im.1 k⟩
 have:=j g o
 unfold yx at this;simp only [Bool.and_eq_true,decide_eq_true_eq] at this;exact ⟨this.1.1,this.1.2,this.2⟩
end Go.ST
end
section
namespace Go.STC
open Go Go.DL Go.Proofs
noncomputable def c6:aV:=(sr [oo 11 (.box 10 (tm 3)),oo 12 (.box 10 (tm 4)),oo 16 (.mov kF)] (sr [mv 34 0,mv 35 1,mv 36 2,lA 37 10 11,mv 38 7,oo 39 (.call 8 [(tm 34),(tm 35),(tm 36),(tm 37),(tm 38)]),mv 17 39] (sr [lA 40 10 12,oo 41 (.call 15 [tm 40]),mv 18 41] (.seq (sr [mv 42 17,oo 43 (.not (tm 42)),mv 44 43,mF 45 18 44,oF 46 44 (.not (tm 45)),oo 47 (.pick (tm 44) kT (tm 46)),mv 48 47,mF 49 5 48,oF 50 48 (.bin .lss (tm 49) (Kc 0)),oo 51 (.pick (tm 48) kT (tm 50)),mv 52 51,mF 53 5 52,mF 54 1 52,oF 55 52 (.len (tm 54)),oF 56 52 (.bin .geq (tm 53) (tm 55)),oo 57 (.pick (tm 52) kT (tm 56)),mv 58 57,mF 59 6 58,oF 60 58 (.bin .lss (tm 59) (Kc 0)),oo 61 (.pick (tm 58) kT (tm 60)),mv 62 61,mF 63 6 62,mF 64 1 62,oF 65 62 (.len (tm 64)),oF 66 62 (.bin .geq (tm 63) (tm 65)),oo 67 (.pick (tm 62) kT (tm 66))] (.cond (tm 67) (sr [oo 68 (.call 9 []),mv 16 68] .ret) .skip)) (.seq (.cut (rg [mv 69 1,mv 70 5,ix 71 15 69 70,fa 72 9 71,lA 73 6 72,⟨some 19,.alloc [Z0,S0,.nil,S0,Z0,Z0],none,[]⟩,o0 (.store 6 (tm 19) (tm 73))])) (.seq (.cut (rg [mv 74 1,mv 75 6,ix 76 15 74 75,fa 77 9 76,lA 78 6 77,⟨some 20,.alloc [Z0,S0,.nil,S0,Z0,Z0],none,[]⟩,o0 (.store 6 (tm 20) (tm 78))])) (.seq (.cut (rg [mv 79 0,mv 80 2,lA 81 6 19,lA 82 10 11,lA 83 6 20,lA 84 10 12,oo 85 (.call 32 [(tm 79),(tm 80),(tm 81),(tm 82),(tm 83),(tm 84)]),mv 21 85])) (.seq (sr [mv 86 21,mv 87 0,mv 88 2,lA 89 6 19,lA 90 10 11,lA 91 6 20,lA 92 10 12,oo 93 (.call 33 [(tm 87),(tm 88),(tm 89),(tm 90),(tm 91),(tm 92)]),oo 94 (.eqB true (tm 86) (tm 93)),mv 95 94,mF 96 21 95,mF 97 0 95,mF 98 2 95,oF 99 95 (.load 6 true (tm 20)),oF 100 95 (.load 10 true (tm 12)),oF 101 95 (.load 6 true (tm 19)),oF 102 95 (.load 10 true (tm 11)),oF 103 95 (.call 32 [(tm 97),(tm 98),(tm 99),(tm 100),(tm 101),(tm 102)]),oF 104 95 (.eqB true (tm 96) (tm 103)),oo 105 (.pick (tm 95) kT (tm 104))] (.cond (tm 105) (sr [oo 16 (.mov kF)] .ret) .skip)) (.seq (sr [mv 106 21,oo 107 (.not (tm 106))] (.cond (tm 107) (sr [oo 108 (.call 9 []),mv 16 108] .ret) .skip)) (.seq (.cut (rg [mv 110 0,lA 111 6 19,mv 112 2,lA 113 10 11,mv 114 7,oo 115 (.call 11 [(tm 110),(tm 111),(tm 112),(tm 113),(tm 114)]),mv 109 115,oo 116 (.ext (tm 109) 0),oo 117 (.ext (tm 109) 1),oo 118 (.ext (tm 109) 2),oo 22 (.alloc [Z0,Z0,Z0,Z0,Z0,Z0,Z0,Z0,Z0,Z0]),o0 (.store 10 (tm 22) (tm 116)),mv 23 117,mv 24 118])) (.seq (.cut (rg [mv 120 0,lA 121 6 20,mv 122 24,lA 123 10 12,mv 124 7,oo 125 (.call 11 [(tm 120),(tm 121),(tm 122),(tm 123),(tm 124)]),mv 119 125,oo 126 (.ext (tm 119) 0),oo 127 (.ext (tm 119) 1),oo 128 (.ext (tm 119) 2),oo 25 (.alloc [Z0,Z0,Z0,Z0,Z0,Z0,Z0,Z0,Z0,Z0]),o0 (.store 10 (tm 25) (tm 126)),mv 26 127,mv 27 128])) (.seq (.cut (rg [mv 130 0,lA 131 6 20,mv 132 2,lA 133 10 12,mv 134 7,oo 135 (.call 11 [(tm 130),(tm 131),(tm 132),(tm 133),(tm 134)]),mv 129 135,oo 136 (.ext (tm 129) 0),oo 137 (.ext (tm 129) 1),oo 138 (.ext (tm 129) 2),oo 28 (.alloc [Z0,Z0,Z0,Z0,Z0,Z0,Z0,Z0,Z0,Z0]),o0 (.store 10 (tm 28) (tm 136)),mv 29 137,mv 30 138])) (.seq (.cut (rg [mv 140 0,lA 141 6 19,mv 142 30,lA 143 10 11,mv 144 7,oo 145 (.call 11 [(tm 140),(tm 141),(tm 142),(tm 143),(tm 144)]),mv 139 145,oo 146 (.ext (tm 139) 0),oo 147 (.ext (tm 139) 1),oo 148 (.ext (tm 139) 2),oo 31 (.alloc [Z0,Z0,Z0,Z0,Z0,Z0,Z0,Z0,Z0,Z0]),o0 (.store 10 (tm 31) (tm 146)),mv 32 147,mv 33 148])) (sr [oo 149 (.call 9 []),mv 150 149,oT 151 150 (.load 10 true (tm 22)),oT 152 150 (.load 10 true (tm 31)),oT 153 150 (.eqv false [.int .i64,.int .i64,.int .i64,.int .i64,.int .i64,.int .i64,.int .i64,.int .i64,.int .i64,.int .i64] (tm 151) (tm 152)),oo 154 (.pick (tm 150) (tm 153) kF),mv 155 154,mT 156 23 155,mT 157 32 155,oT 158 155 (.eqB false (tm 156) (tm 157)),oo 159 (.pick (tm 155) (tm 158) kF),mv 160 159,oT 161 160 (.load 10 true (tm 25)),oT 162 160 (.load 10 true (tm 28)),oT 163 160 (.eqv false [.int .i64,.int .i64,.int .i64,.int .i64,.int .i64,.int .i64,.int .i64,.int .i64,.int .i64,.int .i64] (tm 161) (tm 162)),oo 164 (.pick (tm 160) (tm 163) kF),mv 165 164,mT 166 26 165,mT 167 29 165,oT 168 165 (.eqB false (tm 166) (tm 167)),oo 169 (.pick (tm 165) (tm 168) kF),mv 170 169,mT 171 27 170,mT 172 33 170,oT 173 170 (.call 13 [(tm 171),(tm 172)]),oo 174 (.pick (tm 170) (tm 173) kF),mv 16 174] .ret))))))))))))))
theorem l6:(Tryz.f6.body.bind (bt Tryz.prog 175 [6000005,6000006,6000007,6000012,6000013,6000014,6000015]))=some c6:=by kernel_rfl
end Go.STC
end
section
namespace Go.ST
open Go Go.DL Go.MM Go.Proofs
open Go.TY hiding Fd
theorem Fb: ∀a b:List Int,a.length=b.length->eqL (a.map I) (b.map I)=decide (a=b)
 |[],[],_=>rfl
 |[],_::_,h=>by simp at h
 |_::_,[],h=>by simp at h
 |x::a,y::b,h=>by
  have d:=Fb a b (by simpa using h);show (x==y&&eqL (a.map I) (b.map I))=_
  rw [d]
  by_cases c:x=y
  ·subst c;by_cases f:a=b <;> simp [f]
  ·have:(x==y)=false:=by simpa using c
   rw [this,decide_eq_false (fun e=>c (List.cons.inj e).1)];rfl
structure K6 (l:List RF) (gs:List RG) (st:List RE) (h:List Int):Prop where
 ll:l.length<2^60
 ln: ∀f∈l,f.name.size<2^62
 gl:gs.length<2^30
 gg: ∀g∈gs,SmG (2^39) g
 sl:st.length<2^28
 sk: ∀e∈st,kOk e
 hl:h.length=10
theorem Dp.at{l:List RF}{gs:List RG}{st:List RE}{h:List Int}{tick:Int}(p:Dp l gs st h tick){g:RG}(r:g∈gs){a:List RE}(d:OkS (wL (l.map RF.fd) gs) a){b:List Int}(f:HOk b):
  DCalls Tryz.prog 11 [fds (l.map RF.fd),vu g.st,esT a,hd b,I tick] (dnT (doE (l.map RF.fd) g.st a b tick))/\DCalls Tryz.prog 12 [fds (l.map RF.fd),vu g.st,esT a,hd b,I tick] (vt (doE (l.map RF.fd) g.st a b tick))/\
  OkS (wL (l.map RF.fd) gs) (doE (l.map RF.fd) g.st a b tick).st/\HOk (doE (l.map RF.fd) g.st a b tick).h/\wx (doE (l.map RF.fd) g.st a b tick).st g.st.var=wx a g.st.var/\((doE (l.map RF.fd) g.st a b tick).pass=false->(doE (l.map RF.fd) g.st a b tick).h=b):=by
 have c:=p.ck.ok;have j:=KK p.ck
 by_cases i:g.st.kind=0
 ·have e:doE (l.map RF.fd) g.st a b tick=⟨b,true,a⟩:=by unfold doE we doR;rw [if_pos i];rfl
  refine ⟨Ib f i,H9 f i,?_⟩;rw [e];exact ⟨d,f,rfl,fun q=>by cases q⟩
 ·have n:=Hz p.fits r i;have k:=BZ c p.fits;have m:a.length<=1000000:=by
   have s:=d.len;have t:=Bb (l:=l.map RF.fd) (gs:=gs);have u:gs.length<=12:=by have:=p.few;unfold Aa at this;simp only [Bool.and_eq_true,decide_eq_true_eq] at this;exact this.2
   omega
  have hd:=HQ c j f d m p.t0 p.t1 n;have o:=d.kok k;exact ⟨J3 hd o,NA hd o,Js c f d p.t0 p.t1 n⟩
abbrev NF:List Sh:=[.int .i64,.int .i64,.int .i64,.int .i64,.int .i64,.int .i64,.int .i64,.int .i64,.int .i64,.int .i64]
theorem F8(a b c d e f g h i j:Int):fits NF [I a,I b,I c,I d,I e,I f,I g,I h,I i,I j]:=⟨rfl,rfl,rfl,rfl,rfl,rfl,rfl,rfl,rfl,rfl,trivial⟩
end Go.ST
end
section
end
section
end
section
end
section
end
section
namespace Go.ST
open Go Go.DL Go.MM Go.Proofs
open Go.TY hiding Fd
theorem Jv{a b:Int}(h:vA a=vA b)(e:1<=a/\a<=6)(f:1<=b/\b<=6):a=4\/a=5↔b=4\/b=5:=by
 have c:a=1\/a=2\/a=3\/a=4\/a=5\/a=6:=by omega
 have d:b=1\/b=2\/b=3\/b=4\/b=5\/b=6:=by omega
 rcases c with rfl|rfl|rfl|rfl|rfl|rfl <;> rcases d with rfl|rfl|rfl|rfl|rfl|rfl <;> first|(revert h;decide)|(exact ⟨fun _=>by decide,fun _=>by decide⟩)|(exact ⟨fun h=>by omega,fun h=>by omega⟩)
theorem law_Commutes(l:List RF)(gs:List RG)(st:List RE)(g h:List Int)(i k tick:Int)(a:K6 l gs st g)(hh:h.length=10):DCalls Tryz.prog 6 [yd l,gsT gs,esT st,hd g,hd h,I i,I k,I tick] (.bool true):=by
 refine dl2 mixed [.tmp 16] [.bool true] Tryz.func6 Go.STC.l6 ?_;have h0:=HK;have D:=IL l a.ll a.ln gs a.gl a.gg st (by have:=a.sl;omega) a.sk g a.hl tick;have R:=t11 h hh;have f:(g.map I).length=10:=by rw [List.length_map];exact a.hl
 have j:(h.map I).length=10:=by rw [List.length_map];exact hh
 have hn:((gs.map uE).length:Int)=gs.length:=by rw [List.length_map]
 cases hq:A6 l gs st g tick with
 |false=>
  rw [hq] at D;generalize vS h=b at *
  repeat' ((conv=>whnf);first|refine uc _ (D) ?_|refine uc _ (R) ?_|refine uc _ (h0) ?_|refine rb1 ?_|(refine And.intro (by first|exact f|exact j) ?_)|exact trivial)
 |true=>
 rw [hq] at D;cases hrh:vS h with
 |false=>
  rw [hrh] at R
  repeat' ((conv=>whnf);first|refine uc _ (D) ?_|refine uc _ (R) ?_|refine uc _ (h0) ?_|refine rb1 ?_|(refine And.intro (by first|exact f|exact j) ?_)|exact trivial)
 |true=>
 rw [hrh] at R
 by_cases i0:i<0
 ·repeat' ((conv=>whnf);first|refine uc _ (D) ?_|refine uc _ (R) ?_|refine uc _ (h0) ?_|refine sC i0 ?_|refine rb1 ?_|(refine And.intro (by first|exact f|exact j) ?_)|refine aS ?_|exact trivial)
 by_cases i1:i>=((gs.map uE).length:Int)
 ·repeat' ((conv=>whnf);first|refine uc _ (D) ?_|refine uc _ (R) ?_|refine uc _ (h0) ?_|refine su i0 ?_|refine sC i1 ?_|refine rb1 ?_|(refine And.intro (by first|exact f|exact j) ?_)|refine aS ?_|exact trivial)
 by_cases k0:k<0
 ·repeat' ((conv=>whnf);first|refine uc _ (D) ?_|refine uc _ (R) ?_|refine uc _ (h0) ?_|refine su i0 ?_|refine su i1 ?_|refine sC k0 ?_|refine rb1 ?_|(refine And.intro (by first|exact f|exact j) ?_)|refine aS ?_|exact trivial)
 by_cases k1:k>=((gs.map uE).length:Int)
 ·repeat' ((conv=>whnf);first|refine uc _ (D) ?_|refine uc _ (R) ?_|refine uc _ (h0) ?_|refine su i0 ?_|refine su i1 ?_|refine su k0 ?_|refine sC k1 ?_|refine rb1 ?_|(refine And.intro (by first|exact f|exact j) ?_)|refine aS ?_|exact trivial)
 have p:=GC a.hl hq;have P:=p.hh;have C:HOk h:=⟨hh,hrh⟩
 obtain ⟨i,rfl⟩:=Int.eq_ofNat_of_zero_le (show 0<=i by omega);obtain ⟨k,rfl⟩:=Int.eq_ofNat_of_zero_le (show 0<=k by omega);have hi:i<gs.length:=by omega
 have hk:k<gs.length:=by omega
 have hxi:(gs.map uE)[i]?.getD .nil= .agg (uw gs[i]):=by simp [hi];rfl
 have hxk:(gs.map uE)[k]?.getD .nil= .agg (uw gs[k]):=by simp [hk];rfl
 have hc2:=xC gs[i];have hc3:=xC gs[k];have hvs:=BZ p.ck.ok p.fits;have hvl:(wL (l.map RF.fd) gs).length<=1000:=by
  have h2:=Bb (l:=l.map RF.fd) (gs:=gs);have h3:gs.length<=12:=by have:=p.few;unfold Aa at this;simp only [Bool.and_eq_true,decide_eq_true_eq] at this;exact this.2
  omega
 have hks:gs[i].st.kind≠0->gs[k].st.kind≠0->gs[i].st.var=gs[k].st.var->(gs[i].st.kind=4\/gs[i].st.kind=5↔gs[k].st.kind=4\/gs[k].st.kind=5):=fun z1 z2 z3=>by
  have e:=yb (p.fits.st gs[i] (List.getElem_mem hi)) z1;have c:=yb (p.fits.st gs[k] (List.getElem_mem hk)) z2;exact Jv (vo.1 (p.fits.pw.all _ (vg (List.getElem_mem hi) z1) _ (vg (List.getElem_mem hk) z2) z3)).2.2 ⟨e.k0,e.k1⟩ ⟨c.k0,c.k1⟩
 have G:EX (l.map RF.fd) st gs[i].st g gs[k].st h:=⟨p.ck.ok,P,C,by have:=p.len;omega,fun z _=>(yb (p.fits.st gs[i] (List.getElem_mem hi)) z).keys,fun _ z=>(yb (p.fits.st gs[k] (List.getElem_mem hk)) z).keys,by have:=(a.gg gs[i] (List.getElem_mem hi)).st.len;omega,by have:=(a.gg gs[k] (List.getElem_mem hk)).st.len;omega⟩
 have m1:=C9 G;have m2:=Gv G;have m3:=C9 (l:=l.map RF.fd) (st:=st) (s:=gs[k].st) (t:=gs[i].st) (g:=h) (h:=g) ⟨G.lok,G.h,G.g,G.len,fun z1 z2=>G.tk z2 z1,fun z1 z2=>G.sk z2 z1,G.tl,G.sl⟩;have hsy:vT (l.map RF.fd) st gs[i].st g gs[k].st h=vT (l.map RF.fd) st gs[k].st h gs[i].st g:=E7 hks;rw [<- hsy] at m3;have hcm:=fun hc:vT (l.map RF.fd) st gs[i].st g gs[k].st h=true=>Iq (tick:=tick) p.st.inc hks hc (hsy.symm.trans hc)
 clear hsy;obtain ⟨n1, -,o1,u1, -, -⟩:=p.at (List.getElem_mem hi) p.st P;obtain ⟨n2, -,o2,u2, -, -⟩:=p.at (List.getElem_mem hk) o1 C;obtain ⟨n3, -,o3,u3, -, -⟩:=p.at (List.getElem_mem hk) p.st C;obtain ⟨n4, -,o4,u4, -, -⟩:=p.at (List.getElem_mem hi) o3 P;have hfd:=p.ck.fds;rw [hfd] at D ⊢;clear hfd hq a p G hks;generalize l.map RF.fd=L at *
 generalize wL L gs=vars at *
 generalize hs:gs[i].st=s at *
 generalize ht:gs[k].st=t at *
 generalize hB:vT L st s g t h=B at *
 have hcl:=fun x=>wc x
 obtain ⟨x0,x1,x2,x3,x4,x5,x6,x7,x8,x9,rfl⟩:=ten P;obtain ⟨W,y1,U,Q,S,y5,X,Z,Y,V,rfl⟩:=ten C
 repeat' ((conv=>whnf);first|refine uc _ (D) ?_|refine uc _ (R) ?_|refine su i0 ?_|refine su i1 ?_|refine su k0 ?_|refine su k1 ?_|refine aS ?_|fail)
 refine tV (β:=Unit) (fun _=>{sl:=[(0,.t (fds L)),(1,.t (gsT gs)),(2,.t (esT st)),(5,.t (I i)),(6,.t (I k)),(7,.t (I tick)),(11,.ptr 11 0),(12,.ptr 12 0),(19,.ptr 19 0)],bx:=[(11,.d 10 [I x0,I x1,I x2,I x3,I x4,I x5,I x6,I x7,I x8,I x9]),(12,.d 10 [I W,I y1,I U,I Q,I S,I y5,I X,I Z,I Y,I V]),(19,.d 6 (ur s))]}) (fun _=>True) ?_ ?_
 ·repeat' ((conv=>whnf);first|(refine nv_ (.agg (uw gs[i])) (by first|exact hxi) ?_)|(refine nv_ (.agg (ur s)) (by first|exact congrArg T.agg hc2) ?_)|(exact ⟨(),trivial,by (repeat' (first|(refine Hi rfl ?_)|(exact (A4 rfl).symm)|exact wJ|refine And.intro ?_ ?_));done⟩)|(refine And.intro (by first|exact wc _|exact ⟨rfl,nlZ rfl⟩) ?_)|refine aS ?_|fail)
 rintro _ _
 skip
 refine tV (β:=Unit) (fun _=>{sl:=[(0,.t (fds L)),(2,.t (esT st)),(7,.t (I tick)),(11,.ptr 11 0),(12,.ptr 12 0),(19,.ptr 19 0),(20,.ptr 20 0)],bx:=[(11,.d 10 [I x0,I x1,I x2,I x3,I x4,I x5,I x6,I x7,I x8,I x9]),(12,.d 10 [I W,I y1,I U,I Q,I S,I y5,I X,I Z,I Y,I V]),(19,.d 6 (ur s)),(20,.d 6 (ur t))]}) (fun _=>True) ?_ ?_
 ·repeat' ((conv=>whnf);first|(refine nv_ (.agg (uw gs[k])) (by first|exact hxk) ?_)|(refine nv_ (.agg (ur t)) (by first|exact congrArg T.agg hc3) ?_)|(exact ⟨(),trivial,by (repeat' (first|(refine Hi rfl ?_)|(exact (A4 rfl).symm)|exact wJ|refine And.intro ?_ ?_));done⟩)|(refine And.intro (by first|exact wc _|exact ⟨rfl,nlZ rfl⟩) ?_)|refine aS ?_|fail)
 rintro _ _;clear hxi hxk hc2 hc3 D R
 skip
 refine tV (β:=Unit) (fun _=>{sl:=[(0,.t (fds L)),(2,.t (esT st)),(7,.t (I tick)),(11,.ptr 11 0),(12,.ptr 12 0),(19,.ptr 19 0),(20,.ptr 20 0),(21,.t (.bool B))],bx:=[(11,.d 10 [I x0,I x1,I x2,I x3,I x4,I x5,I x6,I x7,I x8,I x9]),(12,.d 10 [I W,I y1,I U,I Q,I S,I y5,I X,I Z,I Y,I V]),(19,.d 6 (ur s)),(20,.d 6 (ur t))]}) (fun _=>True) ?_ ?_
 ·repeat' ((conv=>whnf);first|refine uc _ (m1) ?_|(exact ⟨(),trivial,by (repeat' (first|exact wJ|refine And.intro ?_ ?_));done⟩)|fail)
 rintro _ _;cases B with
 |false=>
  repeat' ((conv=>whnf);first|exact trivial|refine uc _ (m2) ?_|refine uc _ (m3) ?_|refine uc _ (h0) ?_|refine rb1 ?_|refine aS ?_|refine nb_ false rfl ?_)
 |true=>
 obtain ⟨w1,w2,w3,w4,w5⟩:=hcm rfl
 repeat' ((conv=>whnf);first|refine uc _ (m2) ?_|refine uc _ (m3) ?_|refine aS ?_|refine nb_ false rfl ?_)
 clear m1 m2 m3 hcm;generalize hd1:doE L s st [x0,x1,x2,x3,x4,x5,x6,x7,x8,x9] tick=d1 at *
 generalize hd2:doE L t d1.st [W,y1,U,Q,S,y5,X,Z,Y,V] tick=d2 at *
 generalize hd3:doE L t st [W,y1,U,Q,S,y5,X,Z,Y,V] tick=d3 at *
 generalize hd4:doE L s d3.st [x0,x1,x2,x3,x4,x5,x6,x7,x8,x9] tick=d4 at *
 clear hd1 hd2 hd3 hd4;obtain ⟨a1,a2,a3⟩:=d1;obtain ⟨b1,b2,b3⟩:=d2;obtain ⟨c1,c2,c3⟩:=d3;obtain ⟨e1,e2,e3⟩:=d4;dsimp only at w1 w2 w3 w4 w5 u1 u2 u3 u4 o1 o2 o3 o4 n1 n2 n3 n4;subst w1;subst w2;subst w3;subst w4;subst w5;have hsl:b3.length<=200000:=by have:=o2.len;omega
 have hsk:=o2.kok hvs;have s1:=JV b3 b3 (by omega) (by omega) hsk hsk;rw [decide_eq_true rfl] at s1;obtain ⟨O,n,v,E,o,w,J,N,K,m,rfl⟩:=ten u1;obtain ⟨A,e,c,u,r,F,y,q,H,M,rfl⟩:=ten u2;have n1:DCalls Tryz.prog 11 [fds L,.agg (ur s),esT st,.agg [I x0,I x1,I x2,I x3,I x4,I x5,I x6,I x7,I x8,I x9],I tick] (.tup [.agg [I O,I n,I v,I E,I o,I w,I J,I N,I K,I m],.bool a2,esT a3]):=n1;have n2:DCalls Tryz.prog 11 [fds L,.agg (ur t),esT a3,.agg [I W,I y1,I U,I Q,I S,I y5,I X,I Z,I Y,I V],I tick] (.tup [.agg [I A,I e,I c,I u,I r,I F,I y,I q,I H,I M],.bool b2,esT b3]):=n2;have n3:DCalls Tryz.prog 11 [fds L,.agg (ur t),esT st,.agg [I W,I y1,I U,I Q,I S,I y5,I X,I Z,I Y,I V],I tick] (.tup [.agg [I A,I e,I c,I u,I r,I F,I y,I q,I H,I M],.bool b2,esT c3]):=n3;have n4:DCalls Tryz.prog 11 [fds L,.agg (ur s),esT c3,.agg [I x0,I x1,I x2,I x3,I x4,I x5,I x6,I x7,I x8,I x9],I tick] (.tup [.agg [I O,I n,I v,I E,I o,I w,I J,I N,I K,I m],.bool a2,esT b3]):=n4;have f1:eqL [I O,I n,I v,I E,I o,I w,I J,I N,I K,I m] [I O,I n,I v,I E,I o,I w,I J,I N,I K,I m]=true:=by have:=Fb [O,n,v,E,o,w,J,N,K,m] [O,n,v,E,o,w,J,N,K,m] rfl;rw [decide_eq_true rfl] at this;exact this
 have f2:eqL [I A,I e,I c,I u,I r,I F,I y,I q,I H,I M] [I A,I e,I c,I u,I r,I F,I y,I q,I H,I M]=true:=by have:=Fb [A,e,c,u,r,F,y,q,H,M] [A,e,c,u,r,F,y,q,H,M] rfl;rw [decide_eq_true rfl] at this;exact this
 clear o1 o2 o3 o4 u1 u2 u3 u4 hsk hvs P C;refine tV (β:=Unit) (fun _=>{sl:=[(0,.t (fds L)),(2,.t (esT st)),(7,.t (I tick)),(11,.ptr 11 0),(12,.ptr 12 0),(19,.ptr 19 0),(20,.ptr 20 0),(22,.ptr 22 0),(23,.t (.bool a2)),(24,.t (esT a3))],bx:=[(11,.d 10 [I x0,I x1,I x2,I x3,I x4,I x5,I x6,I x7,I x8,I x9]),(12,.d 10 [I W,I y1,I U,I Q,I S,I y5,I X,I Z,I Y,I V]),(19,.d 6 (ur s)),(20,.d 6 (ur t)),(22,.d 10 [I O,I n,I v,I E,I o,I w,I J,I N,I K,I m])]}) (fun _=>True) ?_ ?_
 ·repeat' ((conv=>whnf);first|refine uc _ (n1) ?_|(exact ⟨(),trivial,by (repeat' (first|exact wJ|refine And.intro ?_ ?_));done⟩)|refine aS ?_|fail)
 rintro _ _
 skip
 refine tV (β:=Unit) (fun _=>{sl:=[(0,.t (fds L)),(2,.t (esT st)),(7,.t (I tick)),(11,.ptr 11 0),(12,.ptr 12 0),(19,.ptr 19 0),(20,.ptr 20 0),(22,.ptr 22 0),(23,.t (.bool a2)),(25,.ptr 25 0),(26,.t (.bool b2)),(27,.t (esT b3))],bx:=[(11,.d 10 [I x0,I x1,I x2,I x3,I x4,I x5,I x6,I x7,I x8,I x9]),(12,.d 10 [I W,I y1,I U,I Q,I S,I y5,I X,I Z,I Y,I V]),(19,.d 6 (ur s)),(20,.d 6 (ur t)),(22,.d 10 [I O,I n,I v,I E,I o,I w,I J,I N,I K,I m]),(25,.d 10 [I A,I e,I c,I u,I r,I F,I y,I q,I H,I M])]}) (fun _=>True) ?_ ?_
 ·repeat' ((conv=>whnf);first|refine uc _ (n2) ?_|(exact ⟨(),trivial,by (repeat' (first|exact wJ|refine And.intro ?_ ?_));done⟩)|refine aS ?_|fail)
 rintro _ _
 skip
 refine tV (β:=Unit) (fun _=>{sl:=[(0,.t (fds L)),(2,.t (esT st)),(7,.t (I tick)),(11,.ptr 11 0),(12,.ptr 12 0),(19,.ptr 19 0),(20,.ptr 20 0),(22,.ptr 22 0),(23,.t (.bool a2)),(25,.ptr 25 0),(26,.t (.bool b2)),(27,.t (esT b3)),(28,.ptr 28 0),(29,.t (.bool b2)),(30,.t (esT c3))],bx:=[(11,.d 10 [I x0,I x1,I x2,I x3,I x4,I x5,I x6,I x7,I x8,I x9]),(12,.d 10 [I W,I y1,I U,I Q,I S,I y5,I X,I Z,I Y,I V]),(19,.d 6 (ur s)),(20,.d 6 (ur t)),(22,.d 10 [I O,I n,I v,I E,I o,I w,I J,I N,I K,I m]),(25,.d 10 [I A,I e,I c,I u,I r,I F,I y,I q,I H,I M]),(28,.d 10 [I A,I e,I c,I u,I r,I F,I y,I q,I H,I M])]}) (fun _=>True) ?_ ?_
 ·repeat' ((conv=>whnf);first|refine uc _ (n3) ?_|(exact ⟨(),trivial,by (repeat' (first|exact wJ|refine And.intro ?_ ?_));done⟩)|refine aS ?_|fail)
 rintro _ _
 skip
 refine tV (β:=Unit) (fun _=>{sl:=[(22,.ptr 22 0),(23,.t (.bool a2)),(25,.ptr 25 0),(26,.t (.bool b2)),(27,.t (esT b3)),(28,.ptr 28 0),(29,.t (.bool b2)),(31,.ptr 31 0),(32,.t (.bool a2)),(33,.t (esT b3))],bx:=[(22,.d 10 [I O,I n,I v,I E,I o,I w,I J,I N,I K,I m]),(25,.d 10 [I A,I e,I c,I u,I r,I F,I y,I q,I H,I M]),(28,.d 10 [I A,I e,I c,I u,I r,I F,I y,I q,I H,I M]),(31,.d 10 [I O,I n,I v,I E,I o,I w,I J,I N,I K,I m])]}) (fun _=>True) ?_ ?_
 ·repeat' ((conv=>whnf);first|refine uc _ (n4) ?_|(exact ⟨(),trivial,by (repeat' (first|exact wJ|refine And.intro ?_ ?_));done⟩)|refine aS ?_|fail)
 rintro _ _;clear n1 n2 n3 n4;cases a2 <;> cases b2 <;> repeat' ((conv=>whnf);first|exact trivial|refine uc _ (h0) ?_|refine nb_ _ f1 ?_|refine nb_ _ f2 ?_|refine uc _ (s1) ?_|refine rb1 ?_|(refine And.intro (by first|exact ⟨F8 ..,F8 ..⟩) ?_)|refine aS ?_|refine nb_ true rfl ?_)
end Go.ST
end
section
end
section
end
section
end
section
end
section
end
section
end
section
end
section
namespace Go.MM
open Go Go.DL Go.Proofs
theorem aInt{us:List T}(h:cB Tryz.prog 3 us): ∃n,mkT Tryz.prog 3 us=I n:=by
 obtain ⟨n,rfl,_⟩:=wu h;exact ⟨n,by unfold mkT;rw [Tryz.underlying3];rfl⟩
theorem aHead{us:List T}(h:cB Tryz.prog 27 us): ∃h,mkT Tryz.prog 27 us=hd h/\h.length=10:=by
 obtain ⟨x,rfl,a,_⟩:=IA h;exact ⟨x,Nv _,a⟩
theorem aFields{us:List T}(h:cB Tryz.prog 22 us)(d:aQ us<=1048576): ∃l,Les (mkT Tryz.prog 22 us) (yd l)/\l.length<2^60/\ ∀f∈l,f.name.size<2^62:=by
 obtain ⟨l,a,e,c⟩:=Gz h;exact ⟨l,a,by omega,fun f b=>by have:=c f b;omega⟩
end Go.MM
end
section
namespace Go.ST
open Go Go.DL Go.MM Go.Proofs
open Go.TY hiding Fd
def typesS:List TypeId:=[22,54,36,34,39,37,42,40,44,24,30,67,59,25,64,27,9,3,4]
theorem typesS_ok:eW Tryz.prog typesS=true:=by kernel_rfl
theorem Dt:Tryz.prog.cellsOf 64=4:=by kernel_rfl
theorem KJ(us:List T):mkT Tryz.prog 64 us= .agg us:=by unfold mkT;rw [Tryz.underlying64]
theorem Ky{us:List T}(h:us.length=4): ∃a b c d,us=[a,b,c,d]:=by
 match us,h with
 |[a,b,c,d],_=>exact ⟨a,b,c,d,rfl⟩
theorem Hs{us:List T}(h:cB Tryz.prog 64 us): ∃e:RE,dn us (uk e)/\e.key.length<aQ us:=by
 cases h with
 |struct h us i f=>
  rw [Tryz.underlying64] at h;cases h;rw [Dt] at i;obtain ⟨a,b,c,d,rfl⟩:=Ky i;have k:=f ⟨ "Var",9,0,false, "", "",0⟩ (by simp);have q:=f ⟨ "Key",59,1,false, "", "",16⟩ (by simp);have o:=f ⟨ "N",3,2,false, "", "",40⟩ (by simp);have p:=f ⟨ "At",3,3,false, "", "",48⟩ (by simp);simp only [yM,zG,F4,List.drop,List.take] at k q o p;obtain ⟨v,e0⟩:=yW k;obtain ⟨l,r,s⟩:=I4 q;obtain ⟨n,j,_⟩:=wu o;obtain ⟨m,g,_⟩:=wu p;simp only [List.cons.injEq,and_true] at e0 j g;subst e0;subst j;subst g;refine ⟨⟨v,l,n,m⟩,.cons (Les.refl _) rfl (dn.append (us:=[T.slice 1 (l.map I)]) r (.cons (Les.refl _) rfl (.cons (Les.refl _) rfl .nil))),?_⟩;simp only [aQ,T.bulk] at s ⊢;show l.length<_
  omega
 |int h|bool h|str h|nil h|slice h|array h=>rw [Tryz.underlying64] at h;cases h
theorem aEnts{us:List T}(h:cB Tryz.prog 25 us)(g:aQ us<=1048576): ∃st:List RE,Les (mkT Tryz.prog 25 us) (esT st)/\st.length<=1048576/\ ∀e∈st,kOk e:=by
 have e: ∀t,mkT Tryz.prog 25 [t]=t:=fun t=>by unfold mkT;rw [uZ];rfl
 cases h with
 |nil h=>exact ⟨[],by rw [e];exact Les.nil 4,by simp,by simp⟩
 |slice h xs c o=>
  rw [uZ] at h;cases h;rw [e,Dt];have n:xs.map (mkT Tryz.prog 64)=xs.map .agg:=List.map_congr_left fun x _=>KJ x
  rw [n] at g ⊢;simp only [aQ,T.bulk] at g;have key: ∃l:List RE,l.length=xs.length/\l.length<=aQ (xs.map .agg)/\(∀ r∈l,kOk r)/\ ∀(i:Nat) x (r:RE),xs[i]? =some x->l[i]? =some r->dn x (uk r):=by
   clear o n
   induction xs with
   |nil=>exact ⟨[],rfl,by simp,by simp,by simp⟩
   |cons x xs p=>
    simp only [List.map_cons,aQ,T.bulk] at g;obtain ⟨r,q,v⟩:=Hs (c x (by simp));obtain ⟨l,k1,k2,j,f⟩:=p (fun y a=>c y (by simp [a])) (by omega);refine ⟨r::l,by simp [k1],by simp only [List.map_cons,aQ,T.bulk,List.length_cons];omega,fun s b=>?_,fun i y s a b=>?_⟩
    ·rcases List.mem_cons.1 b with rfl|b
     ·show s.key.length<2^60
      omega
     ·exact j s b
    ·cases i with
     |zero=>simp at a b;subst a;subst b;exact q
     |succ i=>exact f i y s (by simpa using a) (by simpa using b)
  obtain ⟨l,k1,k2,j,f⟩:=key;refine ⟨l,Les.slice (by simp [k1]) fun i x y c a=>?_,by omega,j⟩;rw [List.getElem?_map] at c a;obtain ⟨u,k,rfl⟩:=Option.map_eq_some_iff.1 c;obtain ⟨m,d,rfl⟩:=Option.map_eq_some_iff.1 a;exact ⟨f i u m k d,uo m⟩
 |int h|bool h|str h|array h|struct h=>rw [uZ] at h;cases h
theorem aProgS{us:List T}(h:cB Tryz.prog 24 us)(d:aQ us<=1048576): ∃gs:List RG,Les (mkT Tryz.prog 24 us) (.slice 15 (gs.map uE))/\gs.length<=1048576/\ ∀g∈gs,SmG (2^39) g:=by
 obtain ⟨gs,a,e,b⟩:=I6 h;exact ⟨gs,a,by omega,fun g c=>by
  have:=b g c
  exact ⟨this.st.mono (by omega),by have:=this.wt;omega,fun _=>this.names (by omega)⟩⟩
end Go.ST
end
