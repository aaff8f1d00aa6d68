/- Joined by program: parts of a data level over the model, of the program's functions over it, and of the statement's proof. -/
import Derived.Test.YtnfonfjleonbdaaGreatGd
import Derived.Test.YtnfonfjleonbdaaGreatGc
import Derived.WalkKit
import Derived.Lib.Walk
import Derived.Lib.SliceRun
import Derived.Laws.NewBlocks
import Derived.Laws.Externs
import Derived.Shelf.RegionOpenPlain
import Derived.Test.YtnfonfjleonbdaaGreatProg
import Derived.KernelRfl
import Derived.Shelf.Lays8
import Derived.LoopN
import Derived.Shelf.SlLaysF0
import Derived.Shelf.SlGeneric
set_option maxRecDepth 100000
set_option maxHeartbeats 8000000
section
namespace Go.ST
open Go Go.DL Go.MM Go.Proofs
open Go.TY hiding Fd
def Ay(s:ByteArray)(n:Int):List (ByteArray×Int)->List (ByteArray×Int)
 |[]=>[(s,n)]
 |x::xs=>if x.1=s then (s,n)::xs else x::Ay s n xs
def zi(m:List (ByteArray×Int))(s:ByteArray):Int:=((m.find? fun p=>decide (p.1=s)).map (·.2)).getD 0
def esC(m:List (ByteArray×Int)):List (T×T):=m.map fun p=>(T.str p.1,I p.2)
theorem Jt(a b:ByteArray):(a==b)=decide (a=b):=by
 obtain ⟨a⟩:=a;obtain ⟨b⟩:=b
 by_cases h:a=b
 ·subst h;rw [decide_eq_true rfl];show (a==a)=true
  simp
 ·rw [decide_eq_false (fun e=>h (ByteArray.mk.inj e))];show (a==b)=false
  exact beq_false_of_ne h
theorem HT(a b:ByteArray):eqL (T.str a).cells (T.str b).cells=decide (a=b):=by
 show ((a==b)&&true)=_
 rw [Bool.and_true,Jt]
theorem Gk(s:ByteArray)(n:Int): ∀m:List (ByteArray×Int),bC (.str s) (I n) (esC m)=esC (Ay s n m)
 |[]=>rfl
 |x::xs=>by
  have a:=Gk s n xs;show cond (eqL (T.str s).cells (T.str x.1).cells) _ _=esC (Ay s n (x::xs))
  rw [HT];unfold Ay
  by_cases h:x.1=s
  ·rw [decide_eq_true h.symm,if_pos h];rfl
  ·rw [decide_eq_false (fun e=>h e.symm),if_neg h,cond_false];show (T.str x.1,I x.2)::bC (.str s) (I n) (esC xs)=_
   rw [a];rfl
theorem JU(s:ByteArray)(m:List (ByteArray×Int)):oB (I 0) false (eA (T.str s).cells (esC m))=I (zi m s):=by
 have key:eA (T.str s).cells (esC m)=((m.find? fun p=>decide (p.1=s)).map (·.2)).map I:=by
  induction m with
  |nil=>rfl
  |cons x xs a=>
   show cond (eqL (T.str s).cells (T.str x.1).cells) (some (I x.2)) (eA (T.str s).cells (esC xs))=_
   rw [HT,a,List.find?_cons]
   by_cases h:x.1=s
   ·rw [decide_eq_true h.symm,decide_eq_true h];rfl
   ·rw [decide_eq_false (fun e=>h e.symm),decide_eq_false h];rfl
 rw [key];unfold zi;cases (m.find? fun p=>decide (p.1=s)) <;> rfl
theorem Gh(s t:ByteArray)(n:Int)(m:List (ByteArray×Int)):zi (Ay s n m) t=if s=t then n else zi m t:=by
 unfold zi
 induction m with
 |nil=>unfold Ay;by_cases h:s=t <;> simp [h]
 |cons x xs b=>
  unfold Ay
  by_cases a:x.1=s
  ·rw [if_pos a,List.find?_cons,List.find?_cons]
   by_cases h:s=t
   ·simp [h]
   ·rw [decide_eq_false h,decide_eq_false (fun e=>h (a.symm.trans e)),if_neg h]
  ·rw [if_neg a,List.find?_cons,List.find?_cons]
   by_cases h:x.1=t
   ·rw [decide_eq_true h]
    have: ¬s=t:=fun e=>a (h.trans e.symm)
    rw [if_neg this]
   ·rw [decide_eq_false h];exact b
def AU(st:List RE):List (ByteArray×Int):=st.foldl (fun m e=>Ay e.var (zi m e.var+1) m) []
theorem CX{st:List RE}{i:Nat}(h:i<st.length):AU (st.take (i+1))=Ay st[i].var (zi (AU (st.take i)) st[i].var+1) (AU (st.take i)):=by
 unfold AU;rw [List.take_succ_eq_append_getElem h,List.foldl_append];rfl
theorem CW(st:List RE)(v:ByteArray): ∀i,i<=st.length->zi (AU (st.take i)) v=uD (st.take i) v:=by
 intro i
 induction i with
 |zero=>intro _;rfl
 |succ i b=>
  intro h;rw [CX h,Gh,BE h]
  by_cases a:st[i].var=v
  ·subst a;rw [if_pos rfl,if_pos rfl,b (by omega)];rfl
  ·rw [if_neg a,if_neg a,b (by omega)];rfl
theorem JT{ks:List Nat}{bx:Nat->Option BX}{b:Bool}{c:List Sh}{d a:List (T×T)}(h:d=a):LeB ks bx (.m b c d none) (some (.m b c a none)):=by rw [h];exact .same _
theorem Jj(vars:List RV)(K:vars.length<2^60)(Q: ∀v∈vars,VOk v)(st:List RE)(U:st.length<2^60)(N: ∀e∈st,kOk e):DCalls Tryz.prog 23 [vsT vars,esT st] (I (zt vars st)):=by
 refine dl2 mixed [.tmp 4] [I _] Tryz.func23 l23 ?_
 skip
 refine tT (α:=Nat) (fun i=>{sl:=[(0,.t (vsT vars)),(1,.t (esT st)),(5,.mp 9),(10,.t (esT st)),(11,.t (I st.length)),(12,.t (I i))],bx:=[(9,.m false [.str] (esC (AU (st.take i))) none)]})
  (fun i=>i<=st.length/\zZ vars (st.take i) (st.drop i)=zt vars st) (fun i=>st.length - i) 0 ⟨by omega,rfl⟩ ?_ ?_
 ·repeat' (first|(exact leI (by simp))|exact wJ|refine And.intro ?_ ?_)
 rintro i ⟨P,d⟩;rcases Nat.lt_or_ge i st.length with h|h
 ·have b:(i:Int)<(st.length:Int):=by omega
  rw [CQ h] at d;have u:=GK vars st[i] K;have B:=N st[i] (List.getElem_mem h);have x:=Ci h;have a:zr vars (st.take i) st[i]=match varOf vars st[i].var with
   |none=>4
   |some v=>if xB v st[i] (st.take i)=false then 1 else if yH (st.take i) st[i]=true then 10 else if 100<=uD (st.take i) st[i].var then 2 else 0:=rfl
  rcases DU vars st[i].var with ⟨y,w⟩|⟨k,f,y,w⟩
  ·rw [y] at u;rw [w] at a;dsimp only at a;rw [a,if_neg (by decide)] at d;rw [<- d]
   repeat' ((conv=>whnf);first|exact trivial|refine sC b ?_|(refine nv_ (.agg (uk st[i])) (by first|exact uP h) ?_)|refine uc _ (u) ?_|refine aD1 ?_|refine rix ?_|(refine And.intro (by first|exact uo _) ?_)|refine aS ?_|refine nT_ ?_)
  ·rw [y] at u;rw [w] at a;dsimp only at a;have z:=Ke vars[k] (Q _ (List.getElem_mem f)) st[i] B (st.take i) (by rw [List.length_take];omega);have E: ¬((k:Nat):Int)<0:=by omega
   cases F:xB vars[k] st[i] (st.take i) with
   |false=>
    rw [F] at z;rw [if_pos F] at a;rw [a,if_neg (by decide)] at d;rw [<- d]
    repeat' ((conv=>whnf);first|exact trivial|refine sC b ?_|(refine nv_ (.agg (uk st[i])) (by first|exact uP h) ?_)|refine uc _ (u) ?_|refine su E ?_|(refine nv_ (.agg (uM vars[k])) (by first|exact xE f) ?_)|(refine nv_ (esT (st.take i)) (by first|exact yi) ?_)|refine uc _ (z) ?_|refine rix ?_|(refine And.intro (by first|exact uo _) ?_)|refine aS ?_|refine nT_ ?_)
   |true=>
    rw [F] at z;rw [if_neg (show ¬xB vars[k] st[i] (st.take i)=false by simp [F])] at a;have q:=JU st[i].var (AU (st.take i));rw [CW st _ i P] at q;have J:=zf (st:=st.take i) (v:=st[i].var);rw [List.length_take] at J;have p:=Gk st[i].var (((uD (st.take i) st[i].var:Nat):Int)+1) (AU (st.take i));have C:=CX h;rw [CW st _ i P] at C;rw [<- C] at p;have H:IntKind.wrap .i64 (((uD (st.take i) st[i].var:Nat):Int)+1)=((uD (st.take i) st[i].var:Nat):Int)+1:=by rw [nW] <;> omega
    rw [<- H] at p
    by_cases M:0<i
    ·have g:(i:Int)>0:=by omega
     have j:i - 1<st.length:=by omega
     have A:IntKind.wrap .i64 ((i:Int) - 1)=((i - 1:Nat):Int):=by rw [nW] <;> omega
     have L:=xK (st[i - 1]'j) st[i] (N _ (List.getElem_mem j)) B;have T:=uv.r (st[i - 1]'j) st[i];rw [decide_eq_true M,Bool.true_and] at x;generalize S:uz (st[i - 1]'j) st[i]=c at *
     by_cases O:c= -1
     ·rw [show decide (c≠ -1)=false by simp [O]] at x;have n: ¬c>=0:=by omega
      rw [if_neg (by simp [x])] at a
      by_cases G:100<=uD (st.take i) st[i].var
      ·rw [if_pos G] at a;rw [a,if_neg (by decide)] at d;have D:((uD (st.take i) st[i].var:Nat):Int)>=100:=by omega
       rw [<- d]
       repeat' ((conv=>whnf);first|exact trivial|refine sC b ?_|refine sC g ?_|(refine nv_ (.agg (uk st[i])) (by first|exact uP h) ?_)|(refine nv_ (.agg (uk (st[i - 1]'j))) (by first|((rw [A];exact uP j);done)|fail) ?_)|refine uc _ (u) ?_|refine su E ?_|(refine nv_ (.agg (uM vars[k])) (by first|exact xE f) ?_)|(refine nv_ (esT (st.take i)) (by first|exact yi) ?_)|refine uc _ (z) ?_|refine uc _ (L) ?_|refine su n ?_|(refine nv_ (I (uD (st.take i) st[i].var:Nat)) (by first|exact q) ?_)|refine sC D ?_|refine rix ?_|(refine And.intro (by first|exact uo _|exact ⟨rfl,trivial,trivial⟩|exact ⟨rfl,rfl,trivial⟩|exact ⟨rfl,trivial⟩|(omega;done)|((rw [A];omega);done)|fail) ?_)|refine aS ?_|refine nT_ ?_)
      ·rw [if_neg G] at a;rw [a,if_pos rfl] at d;have D: ¬((uD (st.take i) st[i].var:Nat):Int)>=100:=by omega
       repeat' ((conv=>whnf);first|refine sC b ?_|refine sC g ?_|(refine nv_ (.agg (uk st[i])) (by first|exact uP h) ?_)|(refine nv_ (.agg (uk (st[i - 1]'j))) (by first|((rw [A];exact uP j);done)|fail) ?_)|refine uc _ (u) ?_|refine su E ?_|(refine nv_ (.agg (uM vars[k])) (by first|exact xE f) ?_)|(refine nv_ (esT (st.take i)) (by first|exact yi) ?_)|refine uc _ (z) ?_|refine uc _ (L) ?_|refine su n ?_|(refine nv_ (I (uD (st.take i) st[i].var:Nat)) (by first|exact q) ?_)|refine su D ?_|(refine And.intro (by first|exact uo _|exact ⟨rfl,trivial,trivial⟩|exact ⟨rfl,rfl,trivial⟩|exact ⟨rfl,trivial⟩|(omega;done)|((rw [A];omega);done)|fail) ?_)|refine aS ?_|refine nT_ ?_)
       exact ⟨i+1,⟨h,d⟩,by omega,by repeat' (first|(exact JT p.symm)|exact wJ|refine And.intro ?_ ?_)⟩
     ·rw [show decide (c≠ -1)=true by simp [O]] at x;have n:c>=0:=by omega
      rw [if_pos x] at a;rw [a,if_neg (by decide)] at d;rw [<- d]
      repeat' ((conv=>whnf);first|exact trivial|refine sC b ?_|refine sC g ?_|(refine nv_ (.agg (uk st[i])) (by first|exact uP h) ?_)|(refine nv_ (.agg (uk (st[i - 1]'j))) (by first|((rw [A];exact uP j);done)|fail) ?_)|refine uc _ (u) ?_|refine su E ?_|(refine nv_ (.agg (uM vars[k])) (by first|exact xE f) ?_)|(refine nv_ (esT (st.take i)) (by first|exact yi) ?_)|refine uc _ (z) ?_|refine uc _ (L) ?_|refine sC n ?_|refine rix ?_|(refine And.intro (by first|exact uo _|(omega;done)|((rw [A];omega);done)|fail) ?_)|refine aS ?_|refine nT_ ?_)
    ·have g: ¬(i:Int)>0:=by omega
     rw [decide_eq_false M,Bool.false_and] at x;rw [if_neg (by simp [x])] at a;have G: ¬100<=uD (st.take i) st[i].var:=by omega
     rw [if_neg G] at a;rw [a,if_pos rfl] at d;have D: ¬((uD (st.take i) st[i].var:Nat):Int)>=100:=by omega
     repeat' ((conv=>whnf);first|refine sC b ?_|refine su g ?_|(refine nv_ (.agg (uk st[i])) (by first|exact uP h) ?_)|refine uc _ (u) ?_|refine su E ?_|(refine nv_ (.agg (uM vars[k])) (by first|exact xE f) ?_)|(refine nv_ (esT (st.take i)) (by first|exact yi) ?_)|refine uc _ (z) ?_|(refine nv_ (I (uD (st.take i) st[i].var:Nat)) (by first|exact q) ?_)|refine su D ?_|(refine And.intro (by first|exact uo _|exact ⟨rfl,trivial,trivial⟩|exact ⟨rfl,rfl,trivial⟩|exact ⟨rfl,trivial⟩) ?_)|refine aS ?_|refine nT_ ?_)
     exact ⟨i+1,⟨h,d⟩,by omega,by repeat' (first|(exact JT p.symm)|exact wJ|refine And.intro ?_ ?_)⟩
 ·have b: ¬(i:Int)<(st.length:Int):=by omega
  obtain rfl:i=st.length:=by omega
  rw [<- d,List.drop_length]
  repeat' ((conv=>whnf);first|refine su b ?_|refine rix ?_|refine aS ?_|exact trivial)
theorem JV{i j:Nat}(h:i+j<2^61):IntKind.wrap .i64 ((IntKind.wrap .u64 (IntKind.wrap .i64 ((i:Int)+(j:Int)))).fdiv (2^(min (1:Int).toNat (IntKind.bits .u64))))=(((i+j) / 2:Nat):Int):=by
 rw [nW (n:=(i:Int)+j) (by omega) (by omega)];have a: ∀n:Int,0<=n->n<18446744073709551616->IntKind.wrap .u64 n=n:=fun n d c=>by
  unfold IntKind.wrap;simp [IntKind.bits,IntKind.signed];omega
 rw [a ((i:Int)+j) (by omega) (by omega)];have b:((i:Int)+(j:Int)).fdiv (2^(min (1:Int).toNat (IntKind.bits .u64)))=(((i+j) / 2:Nat):Int):=by
  show ((i:Int)+(j:Int)).fdiv 2=_
  rw [Int.fdiv_eq_ediv_of_nonneg _ (by omega)];omega
 rw [b,nW (by omega) (by omega)]
def isE(st:List RE)(e:RE):Bool:=(uB st e.var e.key).isSome
theorem IG{st:List RE}(a:uR st){e:RE}(h:uQ st e<st.length):isE st e=decide (uz st[uQ st e] e=0):=by
 unfold isE;rw [yo a,ggZ h];dsimp only
 by_cases b:uz st[uQ st e] e=0 <;> simp [b]
theorem EI{st:List RE}(a:uR st){e:RE}(h: ¬uQ st e<st.length):isE st e=false:=by
 unfold isE;rw [yo a,List.getElem?_eq_none (by omega)];rfl
theorem HO(st:List RE)(q:uR st)(F:st.length<2^40)(y: ∀x∈st,kOk x)(e:RE)(C:kOk e):
  DCalls Tryz.prog 118 [esT st,um e,.clos 29 []] (.tup [I (uQ st e),.bool (isE st e)]):=by
 refine dl2 mixed [.tmp 6,.tmp 7] [I _,.bool _] Tryz.func118 MO ?_;have D:=Bt st e
 repeat' ((conv=>whnf);first|(refine And.intro (by first|exact uo _) ?_)|fail)
 refine tT (α:=Nat×Nat) (fun p=>{sl:=[(0,.t (esT st)),(2,.t (.clos 29 [])),(4,.ptr 4 0),(8,.t (I st.length)),(9,.t (I p.1)),(10,.t (I p.2))],bx:=[(4,.d 4 (uk e))]})
  (fun p=>p.1<=uQ st e/\uQ st e<=p.2/\p.2<=st.length) (fun p=>p.2 - p.1) (0,st.length) ⟨Nat.zero_le _,D,Nat.le_refl _⟩ ?_ ?_
 ·repeat' (first|(exact leI (by simp))|exact wJ|refine And.intro ?_ ?_)
 rintro ⟨i,j⟩ ⟨B,z,w⟩;dsimp only at B z w;rcases Nat.lt_or_ge i j with u|u
 ·have a:(i:Int)<(j:Int):=by omega
  have k:=JV (i:=i) (j:=j) (by omega);have b:(i+j) / 2<st.length:=by omega
  have m:=xK st[(i+j) / 2] e (y _ (List.getElem_mem b)) C;have A:=CG q (e:=e) b;have E:=uv.r st[(i+j) / 2] e;generalize uz st[(i+j) / 2] e=c at *
  by_cases g:c= -1
  ·have f:c<0:=by omega
   have v:=A.1 g
   repeat' ((conv=>whnf);first|refine sC a ?_|(refine nv_ (.agg (uk st[(i+j) / 2])) (by first|((dsimp only;rw [k,Int.toNat_natCast];exact uP b);done)|fail) ?_)|refine uc _ (m) ?_|refine sC f ?_|(refine And.intro (by first|exact uo _|((dsimp only;rw [k];simp;omega);done)|fail) ?_)|refine aS ?_|refine nT_ ?_)
   exact ⟨((i+j) / 2+1,j),⟨v,z,w⟩,by dsimp only;omega,by repeat' (first|(exact leI (by dsimp only;rw [k,nW] <;> omega))|exact wJ|refine And.intro ?_ ?_)⟩
  ·have f: ¬c<0:=by omega
   have v:uQ st e<=(i+j) / 2:=Nat.le_of_not_lt fun h=>g (A.2 h)
   repeat' ((conv=>whnf);first|refine sC a ?_|(refine nv_ (.agg (uk st[(i+j) / 2])) (by first|((dsimp only;rw [k,Int.toNat_natCast];exact uP b);done)|fail) ?_)|refine uc _ (m) ?_|refine su f ?_|(refine And.intro (by first|exact uo _|((dsimp only;rw [k];simp;omega);done)|fail) ?_)|refine aS ?_|refine nT_ ?_)
   exact ⟨(i,(i+j) / 2),⟨B,v,by dsimp only;omega⟩,by dsimp only;omega,by repeat' (first|(exact leI k.symm)|exact wJ|refine And.intro ?_ ?_)⟩
 ·have a: ¬(i:Int)<(j:Int):=by omega
  obtain rfl:i=uQ st e:=by omega
  rcases Nat.lt_or_ge (uQ st e) st.length with b|b
  ·have n:((uQ st e:Nat):Int)<(st.length:Int):=by omega
   have m:=xK st[uQ st e] e (y _ (List.getElem_mem b)) C;rw [IG q b];generalize uz st[uQ st e] e=c at *
   by_cases g:c=0
   ·rw [decide_eq_true g]
    repeat' ((conv=>whnf);first|exact trivial|refine su a ?_|refine sC n ?_|(refine nv_ (.agg (uk st[uQ st e])) (by first|exact uP b) ?_)|refine uc _ (m) ?_|refine sE g ?_|refine rb1 ?_|refine rix ?_|(refine And.intro (by first|exact uo _) ?_)|refine aS ?_|refine nT_ ?_)
   ·rw [decide_eq_false g]
    repeat' ((conv=>whnf);first|exact trivial|refine su a ?_|refine sC n ?_|(refine nv_ (.agg (uk st[uQ st e])) (by first|exact uP b) ?_)|refine uc _ (m) ?_|refine sD g ?_|refine rb0 ?_|refine rix ?_|(refine And.intro (by first|exact uo _) ?_)|refine aS ?_|refine nT_ ?_)
  ·have n: ¬((uQ st e:Nat):Int)<(st.length:Int):=by omega
   rw [EI q (by omega)]
   repeat' ((conv=>whnf);first|refine su a ?_|refine su n ?_|refine rb0 ?_|refine rix ?_|refine aS ?_|exact trivial)
theorem EX(st:List RE)(a:uR st)(c:st.length<2^40)(b: ∀x∈st,kOk x)(e:RE)(d:kOk e):
  DCalls Tryz.prog 76 [esT st,um e,.clos 29 []] (.tup [I (uQ st e),.bool (isE st e)]):=by
 refine dl2 mixed [.tmp 6,.tmp 7] [I _,.bool _] Tryz.func76 l76 ?_;have h:=HO st a c b e d
 repeat' ((conv=>whnf);first|refine uc _ (h) ?_|refine rbx ?_|refine rix ?_|(refine And.intro (by first|exact uo _) ?_)|exact trivial)
abbrev zE:T:=.agg [.str ⟨#[]⟩,.nil,I 0,I 0]
def G4(o:Option RE):T:=match o with
 |some e=>.tup [um e,.bool true]
 |none=>.tup [zE,.bool false]
theorem J6(st:List RE)(d:uR st)(j:st.length<2^40)(i: ∀x∈st,kOk x)(v:ByteArray)(key:List Int)(n:key.length<2^60):
  DCalls Tryz.prog 25 [esT st,.str v,.slice 1 (key.map I)] (G4 (uB st v key)):=by
 have h:=EX st d j i ⟨v,key,0,0⟩ n;have a:=yo d ⟨v,key,0,0⟩;dsimp only at a;have m:isE st ⟨v,key,0,0⟩=(uB st v key).isSome:=rfl;rw [m] at h;cases f:uB st v key with
 |none=>
  rw [f] at h;refine dl2 mixed [.cell 6 64,.tmp 7] [zE,.bool false] Tryz.func25 l25 ?_
  repeat' ((conv=>whnf);first|refine uc _ (h) ?_|refine rb0 ?_|refine aS ?_|exact trivial)
 |some x=>
  rw [f] at h a;have b:uQ st ⟨v,key,0,0⟩<st.length:=by
   rcases Nat.lt_or_ge (uQ st ⟨v,key,0,0⟩) st.length with c|c
   ·exact c
   ·rw [List.getElem?_eq_none c] at a;cases a
  rw [ggZ b] at a;dsimp only at a;have k:st[uQ st ⟨v,key,0,0⟩]=x:=by
   split at a
   ·exact (Option.some.inj a).symm
   ·cases a
  have g:=uP b;rw [k] at g;refine dl2 mixed [.cell 6 64,.tmp 7] [um x,.bool true] Tryz.func25 l25 ?_;generalize uQ st ⟨v,key,0,0⟩=p at *
  repeat' ((conv=>whnf);first|exact trivial|refine uc _ (h) ?_|(refine nv_ (.agg (uk x)) (by first|exact g) ?_)|refine rb1 ?_|(refine And.intro (by first|exact uo _|((simp;omega);done)|fail) ?_)|refine aS ?_|refine nT_ ?_)
theorem JX(st:List RE)(M:st.length<2^60)(F: ∀x∈st,kOk x)(v:ByteArray)(key:List Int)(H:key.length<2^60):
  DCalls Tryz.prog 26 [esT st,.str v,.slice 1 (key.map I)] (G4 (uB st v key)):=by
 have J:((st.map um).length:Int)=st.length:=by rw [List.length_map]
 have C: ∀r,wpC Tryz.prog c26 (gA [esT st,.str v,.slice 1 (key.map I)]) (nX (dj Tryz.prog) [.cell 6 64,.tmp 7] r)->DCalls Tryz.prog 26 [esT st,.str v,.slice 1 (key.map I)] (lg r):=fun r G=>
  oi (rs:=[.cell 6 64,.tmp 7]) mixed Tryz.func26 l26 rfl rfl rfl (r:=r) (nlZ rfl) G
 have k: ∀r,(uB st v key=none->r=[zE,.bool false])->(∀ x,uB st v key=some x->r=[um x,.bool true])->wpC Tryz.prog c26 (gA [esT st,.str v,.slice 1 (key.map I)]) (nX (dj Tryz.prog) [.cell 6 64,.tmp 7] r):=fun r E A=>by
  skip
  refine tT (α:=Nat) (fun i=>{sl:=[(0,.t (esT st)),(1,.t (.str v)),(2,.t (.slice 1 (key.map I))),(6,.ptr 6 0),(8,.t (I i))],bx:=[(6,.d 4 [.str ⟨#[]⟩,.nil,I 0,I 0])]})
   (fun i=>i<=st.length/\uB st v key=uB (st.drop i) v key) (fun i=>st.length - i) 0 ⟨by omega,rfl⟩ ?_ ?_
  ·repeat' (first|exact wJ|refine And.intro ?_ ?_)
  rintro i ⟨L,f⟩;rcases Nat.lt_or_ge i st.length with h|h
  ·have g:(i:Int)<((st.map um).length:Int):=by omega
   have j:=eqS st[i].var v;have u:=Ba st[i].key key (F _ (List.getElem_mem h)) H;have hd:uB (st.drop i) v key=if st[i].var=v/\st[i].key=key then some st[i] else uB (st.drop (i+1)) v key:=by
    rw [List.drop_eq_getElem_cons h];unfold uB;rw [List.find?_cons]
    by_cases a:st[i].var=v <;> by_cases b:st[i].key=key <;> simp [a,b]
   have m:=xf (a:=st[i].key) (b:=key);have K:=uP h;have D:(uk st[i])[1]?.getD .nil= .slice 1 (st[i].key.map I):=rfl
   by_cases n:st[i].var=v
   ·rw [decide_eq_true n] at j
    by_cases p:st[i].key=key
    ·rw [f,hd,if_pos ⟨n,p⟩] at A;obtain rfl:=A _ rfl;have m:=m.2 p;rw [m] at u
     repeat' ((conv=>whnf);first|exact trivial|refine sC g ?_|(refine nv_ (.agg (uk st[i])) (by first|exact uP h) ?_)|refine nb_ _ j ?_|refine uc _ (u) ?_|refine aE1 ?_|refine rb1 ?_|(refine And.intro (by first|exact uo _) ?_)|refine aS ?_|refine nT_ ?_)
    ·rw [hd,if_neg (fun q=>p q.2)] at f;have w:vf st[i].key key≠0:=fun e=>p (m.1 e)
     generalize vf st[i].key key=c at *
     repeat' ((conv=>whnf);first|refine sC g ?_|(refine nv_ (.agg (uk st[i])) (by first|exact uP h) ?_)|refine nb_ _ j ?_|refine uc _ (u) ?_|refine sD w ?_|refine aS ?_|refine nT_ ?_)
     exact ⟨i+1,⟨h,f⟩,by omega,by repeat' (first|exact wJ|refine And.intro ?_ ?_)⟩
   ·rw [decide_eq_false n] at j;rw [hd,if_neg (fun q=>n q.1)] at f
    repeat' ((conv=>whnf);first|refine sC g ?_|(refine nv_ (.agg (uk st[i])) (by first|exact uP h) ?_)|refine nb_ _ j ?_|refine aS ?_|refine nT_ ?_)
    exact ⟨i+1,⟨h,f⟩,by omega,by repeat' (first|exact wJ|refine And.intro ?_ ?_)⟩
  ·have g: ¬(i:Int)<((st.map um).length:Int):=by omega
   rw [List.drop_eq_nil_of_le h] at f;obtain rfl:=E f
   repeat' ((conv=>whnf);first|refine su g ?_|refine rb0 ?_|refine aS ?_|exact trivial)
 cases f:uB st v key with
 |none=>exact C [zE,.bool false] (k [zE,.bool false] (fun _=>rfl) (fun x B=>by rw [f] at B;cases B))
 |some x=>exact C [um x,.bool true] (k [um x,.bool true] (fun h=>by rw [f] at h;cases h) (fun y z=>by rw [f] at z;cases z;rfl))
theorem AF(e:RE): ∀(st:List RE) (d:Bool),(uF e d st).length<=st.length+1
 |[],d=>by unfold uF;split <;> simp
 |x::xs,true=>by
  have:=AF e xs true
  have h:(uF e true xs).length<=xs.length:=by
   clear this
   induction xs with
   |nil=>simp [uF]
   |cons y ys c=>unfold uF;simp only [Bool.true_eq_false,and_false,if_false,List.nil_append,Bool.true_or,List.length_append,List.length_cons];split <;> simp <;> omega
  unfold uF;simp only [Bool.true_eq_false,and_false,if_false,List.nil_append,Bool.true_or,List.length_append,List.length_cons];split <;> simp <;> omega
 |x::xs,false=>by
  have b:=AF e xs false;have h:(uF e true xs).length<=xs.length:=by
   clear b
   induction xs with
   |nil=>simp [uF]
   |cons y ys c=>unfold uF;simp only [Bool.true_eq_false,and_false,if_false,List.nil_append,Bool.true_or,List.length_append,List.length_cons];split <;> simp <;> omega
  unfold uF;rw [List.length_append,List.length_append,List.length_cons]
  by_cases a:uz x e= -1
  ·rw [if_neg (by simp [a]),if_pos (by omega),show (false||decide (uz x e≠ -1))=false by simp [a]];simp;omega
  ·rw [if_pos ⟨a,rfl⟩,show (false||decide (uz x e≠ -1))=true by simp [a]];split <;> simp <;> omega
theorem Dm(o:List RE)(y:RE):(o++[y]).map um=o.map um++[um y]:=by rw [List.map_append];rfl
theorem Es(e x:RE)(xs:List RE)(d:Bool):uF e d (x::xs)=(if uz x e≠ -1/\d=false then [e] else [])++((if uz x e≠0 then [x] else [])++uF e (d||decide (uz x e≠ -1)) xs):=rfl
theorem Hn{st:List RE}{v:ByteArray}{i:Nat}(h:i<st.length):ofE (st.take (i+1)) v=ofE (st.take i) v++if st[i].var=v then [st[i]] else []:=by
 unfold ofE;rw [List.take_succ_eq_append_getElem h,List.filter_append]
 by_cases a:st[i].var=v <;> simp [a]
theorem NG(st:List RE)(v:ByteArray)(g:st.length<2^40):DCalls Tryz.prog 31 [esT st,.str v] (esT (ofE st v)):=by
 refine dl2 mixed [.tmp 4] [.slice 4 _] Tryz.func31 l31 ?_;have j:((st.map um).length:Int)=st.length:=by rw [List.length_map]
 skip
 refine tT (α:=Nat) (fun i=>{sl:=[(0,.t (esT st)),(1,.t (.str v)),(5,.own 26 64 4 ((ofE (st.take i) v).map um)),(6,.t (I i))],bx:=[]})
  (fun i=>i<=st.length) (fun i=>st.length - i) 0 (by simp) ?_ ?_
 ·repeat' (first|exact wJ|refine And.intro ?_ ?_)
 rintro i k;rcases Nat.lt_or_ge i st.length with h|h
 ·have a:(i:Int)<((st.map um).length:Int):=by omega
  have d:=eqS st[i].var v;have b:=Hn (v:=v) h;have f:(ofE (st.take i) v).length<=i:=by
   have:=zf (st:=st.take i) (v:=v)
   unfold uD at this;rw [List.length_take] at this;omega
  by_cases c:st[i].var=v
  ·rw [decide_eq_true c] at d;rw [if_pos c] at b
   repeat' ((conv=>whnf);first|refine sC a ?_|(refine nv_ (.agg (uk st[i])) (by first|exact uP h) ?_)|refine nb_ _ d ?_|(refine And.intro (by first|exact uo _|((simp only [List.length_map];omega);done)|fail) ?_)|refine aS ?_|refine nT_ ?_)
   exact ⟨i+1,h,by omega,by repeat' (first|(exact ug (by rw [b];exact Dm _ _))|exact wJ|refine And.intro ?_ ?_)⟩
  ·rw [decide_eq_false c] at d;rw [if_neg c,List.append_nil] at b
   repeat' ((conv=>whnf);first|refine sC a ?_|(refine nv_ (.agg (uk st[i])) (by first|exact uP h) ?_)|refine nb_ _ d ?_|refine aS ?_|refine nT_ ?_)
   exact ⟨i+1,h,by omega,by repeat' (first|(exact ug (by rw [b]))|exact wJ|refine And.intro ?_ ?_)⟩
 ·have a: ¬(i:Int)<((st.map um).length:Int):=by omega
  obtain rfl:i=st.length:=by omega
  rw [List.take_length]
  repeat' ((conv=>whnf);first|refine su a ?_|refine aS ?_|exact trivial)
theorem KW(st:List RE)(J:st.length<2^30)(D: ∀x∈st,kOk x)(e:RE)(G:kOk e):DCalls Tryz.prog 62 [esT st,um e] (esT (uF e false st)):=by
 refine dl2 mixed [.tmp 4] [.slice 4 _] Tryz.func62 l62 ?_;have H:((st.map um).length:Int)=st.length:=by rw [List.length_map]
 have w:=AF e st false
 repeat' ((conv=>whnf);first|(refine And.intro (by first|exact uo _) ?_)|fail)
 refine tx 0 (α:=Nat×Bool×Nat×List RE) (β:=Bool×Nat×List RE) (fun p=>{sl:=[(0,.t (esT st)),(3,.ptr 3 0),(5,.own p.2.2.1 64 4 (p.2.2.2.map um)),(6,.t (.bool p.2.1)),(7,.t (I p.1))],bx:=[(3,.d 4 (uk e))]})
  (fun p=>p.1<=st.length/\(p.2.2.1=30\/p.2.2.1=39)/\p.2.2.2++uF e p.2.1 (st.drop p.1)=uF e false st) (fun p=>st.length - p.1)
  (fun q=>{sl:=[(3,.ptr 3 0),(5,.own q.2.1 64 4 (q.2.2.map um)),(6,.t (.bool q.1))],bx:=[(3,.d 4 (uk e))]}) (fun q=>(q.2.1=30\/q.2.1=39)/\q.2.2++uF e q.1 []=uF e false st) (0,false,30,[]) ⟨by simp,Or.inl rfl,rfl⟩ ?_ ?_ ?_
 ·repeat' (first|exact wJ|refine And.intro ?_ ?_)
 ·rintro ⟨i,d,r,a⟩ ⟨F,g,f⟩;dsimp only at F g f;have k:a.length<=st.length+1:=by
   have:=congrArg List.length f
   rw [List.length_append] at this;omega
  rcases Nat.lt_or_ge i st.length with h|h
  ·have m:(i:Int)<((st.map um).length:Int):=by omega
   rw [List.drop_eq_getElem_cons h,Es] at f;have A:=C8 st[i] e (D _ (List.getElem_mem h)) G;have y:=uP h;obtain ⟨x,E⟩: ∃x,st[i]=x:=⟨_,rfl⟩
   rw [E] at f A y;have B:=uv.r x e;generalize uz x e=c at *
   clear w
   repeat' ((conv=>whnf);first|refine sC m ?_|refine aS ?_|fail)
   refine tV (β:=Unit) (fun _=>{sl:=[(0,.t (esT st)),(3,.ptr 3 0),(5,.own r 64 4 (a.map um)),(6,.t (.bool d)),(7,.t (I i)),(8,.t (I c))],bx:=[(3,.d 4 (uk e))]}) (fun _=>True) ?_ ?_
   ·repeat' ((conv=>whnf);first|(refine nv_ (.agg (uk x)) (by first|exact y) ?_)|refine uc _ (A) ?_|(exact ⟨(),trivial,by (repeat' (first|exact wJ|refine And.intro ?_ ?_));done⟩)|(refine And.intro (by first|exact uo _) ?_)|refine aS ?_|refine nT_ ?_)
   rintro _ _
   skip
   refine tV (β:=Bool×Nat×List RE) (fun p=>{sl:=[(0,.t (esT st)),(3,.ptr 3 0),(5,.own p.2.1 64 4 (p.2.2.map um)),(6,.t (.bool p.1)),(7,.t (I i)),(8,.t (I c))],bx:=[(3,.d 4 (uk e))]})
    (fun p=>(p.2.1=30\/p.2.1=39)/\p.2.2.length<=st.length+2/\p.2.2++((if c≠0 then [x] else [])++uF e p.1 (st.drop (i+1)))=uF e false st) ?_ ?_
   ·by_cases u:c>=0
    ·have hd:decide (c≠ -1)=true:=by simp;omega
     rw [hd,Bool.or_true] at f;cases d with
     |false=>
      rw [if_pos ⟨by omega,rfl⟩, <-List.append_assoc] at f;have b:(30=30\/30=39)/\(a++[e]).length<=st.length+2/\(a++[e])++((if c≠0 then [x] else [])++uF e true (st.drop (i+1)))=uF e false st:=⟨Or.inl rfl,by rw [List.length_append,List.length_cons,List.length_nil];omega,f⟩
      clear f;rcases g with rfl|rfl <;> repeat' ((conv=>whnf);first|refine sC u ?_|(exact ⟨(true,30,a++[e]),b,by (repeat' (first|(exact ug (Dm a e))|exact wJ|refine And.intro ?_ ?_));done⟩)|refine aS ?_|fail)
     |true=>
      rw [if_neg (by simp),List.nil_append] at f;have b: ∀r,(r=30\/r=39)->(r=30\/r=39)/\a.length<=st.length+2/\a++((if c≠0 then [x] else [])++uF e true (st.drop (i+1)))=uF e false st:=fun r g=>⟨g,by omega,f⟩
      clear f;rcases g with rfl|rfl
      ·repeat' ((conv=>whnf);first|refine sC u ?_|(exact ⟨(true,30,a),b 30 (Or.inl rfl),by (repeat' (first|exact wJ|refine And.intro ?_ ?_));done⟩)|refine aS ?_|fail)
      ·repeat' ((conv=>whnf);first|refine sC u ?_|(exact ⟨(true,39,a),b 39 (Or.inr rfl),by (repeat' (first|exact wJ|refine And.intro ?_ ?_));done⟩)|refine aS ?_|fail)
    ·have hd:decide (c≠ -1)=false:=by simp;omega
     rw [hd,Bool.or_false,if_neg (fun C=>C.1 (by omega)),List.nil_append] at f;have b: ∀r,(r=30\/r=39)->(r=30\/r=39)/\a.length<=st.length+2/\a++((if c≠0 then [x] else [])++uF e d (st.drop (i+1)))=uF e false st:=fun r g=>⟨g,by omega,f⟩
     clear f;rcases g with rfl|rfl
     ·repeat' ((conv=>whnf);first|refine su u ?_|(exact ⟨(d,30,a),b 30 (Or.inl rfl),by (repeat' (first|exact wJ|refine And.intro ?_ ?_));done⟩)|refine aS ?_|fail)
     ·repeat' ((conv=>whnf);first|refine su u ?_|(exact ⟨(d,39,a),b 39 (Or.inr rfl),by (repeat' (first|exact wJ|refine And.intro ?_ ?_));done⟩)|refine aS ?_|fail)
   clear g f k;rintro ⟨d,r,a⟩ ⟨g,k,j⟩;dsimp only at g k j;have n:st.length - (i+1)<st.length - i:=by omega
   by_cases v:c=0
   ·rw [if_neg (by omega),List.nil_append] at j;rcases g with rfl|rfl
    ·have b:i+1<=st.length/\(30=30\/30=39)/\a++uF e d (st.drop (i+1))=uF e false st:=⟨h,Or.inl rfl,j⟩
     clear j
     repeat' ((conv=>whnf);first|refine sF v ?_|(exact ⟨(i+1,d,30,a),b,n,by (repeat' (first|exact wJ|refine And.intro ?_ ?_));done⟩)|refine aS ?_|fail)
    ·have b:i+1<=st.length/\(39=30\/39=39)/\a++uF e d (st.drop (i+1))=uF e false st:=⟨h,Or.inr rfl,j⟩
     clear j
     repeat' ((conv=>whnf);first|refine sF v ?_|(exact ⟨(i+1,d,39,a),b,n,by (repeat' (first|exact wJ|refine And.intro ?_ ?_));done⟩)|refine aS ?_|fail)
   ·rw [if_pos v, <-List.append_assoc] at j;have b:i+1<=st.length/\(39=30\/39=39)/\(a++[x])++uF e d (st.drop (i+1))=uF e false st:=⟨h,Or.inr rfl,j⟩
    clear j;rcases g with rfl|rfl <;> repeat' ((conv=>whnf);first|refine sG v ?_|(refine nv_ (.agg (uk x)) (by first|exact y) ?_)|(exact ⟨(i+1,d,39,a++[x]),b,n,by (repeat' (first|(exact ug (Dm a x))|exact wJ|refine And.intro ?_ ?_));done⟩)|(refine And.intro (by first|exact uo _|((simp only [List.length_map];omega);done)|fail) ?_)|refine aS ?_|refine nT_ ?_)
  ·have m: ¬(i:Int)<((st.map um).length:Int):=by omega
   rw [List.drop_eq_nil_of_le h] at f
   repeat' ((conv=>whnf);first|refine su m ?_|(exact ⟨(d,r,a),⟨g,f⟩,by (repeat' (first|exact wJ|refine And.intro ?_ ?_));done⟩)|refine aS ?_|fail)
 ·rintro ⟨d,r,a⟩ ⟨g,f⟩;dsimp only at g f;have k:a.length<=st.length+1:=by
   have:=congrArg List.length f
   rw [List.length_append] at this;omega
  rw [<- f];cases d with
  |false=>
   have z:uF e false []=[e]:=rfl;rw [z,Dm];rcases g with rfl|rfl <;> repeat' ((conv=>whnf);first|refine aS ?_|exact trivial)
  |true=>
   have z:uF e true []=[]:=rfl;rw [z,List.append_nil];rcases g with rfl|rfl <;> repeat' ((conv=>whnf);first|refine aS ?_|exact trivial)
end Go.ST
end
section
namespace Go.ST
open Go Go.DL Go.MM Go.Proofs
abbrev zeV:Value:=.agg #[.string ByteArray.empty,.slice none 0 0,.int .i64 0,.int .i64 0]
theorem yG:(Tryz.prog.info? 64).map (fun i=>(i.zero,i.size,i.bytes))=some (some zeV,4,56):=by kernel_rfl
theorem u9:Tryz.prog.underlying 25=some (.slice 64):=by kernel_rfl
abbrev uy(k:Nat):Array Value:=Builtin.zeroCells zeV.cells k
theorem C9(w:World)(q:TypeId)(base:Option Addr)(n c:Nat)(d:List Value)(g:(Builtin.firstCells 4 n (.slice base n c)).run Tryz.prog w.drew= .ok d.toArray w.drew)(b off m f:Nat)(a:List Value)(z:a.length=m * 4)
  (y: ∀j u,a[j]? =some u->w.cell? ⟨b,off+j,none⟩=some u) (A: ∀u∈a,u.oneCell'=true) (p:c<n+m) (t:(n+m) * 56<=140737488355328):
  (Builtin.append_ #[25,25] q #[.slice base n c,.slice (some ⟨b,off,none⟩) m f]).run Tryz.prog w=
   .ok (.slice (some ⟨w.heap.size,0,none⟩) (n+m) (grownCap w (n+m) c 64)) (w.drew.alloc (.cells ((d++a).toArray++uy (grownCap w (n+m) c 64 - (n+m))) 64)):=by
 obtain ⟨i0,x,k,h,i⟩:=info_parts yG;have r:Src Tryz.prog i0.size 25 (.slice (some ⟨b,off,none⟩) m f) m a w:=by
  rw [h];exact Src.ofSlice w u9 ⟨b,off,none⟩ m f a z (fun j u v=>by rw [Addr.add_lit];exact y j u v) A
 exact run_append_grow_src w 25 25 q 64 i0 zeV u9 x k base n c d (by rw [h];exact g) _ m a r p (by omega) (by rw [i];exact growslice_fits p t)
theorem nil_eq(w:World)(a:Option Addr)(n c b d:Nat):(binOp .eql 25 (.slice a n c) (.slice none b d)).run Tryz.prog w= .ok (.bool a.isNone) w:=Lib.run_eql_slice_nil w _ _ a n c b d u9
theorem Ez(b off n c:Nat)(a:List Value)(w:World)(y:0<n)(t:a.length=n * 4)(z:n * 56<=140737488355328)(r: ∀j u,a[j]? =some u->w.cell? ⟨b,off+j,none⟩=some u)(x: ∀u∈a,u.oneCell'=true):
  Calls Tryz.prog 114 #[.slice (some ⟨b,off,none⟩) n c] w fun e m=> ∃G,n<=G/\G<=maxLen/\e= .returned (.slice (some ⟨w.heap.size+1,0,none⟩) n G)/\
   m=((w.alloc (.cells #[] 64)).drew.alloc (.cells (a.toArray++uy (G - n)) 64)):=by
 have k:=nil_eq;have p: ∀w,Sem.run Tryz.prog (underlying 25) w= .ok (TypeDesc.slice 64) w:=run_underlying u9;have mx:=mixed;have i:=fun q=>C9 (w.alloc (.cells #[] 64)) q (some ⟨w.heap.size,0,none⟩) 0 0 [] (run_firstCells_some (P:=Tryz.prog) (w.alloc (.cells #[] 64)).drew 4 0 ⟨w.heap.size,0,none⟩ 0 0 [] rfl (fun j v h=>by simp at h)) b off n c a t (fun j u h=>Lib.cell?_alloc_some _ (r j u h)) x (by omega) (by omega)
 simp only [Nat.zero_add,List.nil_append] at i;have f:=grownCap_ge (w.alloc (.cells #[] 64)) n 0 64;have g:=grownCap_le_maxLen (w.alloc (.cells #[] 64)) n 0 64 (by unfold maxLen;omega);generalize grownCap (w.alloc (.cells #[] 64)) n 0 64=G at *
 have d:(w.alloc (.cells #[] 64)).heap.size=w.heap.size+1:=Array.size_push _;rw [d] at i
 go_enter Tryz.func114,Tryz.ntmps114
 go_wp2_with (at_builtin;refine Lib.wpList_append_run _ rfl _ _ _ _ rfl _ _ rfl rfl _ _ (i _) ?_)
 go_ret
 exact ⟨G,f,g,rfl,rfl⟩
theorem Dw(a:Option Addr)(c:Nat)(w:World):Calls Tryz.prog 114 #[.slice a 0 c] w fun e f=> ∃b,e= .returned (.slice b 0 0)/\(f=w\/f=w.alloc (.cells #[] 64)):=by
 have h:=nil_eq;have m: ∀w,Sem.run Tryz.prog (underlying 25) w= .ok (TypeDesc.slice 64) w:=run_underlying u9;have mx:=mixed;obtain ⟨i0,n,i,q,g⟩:=info_parts yG;cases a with
 |none=>
  go_enter Tryz.func114,Tryz.ntmps114
  go_wp2
  go_ret
  exact ⟨_,rfl,Or.inl rfl⟩
 |some a=>
  have k:=fun p=>run_append_room_src (P:=Tryz.prog) (w.alloc (.cells #[] 64)) 25 25 p 64 i0 u9 n w.heap.size 0 0 0 (.slice (some a) 0 c) 0 [] (Src.ofSlice (P:=Tryz.prog) (size:=i0.size) (w.alloc (.cells #[] 64)) u9 a 0 c [] (by simp) (fun j u d=>by simp at d) (by simp)) (by omega) (fun j d=>by simp at d) (fun j d=>by simp at d)
  go_enter Tryz.func114,Tryz.ntmps114
  go_wp2_with (at_builtin;refine Lib.wpList_append_run _ rfl _ _ _ _ rfl _ _ rfl rfl _ _ (k _) ?_)
  go_ret
  exact ⟨_,rfl,Or.inr rfl⟩
theorem zW{P:Program}{b:Array Oper}{o:Oper}{a:Act}{w:World}{K:Act->World->Prop}{Q:Exit->Act->World->Prop}{E:Prop}
  (k:o.guard=none) (d x:Operand) (f i:TypeId) (c:o.op=Op.call {callee:=Callee.builtin Builtin.copy,args:= #[d,x],argTypes:= #[f,i]})
  (v u:Value) (hd:a.eval d=v) (n:a.eval x=u) {g:Value} {h:World} (m:(Builtin.copy_ #[f,i] o.type #[v,u]).run P w= .ok g h) (j:K (a.put o.dst g) h):
  if Region.wanted o (yielded b a.tmps)=true then Oper.wp P o a w K Q else E:=by
 have p:Region.wanted o (yielded b a.tmps)=true:=by simp [Region.wanted,k]
 rw [if_pos p];unfold Oper.wp;simp [execOp,c,resolve,invoke,builtin,hd,n,m,Result.andThen];exact j
theorem vM(b:Nat)(vs:List Value)(o:Nat)(w:World)(h: ∀j,j<vs.length->(w.cell? ⟨b,o+j,none⟩).isSome=true)(k:Nat)(a:(w.cell? ⟨b,k,none⟩).isSome=true):((w.setCells b o vs).cell? ⟨b,k,none⟩).isSome=true:=by
 by_cases c:o<=k/\k<o+vs.length
 ·have:=World.cell?_setCells_in b vs o w h (k - o) (by omega)
  rw [show o+(k - o)=k by omega] at this;rw [this];rfl
 ·rw [World.cell?_setCells_out b vs o w ⟨b,k,none⟩ (fun _ _=>by show k<o\/o+vs.length<=k;omega)];exact a
theorem szE:(Tryz.prog.info? 64).map (·.size)=some 4:=by
 obtain ⟨i0,d,c,a,b⟩:=info_parts yG;rw [d];simp [a]
theorem Jf(w:World):(Go.sizeOf 64).run Tryz.prog w= .ok 4 w:=by
 obtain ⟨i0,d,c,a,b⟩:=info_parts yG;simp [Go.sizeOf,typeInfo,d,a]
theorem Gf(b off n c i vb a vc:Nat)(f vs:List Value)(w:World)(hi:i<n)(bp:n+1<=c)(Mh:c<=9223372036854775807)(r:vb≠b)
  (I:f.length=n * 4) (S:vs.length=4)
  (O: ∀j v,f[j]? =some v->w.cell? ⟨b,off+j,none⟩=some v) (p: ∀j,j<(n+1) * 4->(w.cell? ⟨b,off+j,none⟩).isSome=true) (t: ∀j,j<(n+1) * 4->w.frozen? ⟨b,off+j,none⟩=false)
  (G: ∀j v,vs[j]? =some v->w.cell? ⟨vb,a+j,none⟩=some v) (T: ∀v∈f,v.oneCell'=true) (A: ∀v∈vs,v.oneCell'=true)
  (V U:TypeId) (H D:Nat) (J:w.shape? vb=some (V,H)) (L:w.shape? b=some (U,D)) (M:D≠0) (N:w.frozen? ⟨vb,a,none⟩=false) (B:w.frozen? ⟨vb,H,none⟩=false):
  Calls Tryz.prog 176 #[.slice (some ⟨b,off,none⟩) n c,.int .i64 i,.slice (some ⟨vb,a,none⟩) 1 vc] w fun e w'=>
   e= .returned (.slice (some ⟨b,off,none⟩) (n+1) c)/\w'=(w.drew.setCells b (off+(i+1) * 4) (f.drop (i * 4))).setCells b (off+i * 4) vs:=by
 have u24: ∀w,Sem.run Tryz.prog (underlying 25) w= .ok (TypeDesc.slice 64) w:=run_underlying u9;have mx:=mixed;have Z: ¬((i:Int)=(n:Int)):=by omega
 have y:=szE;have K: ∀E Q,(callFunc 192 #[.slice (some ⟨vb,a,none⟩) 1 vc,.slice (some ⟨b,off+(i+1) * 4,none⟩) E Q]).run Tryz.prog w= .ok (.value (.bool false)) w:=fun E Q=>by
  rw [run_callFunc_extern Tryz.func192 (by kernel_rfl) (by kernel_rfl) (by kernel_rfl) (e:=Extern.SlicesOverlaps.overlaps #[25,25] #[4]) (by kernel_rfl),
   Lib.run_overlaps_apart w 25 4 64 u9 4 Jf ⟨vb,a,none⟩ ⟨b,off+(i+1) * 4,none⟩ 1 vc E Q r V U H D J L M N B]
  rfl
 have F:(f.drop (i * 4)).length=(n - i) * 4:=by rw [List.length_drop,I];omega
 have X: ∀q m C,(Builtin.copy_ #[25,25] q #[.slice (some ⟨b,off+(i+1) * 4,none⟩) (n - i) m,.slice (some ⟨b,off+i * 4,none⟩) (n+1 - i) C]).run Tryz.prog w.drew= .ok (goInt (Nat.min (n+1 - i) (n - i))) (w.drew.setCells b (off+(i+1) * 4) (f.drop (i * 4))):=fun q m C=>
  sO w.drew _ _ q 64 4 b (off+(i+1) * 4) (n - i) m ⟨b,off+i * 4,none⟩ (n+1 - i) C (f.drop (i * 4)) u9 y (by rw [F];simp only [Nat.min_def];split <;> omega)
   (fun j v g=>by rw [Addr.add_lit,Nat.add_assoc];exact O (i * 4+j) v (by rwa [List.getElem?_drop] at g))
   (fun j g=>by rw [Nat.add_assoc];exact p _ (by omega)) (fun j g=>by rw [Nat.add_assoc];exact t _ (by omega)) (fun v hv=>T v (List.mem_of_mem_drop hv))
 obtain ⟨u,d⟩: ∃u,u=w.drew.setCells b (off+(i+1) * 4) (f.drop (i * 4)):=⟨_,rfl⟩
 have Mw: ∀k,k<(n+1) * 4->(u.cell? ⟨b,off+k,none⟩).isSome=true:=fun k hk=>by
  rw [d];exact vM b _ _ _ (fun j g=>by rw [Nat.add_assoc];exact p _ (by omega)) _ (p k hk)
 have Mi: ∀(W:World),(∀ x,W.cell? x=u.cell? x)->(∀ x,W.frozen? x=u.frozen? x)-> ∀q m,(Builtin.copy_ #[25,25] q #[.slice (some ⟨b,off+i * 4,none⟩) (n+1 - i) m,.slice (some ⟨vb,a,none⟩) 1 vc]).run Tryz.prog W= .ok (goInt (Nat.min 1 (n+1 - i))) (W.setCells b (off+i * 4) vs):=fun W z P q m=>
  sO W _ _ q 64 4 b (off+i * 4) (n+1 - i) m ⟨vb,a,none⟩ 1 vc vs u9 y (by rw [S];simp only [Nat.min_def];split <;> omega)
   (fun j v g=>by
    rw [Addr.add_lit,z,d,World.cell?_setCells_out b _ _ _ _ (fun h _=>absurd h r)];exact G j v g)
   (fun j g=>by rw [z,Nat.add_assoc];exact Mw _ (by omega)) (fun j g=>by rw [P,d,World.frozen?_setCells,Nat.add_assoc];exact t _ (by omega)) A
 rw [<- d] at X;have hw1:IntKind.i64.wrap ((i:Int)+1)=(i:Int)+1:=by rw [IntKind.wrap_i64];omega
 have hw2:IntKind.i64.wrap ((n:Int)+1)=(n:Int)+1:=by rw [IntKind.wrap_i64];omega
 have Y:(0:Int)<=(i:Int)+1:=by omega
 have hin:i<=n:=by omega
 have htn:((i:Int)+1).toNat=i+1:=by omega
 have NX:((n:Int)+1).toNat=n+1:=by omega
 have hb2: ¬(c=i+1):=by omega
 have hb3:(i:Int)<=(n:Int)+1:=by omega
 have hb4: ¬(c=i):=by omega
 go_enter Tryz.func176,Tryz.ntmps176
 go_wp2_with (simp only [K])
 go_region_law_o (refine zW rfl _ _ 25 25 rfl _ _ (by simp [Act.eval,Act.put]) (by simp [Act.eval,Act.put]) (X _ _ _) ?_)
 go_wp2_with (at_builtin;refine wpList_copy_run' _ rfl _ _ 25 25 rfl _ _ rfl rfl (Mi _ (fun _=>rfl) (fun _=>rfl) _ _) ?_)
 go_ret
 first|exact ⟨rfl,rfl⟩|exact ⟨rfl,by rw [d]⟩
theorem Hi(b off n c vb a vc:Nat)(vs:List Value)(w:World)(B:n+1<=c)(C:c<=9223372036854775807)
  (f:vs.length=4) (i: ∀j,j<4->(w.cell? ⟨b,off+n * 4+j,none⟩).isSome=true) (g: ∀j,j<4->w.frozen? ⟨b,off+n * 4+j,none⟩=false)
  (k: ∀j v,vs[j]? =some v->w.cell? ⟨vb,a+j,none⟩=some v) (h: ∀v∈vs,v.oneCell'=true):
  Calls Tryz.prog 176 #[.slice (some ⟨b,off,none⟩) n c,.int .i64 n,.slice (some ⟨vb,a,none⟩) 1 vc] w fun e y=>
   e= .returned (.slice (some ⟨b,off,none⟩) (n+1) c)/\y=w.setCells b (off+n * 4) vs:=by
 have t: ∀w,Sem.run Tryz.prog (underlying 25) w= .ok (TypeDesc.slice 64) w:=run_underlying u9;have mx:=mixed;obtain ⟨i0,z,x,d,p⟩:=info_parts yG;have q:Src Tryz.prog i0.size 25 (.slice (some ⟨vb,a,none⟩) 1 vc) 1 vs w:=by
  rw [d];exact Src.ofSlice w u9 ⟨vb,a,none⟩ 1 vc vs (by omega) (fun j u r=>by rw [Addr.add_lit];exact k j u r) h
 have m:=fun A=>run_append_room_src w 25 25 A 64 i0 u9 z b off n c _ 1 vs q B (by rw [f,d];exact i) (by rw [f,d];exact g)
 rw [d] at m
 go_enter Tryz.func176,Tryz.ntmps176
 go_wp2_with (at_builtin;refine Lib.wpList_append_run _ rfl _ _ _ _ rfl _ _ rfl rfl _ _ (m _) ?_)
 go_ret
 exact ⟨rfl,rfl⟩
theorem C1(base:Option Addr)(n c vb b vc:Nat)(g vs:List Value)(w:World)(t:c<n+1)(k:(n+1) * 56<=140737488355328)
  (u:vs.length=4) (d:(Builtin.firstCells 4 n (.slice base n c)).run Tryz.prog w.drew= .ok g.toArray w.drew)
  (h: ∀j v,vs[j]? =some v->w.cell? ⟨vb,b+j,none⟩=some v) (f: ∀v∈vs,v.oneCell'=true):
  Calls Tryz.prog 176 #[.slice base n c,.int .i64 n,.slice (some ⟨vb,b,none⟩) 1 vc] w fun e p=>
   e= .returned (.slice (some ⟨w.heap.size,0,none⟩) (n+1) (grownCap w (n+1) c 64))/\
   p=w.drew.alloc (.cells ((g++vs).toArray++uy (grownCap w (n+1) c 64 - (n+1))) 64):=by
 have m: ∀w,Sem.run Tryz.prog (underlying 25) w= .ok (TypeDesc.slice 64) w:=run_underlying u9;have mx:=mixed;have i:=fun q=>C9 w q base n c g d vb b 1 vc vs (by omega) h f t k
 go_enter Tryz.func176,Tryz.ntmps176
 cases base with
 |none=>
  go_wp2_with (at_builtin;refine Lib.wpList_append_run _ rfl _ _ _ _ rfl _ _ rfl rfl _ _ (i _) ?_)
  all_goals (go_ret;exact ⟨rfl,rfl⟩)
 |some a=>
  obtain ⟨y,x,r⟩:=a
  go_wp2_with (at_builtin;refine Lib.wpList_append_run _ rfl _ _ _ _ rfl _ _ rfl rfl _ _ (i _) ?_)
  all_goals (go_ret;exact ⟨rfl,rfl⟩)
theorem Hh(b off n c i vb d vc:Nat)(g vs:List Value)(w:World)(hi:i<n)(hnc:n<=c)(bp:c<n+1)(iI:(n+1) * 56<=140737488355328)
  (hcl:g.length=n * 4) (hvl:vs.length=4)
  (B: ∀j v,g[j]? =some v->w.cell? ⟨b,off+j,none⟩=some v)
  (I: ∀j v,vs[j]? =some v->w.cell? ⟨vb,d+j,none⟩=some v) (T: ∀v∈g,v.oneCell'=true) (h1v: ∀v∈vs,v.oneCell'=true):
  Calls Tryz.prog 176 #[.slice (some ⟨b,off,none⟩) n c,.int .i64 i,.slice (some ⟨vb,d,none⟩) 1 vc] w fun e w'=>
   e= .returned (.slice (some ⟨w.heap.size,0,none⟩) (n+1) (grownCap w (n+1) c 64))/\
   w'=(((w.alloc (.cells ((g.take (i * 4)).toArray++uy (n+1 - i)++uy (grownCap w (n+1) c 64 - (n+1))) 64)).drew.setCells w.heap.size (i * 4) vs).drew).setCells w.heap.size ((i+1) * 4) (g.drop (i * 4)):=by
 have u24: ∀w,Sem.run Tryz.prog (underlying 25) w= .ok (TypeDesc.slice 64) w:=run_underlying u9;have mx:=mixed;obtain ⟨i0,Z,P,hzs,E⟩:=info_parts yG;have hz2: ¬((i:Int)=(n:Int)):=by omega
 have hz3:(c:Int)<(n:Int)+1:=by omega
 have F:=szE;have hbw:b<w.heap.size:=block_lt_of_cell (B 0 _ (ggZ (by omega)));have O:vb<w.heap.size:=block_lt_of_cell (I 0 _ (ggZ (by omega)));have J:(n:Int)+1 - (i:Int)=((n+1 - i:Nat):Int):=by omega
 have z:i+(n+1 - i)=n+1:=by omega
 have y:(Builtin.firstCells i0.size i (.slice (some ⟨b,off,none⟩) i c)).run Tryz.prog w.drew= .ok (g.take (i * 4)).toArray w.drew:=by
  rw [hzs];exact run_firstCells_some w.drew 4 i ⟨b,off,none⟩ i c (g.take (i * 4)) (by rw [List.length_take];omega) (fun j v f=>by
   rw [Addr.add_lit];rw [List.getElem?_take] at f;split at f
   ·exact B j v f
   ·cases f)
 have H:Tryz.prog.underlying 3=some (.int .i64):=by kernel_rfl
 have u: ∀p,(Builtin.append_ #[25,3] p #[.slice (some ⟨b,off,none⟩) i c,.int .i64 ((n:Int)+1 - (i:Int))]).run Tryz.prog w=
   .ok (.slice (some ⟨w.heap.size,0,none⟩) (n+1) (grownCap w (n+1) c 64)) (w.drew.alloc (.cells ((g.take (i * 4)).toArray++uy (n+1 - i)++uy (grownCap w (n+1) c 64 - (n+1))) 64)):=fun p=>by
  have h:=Lib.run_append_grow_zeros w 25 3 p 64 i0 _ .i64 .i64 u9 H Z P (some ⟨b,off,none⟩) i c (g.take (i * 4)) y (n+1 - i) (by omega) (by omega) (by omega) (by omega) (by rw [E];omega) (by rw [E,z];exact growslice_fits bp iI);rw [z] at h;rw [J];exact h
 obtain ⟨G,L⟩: ∃G,G=grownCap w (n+1) c 64:=⟨_,rfl⟩
 obtain ⟨a,Q⟩: ∃a:Array Value,a=(g.take (i * 4)).toArray++uy (n+1 - i)++uy (G - (n+1)):=⟨_,rfl⟩
 rw [<- L] at u ⊢;rw [<- Q] at u ⊢;have K: ∀k,(uy k).size=k * 4:=fun k=>by simp [uy,Builtin.zeroCells,Value.cells]
 have hRl:(n+1) * 4<=a.size:=by
  rw [Q,Array.size_append,Array.size_append,K,K,List.size_toArray,List.length_take];omega
 obtain ⟨r,m⟩: ∃r,r=w.drew.alloc (.cells a 64):=⟨_,rfl⟩
 rw [<- m] at u;have S: ∀j,j<(n+1) * 4->(r.cell? ⟨w.heap.size,j,none⟩).isSome=true:=fun j f=>by
  rw [m,World.cell?_alloc_at (w:=w.drew) a _ w.heap.size j rfl,Array.getElem?_eq_getElem (by omega)];rfl
 have D: ∀j,r.frozen? ⟨w.heap.size,j,none⟩=false:=fun j=>by rw [m];exact World.frozen?_alloc_at (w:=w.drew) a _ w.heap.size j rfl
 have hOb: ∀j v,w.cell? ⟨b,j,none⟩=some v->r.cell? ⟨b,j,none⟩=some v:=fun j v h=>by rw [m,World.cell?_alloc_past (w:=w.drew) _ b j hbw];exact h
 have M: ∀j v,w.cell? ⟨vb,j,none⟩=some v->r.cell? ⟨vb,j,none⟩=some v:=fun j v h=>by rw [m,World.cell?_alloc_past (w:=w.drew) _ vb j O];exact h
 have Mj: ∀(W:World),(∀ x,W.cell? x=r.cell? x)->(∀ x,W.frozen? x=r.frozen? x)-> ∀p A,(Builtin.copy_ #[25,25] p #[.slice (some ⟨w.heap.size,i * 4,none⟩) (n+1 - i) A,.slice (some ⟨vb,d,none⟩) 1 vc]).run Tryz.prog W= .ok (goInt (Nat.min 1 (n+1 - i))) (W.setCells w.heap.size (i * 4) vs):=fun W q C p A=>
  sO W _ _ p 64 4 w.heap.size (i * 4) (n+1 - i) A ⟨vb,d,none⟩ 1 vc vs u9 F (by rw [hvl];simp only [Nat.min_def];split <;> omega)
   (fun j v f=>by rw [Addr.add_lit,q];exact M _ v (I j v f))
   (fun j f=>by rw [q];exact S _ (by omega)) (fun j f=>by rw [C];exact D _) h1v
 have hGn:n+1<=G:=by rw [L];exact grownCap_ge w _ _ _
 have NP:G<=9223372036854775807:=by
  have:=grownCap_le_maxLen w (n+1) c 64 (by unfold maxLen;omega)
  rw [<- L] at this;unfold maxLen at this;omega
 have hGi: ¬(G=i):=by omega
 have NQ: ¬(G=i+1):=by omega
 have hci: ¬(c=i):=by omega
 have N:b≠w.heap.size:=by omega
 have hdl:(g.drop (i * 4)).length=(n - i) * 4:=by rw [List.length_drop,hcl];omega
 have JF: ∀(W:World),(∀ x,W.cell? x=(r.setCells w.heap.size (i * 4) vs).cell? x)->(∀ x,W.frozen? x=(r.setCells w.heap.size (i * 4) vs).frozen? x)-> ∀p A X,(Builtin.copy_ #[25,25] p #[.slice (some ⟨w.heap.size,(i+1) * 4,none⟩) (n - i) A,.slice (some ⟨b,off+i * 4,none⟩) (n - i) X]).run Tryz.prog W= .ok (goInt (Nat.min (n - i) (n - i))) (W.setCells w.heap.size ((i+1) * 4) (g.drop (i * 4))):=fun W q C p A X=>
  sO W _ _ p 64 4 w.heap.size ((i+1) * 4) (n - i) A ⟨b,off+i * 4,none⟩ (n - i) X (g.drop (i * 4)) u9 F (by rw [hdl];simp only [Nat.min_def];split <;> omega)
   (fun j v f=>by
    rw [Addr.add_lit,q,World.cell?_setCells_out _ _ _ _ _ (fun h _=>absurd h N),Nat.add_assoc];exact hOb _ v (B (i * 4+j) v (by rwa [List.getElem?_drop] at f)))
   (fun j f=>by rw [q];exact vM _ _ _ _ (fun t ht=>S _ (by omega)) _ (S _ (by omega)))
   (fun j f=>by rw [C,World.frozen?_setCells];exact D _) (fun v hv=>T v (List.mem_of_mem_drop hv))
 subst m;have V: ∀x,((w.alloc (.cells a 64)).drew).cell? x=(w.drew.alloc (.cells a 64)).cell? x:=fun x=>rfl
 have U: ∀x,((w.alloc (.cells a 64)).drew).frozen? x=(w.drew.alloc (.cells a 64)).frozen? x:=fun x=>rfl
 have Y: ∀x,(((w.alloc (.cells a 64)).drew.setCells w.heap.size (i * 4) vs).drew).cell? x=((w.drew.alloc (.cells a 64)).setCells w.heap.size (i * 4) vs).cell? x:=fun x=>rfl
 have hF2: ∀x,(((w.alloc (.cells a 64)).drew.setCells w.heap.size (i * 4) vs).drew).frozen? x=((w.drew.alloc (.cells a 64)).setCells w.heap.size (i * 4) vs).frozen? x:=fun x=>rfl
 have hw1:IntKind.i64.wrap ((i:Int)+1)=(i:Int)+1:=by rw [IntKind.wrap_i64];omega
 have hw2:IntKind.i64.wrap ((n:Int)+1)=(n:Int)+1:=by rw [IntKind.wrap_i64];omega
 have hw3:IntKind.i64.wrap ((n:Int)+1 - (i:Int))=(n:Int)+1 - (i:Int):=by rw [IntKind.wrap_i64];omega
 have hb1:(0:Int)<=(i:Int)+1:=by omega
 have hin:i<=n:=by omega
 have htn:((i:Int)+1).toNat=i+1:=by omega
 have hb3:(i:Int)<=(n:Int):=by omega
 clear J z y Q L hRl
 go_enter Tryz.func176,Tryz.ntmps176
 go_wp2_with (first
  |(at_builtin;refine Lib.wpList_append_run _ rfl _ _ _ _ rfl _ _ rfl rfl _ _ (u _) ?_)
  |(at_builtin;refine wpList_copy_run' _ rfl _ _ 25 25 rfl _ _ rfl rfl (Mj _ V U _ _) ?_)
  |(at_builtin;refine wpList_copy_run' _ rfl _ _ 25 25 rfl _ _ rfl rfl (JF _ (fun _=>rfl) (fun _=>rfl) _ _ _) ?_))
 go_region_law_o (refine zW rfl _ _ 25 25 rfl (.slice (some ⟨w.heap.size,(i+1) * 4,none⟩) (n - i) (G - (i+1))) (.slice (some ⟨b,off+i * 4,none⟩) (n - i) (c - i)) (by simp [Act.eval,Act.put]) (by simp [Act.eval,Act.put]) (JF _ Y hF2 3 (G - (i+1)) (c - i)) ?_)
 go_wp2
 go_ret
 exact ⟨rfl,rfl⟩
theorem ve{B:Nat}{a:World}(b:Nat)(c:B<=b): ∀(vs:List Value) (o:Nat) (w:World),DL.Below B a w->DL.Below B a (w.setCells b o vs)
 |[],_,_,h=>h
 |v::r,o,_,h=>ve b c r (o+1) _ ⟨h.toBelow.setCell (p:=⟨b,o,none⟩) c v,h.dr⟩
theorem AR{w:World}{r i n:Nat}{b vs:List Value}(k:b.length=n * 4)(d:vs.length=4)(p:i<=n)(m: ∀(j:Nat) (v:Value),j<i * 4->b[j]? =some v->w.cell? ⟨r,j,none⟩=some v)(h: ∀(j:Nat) (v:Value),vs[j]? =some v->w.cell? ⟨r,i * 4+j,none⟩=some v)
  (g: ∀(j:Nat) (v:Value),(b.drop (i * 4))[j]? =some v->w.cell? ⟨r,(i+1) * 4+j,none⟩=some v): ∀(j:Nat) (u:Value),(b.take (i * 4)++(vs++b.drop (i * 4)))[j]? =some u->w.cell? ⟨r,j,none⟩=some u:=by
 intro j u a;have c:(b.take (i * 4)).length=i * 4:=by rw [List.length_take];omega
 by_cases f:j<i * 4
 ·rw [List.getElem?_append_left (by omega),List.getElem?_take_of_lt f] at a;exact m j u f a
 ·rw [List.getElem?_append_right (by omega),c] at a
  by_cases q:j - i * 4<4
  ·rw [List.getElem?_append_left (by omega)] at a
   have:=h _ u a
   rwa [show i * 4+(j - i * 4)=j by omega] at this
  ·rw [List.getElem?_append_right (by omega),d] at a
   have:=g _ u a
   rwa [show (i+1) * 4+(j - i * 4 - 4)=j by omega] at this
theorem IF{W:World}{base g n G i vb:Nat}{D:Array Value}{m vs:List Value}(T:W.heap[g]? =some (.cells D 64 (0,0)))(dU:D.size=G * 4)(N: ∀(j:Nat) (v:Value),m[j]? =some v->D[j]? =some v)(q:m.length=n * 4)
  (a:W.heap[vb]? =some (.cells vs.toArray 64 (0,0))) (t:vs.length=4) (hne:vb≠g) (hn:0<n) (X:n<=G) (hG:G<=9223372036854775807) (hi:i<=n) (iI:(n+1) * 56<=140737488355328)
  (Q: ∀v∈m,v.oneCell'=true) (A: ∀v∈vs,v.oneCell'=true) (z:base<=g) (x:base<=W.heap.size):
  Calls Tryz.prog 176 #[.slice (some ⟨g,0,none⟩) n G,.int .i64 i,.slice (some ⟨vb,0,none⟩) 1 1] W fun e I=> ∃r c,e= .returned (.slice (some ⟨r,0,none⟩) (n+1) c)/\n+1<=c/\base<=r/\r<I.heap.size/\DL.Below base W I/\
   ∀(j:Nat) (u:Value),(m.take (i * 4)++(vs++m.drop (i * 4)))[j]? =some u->I.cell? ⟨r,j,none⟩=some u:=by
 have U: ∀j,W.cell? ⟨g,j,none⟩=D[j]? :=fun j=>cell_of_row _ _ _ _ _ _ T
 have cv: ∀j,W.cell? ⟨vb,j,none⟩=vs[j]? :=fun j=>by rw [cell_of_row _ _ _ _ _ _ a];simp
 have fg: ∀j,W.frozen? ⟨g,j,none⟩=false:=fun j=>by unfold World.frozen?;simp [T]
 have fv: ∀j,W.frozen? ⟨vb,j,none⟩=false:=fun j=>by unfold World.frozen?;simp [a]
 have O:g<W.heap.size:=(Array.getElem?_eq_some_iff.1 T).1;have G9: ∀j v,m[j]? =some v->W.cell? ⟨g,0+j,none⟩=some v:=fun j v h=>by rw [Nat.zero_add,U];exact N j v h
 have S: ∀j v,vs[j]? =some v->W.cell? ⟨vb,0+j,none⟩=some v:=fun j v h=>by rw [Nat.zero_add,cv];exact h
 have sg:W.shape? g=some (64,G * 4):=by unfold World.shape?;simp [T,dU]
 have sv:W.shape? vb=some (64,4):=by unfold World.shape?;simp [a,t]
 have f: ∀j,j<G * 4->(W.cell? ⟨g,j,none⟩).isSome=true:=fun j d=>by rw [U,Array.getElem?_eq_getElem (by omega)];rfl
 have y: ∀(w:World) b o (vs:List Value),(w.setCells b o vs).heap.size=w.heap.size:=by
  intro w b o vs
  induction vs generalizing w o with
  |nil=>rfl
  |cons v r ih=>rw [World.setCells,ih];simp [World.setCell]
 rcases Nat.lt_or_ge i n with K|K
 ·rcases Nat.lt_or_ge n G with H|H
  ·refine (Gf g 0 n G i vb 0 1 m vs W K H hG hne q t G9 (fun j d=>by rw [Nat.zero_add];exact f j (by omega)) (fun j _=>by rw [Nat.zero_add];exact fg j) S Q A _ _ _ _ sv sg (by omega) (fv 0) (fv 4)).mono ?_;rintro e I ⟨rfl,rfl⟩;simp only [Nat.zero_add];refine ⟨g,G,rfl,H,z,by rw [y,y];exact O,ve g z _ _ _ (ve g z _ _ _ (DL.Below.refl _ _).drew),?_⟩;have Y:(m.drop (i * 4)).length=(n - i) * 4:=by rw [List.length_drop,q];omega
   have s1: ∀k,k<G * 4->((W.drew.setCells g ((i+1) * 4) (m.drop (i * 4))).cell? ⟨g,k,none⟩).isSome=true:=fun k E=>vM g (m.drop (i * 4)) ((i+1) * 4) W.drew (fun j d=>f ((i+1) * 4+j) (by omega)) k (f k E)
   refine AR q t hi (fun j v d a=>?_) (fun j v a=>?_) (fun j v a=>?_)
   ·rw [World.cell?_setCells_out _ _ _ _ _ (fun _ _=>by left;show j<i * 4;omega),World.cell?_setCells_out _ _ _ _ _ (fun _ _=>by left;show j<(i+1) * 4;omega)];show W.cell? _=_
    rw [U];exact N j v a
   ·have d:=(gsZ a).1
    have:=World.cell?_setCells_in g vs (i * 4) _ (fun k E=>s1 _ (by omega)) j d
    rw [this, <-a,ggZ d]
   ·have d:=(gsZ a).1;rw [World.cell?_setCells_out _ _ _ _ _ (fun _ _=>by right;show i * 4+vs.length<=(i+1) * 4+j;omega)]
    have:=World.cell?_setCells_in g (m.drop (i * 4)) ((i+1) * 4) W.drew (fun k E=>f _ (by omega)) j d
    rw [this, <-a,ggZ d]
  ·refine (Hh g 0 n G i vb 0 1 m vs W K X (by omega) iI q t G9 S Q A).mono ?_;rintro e I ⟨rfl,rfl⟩;have F:=grownCap_ge W (n+1) G 64;generalize grownCap W (n+1) G 64=C at *
   have L: ∀k,(uy k).size=k * 4:=fun k=>by simp [uy,Builtin.zeroCells,Value.cells]
   obtain ⟨p,BV⟩: ∃p:Array Value,p=(m.take (i * 4)).toArray++uy (n+1 - i)++uy (C - (n+1)):=⟨_,rfl⟩
   rw [<- BV];have hRl:(n+1) * 4<=p.size:=by
    rw [BV,Array.size_append,Array.size_append,L,L,List.size_toArray,List.length_take];omega
   have Z: ∀j v,j<i * 4->m[j]? =some v->p[j]? =some v:=fun j v d a=>by
    rw [BV,Array.getElem?_append_left (by rw [Array.size_append,L,List.size_toArray,List.length_take];omega),Array.getElem?_append_left (by rw [List.size_toArray,List.length_take];omega),List.getElem?_toArray,List.getElem?_take_of_lt d];exact a
   have V:(W.alloc (.cells p 64)).heap.size=W.heap.size+1:=Array.size_push _;have hN: ∀j,(W.alloc (.cells p 64)).drew.cell? ⟨W.heap.size,j,none⟩=p[j]? :=fun j=>World.cell?_alloc_at p _ W.heap.size j rfl
   have J: ∀j,j<(n+1) * 4->((W.alloc (.cells p 64)).drew.cell? ⟨W.heap.size,j,none⟩).isSome=true:=fun j d=>by rw [hN,Array.getElem?_eq_getElem (by omega)];rfl
   refine ⟨W.heap.size,C,rfl,F,x,?_,ve _ x _ _ _ (ve _ x _ _ _ (((DL.Below.refl _ _).alloc x _).drew)).drew,?_⟩
   ·rw [y];show _<(World.setCells _ _ _ _).heap.size
    rw [y];show _<(W.alloc _).heap.size
    rw [V];omega
   have Y:(m.drop (i * 4)).length=(n - i) * 4:=by rw [List.length_drop,q];omega
   obtain ⟨M,B⟩: ∃M,M=(W.alloc (.cells p 64)).drew.setCells W.heap.size (i * 4) vs:=⟨_,rfl⟩
   rw [<- B];have s1: ∀k,k<(n+1) * 4->(M.drew.cell? ⟨W.heap.size,k,none⟩).isSome=true:=fun k E=>by
    show (M.cell? _).isSome=true
    rw [B];exact vM W.heap.size vs (i * 4) _ (fun j d=>J (i * 4+j) (by omega)) k (J k E)
   refine AR q t hi (fun j v d a=>?_) (fun j v a=>?_) (fun j v a=>?_)
   ·rw [World.cell?_setCells_out _ _ _ _ _ (fun _ _=>by left;show j<(i+1) * 4;omega)];show M.cell? _=_
    rw [B,World.cell?_setCells_out _ _ _ _ _ (fun _ _=>by left;show j<i * 4;omega),hN];exact Z j v d a
   ·have d:=(gsZ a).1;rw [World.cell?_setCells_out _ _ _ _ _ (fun _ _=>by left;show i * 4+j<(i+1) * 4;omega)];show M.cell? _=_
    rw [B]
    have:=World.cell?_setCells_in W.heap.size vs (i * 4) _ (fun k E=>J _ (by omega)) j d
    rw [this, <-a,ggZ d]
   ·have d:=(gsZ a).1
    have:=World.cell?_setCells_in W.heap.size (m.drop (i * 4)) ((i+1) * 4) M.drew (fun k E=>s1 _ (by omega)) j d
    rw [this, <-a,ggZ d]
 ·obtain rfl:i=n:=by omega
  have ht:m.take (i * 4)=m:=List.take_of_length_le (by omega);have hd:m.drop (i * 4)=[]:=List.drop_eq_nil_of_le (by omega);rcases Nat.lt_or_ge i G with H|H
  ·refine (Hi g 0 i G vb 0 1 vs W H hG t (fun j d=>by rw [Nat.zero_add];exact f _ (by omega)) (fun j _=>fg _) S A).mono ?_;rintro e I ⟨rfl,rfl⟩;simp only [Nat.zero_add];refine ⟨g,G,rfl,H,z,by rw [y];exact O,ve g z _ _ _ (DL.Below.refl _ _),?_⟩;refine AR q t hi (fun j v d a=>?_) (fun j v a=>?_) (fun j v a=>?_)
   ·rw [World.cell?_setCells_out _ _ _ _ _ (fun _ _=>by left;show j<i * 4;omega),U];exact N j v a
   ·have d:=(gsZ a).1
    have:=World.cell?_setCells_in g vs (i * 4) W (fun k E=>f _ (by omega)) j d
    rw [this, <-a,ggZ d]
   ·rw [hd] at a;simp at a
  ·have P:(Builtin.firstCells 4 i (.slice (some ⟨g,0,none⟩) i G)).run Tryz.prog W.drew= .ok m.toArray W.drew:=
    run_firstCells_some W.drew 4 i ⟨g,0,none⟩ i G m q (fun j v d=>by rw [Addr.add_lit];exact G9 j v d)
   refine (C1 (some ⟨g,0,none⟩) i G vb 0 1 m vs W (by omega) iI t P S A).mono ?_;rintro e I ⟨rfl,rfl⟩;have F:=grownCap_ge W (i+1) G 64;generalize grownCap W (i+1) G 64=C at *
   refine ⟨W.heap.size,C,rfl,F,x,?_,(DL.Below.refl _ _).drew.alloc x _,?_⟩
   ·show _<(W.drew.alloc _).heap.size
    have:(W.drew.alloc (.cells ((m++vs).toArray++uy (C - (i+1))) 64)).heap.size=W.heap.size+1:=Array.size_push _
    rw [this];omega
   ·intro j u hu;rw [ht,hd,List.append_nil] at hu;rw [World.cell?_alloc_at (w:=W.drew) _ _ W.heap.size j rfl,Array.getElem?_append_left (by rw [List.size_toArray];exact (gsZ hu).1),List.getElem?_toArray];exact hu
theorem IZ(v0:Value)(g i m t:Value)(hc: ∀x∈[g,i,m,t],x.oneCell'=true)(b off n J:Nat)(a:List Value)(w:World)(p:Nat)(Q:0<n)(hp:p<=n)(O:a.length=n * 4)(iI:(n+1) * 56<=140737488355328)
  (P:v0= .slice (some ⟨b,off,none⟩) n J) (T: ∀j u,a[j]? =some u->w.cell? ⟨b,off+j,none⟩=some u) (V: ∀u∈a,u.oneCell'=true)
  (W:Calls Tryz.prog 76 #[v0,.agg #[g,i,m,t],.func (.func 29) #[] #[]] (w.alloc (.cells #[g,i,m,t] 64)) fun e y=>e= .returned (.tuple #[.int .i64 p,.bool false])/\DL.Below (w.heap.size+1) (w.alloc (.cells #[g,i,m,t] 64)) y):
  Calls Tryz.prog 139 #[v0,.agg #[g,i,m,t]] w fun e y=> ∃r c,e= .returned (.slice (some ⟨r,0,none⟩) (n+1) c)/\n+1<=c/\w.heap.size<=r/\r<y.heap.size/\DL.Below w.heap.size w y/\
   ∀(j:Nat) (u:Value),(a.take (p * 4)++([g,i,m,t]++a.drop (p * 4)))[j]? =some u->y.cell? ⟨r,j,none⟩=some u:=by
 have mx:=mixed;have X:=nil_eq;have u22: ∀w,Sem.run Tryz.prog (underlying 25) w= .ok (TypeDesc.slice 64) w:=run_underlying u9;subst P;have hbw:b<w.heap.size:=block_lt_of_cell (T 0 _ (ggZ (by omega)));have xM: ∀d,DL.Below (w.heap.size+1) (w.alloc (.cells #[g,i,m,t] 64)) d-> ∀j u,a[j]? =some u->d.cell? ⟨b,off+j,none⟩=some u:=fun d h j u M=>by
  rw [h.toBelow.cell (p:=⟨b,off+j,none⟩) (by show b<w.heap.size+1;omega)];exact Lib.cell?_alloc_some _ (T j u M)
 have S: ∀d f G,DL.Below (w.heap.size+1) (w.alloc (.cells #[g,i,m,t] 64)) d->f=(d.alloc (.cells #[] 64)).drew.alloc (.cells (a.toArray++uy (G - n)) 64)->
   f.cell? ⟨w.heap.size,0,none⟩=some g/\f.cell? ⟨w.heap.size,1,none⟩=some i/\f.cell? ⟨w.heap.size,2,none⟩=some m/\f.cell? ⟨w.heap.size,3,none⟩=some t/\DL.Below w.heap.size w f/\w.heap.size<d.heap.size/\f.heap.size=d.heap.size+2/\f.heap[d.heap.size+1]? =some (.cells (a.toArray++uy (G - n)) 64 (0,0)):=by
  intro d f G H E;have hs0:(w.alloc (.cells #[g,i,m,t] 64)).heap.size=w.heap.size+1:=Array.size_push _;have I:w.heap.size<d.heap.size:=by have:=H.toBelow.size;omega
  have D:(d.alloc (.cells #[] 64)).heap.size=d.heap.size+1:=Array.size_push _;have F:f.heap.size=d.heap.size+2:=by
   rw [E]
   have:((d.alloc (.cells #[] 64)).drew.alloc (.cells (a.toArray++uy (G - n)) 64)).heap.size=(d.alloc (.cells #[] 64)).heap.size+1:=Array.size_push _
   rw [this,D]
  have K: ∀(j:Nat) (u:Value), #[g,i,m,t][j]? =some u->f.cell? ⟨w.heap.size,j,none⟩=some u:=fun j u M=>by
   rw [E];refine Lib.cell?_alloc_some _ ?_;show (d.alloc (.cells #[] 64)).cell? _=_
   refine Lib.cell?_alloc_some _ ?_;rw [H.toBelow.cell (p:=⟨w.heap.size,j,none⟩) (by show w.heap.size<w.heap.size+1;omega),World.cell?_alloc_at _ _ w.heap.size j rfl];exact M
  refine ⟨K 0 g rfl,K 1 i rfl,K 2 m rfl,K 3 t rfl,?_,I,F,?_⟩
  ·rw [E];exact (((((DL.Below.refl _ w).alloc (Nat.le_refl _) _).trans (H.mono (Nat.le_succ _))).alloc (by omega) _).drew).alloc (by show w.heap.size<=(d.alloc _).heap.size;rw [D];omega) _
  ·rw [E];show (((d.alloc (.cells #[] 64)).heap.push (.cells (a.toArray++uy (G - n)) 64)))[d.heap.size+1]? =_
   rw [<- D];exact Array.getElem?_push_size
 have N: ∀k,(uy k).size=k * 4:=fun k=>by simp [uy,Builtin.zeroCells,Value.cells]
 have Ha: ∀d f G,n<=G->G<=maxLen->DL.Below (w.heap.size+1) (w.alloc (.cells #[g,i,m,t] 64)) d->f=(d.alloc (.cells #[] 64)).drew.alloc (.cells (a.toArray++uy (G - n)) 64)->
   Calls Tryz.prog 176 #[.slice (some ⟨d.heap.size+1,0,none⟩) n G,.int .i64 p,.slice (some ⟨f.heap.size,0,none⟩) 1 1] (f.alloc (.cells #[g,i,m,t] 64)) fun e y=> ∃r c,e= .returned (.slice (some ⟨r,0,none⟩) (n+1) c)/\n+1<=c/\w.heap.size<=r/\r<y.heap.size/\DL.Below w.heap.size w y/\
    ∀(j:Nat) (u:Value),(a.take (p * 4)++([g,i,m,t]++a.drop (p * 4)))[j]? =some u->y.cell? ⟨r,j,none⟩=some u:=by
  intro d f G B A H E;obtain ⟨-, -, -, -,hB,I,F,Z⟩:=S d f G H E;have Y:(f.alloc (.cells #[g,i,m,t] 64)).heap[d.heap.size+1]? =some (.cells (a.toArray++uy (G - n)) 64 (0,0)):=by
   rw [DL.Below.heap_alloc _ _ _ (by omega)];exact Z
  have L:(f.alloc (.cells #[g,i,m,t] 64)).heap[f.heap.size]? =some (.cells [g,i,m,t].toArray 64 (0,0)):=Array.getElem?_push_size;have hsv:(f.alloc (.cells #[g,i,m,t] 64)).heap.size=f.heap.size+1:=Array.size_push _;refine (IF (base:=w.heap.size) Y (by rw [Array.size_append,N,List.size_toArray,O];omega) (fun j v U=>by rw [Array.getElem?_append_left (by rw [List.size_toArray];exact (gsZ U).1),List.getElem?_toArray];exact U) O L rfl (by omega) Q B (by unfold maxLen at A;omega) hp iI V hc (by omega) (by omega)).mono ?_;rintro e y ⟨r,c,rfl,q1,q2,q3,q4,q5⟩;exact ⟨r,c,rfl,q1,q2,q3,(hB.alloc (by omega) _).trans q4,q5⟩
 go_enter Tryz.func139,Tryz.ntmps139
 go_wp2_with (first
  |(go_at_call 76;refine W.mono ?_;rintro e d ⟨rfl,z⟩)
  |(go_at_call 114;refine (Ez b off n J a d Q O (by omega) (xM d z) V).mono ?_;rintro e f ⟨G,B,A,rfl,C⟩;obtain ⟨k0,k1,k2,k3, -⟩:=S d f G z C;have A2:Aside (f=(d.alloc (.cells #[] 64)).drew.alloc (.cells (a.toArray++uy (G - n)) 64)):=C;clear C)
  |(go_at_call 176;refine (Ha d f G B A z A2.out).mono ?_;rintro e w3 ⟨r,c,rfl,q⟩))
 go_ret
 exact ⟨r,c,rfl,q⟩
theorem I0(d f g h:Value)(U: ∀x∈[d,f,g,h],x.oneCell'=true)(a:Option Addr)(m:Nat)(w:World)
  (W:Calls Tryz.prog 76 #[.slice a 0 m,.agg #[d,f,g,h],.func (.func 29) #[] #[]] (w.alloc (.cells #[d,f,g,h] 64)) fun e k=>e= .returned (.tuple #[.int .i64 0,.bool false])/\DL.Below (w.heap.size+1) (w.alloc (.cells #[d,f,g,h] 64)) k):
  Calls Tryz.prog 139 #[.slice a 0 m,.agg #[d,f,g,h]] w fun e k=> ∃r c,e= .returned (.slice (some ⟨r,0,none⟩) 1 c)/\1<=c/\w.heap.size<=r/\r<k.heap.size/\DL.Below w.heap.size w k/\
   ∀(j:Nat) (u:Value),[d,f,g,h][j]? =some u->k.cell? ⟨r,j,none⟩=some u:=by
 have mx:=mixed;have I:=nil_eq;have P: ∀w,Sem.run Tryz.prog (underlying 25) w= .ok (TypeDesc.slice 64) w:=run_underlying u9;have L: ∀i b:World,DL.Below (w.heap.size+1) (w.alloc (.cells #[d,f,g,h] 64)) i->(b=i\/b=i.alloc (.cells #[] 64))->
   b.cell? ⟨w.heap.size,0,none⟩=some d/\b.cell? ⟨w.heap.size,1,none⟩=some f/\b.cell? ⟨w.heap.size,2,none⟩=some g/\b.cell? ⟨w.heap.size,3,none⟩=some h/\DL.Below w.heap.size w b:=by
  intro i b G X;have T:(w.alloc (.cells #[d,f,g,h] 64)).heap.size=w.heap.size+1:=Array.size_push _;have O:w.heap.size<i.heap.size:=by have:=G.toBelow.size;omega
  have t: ∀(j:Nat) (u:Value), #[d,f,g,h][j]? =some u->i.cell? ⟨w.heap.size,j,none⟩=some u:=fun j u n=>by
   rw [G.toBelow.cell (p:=⟨w.heap.size,j,none⟩) (by show w.heap.size<w.heap.size+1;omega),World.cell?_alloc_at _ _ w.heap.size j rfl];exact n
  have B:DL.Below w.heap.size w i:=((DL.Below.refl _ w).alloc (Nat.le_refl _) _).trans (G.mono (Nat.le_succ _));rcases X with rfl|rfl
  ·exact ⟨t 0 d rfl,t 1 f rfl,t 2 g rfl,t 3 h rfl,B⟩
  ·have D: ∀(j:Nat) (u:Value), #[d,f,g,h][j]? =some u->(i.alloc (.cells #[] 64)).cell? ⟨w.heap.size,j,none⟩=some u:=fun j u n=>Lib.cell?_alloc_some _ (t j u n)
   exact ⟨D 0 d rfl,D 1 f rfl,D 2 g rfl,D 3 h rfl,B.alloc (by omega) _⟩
 have S: ∀(b:World) (base:Option Addr),DL.Below w.heap.size w b->
   Calls Tryz.prog 176 #[.slice base 0 0,.int .i64 0,.slice (some ⟨b.heap.size,0,none⟩) 1 1] (b.alloc (.cells #[d,f,g,h] 64)) fun e k=> ∃r c,e= .returned (.slice (some ⟨r,0,none⟩) 1 c)/\1<=c/\w.heap.size<=r/\r<k.heap.size/\DL.Below w.heap.size w k/\
    ∀(j:Nat) (u:Value),[d,f,g,h][j]? =some u->k.cell? ⟨r,j,none⟩=some u:=by
  intro b base H;have J:w.heap.size<=b.heap.size:=H.toBelow.size;have V:(b.alloc (.cells #[d,f,g,h] 64)).heap.size=b.heap.size+1:=Array.size_push _;have z:(Builtin.firstCells 4 0 (.slice base 0 0)).run Tryz.prog (b.alloc (.cells #[d,f,g,h] 64)).drew= .ok ([]:List Value).toArray (b.alloc (.cells #[d,f,g,h] 64)).drew:=by
   cases base with
   |none=>exact run_firstCells_none _ 4 0 0 0
   |some a=>exact run_firstCells_some _ 4 0 a 0 0 [] rfl (fun j v M=>by simp at M)
  refine (C1 base 0 0 b.heap.size 0 1 [] [d,f,g,h] _ (by omega) (by omega) rfl z (fun j v N=>by rw [Nat.zero_add,World.cell?_alloc_at _ _ b.heap.size j rfl, <-N];simp) U).mono ?_;rintro e k ⟨rfl,rfl⟩;have F:=grownCap_ge (b.alloc (.cells #[d,f,g,h] 64)) (0+1) 0 64;generalize grownCap (b.alloc (.cells #[d,f,g,h] 64)) (0+1) 0 64=C at *
  refine ⟨_,C,rfl,F,by omega,?_,(((H.alloc (by omega) _).drew).alloc (by show w.heap.size<=(b.alloc _).heap.size;omega) _),?_⟩
  ·show _<(((b.alloc (.cells #[d,f,g,h] 64)).drew).alloc _).heap.size
   have:(((b.alloc (.cells #[d,f,g,h] 64)).drew).alloc (.cells (([]++[d,f,g,h]).toArray++uy (C - (0+1))) 64)).heap.size=(b.alloc (.cells #[d,f,g,h] 64)).heap.size+1:=Array.size_push _
   rw [this];omega
  ·intro j u n;rw [World.cell?_alloc_at (w:=(b.alloc (.cells #[d,f,g,h] 64)).drew) _ _ (b.alloc (.cells #[d,f,g,h] 64)).heap.size j rfl,Array.getElem?_append_left (by rw [List.size_toArray];exact (gsZ n).1),List.getElem?_toArray];exact n
 go_enter Tryz.func139,Tryz.ntmps139
 go_wp2_with (first
  |(go_at_call 76;refine W.mono ?_;rintro e i ⟨rfl,E⟩)
  |(go_at_call 114;refine (Dw a m i).mono ?_;rintro e b ⟨Q,rfl,y⟩;obtain ⟨k0,k1,k2,Z,A⟩:=L i b E y;have K:Aside (DL.Below w.heap.size w b):=A;clear y A)
  |(go_at_call 176;refine (S b Q K.out).mono ?_;rintro e Y ⟨r,c,rfl,q⟩))
 go_ret
 exact ⟨r,c,rfl,q⟩
theorem size_setCells(b:Nat)(vs:List Value): ∀(w:World) (o:Nat),(w.setCells b o vs).heap.size=w.heap.size:=by
 induction vs with
 |nil=>intro w o;rfl
 |cons v r a=>intro w o;rw [World.setCells,a];simp [World.setCell]
theorem AG(W:World)(g o:Nat)(v:Value)(b:v.oneCell'=true)(a:(W.cell? ⟨g,o,none⟩).isSome=true)(c:W.frozen? ⟨g,o,none⟩=false):(store ⟨g,o,none⟩ v).run Tryz.prog W= .ok () (W.setCell ⟨g,o,none⟩ v):=by
 obtain ⟨u,d⟩:=Option.isSome_iff_exists.1 a;rw [run_store Tryz.prog W _ v _ b];simp [d,c]
theorem J5(f i m q:Value)(y: ∀x∈[f,i,m,q],x.oneCell'=true)(W:World)(g p n:Nat)(c:List Value)(H:p<n)(I:c.length=n * 4)(t: ∀(j:Nat) (u:Value),c[j]? =some u->W.cell? ⟨g,j,none⟩=some u)(w: ∀j,W.frozen? ⟨g,j,none⟩=false):
  ∃E C D z:World,(store ⟨g,p * 4,none⟩ f).run Tryz.prog W= .ok () E/\(store ⟨g,p * 4+1,none⟩ i).run Tryz.prog E= .ok () C/\(store ⟨g,p * 4+2,none⟩ m).run Tryz.prog C= .ok () D/\(store ⟨g,p * 4+3,none⟩ q).run Tryz.prog D= .ok () z/\
   z=W.setCells g (p * 4) [f,i,m,q]/\ ∀(j:Nat) (u:Value),(c.take (p * 4)++([f,i,m,q]++c.drop ((p+1) * 4)))[j]? =some u->z.cell? ⟨g,j,none⟩=some u:=by
 have r: ∀j,j<n * 4->(W.cell? ⟨g,j,none⟩).isSome=true:=fun j G=>by rw [t j _ (ggZ (by omega))];rfl
 have b: ∀(V:World) (a:Addr) (v:Value) (j:Nat),(V.cell? ⟨g,j,none⟩).isSome=true->((V.setCell a v).cell? ⟨g,j,none⟩).isSome=true:=fun V a v j h=>by
  obtain ⟨u,d⟩:=Option.isSome_iff_exists.1 h
  by_cases e:a=⟨g,j,none⟩
  ·subst e;rw [World.cell?_setCell_same _ _ _ d];rfl
  ·rw [World.cell?_setCell_other _ _ _ _ e];exact h
 refine ⟨_,_,_,_,AG W g (p * 4) f (y _ (by simp)) (r _ (by omega)) (w _),AG _ g (p * 4+1) i (y _ (by simp)) (b _ _ _ _ (r _ (by omega))) (by rw [World.frozen?_setCell];exact w _),
  AG _ g (p * 4+2) m (y _ (by simp)) (b _ _ _ _ (b _ _ _ _ (r _ (by omega)))) (by rw [World.frozen?_setCell,World.frozen?_setCell];exact w _),AG _ g (p * 4+3) q (y _ (by simp)) (b _ _ _ _ (b _ _ _ _ (b _ _ _ _ (r _ (by omega))))) (by rw [World.frozen?_setCell,World.frozen?_setCell,World.frozen?_setCell];exact w _),rfl,?_⟩
 show ∀(j:Nat) (u:Value),_->(W.setCells g (p * 4) [f,i,m,q]).cell? _=_
 intro j u d;have B:(c.take (p * 4)).length=p * 4:=by rw [List.length_take];omega
 by_cases F:j<p * 4
 ·rw [List.getElem?_append_left (by omega),List.getElem?_take_of_lt F] at d;rw [World.cell?_setCells_out _ _ _ _ _ (fun _ _=>by left;exact F)];exact t j u d
 ·rw [List.getElem?_append_right (by omega),B] at d
  by_cases A:j - p * 4<4
  ·rw [List.getElem?_append_left (by simpa using A)] at d
   have:=World.cell?_setCells_in g [f,i,m,q] (p * 4) W (fun k t=>r _ (by simp at t;omega)) (j - p * 4) (by simpa using A)
   rw [show p * 4+(j - p * 4)=j by omega] at this;rw [this, <-d,ggZ (by simpa using A)]
  ·rw [List.getElem?_append_right (by simp;omega),List.getElem?_drop] at d;rw [World.cell?_setCells_out _ _ _ _ _ (fun _ _=>by right;show p * 4+4<=j;omega)];refine t j u ?_;rw [<- d]
   congr 1
   simp;omega
theorem I1(v0:Value)(g i m q:Value)(hc: ∀x∈[g,i,m,q],x.oneCell'=true)(b off n C:Nat)(a:List Value)(w:World)(p:Nat)(hp:p<n)(Q:a.length=n * 4)(iI:n * 56<=140737488355328)
  (L:v0= .slice (some ⟨b,off,none⟩) n C) (P: ∀j u,a[j]? =some u->w.cell? ⟨b,off+j,none⟩=some u) (h1: ∀u∈a,u.oneCell'=true)
  (wU:Calls Tryz.prog 76 #[v0,.agg #[g,i,m,q],.func (.func 29) #[] #[]] (w.alloc (.cells #[g,i,m,q] 64)) fun e A=>e= .returned (.tuple #[.int .i64 p,.bool true])/\DL.Below (w.heap.size+1) (w.alloc (.cells #[g,i,m,q] 64)) A):
  Calls Tryz.prog 139 #[v0,.agg #[g,i,m,q]] w fun e A=> ∃r c,e= .returned (.slice (some ⟨r,0,none⟩) n c)/\n<=c/\w.heap.size<=r/\r<A.heap.size/\DL.Below w.heap.size w A/\
   ∀(j:Nat) (u:Value),(a.take (p * 4)++([g,i,m,q]++a.drop ((p+1) * 4)))[j]? =some u->A.cell? ⟨r,j,none⟩=some u:=by
 have mx:=mixed;have W:=nil_eq;have u22: ∀w,Sem.run Tryz.prog (underlying 25) w= .ok (TypeDesc.slice 64) w:=run_underlying u9;subst L;have hbw:b<w.heap.size:=block_lt_of_cell (P 0 _ (ggZ (by omega)));have Z: ∀d,DL.Below (w.heap.size+1) (w.alloc (.cells #[g,i,m,q] 64)) d-> ∀j u,a[j]? =some u->d.cell? ⟨b,off+j,none⟩=some u:=fun d h j u y=>by
  rw [h.toBelow.cell (p:=⟨b,off+j,none⟩) (by show b<w.heap.size+1;omega)];exact Lib.cell?_alloc_some _ (P j u y)
 have hzl: ∀k,(uy k).size=k * 4:=fun k=>by simp [uy,Builtin.zeroCells,Value.cells]
 have X: ∀d f G,n<=G->DL.Below (w.heap.size+1) (w.alloc (.cells #[g,i,m,q] 64)) d->f=(d.alloc (.cells #[] 64)).drew.alloc (.cells (a.toArray++uy (G - n)) 64)->
   f.cell? ⟨w.heap.size,0,none⟩=some g/\f.cell? ⟨w.heap.size,1,none⟩=some i/\f.cell? ⟨w.heap.size,2,none⟩=some m/\f.cell? ⟨w.heap.size,3,none⟩=some q/\DL.Below w.heap.size w f/\w.heap.size<d.heap.size/\f.heap.size=d.heap.size+2/\(∀ j,f.frozen? ⟨d.heap.size+1,j,none⟩=false)/\
   (∀ (j:Nat) (u:Value),a[j]? =some u->f.cell? ⟨d.heap.size+1,j,none⟩=some u):=by
  intro d f G hG I D;have hs0:(w.alloc (.cells #[g,i,m,q] 64)).heap.size=w.heap.size+1:=Array.size_push _;have K:w.heap.size<d.heap.size:=by have:=I.toBelow.size;omega
  have t:(d.alloc (.cells #[] 64)).heap.size=d.heap.size+1:=Array.size_push _;have H:f.heap.size=d.heap.size+2:=by
   rw [D]
   have:((d.alloc (.cells #[] 64)).drew.alloc (.cells (a.toArray++uy (G - n)) 64)).heap.size=(d.alloc (.cells #[] 64)).heap.size+1:=Array.size_push _
   rw [this,t]
  have E: ∀(j:Nat) (u:Value), #[g,i,m,q][j]? =some u->f.cell? ⟨w.heap.size,j,none⟩=some u:=fun j u y=>by
   rw [D];refine Lib.cell?_alloc_some _ ?_;show (d.alloc (.cells #[] 64)).cell? _=_
   refine Lib.cell?_alloc_some _ ?_;rw [I.toBelow.cell (p:=⟨w.heap.size,j,none⟩) (by show w.heap.size<w.heap.size+1;omega),World.cell?_alloc_at _ _ w.heap.size j rfl];exact y
  refine ⟨E 0 g rfl,E 1 i rfl,E 2 m rfl,E 3 q rfl,?_,K,H,fun j=>?_,fun j u y=>?_⟩
  ·rw [D];exact (((((DL.Below.refl _ w).alloc (Nat.le_refl _) _).trans (I.mono (Nat.le_succ _))).alloc (by omega) _).drew).alloc (by show w.heap.size<=(d.alloc _).heap.size;rw [t];omega) _
  ·rw [D, <-t];exact World.frozen?_alloc_at (w:=(d.alloc (.cells #[] 64)).drew) _ _ _ j rfl
  ·rw [D, <-t,World.cell?_alloc_at (w:=(d.alloc (.cells #[] 64)).drew) _ _ (d.alloc (.cells #[] 64)).heap.size j rfl,Array.getElem?_append_left (by rw [List.size_toArray];exact (gsZ y).1),List.getElem?_toArray];exact y
 go_enter Tryz.func139,Tryz.ntmps139
 go_wp2_with (first
  |(go_at_call 76;refine wU.mono ?_;rintro e d ⟨rfl,z⟩)
  |(go_at_call 114;refine (Ez b off n C a d (by omega) Q (by omega) (Z d z) h1).mono ?_;rintro e f ⟨G,B,V,rfl,v⟩;obtain ⟨k0,k1,k2,k3,F,J,kT,N,O⟩:=X d f G B z v;have T:Aside (DL.Below w.heap.size w f/\w.heap.size<d.heap.size/\f.heap.size=d.heap.size+2):=⟨F,J,kT⟩;clear F J kT;have A2:Aside (f=(d.alloc (.cells #[] 64)).drew.alloc (.cells (a.toArray++uy (G - n)) 64)):=v;clear v;obtain ⟨Wa,Wb,Wc,U,s0,s1,s2,s3,M,Y⟩:=J5 g i m q hc f (d.heap.size+1) p n a hp Q O N;have S:Aside (U=f.setCells (d.heap.size+1) (p * 4) [g,i,m,q]):=M;clear M N O))
 go_ret
 obtain ⟨F,J,kT⟩:=T.out;refine ⟨d.heap.size+1,G,rfl,B,by omega,?_,?_,Y⟩
 ·rw [S.out,size_setCells];omega
 ·rw [S.out];exact ve _ (by omega) _ _ _ F
structure Al {α β:Type} (R:α->β->Prop) (xs:List α) (ts:List β):Prop where
 len:xs.length=ts.length
 at_: ∀(i:Nat) (x:α) (t:β),xs[i]? =some x->ts[i]? =some t->R x t
section
variable {α β:Type}{R:α->β->Prop}{xs ys:List α}{ts us:List β}
theorem Al.take(h:Al R xs ts)(k:Nat):Al R (xs.take k) (ts.take k):=⟨by rw [List.length_take,List.length_take,h.len],fun i x t a b=>by
 rw [List.getElem?_take] at a b;split at a
 ·rename_i c;rw [if_pos c] at b;exact h.at_ i x t a b
 ·cases a⟩
theorem Al.drop(h:Al R xs ts)(k:Nat):Al R (xs.drop k) (ts.drop k):=⟨by rw [List.length_drop,List.length_drop,h.len],fun i x t a b=>by
 rw [List.getElem?_drop] at a b;exact h.at_ _ x t a b⟩
theorem Al.append(h:Al R xs ts)(k:Al R ys us):Al R (xs++ys) (ts++us):=⟨by rw [List.length_append,List.length_append,h.len,k.len],fun i x t a b=>by
 by_cases c:i<xs.length
 ·rw [List.getElem?_append_left c] at a;rw [List.getElem?_append_left (by rw [<- h.len];exact c)] at b;exact h.at_ i x t a b
 ·rw [List.getElem?_append_right (by omega)] at a;rw [List.getElem?_append_right (by rw [<- h.len];omega), <-h.len] at b;exact k.at_ _ x t a b⟩
end
theorem yE(st:List RE):(st.map um).flatMap T.cells=st.flatMap uk:=by
 induction st with
 |nil=>rfl
 |cons x xs a=>rw [List.map_cons,List.flatMap_cons,List.flatMap_cons,a];rfl
theorem vm(st:List RE):(st.flatMap uk).length=st.length * 4:=by
 induction st with
 |nil=>rfl
 |cons x xs a=>rw [List.flatMap_cons,List.length_append,a,List.length_cons];show 4+_=_;omega
theorem Ah(st:List RE)(k:Nat):(st.take k).flatMap uk=(st.flatMap uk).take (k * 4):=by
 induction st generalizing k with
 |nil=>simp
 |cons x xs a=>
  cases k with
  |zero=>simp
  |succ k=>
   rw [List.take_succ_cons,List.flatMap_cons,List.flatMap_cons,a,show (k+1) * 4=(uk x).length+k * 4 by show _=4+k * 4;omega,List.take_append,List.take_of_length_le (l:=uk x) (Nat.le_add_right _ _),Nat.add_sub_cancel_left]
theorem Ag(st:List RE)(k:Nat):(st.drop k).flatMap uk=(st.flatMap uk).drop (k * 4):=by
 induction st generalizing k with
 |nil=>simp
 |cons x xs a=>
  cases k with
  |zero=>simp
  |succ k=>
   rw [List.drop_succ_cons,List.flatMap_cons,a,show (k+1) * 4=(uk x).length+k * 4 by show _=4+k * 4;omega,List.drop_append];simp
theorem D0(st:List RE): ∀t∈st.flatMap uk,t.one=true:=fun t a=>by
 obtain ⟨e,_,h⟩:=List.mem_flatMap.1 a;simp only [uk,List.mem_cons,List.not_mem_nil,or_false] at h;rcases h with rfl|rfl|rfl|rfl <;> rfl
theorem J3{S:ar}{w:World}{r n c:Nat}{L:List Value}{st:List RE}(g:st.length=n)(m:n<=c)(d:Al (fun x t=>Rep S w x t) L (st.flatMap uk))(h: ∀(j:Nat) (u:Value),L[j]? =some u->w.cell? ⟨r,j,none⟩=some u)(f: ∀o,S r o):
  Rep S w (.slice (some ⟨r,0,none⟩) n c) (esT st):=by
 refine Rep.slice (some ⟨r,0,none⟩) r 0 n c 4 (st.map um) (fun i=>L[i]?.getD undef) (by rw [List.length_map,g]) m (fun x k=>?_) (fun t b=>?_) (fun _=>rfl) (fun i a=>?_) (fun i t b=>?_)
 ·obtain ⟨e,_,rfl⟩:=List.mem_map.1 k;rfl
 ·rw [yE] at b;exact D0 st t b
 ·rw [yE, <-d.len] at a;rw [Nat.zero_add,h i L[i] (ggZ a),ggZ a];exact ⟨rfl,f i⟩
 ·rw [yE] at b;have a:=(gsZ b).1;rw [<- d.len] at a;show Rep S w (L[i]?.getD undef) t
  rw [ggZ a];exact d.at_ i _ t (ggZ a) b
theorem K4(st:List RE)(p:uR st)(hl:st.length<2^40)(H: ∀x∈st,kOk x)(e:RE)(he:kOk e):DCalls Tryz.prog 139 [esT st,um e] (esT (uS e st)):=by
 refine ⟨eb Tryz.func139 rfl rfl,fun S w vs hS hG hlen aq=>?_⟩;obtain ⟨v0,v1,rfl⟩: ∃v0 v1,vs=[v0,v1]:=by
  match vs,hlen with
  |[a,b],_=>exact ⟨a,b,rfl⟩
 have r0:=aq 0 v0 _ rfl rfl;have r1:=aq 1 v1 _ rfl rfl;obtain ⟨q,z,y,A,rfl⟩: ∃q z y A,v1= .agg #[q,z,y,A]:=by
  cases r1 with
  |agg D ts p I h=>
   have p:D.size=4:=p;refine ⟨D[0],D[1],D[2],D[3],?_⟩
   congr 1
   apply Array.ext
   ·simp [p]
   ·intro i I h2
    match i,I with
    |0,_|1,_|2,_|3,_=>rfl
    |i+4,I=>omega
 have K:Al (fun x t=>Rep S w x t) [q,z,y,A] (uk e):=by
  cases r1 with
  |agg D ts p I h=>exact ⟨rfl,fun i x t C B=>h i x t (by rw [<- C];simp) B⟩
 have N: ∀x∈[q,z,y,A],x.oneCell'=true:=fun x C=>by
  obtain ⟨i,E,rfl⟩:=List.getElem_of_mem C;have F:i<(uk e).length:=E;exact (K.at_ i _ _ (ggZ E) (ggZ F)).one (D0 [e] _ (by simp [List.getElem_mem]))
 have X:(w.alloc (.cells #[q,z,y,A] 64)).heap.size=w.heap.size+1:=Array.size_push _;have W:DL.Below w.heap.size w (w.alloc (.cells #[q,z,y,A] 64)):=(DL.Below.refl _ w).alloc (Nat.le_refl _) _;have up: ∀{x:Value} {t:T},Rep S w x t->Rep S (w.alloc (.cells #[q,z,y,A] 64)) x t:=fun h=>h.mono (fun _ _ p=>p) (fun b o p=>aC.dC W (hS b o p))
 have hpl:=(EX st p hl H e he).2 S (w.alloc (.cells #[q,z,y,A] 64)) [v0,.agg #[q,z,y,A],.func (.func 29) #[] #[]] (fun b o h=>by rw [X];have:=hS b o h;omega) (hG.up (fun _ _ h=>h) W) rfl (fun i v t G B=>by
  match i,G,B with
  |0,G,B=>cases G;cases B;exact up r0
  |1,G,B=>cases G;cases B;exact up r1
  |2,G,B=>cases G;cases B;exact .clos _ #[] [] rfl (fun i x t C=>by simp at C)
  |i+3,G,_=>simp at G)
 have Q:Calls Tryz.prog 76 #[v0,.agg #[q,z,y,A],.func (.func 29) #[] #[]] (w.alloc (.cells #[q,z,y,A] 64)) fun en m=>en= .returned (.tuple #[.int .i64 (uQ st e:Nat),.bool (isE st e)])/\DL.Below (w.heap.size+1) (w.alloc (.cells #[q,z,y,A] 64)) m:=by
  refine hpl.mono ?_;rintro en m ⟨v,rfl,hb,hr⟩;rw [X] at hb;refine ⟨congrArg _ ?_,hb⟩;cases hr with
  |tup D ts p h=>
   have p:D.size=2:=p;have e0:=h 0 D[0] _ (Array.getElem?_eq_getElem (by omega)) rfl;have e1:=h 1 D[1] _ (Array.getElem?_eq_getElem (by omega)) rfl;have e0:=e0.aA;have e1:=e1.aP
   congr 1
   apply Array.ext
   ·simp [p]
   ·intro i I h2
    match i,I with
    |0,_=>exact e0
    |1,_=>exact e1
    |i+2,I=>omega
 have Hf:=Bt st e;have O: ∀(m:World) (r n c:Nat) (d:List Value) (k:Nat),Al (fun x t=>Rep S w x t) d (st.flatMap uk)->(st.take (uQ st e)++e::st.drop k).length=n->n<=c->w.heap.size<=r->r<m.heap.size->DL.Below w.heap.size w m->
   uS e st=st.take (uQ st e)++e::st.drop k->(∀ (j:Nat) (u:Value),(d.take (uQ st e * 4)++([q,z,y,A]++d.drop (k * 4)))[j]? =some u->m.cell? ⟨r,j,none⟩=some u)->
   ∃v,Ending.returned (.slice (some ⟨r,0,none⟩) n c)= .returned v/\DL.Below w.heap.size w m/\Rep (fun b o=>S b o\/(w.heap.size<=b/\b<m.heap.size)) m v (esT (uS e st)):=by
  intro m r n c d k P hn hc hr hr2 hb M cj;refine ⟨_,rfl,hb,?_⟩;rw [M];have hup: ∀{x:Value} {t:T},Rep S w x t->Rep (fun b o=>S b o\/(w.heap.size<=b/\b<m.heap.size)) m x t:=fun h=>h.mono (fun _ _ p=>Or.inl p) (fun b o p=>aC.dC hb (hS b o p))
  refine J3 (L:=d.take (uQ st e * 4)++([q,z,y,A]++d.drop (k * 4))) hn hc ?_ cj (fun o=>Or.inr ⟨hr,hr2⟩);rw [List.flatMap_append,List.flatMap_cons,Ah,Ag];have hA':Al (fun x t=>Rep (fun b o=>S b o\/(w.heap.size<=b/\b<m.heap.size)) m x t) d (st.flatMap uk):=⟨P.len,fun i x t C B=>hup (P.at_ i x t C B)⟩
  have rZ:Al (fun x t=>Rep (fun b o=>S b o\/(w.heap.size<=b/\b<m.heap.size)) m x t) [q,z,y,A] (uk e):=⟨K.len,fun i x t C B=>hup (K.at_ i x t C B)⟩
  exact (hA'.take _).append (rZ.append (hA'.drop _))
 have M:=D3 p e;have Mp:(uB st e.var e.key).isSome=isE st e:=rfl;rw [Mp] at M
 by_cases h0:st=[]
 ·subst h0;obtain ⟨a,f,rfl⟩: ∃a f,v0= .slice a 0 f:=by
   cases r0 with
   |slice a b o len f n xs g hl hc J I ha hg h=>
    have:len=0:=by simpa using hl.symm
    subst this;exact ⟨a,f,rfl⟩
  have hp0:uQ [] e=0:=rfl;have hi0:isE [] e=false:=rfl;rw [hi0] at Q;refine (I0 q z y A N a f w Q).mono ?_;rintro en m ⟨r,c,rfl,V,q2,Y,Z,q5⟩;exact O m r 1 c [] 0 ⟨rfl,fun i x t C=>by simp at C⟩ rfl V q2 Y Z rfl (fun j u J=>q5 j u (by simpa using J))
 ·have hn:0<st.length:=List.length_pos_iff.2 h0;obtain ⟨b,off,f,d,hv0,U,Gc,P⟩: ∃b off f d,v0= .slice (some ⟨b,off,none⟩) st.length f/\d.length=st.length * 4/\(∀ (j:Nat) (u:Value),d[j]? =some u->w.cell? ⟨b,off+j,none⟩=some u)/\Al (fun x t=>Rep S w x t) d (st.flatMap uk):=by
   cases r0 with
   |slice a b o len f n xs g hl hc J I ha hg h=>
    rw [yE] at ha hg h;have hle:len=st.length:=by simpa using hl.symm
    subst hle;have hfl:=vm st;rw [ha (by omega)];refine ⟨b,o,f,(List.range (st.length * 4)).map g,rfl,by simp,fun j u J=>?_,by simp [hfl],fun i x t C B=>?_⟩
    ·obtain ⟨k,H,rfl⟩:=List.getElem?_map .. ▸J |> Option.map_eq_some_iff.1
     have hj:j<st.length * 4:=by
      have:=(gsZ H).1
      simpa using this
     have:k=j:=by rw [List.getElem?_range hj] at H;exact (Option.some.inj H).symm
     subst this;exact (hg k (by omega)).1
    ·obtain ⟨k,H,rfl⟩:=List.getElem?_map .. ▸C |> Option.map_eq_some_iff.1
     have hj:i<st.length * 4:=by
      have:=(gsZ H).1
      simpa using this
     have:k=i:=by rw [List.getElem?_range hj] at H;exact (Option.some.inj H).symm
     subst this;exact h k t B
  have h1n: ∀u∈d,u.oneCell'=true:=fun u J=>by
   obtain ⟨i,E,rfl⟩:=List.getElem_of_mem J;have F:i<(st.flatMap uk).length:=by rw [<- P.len];exact E
   exact (P.at_ i _ _ (ggZ E) (ggZ F)).one (D0 st _ (List.getElem_mem F))
  cases E:isE st e with
  |false=>
   rw [E] at Q M;refine (IZ v0 q z y A N b off st.length f d w (uQ st e) hn Hf U (by omega) hv0 Gc h1n Q).mono ?_;rintro en m ⟨r,c,rfl,V,q2,Y,Z,q5⟩;exact O m r (st.length+1) c d (uQ st e) P (by rw [List.length_append,List.length_take,List.length_cons,List.length_drop];omega) V q2 Y Z M q5
  |true=>
   rw [E] at Q M;have hlt:uQ st e<st.length:=by
    rcases Nat.lt_or_ge (uQ st e) st.length with h|h
    ·exact h
    ·rw [EI p (by omega)] at E;cases E
   refine (I1 v0 q z y A N b off st.length f d w (uQ st e) hlt U (by omega) hv0 Gc h1n Q).mono ?_;rintro en m ⟨r,c,rfl,V,q2,Y,Z,q5⟩;exact O m r st.length c d (uQ st e+1) P (by rw [List.length_append,List.length_take,List.length_cons,List.length_drop];omega) V q2 Y Z M q5
end Go.ST
end
noncomputable section
namespace Go.ST0
open Go Go.DL Go.Proofs
def c71:aV:=(sr [oo 3 (.box 1 (tm 1)),oo 4 (.mov (.const .nil))] (sr [mv 5 0,oo 6 (.call 114 [tm 5]),oo 7 (.mkfn 115 [tm 3]),oo 8 (.call 113 [(tm 6),(tm 7)]),mv 4 8] .ret))
theorem l71:(Tryz.f71.body.bind (bt Tryz.prog 9 []))=some c71:=by kernel_rfl
def GS:aV:=(sr [oo 4 (.mov (.const .nil))] (sr [mv 8 0,mv 9 1,oo 10 (.call 109 [(tm 8),(tm 9)]),mv 5 10] (.seq (sr [mv 11 5,oo 12 (.bin .eql (tm 11) (.const (.int .i64 (-1))))] (.cond (tm 12) (sr [mv 13 0,mv 4 13] .ret) .skip)) (.seq (sr [mv 14 5,oo 15 (.bin .add (tm 14) (Kc 1)),mv 6 15] (.block 0 (.loop (.seq (sr [mv 16 6,mv 17 0,ln 18 17,oo 19 (.bin .lss (tm 16) (tm 18))] (.cond (tm 19) .skip (.exit 0))) (.seq (.block 1 (sr [mv 22 0,mv 23 6,ix 24 4 22 23,lA 25 4 24,⟨some 7,.alloc [S0,.nil,Z0,Z0],none,[]⟩,o0 (.store 4 (tm 7) (tm 25))] (sr [mv 26 1,lA 27 4 7,oo 28 (.bY (tm 26) [tm 27]),oo 29 (.not (tm 28))] (.cond (tm 29) (sr [mv 30 0,mv 31 5,lA 32 4 7,ix 33 4 30 31,o0 (.store 4 (tm 33) (tm 32))] (rg [mv 34 5,oo 35 (.bin .add (tm 34) (Kc 1)),mv 5 35])) .skip)))) (rg [mv 20 6,oo 21 (.bin .add (tm 20) (Kc 1)),mv 6 21])))))) (sr [mv 36 0,mv 37 5,oo 38 (.slice 4 (tm 36) (some (tm 37)) none),⟨none,.clr 4 [S0,.nil,Z0,Z0] (tm 38),none,[]⟩] (sr [mv 39 0,mv 40 5,oo 41 (.slice 4 (tm 39) none (some (tm 40))),mv 4 41] .ret))))))
theorem Hk:(Tryz.f113.body.bind (bt Tryz.prog 42 []))=some GS:=by kernel_rfl
end Go.ST0
end
section
namespace Go.ST
open Go Go.DL Go.MM Go.Proofs
open Go.TY hiding Fd
theorem HE:DCalls Tryz.prog 114 [esT []] (esT []):=by
 refine ⟨eb Tryz.func114 rfl rfl,fun S w vs r x d q=>?_⟩;obtain ⟨v0,rfl⟩: ∃v0,vs=[v0]:=by
  match vs,d with
  |[a],_=>exact ⟨a,rfl⟩
 have j:=q 0 v0 _ rfl rfl;obtain ⟨a,c,rfl⟩: ∃a c,v0= .slice a 0 c:=by
  cases j with
  |slice a b o len c n xs g p A z B u v h=>
   have:len=0:=by simpa using p.symm
   subst this;exact ⟨a,c,rfl⟩
 refine (Dw a c w).mono ?_;rintro e y ⟨b,rfl,m⟩;refine ⟨_,rfl,?_,?_⟩
 ·rcases m with rfl|rfl
  ·exact DL.Below.refl _ _
  ·exact (DL.Below.refl _ _).alloc (Nat.le_refl _) _
 ·exact Rep.slice b 0 0 0 0 4 [] (fun _=>undef) rfl (Nat.le_refl _) (by simp) (by simp) (by simp) (fun i k=>by simp at k) (fun i t f=>by simp at f)
theorem De(x:RE)(f:FuncId)(c:T)(b:Bool)(a:DCalls Tryz.prog f [um x,c] (.bool b)):DCalls Tryz.prog 115 [um x,.cptr [.clos f [c]] 0] (.bool !b):=by
 refine dl2 mixed [.tmp 3] [.bool _] Tryz.func115 MK ?_
 repeat' ((conv=>whnf);first|exact trivial|refine uc _ (a) ?_|refine rbx ?_|(refine And.intro (by first|exact uo _) ?_)|refine aS ?_|refine nT_ ?_)
theorem AS(st:List RE):chunk 4 st.length (st.flatMap uk)=st.map um:=by
 induction st with
 |nil=>rfl
 |cons x xs a=>
  rw [List.flatMap_cons,List.length_cons,List.map_cons];show DL.elemOf 4 (List.take 4 (uk x++xs.flatMap uk))::chunk 4 xs.length (List.drop 4 (uk x++xs.flatMap uk))=_
  rw [show List.drop 4 (uk x++xs.flatMap uk)=xs.flatMap uk from rfl,a];rfl
theorem CR: ∀(n:Nat) (a b:List T),n * 4<=a.length->chunk 4 n (a++b)=chunk 4 n a:=by
 intro n
 induction n with
 |zero=>intro a b _;rfl
 |succ n c=>
  intro a b h;show DL.elemOf 4 ((a++b).take 4)::chunk 4 n ((a++b).drop 4)=DL.elemOf 4 (a.take 4)::chunk 4 n (a.drop 4)
  rw [List.take_append_of_le_length (by omega),List.drop_append_of_le_length (by omega),c _ _ (by rw [List.length_drop];omega)]
theorem Is(st:List RE)(k:Nat)(b:k<=st.length):chunk 4 k (st.flatMap uk)=(st.take k).map um:=by
 have h:=CR;have e:st.flatMap uk=(st.take k).flatMap uk++(st.drop k).flatMap uk:=by rw [<- List.flatMap_append,List.take_append_drop]
 have a:(st.take k).length=k:=by rw [List.length_take];omega
 rw [e,h k _ _ (by rw [vm,a];omega)]
 have:=AS (st.take k)
 rwa [a] at this
theorem E9{L:List RE}{j:Nat}(h:j<L.length):((L.flatMap uk).drop (j * 4)).take 4=uk L[j]:=by
 rw [<- Ag,List.drop_eq_getElem_cons h];rfl
theorem Hs{L:List RE}{i:Nat}(h:i<L.length)(e:RE):aN (L.flatMap uk) (i * 4) 4 (uk e)=(L.set i e).flatMap uk:=by
 unfold aN;rw [<- Ah,show i * 4+4=(i+1) * 4 by omega, <-Ag,List.set_eq_take_append_cons_drop,if_pos h,List.flatMap_append,List.flatMap_cons]
theorem IS{ks:List Nat}{bx:Nat->Option BX}{n off a b size:Nat}(h:a=b):LeV ks bx (.view n off a size) (.view n off b size):=by rw [h];exact .same _
theorem JS{ks:List Nat}{bx:Nat->Option BX}{n m:Nat}{ts us:List T}(a:n=m)(h:ts=us):LeB ks bx (.d n ts) (some (.d m us)):=by rw [h,a];exact .same _
theorem Jv{L:List RE}{i n:Nat}(b:i<=n)(a:L.length=n):aN (L.flatMap uk) (i * 4) ((n - i) * 4) (List.replicate (n - i) [T.str ⟨#[]⟩,.nil,I 0,I 0]).flatten=(L.take i).flatMap uk++(List.replicate (n - i) [T.str ⟨#[]⟩,.nil,I 0,I 0]).flatten:=by
 unfold aN;rw [<- Ah,List.drop_eq_nil_of_le (by rw [vm,a];omega),List.append_nil]
theorem Fy{α:Type}{p:α->Bool}{xs:List α}{i:Nat}(h:wq p xs=i): ∀j (c:j<xs.length),j<i->p xs[j]=false:=by
 unfold wq at h;cases a:xs.findIdx? p with
 |none=>rw [a] at h;dsimp only at h;omega
 |some k=>
  rw [a] at h;obtain ⟨f,g,b⟩:=List.findIdx?_eq_some_iff_getElem.1 a;dsimp only at h;intro j c d
  have:=b j (by omega)
  simpa using this
theorem HK(st:List RE)(hl:st.length<2^40)(f:FuncId)(c:T)(p:RE->Bool)(hf: ∀x∈st,DCalls Tryz.prog f [um x,c] (.bool (p x))):
  DCalls Tryz.prog 71 [esT st,.clos f [c]] (esT (st.filter p)):=by
 have A:=BO st 115 (.cptr [.clos f [c]] 0) (fun x=> !p x) (by omega) fun i h=>De st[i] f c (p st[i]) (hf _ (List.getElem_mem h))
 rcases st with _|⟨x0,st0⟩
 ·refine dl2 mixed [.tmp 4] [.slice 4 _] Tryz.func71 ST0.l71 ?_;have hD:DCalls Tryz.prog 113 [esT [],.clos 115 [.cptr [.clos f [c]] 0]] (esT []):=by
   refine dl2 mixed [.tmp 4] [.slice 4 _] Tryz.func113 ST0.Hk ?_;have e:wq (fun x=> !p x) ([]:List RE)= -1:=rfl;rw [e] at A
   repeat' ((conv=>whnf);first|refine uc _ (A) ?_|refine aE1 ?_|refine aS ?_|exact trivial)
  repeat' ((conv=>whnf);first|refine uc _ (HE) ?_|refine uc _ (hD) ?_|refine aS ?_|exact trivial)
 generalize hst:x0::st0=st at *
 have aH:0<st.length:=by rw [<- hst];simp
 have W:0<((st.map um).flatMap T.cells).length:=by rw [yE,vm];omega
 refine dl2 mixed [.tmp 4] [.slice 4 _] Tryz.func71 l71 ?_
 repeat' ((conv=>whnf);first|refine aS ?_|fail)
 refine tW mixed Tryz.func114 MJ rfl rfl (rs:=[.tmp 2]) rfl 500 (nlZ rfl) ?_;have X:4=4/\0<(st.map um).length/\(st.map um).length * 56<=140737488355328:=⟨rfl,by rw [List.length_map];exact aH,by rw [List.length_map];omega⟩
 repeat' ((conv=>whnf);first|(refine And.intro (by first|exact W|exact X) ?_)|refine aS ?_|fail)
 refine ⟨_,rfl,?_⟩
 skip
 refine tW mixed Tryz.func113 Hk rfl rfl (rs:=[.tmp 4]) rfl 700 (nlZ rfl) ?_;have G: ∀(bx:Nat->Option BX),bx 507=some (.d ((st.map um).length * 4) ((st.map um).flatMap T.cells))->conv bx (.view 507 0 (st.map um).length 4)=some (esT st,[507]):=fun bx z=>by
  have:conv bx (.view 507 0 (st.map um).length 4)=(match bx 507 with|some (.d m ts)=>cond (Nat.blt 0 4&&Nat.ble (0+(st.map um).length * 4) m) (some (T.slice 4 (chunk 4 (st.map um).length (ts.drop 0)),[507])) none|_=>none):=rfl
  rw [this,z];simp only;have B:Nat.ble (0+(st.map um).length * 4) ((st.map um).length * 4)=true:=Nat.ble_eq_true_of_le (by omega);rw [B,List.drop_zero,yE,List.length_map,AS];rfl
 have hcv: ∀(bx:Nat->Option BX) (L:List RE) (k:Nat),bx 507=some (.d (st.length * 4) (L.flatMap uk))->L.length=st.length->k<=L.length->conv bx (.view 507 0 k 4)=some (esT (L.take k),[507]):=fun bx L k z hL F=>by
  have:conv bx (.view 507 0 k 4)=(match bx 507 with|some (.d m ts)=>cond (Nat.blt 0 4&&Nat.ble (0+k * 4) m) (some (T.slice 4 (chunk 4 k (ts.drop 0)),[507])) none|_=>none):=rfl
  rw [this,z];simp only;have B:Nat.ble (0+k * 4) (st.length * 4)=true:=Nat.ble_eq_true_of_le (by omega);rw [B,List.drop_zero,Is L k F];rfl
 conv=>whnf
 split
 ·rename_i ts b;have e:=b.symm.trans (sU (G _ rfl) rfl);cases e
 rotate_left
 ·rename_i b;have e:=b.symm.trans (sU (G _ rfl) rfl);cases e
 rename_i ts r0 rs b;have e:=b.symm.trans (sU (G _ rfl) rfl);cases e;refine ⟨_,A,rfl,?_⟩;clear b;rcases A3 (fun x=> !p x) st with ⟨g,O⟩|⟨k,F,g,H⟩
 ·have Mn:st.filter p=st:=by
   rw [List.filter_eq_self];intro x g
   have:=List.find?_eq_none.1 O x g
   simpa using this
  rw [Mn];have J:wq (fun x=> !p x) st= -1:=g
  repeat' ((conv=>whnf);first|refine sE J ?_|refine aS ?_|fail)
  refine ⟨_,rfl,?_⟩
  skip
  refine ⟨?_,trivial⟩;have M: ∀bx:Nat->Option BX,bx 507=some (.d ((st.map um).length * 4) ((st.map um).flatMap T.cells))->Option.map (fun x=>x.1) (og bx (.view 507 0 (st.map um).length 4))=some (esT st):=fun bx z=>congrArg (Option.map Prod.fst) (G bx z)
  refine M _ ?_;rfl
 ·have Z:p st[k]=false:=by simpa using List.find?_some H
  have Mg:(st.take (k+1)).filter p=st.take k:=by
   rw [List.take_succ_eq_append_getElem F,List.filter_append];have B:(st.take k).filter p=st.take k:=by
    rw [List.filter_eq_self];intro x N;obtain ⟨j,r,rfl⟩:=List.getElem_of_mem N;rw [List.length_take] at r;rw [List.getElem_take]
    have:=Fy g j (by omega) (by omega)
    simpa using this
   rw [B];simp [Z]
  have J:wq (fun x=> !p x) st≠ -1:=by rw [g];omega
  have hA:((k:Nat):Int)=wq (fun x=> !p x) st:=g.symm;have hB:((k+1:Nat):Int)=IntKind.wrap .i64 (wq (fun x=> !p x) st+1):=by rw [g,nW] <;> omega
  have hLm:st.length=(st.map um).length:=by rw [List.length_map]
  have P:st.length * 4=(st.map um).length * 4:=by rw [List.length_map]
  have S: ∀x∈st,DCalls Tryz.prog 115 [um x,.cptr [.clos f [c]] 0] (.bool !(p x)):=fun x g=>De x f c (p x) (hf x g)
  repeat' ((conv=>whnf);first|refine sD J ?_|refine aS ?_|fail)
  refine tx 0 (α:=Nat×Nat×List RE) (β:=Nat×List RE) (fun q=>{sl:=[(0,.view 507 0 st.length 4),(1,.fn 115 [.ptr 3 0]),(5,.t (I q.1)),(6,.t (I ((q.2.1+1:Nat):Int)))],bx:=[(3,.d 1 [.clos f [c]]),(507,.d (st.length * 4) (q.2.2.flatMap uk))],gh:=[],off:=700})
   (fun q=>q.1<q.2.1+1/\q.2.1+1<=st.length/\q.2.2.length=st.length/\q.2.2.take q.1=(st.take (q.2.1+1)).filter p/\q.2.2.drop (q.2.1+1)=st.drop (q.2.1+1)) (fun q=>st.length - q.2.1)
   (fun q=>{sl:=[(0,.view 507 0 st.length 4),(5,.t (I q.1))],bx:=[(507,.d (st.length * 4) (q.2.flatMap uk))],gh:=[],off:=700}) (fun q=>q.1<st.length/\q.2.length=st.length/\q.2.take q.1=st.filter p) (k,k,st) ⟨Nat.lt_succ_self k,F,rfl,Mg.symm,rfl⟩ ?_ ?_ ?_
  ·repeat' (first|(exact leI hA)|(exact leI hB)|(exact IS hLm)|(exact JS P (yE st).symm)|exact wJ|refine And.intro ?_ ?_)
  ·rintro ⟨i,a,L⟩ ⟨Q,q2,v,y,E⟩;dsimp only at Q q2 v y E;rcases Nat.lt_or_ge (a+1) st.length with r|r
   ·have n:((a+1:Nat):Int)<(st.length:Int):=by omega
    have w:a+1<L.length:=by omega
    have Y:L[a+1]=st[a+1]:=by
     have e:L[a+1]? =st[a+1]? :=by have:=congrArg List.head? E;simpa [List.head?_drop] using this
     rw [ggZ w,ggZ r] at e;exact Option.some.inj e
    have gU:T.agg (((L.flatMap uk).drop (0+((a+1:Nat):Int).toNat * 4)).take 4)= .agg (uk st[a+1]):=by
     rw [Int.toNat_natCast,Nat.zero_add,E9 w,Y]
    have D:=S st[a+1] (List.getElem_mem r);have u:(st.take (a+1+1)).filter p=L.take i++(if p st[a+1] then [st[a+1]] else []):=by
     rw [List.take_succ_eq_append_getElem r,List.filter_append,y];cases h:p st[a+1] <;> simp [h]
    have Di:L.drop (a+1+1)=st.drop (a+1+1):=by
     rw [List.drop_eq_getElem_cons w,List.drop_eq_getElem_cons r] at E;exact (List.cons.inj E).2
    have hJ:((a+1+1:Nat):Int)=IntKind.wrap .i64 (((a+1:Nat):Int)+1):=by rw [nW] <;> omega
    have hI:((i+1:Nat):Int)=IntKind.wrap .i64 ((i:Int)+1):=by rw [nW] <;> omega
    generalize hxx:st[a+1]=x at *
    cases hp:p x with
    |false=>
     rw [hp] at u D
     repeat' ((conv=>whnf);first|refine sC n ?_|(refine nv_ (.agg (uk x)) (by first|exact gU) ?_)|refine ⟨_,D,rfl,?_⟩|(refine And.intro (by first|exact uo _|((simp;omega);done)|fail) ?_)|refine aS ?_|fail)
     exact ⟨(i,a+1,L),⟨by dsimp only;omega,r,v,by rw [u];simp,Di⟩,by dsimp only;omega,by repeat' (first|(exact leI hJ)|exact wJ|refine And.intro ?_ ?_)⟩
    |true=>
     rw [hp] at u D;have U:i<L.length:=by omega
     have tN:=Hs U x;have Kz:(L.set i x).flatMap uk=aN (L.flatMap uk) (0+((i:Nat):Int).toNat * 4) 4 (uk x):=by rw [Int.toNat_natCast,Nat.zero_add,tN]
     have Mx:(aN [T.str ⟨#[]⟩,.nil,I 0,I 0] 0 4 (uk x)).length=4/\0+((i:Nat):Int).toNat * 4+4<=st.length * 4:=⟨rfl,by rw [Int.toNat_natCast];omega⟩
     repeat' ((conv=>whnf);first|refine sC n ?_|(refine nv_ (.agg (uk x)) (by first|exact gU) ?_)|refine ⟨_,D,rfl,?_⟩|(refine And.intro (by first|exact uo _|exact Mx|((simp;omega);done)|fail) ?_)|refine aS ?_|fail)
     refine ⟨(i+1,a+1,L.set i x),⟨by dsimp only;omega,r,by simpa using v,?_,?_⟩,by dsimp only;omega,by repeat' (first|(exact leI hJ)|(exact leI hI)|(exact ui Kz)|exact wJ|refine And.intro ?_ ?_)⟩
     ·rw [u,List.take_set,List.take_succ_eq_append_getElem U,List.set_append_right _ _ (by simp;omega)];simp [List.length_take,Nat.min_eq_left (Nat.le_of_lt U)]
     ·show (L.set i x).drop (a+1+1)=_
      rw [List.drop_set_of_lt (by omega)];exact Di
   ·have n: ¬((a+1:Nat):Int)<(st.length:Int):=by omega
    have K:a+1=st.length:=by omega
    rw [K,List.take_length] at y
    repeat' ((conv=>whnf);first|refine su n ?_|refine aS ?_|fail)
    exact ⟨(i,L),⟨by dsimp only;omega,v,y⟩,by repeat' (first|exact wJ|refine And.intro ?_ ?_)⟩
  ·rintro ⟨i,L⟩ ⟨Q,v,y⟩;dsimp only at Q v y;have hz:aN (L.flatMap uk) (0+((i:Nat):Int).toNat * 4) ((((st.length:Nat):Int).toNat - ((i:Nat):Int).toNat) * 4) (List.replicate (((st.length:Nat):Int).toNat - ((i:Nat):Int).toNat) [T.str ⟨#[]⟩,.nil,I 0,I 0]).flatten=(L.take i).flatMap uk++(List.replicate (st.length - i) [T.str ⟨#[]⟩,.nil,I 0,I 0]).flatten:=by
    rw [Int.toNat_natCast,Int.toNat_natCast,Nat.zero_add];exact Jv (by omega) v
   have V: ∀bx:Nat->Option BX,bx 507=some (.d (st.length * 4) (aN (L.flatMap uk) (0+((i:Nat):Int).toNat * 4) ((((st.length:Nat):Int).toNat - ((i:Nat):Int).toNat) * 4) (List.replicate (((st.length:Nat):Int).toNat - ((i:Nat):Int).toNat) [T.str ⟨#[]⟩,.nil,I 0,I 0]).flatten))->Option.map (fun x=>x.1) (og bx (.view 507 0 i 4))=some (esT (st.filter p)):=fun bx z=>by
    have h0:og bx (.view 507 0 i 4)=(match bx 507 with|some (.d m ts)=>cond (Nat.blt 0 4&&Nat.ble (0+i * 4) m) (some (T.slice 4 (chunk 4 i (ts.drop 0)),[507])) none|_=>none):=rfl;rw [h0,z];simp only;have B:Nat.ble (0+i * 4) (st.length * 4)=true:=Nat.ble_eq_true_of_le (by omega);have C:(L.take i).length=i:=by rw [List.length_take];omega
    have h2:=AS (L.take i);rw [C] at h2;rw [B,List.drop_zero,hz,CR i _ _ (by rw [vm,C];omega),h2,y];rfl
   refine And.intro (by dsimp only;simp only [Int.toNat_natCast];omega) ?_
   conv=>whnf
   refine And.intro (by dsimp only;omega) ?_
   conv=>whnf
   refine And.intro (by dsimp only;omega) ?_
   conv=>whnf
   refine ⟨_,rfl,?_⟩
   conv=>whnf
   refine And.intro ?_ trivial;refine V _ ?_;rfl
end Go.ST
end
section
namespace Go.ST1
open Go Go.DL Go.Proofs
noncomputable def c22:aV:=(.seq (.cut (rg [oo 3 (.box 1 (tm 1)),oo 4 (.mov (.const .nil))])) (sr [mv 5 0,oo 6 (.mkfn 72 [tm 3]),oo 7 (.call 71 [(tm 5),(tm 6)]),mv 4 7] .ret))
theorem l22:(Tryz.f22.body.bind (bt Tryz.prog 8 [6000000]))=some c22:=by kernel_rfl
end Go.ST1
end
section
namespace Go.ST
open Go Go.DL Go.MM Go.Proofs
open Go.TY hiding Fd
theorem K2(x:RE)(v:ByteArray):DCalls Tryz.prog 72 [um x,.cptr [.str v] 0] (.bool (decide (x.var=v))):=by
 refine dl2 mixed [.tmp 3] [.bool _] Tryz.func72 l72 ?_;have h:=eqS x.var v
 repeat' ((conv=>whnf);first|exact trivial|refine nb_ _ h ?_|refine rbx ?_|(refine And.intro (by first|exact uo _) ?_)|refine aS ?_|refine nT_ ?_)
theorem J8(st:List RE)(v:ByteArray)(b:st.length<2^40):DCalls Tryz.prog 22 [esT st,.str v] (esT (ofE st v)):=by
 refine dl2 mixed [.tmp 4] [.slice 4 _] Tryz.func22 Go.ST1.l22 ?_;have h:=HK st b 72 (.cptr [.str v] 0) (fun e=>decide (e.var=v)) fun x _=>K2 x v
 refine tV (β:=Unit) (fun _=>{sl:=[(0,.t (esT st)),(3,.t (.cptr [.str v] 0))],bx:=[]}) (fun _=>True) ?_ ?_
 ·repeat' ((conv=>whnf);first|(exact ⟨(),trivial,by (repeat' (first|(exact LeV.conv _ _ _ rfl (fun n _ a=>absurd (show n∈([]:List Nat) from a) (by simp)))|exact wJ|refine And.intro ?_ ?_));done⟩)|refine aS ?_|fail)
 rintro _ _
 repeat' ((conv=>whnf);first|refine uc _ (h) ?_|refine aS ?_|exact trivial)
end Go.ST
end
section
namespace Go.Proofs
open Go.Shelf
def Tryz.Cj:Go.Shelf.Ren:=⟨fun|4=>119|n=>n,fun|22=>25|25=>64|3=>3|4=>4|9=>9|20=>20|0=>0|n=>n,fun|n=>n⟩
theorem Tryz.BH:Go.Proofs.Lays8.n4 Tryz.prog Tryz.Cj:={
 mixed:=by kernel_rfl
 f4:=⟨Tryz.f119.name,by decide,Tryz.func119.trans (congrArg some (by kernel_rfl))⟩
 t0:=Tryz.underlying0
 a0:=Tryz.isAgg0
 z0:=Tryz.sizeOf0
 v0:=Tryz.zeroValue0
 t3:=Tryz.underlying3
 a3:=Tryz.isAgg3
 z3:=Tryz.sizeOf3
 v3:=Tryz.zeroValue3
 t4:=Tryz.underlying4
 a4:=Tryz.isAgg4
 z4:=Tryz.sizeOf4
 v4:=Tryz.zeroValue4
 t9:=Tryz.underlying9
 a9:=Tryz.isAgg9
 z9:=Tryz.sizeOf9
 v9:=Tryz.zeroValue9
 t20:=Tryz.underlying20
 a20:=Tryz.isAgg20
 z20:=Tryz.sizeOf20
 v20:=Tryz.zeroValue20
 t22:=Tryz.underlying25
 a22:=Tryz.isAgg25
 z22:=Tryz.sizeOf25
 v22:=Tryz.zeroValue25 }
end Go.Proofs
end
section
namespace Go.ST
open Go Go.DL Go.MM Go.Proofs Go.Shelf Go.RowKit
theorem Jh(w:World)(p:Option Addr)(n c:Nat)(b:List Value)(f:b.length=n * 4)(h:p=none->n=0)(d: ∀a,p=some a-> ∀(j:Nat) (u:Value),b[j]? =some u->w.cell? (a.add j)=some u)(g: ∀u∈b,u.oneCell'=true):
  Src Tryz.prog 4 25 (.slice p n c) n b w:=by
 cases p with
 |none=>
  have:=h rfl
  subst this
  have:b=[]:=List.eq_nil_of_length_eq_zero (by omega)
  subst this;exact Src.ofNil w u9 c
 |some a=>exact Src.ofSlice w u9 a n c b f (d a rfl) g
theorem Kr(w:World):Calls Tryz.prog 119 #[.slice none 0 0,.int .i64 0] w fun e a=>e= .returned (.slice none 0 0)/\a=w:=
 Any8.slices_Grow_room Tryz.BH none 0 0 0 w (Nat.le_refl _) (by omega) (by omega) (by omega)
theorem Ks(w:World)(n:Nat)(m:Int)(f:m=n)(h:0<n)(j:n<2^40):Calls Tryz.prog 119 #[.slice none 0 0,.int .i64 m] w fun e d=> ∃G,n<=G/\e= .returned (.slice (some ⟨w.heap.size,0,none⟩) 0 G)/\d=w.drew.alloc (.cells (uy n++uy (G - n)) 64):=by
 subst f;obtain ⟨i0,i,c,g,b⟩:=info_parts yG;refine (Any8.slices_Grow_grow Tryz.BH i0 zeV i c (by omega) none 0 0 n [] w (Nat.le_refl _) (by omega) (by rw [b];omega) (by omega) (by simp) (fun _=>rfl) (fun a h=>by cases h)).mono ?_;rintro e d ⟨rfl,rfl⟩;refine ⟨_,Nat.le_trans (Nat.le_of_eq (Nat.zero_add n).symm) (grownCap_ge _ _ _ _),rfl,?_⟩;simp;rfl
theorem Da(w:World)(d:TypeId)(g n G m:Nat)(x:Value)(a:List Value)(c:Src Tryz.prog 4 25 x m a w)(q:n+m<=G)(p: ∀j,j<G * 4->(w.cell? ⟨g,j,none⟩).isSome=true)(h: ∀j,w.frozen? ⟨g,j,none⟩=false):
  (Builtin.append_ #[25,25] d #[.slice (some ⟨g,0,none⟩) n G,x]).run Tryz.prog w= .ok (.slice (some ⟨g,0,none⟩) (n+m) G) (w.setCells g (n * 4) a):=by
 obtain ⟨i0,k,i,b,f⟩:=info_parts yG
 have:=run_append_room_src (P:=Tryz.prog) w 25 25 d 64 i0 u9 k g 0 n G x m a (by rw [b];exact c) q (fun j r=>by rw [b];exact p _ (by have:=c.newsLen;omega)) (fun j _=>h _)
 rw [b,Nat.zero_add] at this;exact this
theorem Iw(W:World)(vb M a y c E:Nat)(D C:Option Addr)(A B:List Value)(L:W.cell? ⟨vb,0,none⟩=some (.slice D a y))(k1:W.cell? ⟨vb,1,none⟩=some (.slice C c E))(T:a<2^30)(hnb:c<2^30)
  (F: ∀b,DL.Below W.heap.size W b->Src Tryz.prog 4 25 (.slice D a y) a A b) (sB: ∀b,DL.Below W.heap.size W b->Src Tryz.prog 4 25 (.slice C c E) c B b) (V:0<a+c):
  Calls Tryz.prog 77 #[.slice (some ⟨vb,0,none⟩) 2 M] W fun e b=> ∃G,a+c<=G/\e= .returned (.slice (some ⟨W.heap.size,0,none⟩) (a+c) G)/\
   b=((W.drew.alloc (.cells (uy (a+c)++uy (G - (a+c))) 64)).setCells W.heap.size 0 A).setCells W.heap.size (a * 4) B:=by
 have X:=nil_eq;have u22: ∀w,Sem.run Tryz.prog (underlying 25) w= .ok (TypeDesc.slice 64) w:=run_underlying u9;have mx:=mixed;have w1:wrap64 (a:Int)=a:=by unfold wrap64;omega
 have w2:wrap64 ((a:Int)+c)=((a+c:Nat):Int):=by unfold wrap64;omega
 have n1: ¬((a:Int)<0):=by omega
 have n2: ¬(((a+c:Nat):Int)<0):=by omega
 have NW:W.drew.heap.size=W.heap.size:=rfl;have x: ∀G,DL.Below W.heap.size W (W.drew.alloc (.cells (uy (a+c)++uy (G - (a+c))) 64)):=fun G=>((DL.Below.refl _ _).drew).alloc (Nat.le_refl _) _
 have q:vb<W.heap.size:=block_lt_of_cell L;have i: ∀b,DL.Below W.heap.size W b->b.cell? ⟨vb,0,none⟩=some (.slice D a y):=fun b h=>by rw [h.toBelow.cell (p:=⟨vb,0,none⟩) q];exact L
 have n: ∀b,DL.Below W.heap.size W b->b.cell? ⟨vb,1,none⟩=some (.slice C c E):=fun b h=>by rw [h.toBelow.cell (p:=⟨vb,1,none⟩) q];exact k1
 have r: ∀k,(uy k).size=k * 4:=fun k=>by simp [uy,Builtin.zeroCells,Value.cells]
 have Q: ∀G,a+c<=G-> ∀j,j<G * 4->((W.drew.alloc (.cells (uy (a+c)++uy (G - (a+c))) 64)).cell? ⟨W.heap.size,j,none⟩).isSome=true:=fun G H j O=>by
  rw [World.cell?_alloc_at (w:=W.drew) _ _ W.heap.size j rfl,Array.getElem?_eq_getElem (by rw [Array.size_append,r,r];omega)];rfl
 have N: ∀G j,(W.drew.alloc (.cells (uy (a+c)++uy (G - (a+c))) 64)).frozen? ⟨W.heap.size,j,none⟩=false:=fun G j=>World.frozen?_alloc_at (w:=W.drew) _ _ W.heap.size j rfl
 go_enter Tryz.func77,Tryz.ntmps77
 go_wp2
 refine wp_loop_rounds 3 ?_;rw [rounds_succ]
 go_wp2
 rw [rounds_succ]
 go_wp2
 rw [rounds_succ]
 go_wp2_with (go_at_call 119;refine (Ks W (a+c) _ (by omega) V (by omega)).mono ?_;rintro e b ⟨G,H,rfl,d⟩;have P:Aside (b=W.drew.alloc (.cells (uy (a+c)++uy (G - (a+c))) 64)):=d;clear d)
 have d:=P.out;have u:=x G;have v:=Q G H;have z:=N G;rw [<- d] at u v z;have m: ∀j,j<G * 4->((b.setCells W.heap.size 0 A).cell? ⟨W.heap.size,j,none⟩).isSome=true:=fun j O=>by
  have U:=(F W (DL.Below.refl _ _)).newsLen;exact vM _ A 0 b (fun t ht=>by rw [Nat.zero_add];exact v t (by omega)) j (v j O)
 have g:DL.Below W.heap.size W (b.setCells W.heap.size 0 A):=ve _ (Nat.le_refl _) _ _ _ u;have I:=fun J=>Da b J W.heap.size 0 G a (.slice D a y) A (F b u) (by omega) v z
 have S:=fun J=>Da (b.setCells W.heap.size 0 A) J W.heap.size a G c (.slice C c E) B (sB _ g) (by omega) m (fun j=>by rw [World.frozen?_setCells];exact z j)
 have q0:=i b u;have Z:=n _ g;simp only [Nat.zero_add,Nat.zero_mul] at I;clear d u g v m z x Q N i n F sB L k1;obtain ⟨K,f⟩: ∃K,K=b.setCells W.heap.size 0 A:=⟨_,rfl⟩
 rw [<- f] at I S Z;have Y:Aside (K=b.setCells W.heap.size 0 A):=f;clear f;refine wp_loop_rounds 3 ?_;rw [rounds_succ]
 go_wp2_with (at_builtin;refine Lib.wpList_append_run _ rfl _ _ _ _ rfl _ _ rfl rfl _ _ (I _) ?_)
 rw [rounds_succ]
 go_wp2_with (at_builtin;refine Lib.wpList_append_run _ rfl _ _ _ _ rfl _ _ rfl rfl _ _ (S _) ?_)
 rw [rounds_succ]
 go_wp2
 go_ret
 exact ⟨G,H,rfl,by rw [Y.out,P.out]⟩
theorem Eb(w:World)(i:TypeId)(x:Value)(a:Src Tryz.prog 4 25 x 0 [] w):(Builtin.append_ #[25,25] i #[.slice none 0 0,x]).run Tryz.prog w= .ok (.slice none 0 0) w:=by
 obtain ⟨i0,h,f,b,d⟩:=info_parts yG;have j:=a.cells;have g:=a.cellsD;rcases a.kind with ⟨e',c⟩|c <;> simp [Builtin.append_,run_underlying u9,sizeOf,typeInfo,h,b,a.len,j]
theorem Iv(W:World)(vb b c h:Nat)(g f:Option Addr)(p:W.cell? ⟨vb,0,none⟩=some (.slice g 0 c))(k1:W.cell? ⟨vb,1,none⟩=some (.slice f 0 h))
  (i:Src Tryz.prog 4 25 (.slice g 0 c) 0 [] W) (sB:Src Tryz.prog 4 25 (.slice f 0 h) 0 [] W):
  Calls Tryz.prog 77 #[.slice (some ⟨vb,0,none⟩) 2 b] W fun e d=>e= .returned (.slice none 0 0)/\d=W:=by
 have j:=nil_eq;have n: ∀w,Sem.run Tryz.prog (underlying 25) w= .ok (TypeDesc.slice 64) w:=run_underlying u9;have mx:=mixed;have k:=fun a=>Eb W a _ i
 have m:=fun a=>Eb W a _ sB
 go_enter Tryz.func77,Tryz.ntmps77
 go_wp2
 refine wp_loop_rounds 3 ?_;rw [rounds_succ]
 go_wp2
 rw [rounds_succ]
 go_wp2
 rw [rounds_succ]
 go_wp2_with (go_at_call 119;refine (Kr W).mono ?_;rintro e d ⟨rfl,rfl⟩)
 refine wp_loop_rounds 3 ?_;rw [rounds_succ]
 go_wp2_with (at_builtin;refine Lib.wpList_append_run _ rfl _ _ _ _ rfl _ _ rfl rfl _ _ (k _) ?_)
 rw [rounds_succ]
 go_wp2_with (at_builtin;refine Lib.wpList_append_run _ rfl _ _ _ _ rfl _ _ rfl rfl _ _ (m _) ?_)
 rw [rounds_succ]
 go_wp2
 go_ret
 exact ⟨rfl,rfl⟩
end Go.ST
end
section
namespace Go.ST
open Go Go.DL Go.MM Go.Proofs
theorem yt(b:Nat)(e:TypeId)(s:Nat×Nat): ∀(vs:List Value) (o:Nat) (w:World) (c:Array Value),w.heap[b]? =some (.cells c e s)-> ∃a,(w.setCells b o vs).heap[b]? =some (.cells a e s)/\a.size=c.size
 |[],_,_,c,h=>⟨c,h,rfl⟩
 |v::vs,o,w,c,h=>by
  have f:(w.setCell ⟨b,o,none⟩ v).heap[b]? =some (.cells (c.setIfInBounds o v) e s):=by
   unfold World.setCell;simp [Array.getElem?_modify,h]
  obtain ⟨a,d,g⟩:=yt b e s vs (o+1) _ _ f;exact ⟨a,d,by rw [g,Array.size_setIfInBounds]⟩
theorem GC{S:ar}{w:World}{v:Value}{L:List RE}(h:Rep S w v (esT L)): ∃(a:Option Addr) (f:Nat) (c:List Value),v= .slice a L.length f/\c.length=L.length * 4/\(a=none->L.length=0)/\
  (∀ r,a=some r-> ∀(j:Nat) (u:Value),c[j]? =some u->w.cell? (r.add j)=some u)/\Al (fun x t=>Rep S w x t) c (L.flatMap uk):=by
 cases h with
 |slice a b o len f n xs g E G F H A C h=>
  rw [yE] at *
  have k:len=L.length:=by rw [<- E,List.length_map]
  subst k;refine ⟨a,f,(List.range (L.length * 4)).map g,rfl,by simp,fun B=>?_,fun r p j u m=>?_,⟨by rw [vm];simp,fun i x t q D=>?_⟩⟩
  ·rcases Nat.eq_zero_or_pos L.length with y|y
   ·exact y
   ·have:=A (by rw [vm];omega)
    rw [B] at this;cases this
  ·have d:=(gsZ m).1;rw [List.length_map,List.length_range] at d
   have:=A (by rw [vm];omega)
   rw [p] at this;cases this;rw [List.getElem?_map,List.getElem?_range d] at m;cases m;rw [Addr.add_lit];exact (C j (by rw [vm];exact d)).1
  ·have z:=(gsZ q).1;rw [List.length_map,List.length_range] at z;rw [List.getElem?_map,List.getElem?_range z] at q;cases q;exact h i t D
theorem F4(a b:List RE)(ha:a.length<2^30)(hb:b.length<2^30){st:St}{r d:Nat}{K:St->Prop}(hq:st.bx (d+st.off)=none)(qj:a++b=[]->K (st.set (some d) (.t .nil)))
  (hk:0<(a++b).length->K ({st with bx:=upd st.bx (d+st.off) (some (.d ((a++b).length * 4) ((a++b).flatMap uk)))}.set (some d) (.view (d+st.off) 0 (a++b).length 4))):
  WC Tryz.prog 77 [.own r 25 1 [esT a,esT b]] (some d) st K:=by
 refine ⟨eb Tryz.func77 rfl rfl,fun N w0 S0 E t vs h hlen hv hd=>?_⟩;have Y:vs.size=1:=hlen;have hvs:vs= #[vs[0]]:=by
  apply Array.ext
  ·simp [Y]
  ·intro i h1 h2
   match i,h1 with
   |0,_=>rfl
   |i+1,h1=>omega
 have ho:=(hv 0 vs[0] _ (by simp [Y]) rfl).eY;generalize vs[0]=v0 at *
 subst hvs;obtain ⟨cells,k1,k2,k3⟩:=ho.ex;rcases k1.2 with ⟨rfl,hn⟩|⟨g,Z,cur,rfl,hbg,hg,cT,hm,Q,htk⟩
 ·cases hn
 have hcl:cells.length=2:=k2;obtain ⟨va,vb,rfl⟩: ∃va vb,cells=[va,vb]:=by
  match cells,hcl with
  |[x,y],_=>exact ⟨x,y,rfl⟩
 obtain ⟨pa,ca,A,rfl,I,hA2,hA3,O⟩:=GC (k3 0 va (esT a) rfl rfl);obtain ⟨pb,cb,B,rfl,H,W,V,M⟩:=GC (k3 1 vb (esT b) rfl rfl);have hc0:E.w.cell? ⟨g,0,none⟩=some (.slice pa a.length ca):=by
  rw [cell_of_row _ _ _ _ _ _ hg]
  have:=congrArg (fun l:List Value=>l[0]?) htk
  simpa using this
 have hc1:E.w.cell? ⟨g,1,none⟩=some (.slice pb b.length cb):=by
  rw [cell_of_row _ _ _ _ _ _ hg]
  have:=congrArg (fun l:List Value=>l[1]?) htk
  simpa using this
 have one: ∀{l:List Value} {L:List RE},Al (fun x t=>Rep E.S E.w x t) l (L.flatMap uk)-> ∀u∈l,u.oneCell'=true:=fun {l L} h u D=>by
  obtain ⟨i,hi,rfl⟩:=List.getElem_of_mem D;have T:i<(L.flatMap uk).length:=by rw [<- h.len];exact hi
  exact (h.at_ i _ _ (ggZ hi) (ggZ T)).one (D0 L _ (List.getElem_mem T))
 have n: ∀{l:List Value} {L:List RE} {p:Option Addr} {c:Nat},l.length=L.length * 4->(p=none->L.length=0)->(∀ ad,p=some ad-> ∀(j:Nat) (u:Value),l[j]? =some u->E.w.cell? (ad.add j)=some u)->Al (fun x t=>Rep E.S E.w x t) l (L.flatMap uk)-> ∀f,DL.Below E.w.heap.size E.w f->
   Src Tryz.prog 4 25 (.slice p L.length c) L.length l f:=fun h1 h2 h3 h4 f hb=>Jh f _ _ _ _ h1 h2 (fun ad had j u hj=>by
  have:=h3 ad had j u hj
  have hlt:(ad.add j).block<E.w.heap.size:=block_lt_of_cell this;rw [hb.toBelow.cell hlt];exact this) (one h4)
 rcases Nat.eq_zero_or_pos (a++b).length with X|X
 ·rw [List.length_append] at X;have ha0:a=[]:=List.eq_nil_of_length_eq_zero (by omega);have hb0:b=[]:=List.eq_nil_of_length_eq_zero (by omega);subst ha0;subst hb0;have hA0:A=[]:=List.eq_nil_of_length_eq_zero I;have hB0:B=[]:=List.eq_nil_of_length_eq_zero H;have s1:=n I hA2 hA3 O (c:=ca) E.w (DL.Below.refl _ _);have s2:=n H W V M (c:=cb) E.w (DL.Below.refl _ _);rw [hA0] at s1;rw [hB0] at s2;refine (Iv E.w g Z ca cb pa pb hc0 hc1 s1 s2).mono ?_;rintro e f ⟨rfl,rfl⟩;exact ⟨_,rfl,E,_,rfl,qj rfl,eZ h hd (.t _ _ .nil)⟩
 have hk:=hk X;rw [List.length_append] at X;refine (Iw E.w g Z a.length ca b.length cb pa pb A B hc0 hc1 ha hb (n I hA2 hA3 O) (n H W V M) X).mono ?_;rintro e f ⟨G,hG,rfl,J⟩;have v: ∀k,(uy k).size=k * 4:=fun k=>by simp [uy,Builtin.zeroCells,Value.cells]
 have U:DL.Below E.w.heap.size E.w f:=by
  rw [J];exact ve _ (Nat.le_refl _) _ _ _ (ve _ (Nat.le_refl _) _ _ _ (((DL.Below.refl _ _).drew).alloc (Nat.le_refl _) _))
 obtain ⟨z,Fs,Mk⟩: ∃C,f.heap[E.w.heap.size]? =some (.cells C 64 (0,0))/\C.size=G * 4:=by
  obtain ⟨c1,g1,z1⟩:=yt E.w.heap.size 64 (0,0) A 0 (E.w.drew.alloc (.cells (uy (a.length+b.length)++uy (G - (a.length+b.length))) 64)) _ (heap_alloc_new E.w.drew _);obtain ⟨c2,g2,z2⟩:=yt E.w.heap.size 64 (0,0) B (a.length * 4) _ _ g1;rw [J];exact ⟨c2,g2,by rw [z2,z1,Array.size_append,v,v, <-Nat.add_mul];congr 1;omega⟩
 have cj: ∀(j:Nat) (u:Value),(A++B)[j]? =some u->z[j]? =some u:=fun j u D=>by
  have c1: ∀j,j<G * 4->((E.w.drew.alloc (.cells (uy (a.length+b.length)++uy (G - (a.length+b.length))) 64)).cell? ⟨E.w.heap.size,j,none⟩).isSome=true:=fun j hj=>by
   rw [World.cell?_alloc_at (w:=E.w.drew) _ _ E.w.heap.size j rfl,Array.getElem?_eq_getElem (by rw [Array.size_append,v,v];omega)];rfl
  rw [<- cell_of_row _ _ _ _ _ _ Fs,J];have hj:=(gsZ D).1;rw [List.length_append] at hj
  by_cases P:j<A.length
  ·rw [List.getElem?_append_left P] at D;rw [World.cell?_setCells_out _ _ _ _ _ (fun _ _=>by left;show j<a.length * 4;omega)]
   have:=World.cell?_setCells_in E.w.heap.size A 0 (E.w.drew.alloc (.cells (uy (a.length+b.length)++uy (G - (a.length+b.length))) 64)) (fun k hk=>c1 _ (by omega)) j P
   rw [Nat.zero_add] at this;rw [this, <-D,ggZ P]
  ·rw [List.getElem?_append_right (by omega)] at D
   have:=World.cell?_setCells_in E.w.heap.size B (a.length * 4) ((E.w.drew.alloc (.cells (uy (a.length+b.length)++uy (G - (a.length+b.length))) 64)).setCells E.w.heap.size 0 A) (fun k hk=>vM _ A 0 _ (fun t ht=>by rw [Nat.zero_add];exact c1 t (by omega)) _ (c1 _ (by omega))) (j - A.length) (by omega)
   rw [show a.length * 4+(j - A.length)=j by omega] at this;rw [this, <-D,ggZ (by omega)]
 have h':SR N w0 S0 {E with w:=f } st t:=h.world U E.S (fun b o=>⟨.inl,fun hh=>hh.elim id fun k=>k.1⟩);have klt: ∀m,E.live m=true->E.κ m<E.w.heap.size:=fun m hm=>lV (a:=⟨t,[]⟩) h hm
 have F:Al (fun x t=>Rep E.S E.w x t) (A++B) ((a++b).flatMap uk):=by rw [List.flatMap_append];exact O.append M
 have HV:(A++B).length=(a++b).length * 4:=by rw [F.len,vm]
 have hgl:E.w.heap.size<f.heap.size:=(Array.getElem?_eq_some_iff.1 Fs).1;have h2:=h'.pK (q:=d+st.off) (g:=E.w.heap.size) hq (fun m hm=>by have:=klt m hm;show E.κ m≠_;omega) (fun r' hr=>by have:=(h.rows r' _ hr).2.1;omega)
  (bx:=.d ((a++b).length * 4) ((a++b).flatMap uk)) ⟨by show E.B<=E.w.heap.size;rw [h.base];exact h.below.size,fun o Q=>absurd (h.lt _ o Q) (by omega),_,Fs,.cells z 64 _ <| .d _ _ (vm _) (by rw [Mk,List.length_append];exact Nat.mul_le_mul_right _ hG) fun i x u hx ht=>by
   have hi:i<(A++B).length:=by rw [F.len];exact (gsZ ht).1
   have hx':=cj i _ (ggZ hi);rw [hx] at hx';have hR:=F.at_ i x u (by rw [ggZ hi];exact hx'.symm) ht;exact ⟨hR.mono (fun _ _ Q=>Q) (fun b o Q=>aC.dC U (h.lt b o Q)),D0 _ _ (List.mem_of_getElem? ht)⟩⟩
 refine ⟨_,rfl,_,_,rfl,hk,eZ h2 hd ?_⟩
 have:=VR.view (E:={E with w:=f,κ:=upd E.κ (d+st.off) E.w.heap.size,live:=upd E.live (d+st.off) true }) (d+st.off) 0 (a++b).length 4 G (by show upd E.live _ true _=true;exact aj _ _ _) (by rw [List.length_append];exact hG)
 have hκ:upd E.κ (d+st.off) E.w.heap.size (d+st.off)=E.w.heap.size:=aj _ _ _;simp only [hκ,List.length_append] at this;rw [List.length_append];exact this
end Go.ST
end
section
namespace Go.Proofs
open Go.Shelf
def Tryz.CF:Go.Shelf.Ren:=⟨fun|6=>78|15=>121|14=>120|28=>154|29=>155|20=>146|21=>147|22=>148|23=>149|24=>150|25=>151|26=>152|27=>153|46=>177|47=>178|48=>179|49=>180|50=>181|57=>194|n=>n,fun|22=>25|24=>64|25=>73|3=>3|39=>163|0=>0|53=>198|55=>183|4=>4|46=>192|45=>191|50=>124|5=>5|9=>9|66=>220|70=>219|76=>233|77=>234|n=>n,fun|n=>n⟩
theorem Tryz.Fz:Go.Proofs.SlLaysF0.n6 Tryz.prog Tryz.CF:={
 mixed:=by kernel_rfl
 f6:=⟨Tryz.f78.name,by decide,Tryz.func78.trans (congrArg some (by kernel_rfl))⟩
 f14:=⟨Tryz.f120.name,by decide,Tryz.func120.trans (congrArg some (by kernel_rfl))⟩
 f15:=Tryz.func121.trans (congrArg some (by kernel_rfl))
 f20:=⟨Tryz.f146.name,by decide,Tryz.func146.trans (congrArg some (by kernel_rfl))⟩
 f21:=⟨Tryz.f147.name,by decide,Tryz.func147.trans (congrArg some (by kernel_rfl))⟩
 f22:=⟨Tryz.f148.name,by decide,Tryz.func148.trans (congrArg some (by kernel_rfl))⟩
 f23:=⟨Tryz.f149.name,by decide,Tryz.func149.trans (congrArg some (by kernel_rfl))⟩
 f24:=⟨Tryz.f150.name,by decide,Tryz.func150.trans (congrArg some (by kernel_rfl))⟩
 f25:=⟨Tryz.f151.name,by decide,Tryz.func151.trans (congrArg some (by kernel_rfl))⟩
 f26:=⟨Tryz.f152.name,by decide,Tryz.func152.trans (congrArg some (by kernel_rfl))⟩
 f27:=⟨Tryz.f153.name,by decide,Tryz.func153.trans (congrArg some (by kernel_rfl))⟩
 f28:=Tryz.func154.trans (congrArg some (by kernel_rfl))
 f29:=Tryz.func155.trans (congrArg some (by kernel_rfl))
 f46:=⟨Tryz.f177.name,by decide,Tryz.func177.trans (congrArg some (by kernel_rfl))⟩
 f47:=Tryz.func178.trans (congrArg some (by kernel_rfl))
 f48:=Tryz.func179.trans (congrArg some (by kernel_rfl))
 f49:=⟨Tryz.f180.name,by decide,Tryz.func180.trans (congrArg some (by kernel_rfl))⟩
 f50:=⟨Tryz.f181.name,by decide,Tryz.func181.trans (congrArg some (by kernel_rfl))⟩
 f57:=⟨Tryz.f194.name,by decide,Tryz.func194.trans (congrArg some (by kernel_rfl))⟩
 t0:=Tryz.underlying0
 a0:=Tryz.isAgg0
 z0:=Tryz.sizeOf0
 v0:=Tryz.zeroValue0
 t3:=Tryz.underlying3
 a3:=Tryz.isAgg3
 z3:=Tryz.sizeOf3
 v3:=Tryz.zeroValue3
 t4:=Tryz.underlying4
 a4:=Tryz.isAgg4
 z4:=Tryz.sizeOf4
 v4:=Tryz.zeroValue4
 t5:=Tryz.underlying5
 a5:=Tryz.isAgg5
 z5:=Tryz.sizeOf5
 v5:=Tryz.zeroValue5
 t9:=Tryz.underlying9
 a9:=Tryz.isAgg9
 z9:=Tryz.sizeOf9
 v9:=Tryz.zeroValue9
 t22:=Tryz.underlying25
 a22:=Tryz.isAgg25
 z22:=Tryz.sizeOf25
 v22:=Tryz.zeroValue25
 t25:=Tryz.underlying73
 a25:=Tryz.isAgg73
 z25:=Tryz.sizeOf73
 v25:=Tryz.zeroValue73
 t39:=Tryz.underlying163
 a39:=Tryz.isAgg163
 z39:=Tryz.sizeOf163
 v39:=Tryz.zeroValue163
 t45:=Tryz.underlying191
 a45:=Tryz.isAgg191
 z45:=Tryz.sizeOf191
 v45:=Tryz.zeroValue191
 t46:=Tryz.underlying192
 a46:=Tryz.isAgg192
 z46:=Tryz.sizeOf192
 v46:=Tryz.zeroValue192
 t50:=Tryz.underlying124
 a50:=Tryz.isAgg124
 z50:=Tryz.sizeOf124
 v50:=Tryz.zeroValue124
 t53:=Tryz.underlying198
 a53:=Tryz.isAgg198
 z53:=Tryz.sizeOf198
 v53:=Tryz.zeroValue198
 t55:=Tryz.underlying183
 a55:=Tryz.isAgg183
 z55:=Tryz.sizeOf183
 v55:=Tryz.zeroValue183
 t66:=Tryz.underlying220
 a66:=Tryz.isAgg220
 z66:=Tryz.sizeOf220
 v66:=Tryz.zeroValue220
 t70:=Tryz.underlying219
 a70:=Tryz.isAgg219
 z70:=Tryz.sizeOf219
 v70:=Tryz.zeroValue219
 t76:=Tryz.underlying233
 a76:=Tryz.isAgg233
 z76:=Tryz.sizeOf233
 v76:=Tryz.zeroValue233
 t77:=Tryz.underlying234
 a77:=Tryz.isAgg234
 z77:=Tryz.sizeOf234
 v77:=Tryz.zeroValue234 }
end Go.Proofs
end
section
namespace Go.ST2
open Go Go.DL Go.Proofs
noncomputable def c27:aV:=(sr [oo 4 (.mov (.const .nil)),oo 5 (.mov (Kc 0))] (sr [mv 8 0,mv 9 1,oo 10 (.buildS 25 1 2 [.nil] [(0,(tm 8)),(1,(tm 9))]),oo 11 (.inl 77 [tm 10]),mv 6 11] (sr [mv 12 6,oo 13 (.inl 78 [(tm 12),(.const (.clos 29 []))])] (.seq (sr [mv 14 6,ln 15 14,oo 16 (.mov (Kc 0))] (.block 0 (.loop (sr [oo 17 (.bin .lss (tm 16) (tm 15))] (.seq (.cond (tm 17) .skip (.exit 0)) (.seq (.block 1 (sr [mv 18 16,mv 7 18] (sr [mv 19 7,oo 20 (.bin .gtr (tm 19) (Kc 0)),mv 21 20,mT 22 6 21,mT 23 7 21,oT 24 21 (.bin .sub (tm 23) (Kc 1)),oT 25 21 (.idxL 4 (tm 22) (tm 24)),oT 26 21 (.load 4 true (tm 25)),mT 27 6 21,mT 28 7 21,oT 29 21 (.idxL 4 (tm 27) (tm 28)),oT 30 21 (.load 4 true (tm 29)),oT 31 21 (.call 29 [(tm 26),(tm 30)]),oT 32 21 (.bin .eql (tm 31) (Kc 0)),oo 33 (.pick (tm 21) (tm 32) kF)] (.cond (tm 33) (sr [oo 4 (.mov (.const .nil)),oo 5 (.mov (Kc 10))] .ret) .skip)))) (rg [oo 34 (.bin .add (tm 16) (Kc 1)),mv 16 34]))))))) (sr [mv 35 6,mv 4 35,oo 5 (.mov (Kc 0))] .ret)))))
theorem l27:(Tryz.f27.body.bind (bt Tryz.prog 36 [77,78]))=some c27:=by kernel_rfl
end Go.ST2
end
section
namespace Go.ST
open Go Go.DL Go.MM Go.Proofs
theorem GF:lY Tryz.prog 78 4:=
 lY.of Tryz.Fz 4 (fun w=>Tryz.isAgg64 w) (fun w=>Tryz.sizeOf64 w) (eb Tryz.func78 rfl rfl)
theorem Ej{P:Program}{f:FuncId}{k:Nat}{u:V}{d:Option Nat}{st:St}{K:St->Prop}(n:lY P f k)(r:K (st.set d (.t (.tup [])))):WC P f [.t .nil,u] d st K:=by
 refine ⟨n.callable,fun N A S0 E a vs h g z hd=>?_⟩;have b:vs.size=2:=g;have c:=(z 0 vs[0] _ (by simp [b]) rfl).ax;have j:vs= #[vs[0],vs[1]]:=by
  apply Array.ext
  ·simp [b]
  ·intro i q C
   match i,q with
   |0,_=>rfl
   |1,_=>rfl
   |i+2,q=>omega
 have m:vs[0]= .slice none 0 0:=by
  generalize vs[0]=v at c;cases c;rfl
 have p:=n.none_ none 0 vs[1] E.w;rw [<- m, <-j] at p;refine p.mono ?_;rintro e' B ⟨rfl,rfl⟩;exact ⟨_,rfl,_,_,rfl,r,eZ h hd (.t _ _ (.tup #[] [] rfl fun i x t y=>by simp at y))⟩
def unI:T->Int
 |.int _ i=>i
 |_=>0
def unE:T->RE
 |.agg [.str v,.slice _ ks,.int _ n,.int _ t]=>⟨v,ks.map unI,n,t⟩
 |_=>⟨⟨#[]⟩,[],0,0⟩
theorem Bw(e:RE):unE (um e)=e:=by
 obtain ⟨v,k,n,t⟩:=e;show RE.mk v ((k.map I).map unI) n t=_
 rw [List.map_map,show unI ∘ I=id from rfl,List.map_id]
def cfE(x y:T):Int:=uz (unE x) (unE y)
theorem xt(a b:RE):cfE (um a) (um b)=uz a b:=by unfold cfE;rw [Bw,Bw]
theorem Gs{a:List RE}{ys:List T}(h:ys.Perm (a.map um)): ∃us:List RE,us.Perm a/\ys=us.map um:=by
 refine ⟨ys.map unE,?_,?_⟩
 ·have:=h.map unE
  rw [List.map_map] at this;rwa [show unE ∘ um=id from funext Bw,List.map_id] at this
 ·rw [List.map_map]
  have:ys.map (um ∘ unE)=ys.map id:=List.map_congr_left fun y b=>by
   obtain ⟨z,_,rfl⟩:=List.mem_map.1 (h.mem_iff.1 b);show um (unE (um z))=um z
   rw [Bw]
  rw [this,List.map_id]
theorem FG{l:List RE}(h: ∃(i:Nat) (b:i+1<l.length),uz l[i] l[i+1]≠ -1):xh l=false:=by
 cases c:xh l with
 |false=>rfl
 |true=>
  obtain ⟨i,b,a⟩:=h;exact absurd (List.pairwise_iff_getElem.1 (xZ.1 c) i (i+1) (by omega) b (by omega)) a
theorem Gq{l:List RE}(h: ∀(i:Nat) (c:i+1<l.length),uz l[i] l[i+1]= -1):xh l=true:=by
 induction l with
 |nil=>rfl
 |cons a r d=>
  cases r with
  |nil=>rfl
  |cons b r=>
   show (decide (uz a b= -1)&&xh (b::r))=true
   rw [Bool.and_eq_true];exact ⟨decide_eq_true (h 0 (by simp)),d fun i c=>h (i+1) (by simpa using c)⟩
theorem C7{a vs:List T}{n:Nat}(h:a.length=n):aN a 0 n vs=vs:=by
 unfold aN;rw [List.take_zero,List.nil_append,List.drop_eq_nil_of_le (by omega),List.append_nil]
def NH:Option (List RE)->T
 |some a=>.tup [esT a,I 0]
 |none=>.tup [.nil,I 10]
theorem HX(a b:List RE)(ha:a.length<2^30)(hb:b.length<2^30)(Y: ∀x∈a,kOk x)(V: ∀x∈b,kOk x)(r:T)(e:Int)
  (hr: ∀c:List RE,c.Perm (a++b)->(c.Pairwise fun x y=>uz y x≠ -1)->(xh c=true->r=esT c/\e=0)/\(xh c=false->r= .nil/\e=10)):DCalls Tryz.prog 27 [esT a,esT b] (.tup [r,I e]):=by
 refine dl2 mixed [.tmp 4,.tmp 5] [r,I e] Tryz.func27 Go.ST2.l27 ?_;have JH: ∀x∈a++b,kOk x:=fun x q=>(List.mem_append.1 q).elim (Y x) (V x)
 have hlen:(a++b).length<2^31:=by rw [List.length_append];omega
 repeat' ((conv=>whnf);first|refine F4 a b ha hb rfl (fun h0=>?_) (fun h0=>?_)|refine aS ?_|fail)
 ·have:=hr [] (by rw [h0]) List.Pairwise.nil
  obtain ⟨rfl,rfl⟩:=this.1 rfl
  repeat' ((conv=>whnf);first|refine Ej GF ?_)
  refine tx 0 (α:=Unit) (β:=Unit) (fun _=>{sl:=[(6,.t .nil),(15,.t (I 0)),(16,.t (I 0))],bx:=[]}) (fun _=>True) (fun _=>0) (fun _=>{sl:=[(6,.t (esT []))],bx:=[]}) (fun _=>True) () trivial ?_ ?_ ?_
  ·repeat' (first|exact wJ|refine And.intro ?_ ?_)
  ·rintro - -
   repeat' ((conv=>whnf);first|(exact ⟨(),trivial,by (repeat' (first|(exact LeV.empty 4)|exact wJ|refine And.intro ?_ ?_));done⟩)|refine aD0 ?_|refine aS ?_|fail)
  ·rintro - -
   repeat' ((conv=>whnf);first|refine rix ?_|refine aS ?_|exact trivial)
 ·have hfl:=vm (a++b);have u:chunk 4 (a++b).length (((a++b).flatMap uk).drop 0)=(a++b).map um:=by rw [List.drop_zero];exact AS _
  have p: ∀x∈(a++b).map um, ∃e:RE,x=um e/\kOk e:=fun x q=>by
   obtain ⟨e,U,rfl⟩:=List.mem_map.1 q;exact ⟨e,rfl,JH e U⟩
  repeat' ((conv=>whnf);first|refine tU (n:=11) (off:=0) (len:=(a++b).length) (k:=4) (m:=(a++b).length * 4) (ts:=(a++b).flatMap uk) GF rfl (by omega) (by decide) (by omega) (.inl rfl) (eb Tryz.func29 rfl rfl) cfE ?_ ?_ ?_ ?_ (fun ys w Q=>?_)|fail)
  ·rw [u];intro x q y w;obtain ⟨e,rfl,U⟩:=p x q;obtain ⟨f,rfl,hf⟩:=p y w;rw [xt];exact xK e f U hf
  ·rw [u];intro x q;obtain ⟨e,rfl,U⟩:=p x q;rw [xt,uv.refl];decide
  ·rw [u];intro x q y w z D;obtain ⟨e,rfl, -⟩:=p x q;obtain ⟨f,rfl, -⟩:=p y w;obtain ⟨g,rfl, -⟩:=p z D;rw [xt,xt,xt];intro h1 h2
   have:=uv.t e f g (by have:=uv.r e f;omega) (by have:=uv.r f g;omega)
   omega
  ·rw [u];intro x q y w z D;obtain ⟨e,rfl, -⟩:=p x q;obtain ⟨f,rfl, -⟩:=p y w;obtain ⟨g,rfl, -⟩:=p z D;rw [xt,xt,xt];intro h1 h2 X;have H:=uv.r e f;have L:=uv.r f g;have r3:=uv.r e g;have s1:=uv.s e f;have s2:=uv.s f g;rcases H with H|H|H
   ·omega
   ·have:=uv.z e f H g;omega
   ·rcases L with L|L|L
    ·omega
    ·have:=uv.z' L e;omega
    ·have:=uv.t g f e (by omega) (by omega)
     have:=uv.s e g
     omega
  ·rw [u] at w;obtain ⟨c,hp,rfl⟩:=Gs w;have P:c.Pairwise fun x y=>uz y x≠ -1:=by
    refine (List.pairwise_map.1 Q).imp fun {x y} h=>?_
    rw [xt] at h;omega
   obtain ⟨hrt,hrf⟩:=hr c hp P;have M:c.length=(a++b).length:=hp.length_eq;have G: ∀x∈c,kOk x:=fun x q=>JH x (hp.mem_iff.1 q)
   have fc:c.flatMap uk=aN ((a++b).flatMap uk) 0 ((a++b).length * 4) ((c.map um).flatMap T.cells):=by rw [C7 (vm _),yE]
   clear hr u p Q w;generalize (a++b).length=n at *
   generalize (a++b).flatMap uk=cs at *
   have W: ∀bx:Nat->Option BX,bx 11=some (.d (n * 4) (aN cs 0 (n * 4) ((c.map um).flatMap T.cells)))->conv bx (.view 11 0 n 4)=some (esT c,[11]):=fun bx hb=>by
    have:conv bx (.view 11 0 n 4)=(match bx 11 with|some (.d m ts)=>cond (Nat.blt 0 4&&Nat.ble (0+n * 4) m) (some (T.slice 4 (chunk 4 n (ts.drop 0)),[11])) none|_=>none):=rfl
    rw [this,hb, <-fc];simp only;have h1:Nat.ble (0+n * 4) (n * 4)=true:=Nat.ble_eq_true_of_le (by omega);rw [h1,List.drop_zero, <-M,AS c];rfl
   have JJ:((c.map um).length:Int)=(n:Int):=by rw [List.length_map,M]
   refine tx 0 (α:=Nat) (β:=Unit) (fun i=>{sl:=[(6,.t (esT c)),(15,.t (I n)),(16,.t (I i))],bx:=[]})
    (fun i=>i<=n/\ ∀j (h:j+1<c.length),j+1<i->uz c[j] c[j+1]= -1) (fun i=>n - i)
    (fun _=>{sl:=[(6,.t (esT c))],bx:=[]}) (fun _=>xh c=true) 0 ⟨Nat.zero_le _,fun j _ h=>by omega⟩ ?_ ?_ ?_
   ·repeat' (first|(exact LeV.conv _ _ _ (W _ rfl) (fun n _ S=>absurd (show n∈([]:List Nat) from S) (by simp)))|exact wJ|refine And.intro ?_ ?_)
   ·rintro i ⟨hi,B⟩;rcases Nat.lt_or_ge i n with h|h
    ·have v:(i:Int)<(n:Int):=by omega
     have J:((i+1:Nat):Int)=IntKind.wrap .i64 ((i:Int)+1):=by rw [nW] <;> omega
     cases i with
     |zero=>
      repeat' ((conv=>whnf);first|refine sC v ?_|(exact ⟨1,⟨h,fun j _ hj=>by omega⟩,(by omega),by (repeat' (first|(exact leI J)|exact wJ|refine And.intro ?_ ?_));done⟩)|refine aN0 ?_|refine aS ?_|fail)
     |succ j=>
      have F:((j+1:Nat):Int)>0:=by omega
      have C:j<c.length:=by omega
      have A:j+1<c.length:=by omega
      have hw:IntKind.wrap .i64 (((j+1:Nat):Int) - 1)=(j:Int):=by rw [nW] <;> omega
      have N:(c.map um)[(IntKind.wrap .i64 (((j+1:Nat):Int) - 1)).toNat]?.getD .nil= .agg (uk c[j]):=by
       rw [hw,Int.toNat_natCast,uP C]
      have O:(c.map um)[((j+1:Nat):Int).toNat]?.getD .nil= .agg (uk c[j+1]):=by
       rw [Int.toNat_natCast,uP A]
      have K:0<=IntKind.wrap .i64 (((j+1:Nat):Int) - 1)/\IntKind.wrap .i64 (((j+1:Nat):Int) - 1)<((c.map um).length:Int):=by rw [hw,JJ];omega
      have E:0<=((j+1:Nat):Int)/\((j+1:Nat):Int)<((c.map um).length:Int):=by rw [JJ];omega
      have hC:=xK c[j] c[j+1] (G _ (List.getElem_mem C)) (G _ (List.getElem_mem A));have hcr:=uv.r c[j] c[j+1];have hne:=List.pairwise_iff_getElem.1 P j (j+1) C A (by omega);have hcs:=uv.s c[j] c[j+1]
      by_cases D:uz c[j] c[j+1]=0
      ·obtain ⟨rfl,rfl⟩:=hrf (FG ⟨j,A,by omega⟩)
       repeat' ((conv=>whnf);first|exact trivial|refine sC v ?_|refine sC F ?_|(refine nv_ (.agg (uk c[j])) (by first|exact N) ?_)|(refine nv_ (.agg (uk c[j+1])) (by first|exact O) ?_)|refine uc _ (hC) ?_|refine sE D ?_|refine rix ?_|(refine And.intro (by first|exact K|exact E|exact uo _) ?_)|refine aS ?_|refine nT_ ?_)
      ·have Kw: ∀k (S:k+1<c.length),k+1<j+1+1->uz c[k] c[k+1]= -1:=fun k S hk2=>by
        rcases Nat.lt_or_ge (k+1) (j+1) with X|X
        ·exact B k S X
        ·have:k=j:=by omega
         subst this;omega
       repeat' ((conv=>whnf);first|refine sC v ?_|refine sC F ?_|(refine nv_ (.agg (uk c[j])) (by first|exact N) ?_)|(refine nv_ (.agg (uk c[j+1])) (by first|exact O) ?_)|refine uc _ (hC) ?_|refine sD D ?_|(exact ⟨j+1+1,⟨h,Kw⟩,(by omega),by (repeat' (first|(exact leI J)|exact wJ|refine And.intro ?_ ?_));done⟩)|(refine And.intro (by first|exact K|exact E|exact uo _) ?_)|refine aS ?_|refine nT_ ?_)
    ·have v: ¬(i:Int)<(n:Int):=by omega
     have Z:xh c=true:=Gq fun j hj=>B j hj (by omega)
     repeat' ((conv=>whnf);first|refine su v ?_|(exact ⟨(),Z,by (repeat' (first|exact wJ|refine And.intro ?_ ?_));done⟩)|refine aS ?_|fail)
   ·rintro - Z;obtain ⟨rfl,rfl⟩:=hrt Z
    repeat' ((conv=>whnf);first|refine rix ?_|refine aS ?_|exact trivial)
theorem J7(a b:List RE)(k:uR a)(n:uR b)(q:a.length<2^30)(p:b.length<2^30)(g: ∀x∈a,kOk x)(i: ∀x∈b,kOk x):DCalls Tryz.prog 27 [esT a,esT b] (NH (Cg a b)):=by
 have m:=fun (d:List RE) (f:d.Perm (a++b)) c=>El k n f c
 cases h:Cg a b with
 |none=>
  refine HX a b q p g i .nil 10 fun d f c=>⟨fun j=>?_,fun _=>⟨rfl,rfl⟩⟩
  have:=m d f c
  rw [h,if_pos j] at this;cases this
 |some w=>
  refine HX a b q p g i (esT w) 0 fun d f c=>⟨fun j=>?_,fun j=>?_⟩
  ·have:=m d f c
   rw [h,if_pos j] at this;cases this;exact ⟨rfl,rfl⟩
  ·have:=m d f c
   rw [h,if_neg (by simp [j])] at this;cases this
end Go.ST
end
section
end
noncomputable section
namespace Go.ST4
open Go Go.DL Go.Proofs
def c58:aV:=(sr [oo 5 (.box 10 (tm 2)),oo 6 (.mov (.const .nil)),oo 7 (.mov kF)] (sr [oo 8 (.mov (.const .nil))] (.seq (sr [mv 13 1,ln 14 13,oo 15 (.mov (Kc 0))] (.block 0 (.loop (sr [oo 16 (.bin .lss (tm 15) (tm 14))] (.seq (.cond (tm 16) .skip (.exit 0)) (.seq (.block 1 (sr [ix 17 1 13 15,ld 18 17,mv 10 18] (sr [mv 20 0,mv 21 10,oo 22 (.call 107 [(tm 20),(tm 21)]),mv 19 22,oo 23 (.ext (tm 19) 0),oo 24 (.ext (tm 19) 1),⟨some 11,.alloc [S0,Z0,Z0],none,[]⟩,o0 (.store 3 (tm 11) (tm 23)),mv 12 24] (.seq (sr [mv 25 12,oo 26 (.not (tm 25))] (.cond (tm 26) (sr [oo 6 (.mov (.const .nil)),oo 7 (.mov kF)] .ret) .skip)) (rg [mv 27 8,lA 28 3 11,lA 29 10 5,oo 30 (.call 108 [(tm 28),(tm 29)]),oo 31 (.buildF 1 1 [Z0] [(0,(tm 30))]),oo 32 (.append 59 3 1 8 (tm 27) (tm 31)),mv 8 32]))))) (rg [oo 33 (.bin .add (tm 15) (Kc 1)),mv 15 33]))))))) (sr [mv 34 8,mv 6 34,oo 7 (.mov kT)] .ret))))
theorem l58:(Tryz.f58.body.bind (bt Tryz.prog 35 [8000031]))=some c58:=by kernel_rfl
def c20:aV:=(sr [oo 5 (.box 10 (tm 2)),oo 6 (.mov (.const .nil)),oo 7 (.mov kF)] (sr [oo 8 (.mov (.const .nil))] (.seq (sr [oo 9 (.mov (Kc 0))] (.block 0 (.loop (.seq (sr [mv 12 9,mv 13 1,ln 14 13,oo 15 (.bin .lss (tm 12) (tm 14))] (.cond (tm 15) .skip (.exit 0))) (.seq (.block 1 (sr [mv 19 0,mv 20 1,mv 21 9,ix 22 1 20 21,ld 23 22,oo 24 (.call 17 [(tm 19),(tm 23)]),mv 18 24,oo 25 (.ext (tm 18) 0),oo 26 (.ext (tm 18) 1),⟨some 10,.alloc [S0,Z0,Z0],none,[]⟩,o0 (.store 3 (tm 10) (tm 25)),mv 11 26] (.seq (sr [mv 27 11,oo 28 (.not (tm 27))] (.cond (tm 28) (sr [oo 6 (.mov (.const .nil)),oo 7 (.mov kF)] .ret) .skip)) (rg [mv 29 8,lA 30 3 10,lA 31 10 5,oo 32 (.call 18 [(tm 30),(tm 31)]),oo 33 (.buildF 1 1 [Z0] [(0,(tm 32))]),oo 34 (.append 59 3 1 8 (tm 29) (tm 33)),mv 8 34])))) (rg [mv 16 9,oo 17 (.bin .add (tm 16) (Kc 1)),mv 9 17])))))) (sr [mv 35 8,mv 6 35,oo 7 (.mov kT)] .ret))))
theorem l20:(Tryz.f20.body.bind (bt Tryz.prog 36 [8000033]))=some c20:=by kernel_rfl
def Lk:aV:=(sr [mv 9 0,oo 10 (.nilck (tm 9)),fa 11 0 10,ld 12 11,mv 13 1,oo 14 (.call 107 [(tm 12),(tm 13)]),mv 8 14,oo 15 (.ext (tm 8) 0),oo 16 (.ext (tm 8) 1),⟨some 6,.alloc [S0,Z0,Z0],none,[]⟩,o0 (.store 3 (tm 6) (tm 15)),mv 7 16] (sr [mv 17 7] (.cond (tm 17) (rg [mv 18 0,lA 19 3 6,mv 20 0,oo 21 (.nilck (tm 20)),fa 22 8 21,lA 23 10 22,mv 24 2,lA 25 3 6,oo 26 (.call 141 [tm 25]),oo 27 (.minI (tm 24) (tm 26)),oo 28 (.call 140 [(tm 19),(tm 23),(tm 27)]),oo 29 (.nilck (tm 18)),fa 30 8 29,o0 (.store 10 (tm 30) (tm 28))]) .skip)))
theorem zy:(Tryz.f106.body.bind (bt Tryz.prog 31 []))=some Lk:=by kernel_rfl
def Lj:aV:=(sr [oo 2 (.mov kF)] (.seq (sr [mv 3 0,oo 4 (.nilck (tm 3)),fa 5 23 4,ld 6 5,oo 7 (.not (tm 6)),mv 8 7,mT 9 0 8,oT 10 8 (.nilck (tm 9)),oT 11 8 (.offA 7 (tm 10)),oT 12 8 (.load 1 false (tm 11)),mT 13 0 8,oT 14 8 (.nilck (tm 13)),oT 15 8 (.offA 1 (tm 14)),oT 16 8 (.offA 1 (tm 15)),oT 17 8 (.load 1 false (tm 16)),oT 18 8 (.call 22 [(tm 12),(tm 17)]),oT 19 8 (.len (tm 18)),oT 20 8 (.bin .geq (tm 19) (Kc 100)),oo 21 (.pick (tm 8) (tm 20) kF)] (.cond (tm 21) (sr [oo 2 (.mov kF)] .ret) .skip)) (sr [mv 22 0,mv 23 0,oo 24 (.nilck (tm 23)),fa 25 7 24,ld 26 25,mv 27 0,oo 28 (.nilck (tm 27)),fa 29 19 28,lA 30 4 29,oo 31 (.call 139 [(tm 26),(tm 30)]),oo 32 (.nilck (tm 22)),fa 33 7 32,o0 (.store 1 (tm 33) (tm 31))] (sr [oo 2 (.mov kT)] .ret))))
theorem vW:(Tryz.f105.body.bind (bt Tryz.prog 34 []))=some Lj:=by kernel_rfl
def c52:aV:=(sr [oo 2 (.mov kF)] (sr [mv 3 0,mv 4 0,mv 5 0,oo 6 (.nilck (tm 5)),fa 7 19 6,fa 8 2 7,ld 9 8,oo 10 (.bin .add (tm 9) (Kc 1)),oo 11 (.minI (tm 10) (Kc 65535)),mv 12 0,oo 13 (.nilck (tm 12)),fa 14 18 13,ld 15 14,oo 16 (.nilck (tm 3)),fa 17 19 16,fa 18 2 17,o0 (.store 1 (tm 18) (tm 11)),oo 19 (.nilck (tm 4)),fa 20 19 19,fa 21 3 20,o0 (.store 1 (tm 21) (tm 15))] (.seq (sr [mv 22 0,oo 23 (.inl 105 [tm 22]),oo 24 (.not (tm 23))] (.cond (tm 24) (sr [oo 2 (.mov kF)] .ret) .skip)) (sr [mv 25 0,mv 26 0,oo 27 (.nilck (tm 26)),fa 28 1 27,fa 29 3 28,ld 30 29,mv 31 0,oo 32 (.nilck (tm 31)),fa 33 19 32,fa 34 2 33,ld 35 34,oo 36 (.inl 106 [(tm 25),(tm 30),(tm 35)])] (sr [oo 2 (.mov kT)] .ret)))))
theorem l52:(Tryz.f52.body.bind (bt Tryz.prog 37 [105,106]))=some c52:=by kernel_rfl
def c53:aV:=(sr [oo 2 (.mov kF)] (sr [mv 3 0,mv 4 0,oo 5 (.nilck (tm 4)),fa 6 18 5,ld 7 6,oo 8 (.nilck (tm 3)),fa 9 19 8,fa 10 3 9,o0 (.store 1 (tm 10) (tm 7))] (sr [mv 11 0,oo 12 (.inl 105 [tm 11]),mv 2 12] .ret)))
theorem l53:(Tryz.f53.body.bind (bt Tryz.prog 13 [105]))=some c53:=by kernel_rfl
def c54:aV:=(sr [oo 2 (.mov kF)] (sr [mv 3 0,oo 4 (.nilck (tm 3)),fa 5 23 4,ld 6 5,mv 7 6,mT 8 0 7,oT 9 7 (.nilck (tm 8)),oT 10 7 (.offA 19 (tm 9)),oT 11 7 (.offA 3 (tm 10)),oT 12 7 (.load 1 false (tm 11)),mT 13 0 7,oT 14 7 (.nilck (tm 13)),oT 15 7 (.offA 18 (tm 14)),oT 16 7 (.load 1 false (tm 15)),mT 17 0 7,oT 18 7 (.nilck (tm 17)),oT 19 7 (.offA 1 (tm 18)),oT 20 7 (.offA 4 (tm 19)),oT 21 7 (.load 1 false (tm 20)),oT 22 7 (.bin .sub (tm 16) (tm 21)),oT 23 7 (.bin .geq (tm 12) (tm 22)),oo 24 (.pick (tm 7) (tm 23) kF),mv 2 24] .ret))
theorem l54:(Tryz.f54.body.bind (bt Tryz.prog 25 []))=some c54:=by kernel_rfl
def c55:aV:=(sr [oo 2 (.mov kF)] (sr [mv 6 0,mv 7 0,oo 8 (.nilck (tm 7)),fa 9 18 8,ld 10 9,oo 11 (.nilck (tm 6)),fa 12 19 11,fa 13 3 12,o0 (.store 1 (tm 13) (tm 10))] (.seq (sr [mv 14 0,oo 15 (.nilck (tm 14)),fa 16 23 15,ld 17 16,oo 18 (.not (tm 17))] (.cond (tm 18) (sr [oo 19 (.mkmap false [.int .i64]),mv 3 19] (.seq (sr [mv 20 0,oo 21 (.nilck (tm 20)),fa 22 7 21,ld 23 22,mv 24 0,oo 25 (.nilck (tm 24)),fa 26 1 25,fa 27 1 26,ld 28 27,oo 29 (.call 22 [(tm 23),(tm 28)]),ln 30 29,oo 31 (.mov (Kc 0))] (.block 0 (.loop (sr [oo 32 (.bin .lss (tm 31) (tm 30))] (.seq (.cond (tm 32) .skip (.exit 0)) (.seq (.block 1 (sr [ix 33 4 29 31,lA 34 4 33,⟨some 5,.alloc [S0,.nil,Z0,Z0],none,[]⟩,o0 (.store 4 (tm 5) (tm 34))] (rg [mv 35 3,fa 36 2 5,ld 37 36,o0 (.bC false [.int .i64] (tm 35) (tm 37) kT)]))) (rg [oo 38 (.bin .add (tm 31) (Kc 1)),mv 31 38]))))))) (.seq (sr [mv 39 0,mv 40 0,oo 41 (.nilck (tm 40)),fa 42 1 41,fa 43 4 42,ld 44 43,oo 45 (.nilck (tm 39)),fa 46 19 45,fa 47 2 46,o0 (.store 1 (tm 47) (tm 44))] (.block 2 (.loop (.seq (sr [mv 48 3,mv 49 0,oo 50 (.nilck (tm 49)),fa 51 19 50,fa 52 2 51,ld 53 52,oo 54 (.mlook false [.int .i64] (.bool false) false (tm 48) (tm 53))] (.cond (tm 54) .skip (.exit 2))) (.seq (.block 3 .skip) (rg [mv 55 0,oo 56 (.nilck (tm 55)),fa 57 19 56,fa 58 2 57,ld 59 58,oo 60 (.bin .add (tm 59) (Kc 1)),oo 61 (.nilck (tm 55)),fa 62 19 61,fa 63 2 62,o0 (.store 1 (tm 63) (tm 60))])))))) (sr [mv 64 0,oo 65 (.nilck (tm 64)),fa 66 19 65,fa 67 2 66,ld 68 67,mv 69 0,oo 70 (.nilck (tm 69)),fa 71 1 70,fa 72 5 71,ld 73 72,oo 74 (.bin .gtr (tm 68) (tm 73))] (.cond (tm 74) (sr [oo 2 (.mov kF)] .ret) .skip))))) .skip)) (.seq (sr [mv 75 0,oo 76 (.inl 105 [tm 75]),oo 77 (.not (tm 76))] (.cond (tm 77) (sr [oo 2 (.mov kF)] .ret) .skip)) (sr [mv 78 0,mv 79 0,oo 80 (.nilck (tm 79)),fa 81 1 80,fa 82 3 81,ld 83 82,mv 84 0,oo 85 (.nilck (tm 84)),fa 86 19 85,fa 87 2 86,ld 88 87,oo 89 (.inl 106 [(tm 78),(tm 83),(tm 88)])] (sr [oo 2 (.mov kT)] .ret))))))
theorem l55:(Tryz.f55.body.bind (bt Tryz.prog 90 [105,106]))=some c55:=by kernel_rfl
def Ln:aV:=(sr [oo 3 (.box 4 (tm 0)),oo 4 (.mov kF)] (sr [fa 5 0 3,ld 6 5,ld 7 1,oo 8 (.nilck (tm 7)),fa 9 1 8,fa 10 1 9,ld 11 10,oo 12 (.bin .eql (tm 6) (tm 11)),mv 13 12,oT 14 13 (.offA 2 (tm 3)),oT 15 13 (.load 1 false (tm 14)),oT 16 13 (.load 1 false (tm 2)),oT 17 13 (.bin .eql (tm 15) (tm 16)),oo 18 (.pick (tm 13) (tm 17) kF),mv 4 18] .ret))
theorem MG:(Tryz.f110.body.bind (bt Tryz.prog 19 []))=some Ln:=by kernel_rfl
def c57:aV:=(sr [oo 2 (.mov kF)] (sr [mv 7 0,oo 8 (.nilck (tm 7)),fa 9 19 8,mv 10 0,oo 11 (.nilck (tm 10)),fa 12 1 11,lA 13 6 12,⟨some 4,.alloc [Z0,S0,.nil,S0,Z0,Z0],none,[]⟩,mv 3 9,o0 (.store 6 (tm 4) (tm 13))] (.seq (sr [mv 14 0,oo 15 (.nilck (tm 14)),fa 16 23 15,ld 17 16,oo 18 (.not (tm 17))] (.cond (tm 18) (rg [mv 19 3,mv 20 3,fa 21 4 4,ld 22 21,mv 23 0,oo 24 (.nilck (tm 23)),fa 25 18 24,ld 26 25,oo 27 (.nilck (tm 19)),fa 28 2 27,o0 (.store 1 (tm 28) (tm 22)),oo 29 (.nilck (tm 20)),fa 30 3 29,o0 (.store 1 (tm 30) (tm 26))]) .skip)) (sr [mv 31 0,oo 32 (.nilck (tm 31)),fa 33 18 32,ld 34 33,mv 35 3,oo 36 (.nilck (tm 35)),fa 37 3 36,ld 38 37,oo 39 (.bin .sub (tm 34) (tm 38)),oo 40 (.maxI (Kc 0) (tm 39)),fa 41 5 4,ld 42 41,oo 43 (.bin .quo (tm 40) (tm 42)),mv 5 43] (.seq (sr [mv 44 3,oo 45 (.nilck (tm 44)),fa 46 2 45,ld 47 46,mv 48 5,oo 49 (.bin .add (tm 47) (tm 48)),fa 50 4 4,ld 51 50,oo 52 (.bin .geq (tm 49) (tm 51))] (.cond (tm 52) (rg [mv 53 3,mv 54 3,fa 55 4 4,ld 56 55,mv 57 0,oo 58 (.nilck (tm 57)),fa 59 18 58,ld 60 59,oo 61 (.nilck (tm 53)),fa 62 2 61,o0 (.store 1 (tm 62) (tm 56)),oo 63 (.nilck (tm 54)),fa 64 3 63,o0 (.store 1 (tm 64) (tm 60))]) (.region [mv 65 3,mv 66 3,mv 67 3,oo 68 (.nilck (tm 67)),fa 69 2 68,ld 70 69,mv 71 5,oo 72 (.bin .add (tm 70) (tm 71)),mv 73 3,oo 74 (.nilck (tm 73)),fa 75 3 74,ld 76 75,mv 77 5,fa 78 5 4,ld 79 78,oo 80 (.bin .mul (tm 77) (tm 79)),oo 81 (.bin .add (tm 76) (tm 80)),oo 82 (.nilck (tm 65)),fa 83 2 82,o0 (.store 1 (tm 83) (tm 72)),oo 84 (.nilck (tm 66)),fa 85 3 84,o0 (.store 1 (tm 85) (tm 81))] [[],[],[],[],[],[],[],[],[],[],[],[],[],[],[],[],[],[],[],[14],[],[],[]]))) (sr [mv 86 3,oo 87 (.nilck (tm 86)),fa 88 2 87,ld 89 88,oo 90 (.bin .gtr (tm 89) (Kc 0)),mv 6 90] (.seq (sr [mv 91 6] (.cond (tm 91) (rg [mv 92 3,oo 93 (.nilck (tm 92)),fa 94 2 93,ld 95 94,oo 96 (.bin .sub (tm 95) (Kc 1)),oo 97 (.nilck (tm 92)),fa 98 2 97,o0 (.store 1 (tm 98) (tm 96))]) .skip)) (sr [mv 99 0,oo 100 (.inl 105 [tm 99]),mv 101 100,mT 102 6 101,oo 103 (.pick (tm 101) (tm 102) kF),mv 2 103] .ret))))))))
theorem l57:(Tryz.f57.body.bind (bt Tryz.prog 104 [105]))=some c57:=by kernel_rfl
def c61:aV:=(sr [oo 5 (.box 10 (tm 1)),oo 8 (.alloc [Z0,Z0,Z0,Z0,Z0,Z0,Z0,Z0,Z0,Z0])] (sr [mv 12 0,mv 13 2,oo 14 (.call 17 [(tm 12),(tm 13)]),mv 11 14,oo 15 (.ext (tm 11) 0),oo 16 (.ext (tm 11) 1),⟨some 9,.alloc [S0,Z0,Z0],none,[]⟩,o0 (.store 3 (tm 9) (tm 15)),mv 10 16] (.seq (sr [mv 17 10,oo 18 (.not (tm 17)),mv 19 18,mF 20 2 19,⟨some 21,.bin .eql (tm 20) (.const S0),some (19,false),[]⟩,oo 22 (.pick (tm 19) kT (tm 21))] (.cond (tm 22) (sr [lA 23 10 5,o0 (.store 10 (tm 8) (tm 23))] .ret) .skip)) (sr [lA 24 3 9,lA 25 10 5,mv 26 3,lA 27 3 9,oo 28 (.call 111 [tm 27]),oo 29 (.minI (tm 26) (tm 28)),oo 30 (.call 19 [(tm 24),(tm 25),(tm 29)]),o0 (.store 10 (tm 8) (tm 30))] .ret))))
theorem l61:(Tryz.f61.body.bind (bt Tryz.prog 31 []))=some c61:=by kernel_rfl
def c63:aV:=(sr [oo 8 (.mov (Kc 0))] (sr [mv 13 0,mv 14 1,oo 15 (.call 31 [(tm 13),(tm 14)]),mv 9 15] (.seq (sr [mv 16 2,mv 10 16] (.block 0 (.loop (.seq (sr [mv 17 10,mv 18 3,oo 19 (.bin .leq (tm 17) (tm 18)),mv 20 19,mT 21 10 20,mT 22 2 20,mT 23 9 20,oT 24 20 (.len (tm 23)),oT 25 20 (.bin .add (tm 22) (tm 24)),oT 26 20 (.bin .leq (tm 21) (tm 25)),oo 27 (.pick (tm 20) (tm 26) kF)] (.cond (tm 27) .skip (.exit 0))) (.seq (.block 1 (sr [oo 11 (.mov kF)] (.seq (sr [oo 12 (.mov (Kc 0))] (.block 2 (.loop (.seq (sr [mv 30 12,mv 31 9,ln 32 31,oo 33 (.bin .lss (tm 30) (tm 32))] (.cond (tm 33) .skip (.exit 2))) (.seq (.block 3 (rg [mv 36 11,mv 37 36,mF 38 9 37,mF 39 12 37,oF 40 37 (.idxL 4 (tm 38) (tm 39)),oF 41 37 (.offA 2 (tm 40)),oF 42 37 (.load 1 false (tm 41)),mF 43 10 37,oF 44 37 (.bin .eql (tm 42) (tm 43)),oo 45 (.pick (tm 37) kT (tm 44)),mv 11 45])) (rg [mv 34 12,oo 35 (.bin .add (tm 34) (Kc 1)),mv 12 35])))))) (sr [mv 46 11,oo 47 (.not (tm 46))] (.cond (tm 47) (sr [mv 48 10,mv 8 48] .ret) .skip))))) (rg [mv 28 10,oo 29 (.bin .add (tm 28) (Kc 1)),mv 10 29])))))) (sr [oo 8 (.mov (.const (.int .i64 (-1))))] .ret))))
theorem l63:(Tryz.f63.body.bind (bt Tryz.prog 49 []))=some c63:=by kernel_rfl
def c64:aV:=(sr [oo 3 (.box 6 (tm 0)),oo 4 (.box 4 (tm 1)),⟨some 6,.alloc [S0,.nil,Z0,Z0],none,[]⟩] (sr [oo 7 (.mov (Kc 0))] (.seq (sr [mv 8 2,fa 9 3 4,ld 10 9,oo 11 (.bin .gtr (tm 8) (tm 10))] (.cond (tm 11) (rg [mv 12 2,fa 13 3 4,ld 14 13,oo 15 (.bin .sub (tm 12) (tm 14)),fa 16 5 3,ld 17 16,oo 18 (.bin .quo (tm 15) (tm 17)),mv 7 18]) .skip)) (.seq (sr [fa 19 2 4,ld 20 19,mv 21 7,oo 22 (.bin .add (tm 20) (tm 21)),fa 23 4 3,ld 24 23,oo 25 (.bin .geq (tm 22) (tm 24))] (.cond (tm 25) (sr [fa 26 4 3,ld 27 26,fa 28 2 4,o0 (.store 1 (tm 28) (tm 27))] (sr [mv 29 2,fa 30 3 4,o0 (.store 1 (tm 30) (tm 29))] (sr [lA 31 4 4,o0 (.store 4 (tm 6) (tm 31))] .ret))) .skip)) (sr [fa 32 2 4,ld 33 32,mv 34 7,oo 35 (.bin .add (tm 33) (tm 34)),fa 36 2 4,o0 (.store 1 (tm 36) (tm 35))] (sr [fa 37 3 4,ld 38 37,mv 39 7,fa 40 5 3,ld 41 40,oo 42 (.bin .mul (tm 39) (tm 41)),oo 43 (.bin .add (tm 38) (tm 42)),fa 44 3 4,o0 (.store 1 (tm 44) (tm 43))] (sr [lA 45 4 4,o0 (.store 4 (tm 6) (tm 45))] .ret)))))))
theorem l64:(Tryz.f64.body.bind (bt Tryz.prog 46 []))=some c64:=by kernel_rfl
def c59:aV:=(sr [oo 5 (.box 6 (tm 1)),oo 7 (.box 10 (tm 3)),oo 8 (.alloc [Z0,Z0,Z0,Z0,Z0,Z0,Z0,Z0,Z0,Z0,(.bool false),.nil])] (sr [mv 16 0,fa 17 3 5,ld 18 17,oo 19 (.call 17 [(tm 16),(tm 18)]),mv 15 19,oo 20 (.ext (tm 15) 0),oo 21 (.ext (tm 15) 1),⟨some 9,.alloc [S0,Z0,Z0],none,[]⟩,o0 (.store 3 (tm 9) (tm 20)),mv 10 21] (sr [lA 22 3 9,lA 23 10 7,oo 24 (.call 18 [(tm 22),(tm 23)]),mv 11 24] (.seq (sr [oo 12 (.mov (Kc 0))] (.block 0 (.loop (.seq (sr [mv 25 12,mv 26 2,ln 27 26,oo 28 (.bin .lss (tm 25) (tm 27))] (.cond (tm 28) .skip (.exit 0))) (.seq (.block 1 (sr [mv 31 2,mv 32 12,ix 33 4 31 32,fa 34 0 33,ld 35 34,fa 36 1 5,ld 37 36,oo 38 (.bin .eql (tm 35) (tm 37)),mv 39 38,mT 40 2 39,mT 41 12 39,oT 42 39 (.idxL 4 (tm 40) (tm 41)),oT 43 39 (.offA 2 (tm 42)),oT 44 39 (.load 1 false (tm 43)),mT 45 11 39,oT 46 39 (.bin .eql (tm 44) (tm 45)),oo 47 (.pick (tm 39) (tm 46) kF)] (.cond (tm 47) (sr [lA 48 10 7,oo 13 (.alloc [Z0,Z0,Z0,Z0,Z0,Z0,Z0,Z0,Z0,Z0]),o0 (.store 10 (tm 13) (tm 48))] (.seq (sr [oo 14 (.mov (Kc 0))] (.block 2 (.loop (.seq (sr [mv 49 14,fa 50 2 5,ld 51 50,ln 52 51,oo 53 (.bin .lss (tm 49) (tm 52))] (.cond (tm 53) .skip (.exit 2))) (.seq (.block 3 (rg [mv 56 0,lA 57 10 13,fa 58 2 5,ld 59 58,mv 60 14,ix 61 1 59 60,ld 62 61,mv 63 2,mv 64 12,ix 65 4 63 64,fa 66 1 65,ld 67 66,mv 68 14,ix 69 1 67 68,ld 70 69,oo 71 (.call 61 [(tm 56),(tm 57),(tm 62),(tm 70)]),o0 (.store 10 (tm 13) (tm 71))])) (rg [mv 54 14,oo 55 (.bin .add (tm 54) (Kc 1)),mv 14 55])))))) (sr [lA 72 10 13,mv 73 2,oo 74 (.build [Z0,Z0,Z0,Z0,Z0,Z0,Z0,Z0,Z0,Z0,(.bool false),.nil] [(0,10,(tm 72)),(10,1,kT),(11,1,(tm 73))]),o0 (.store 12 (tm 8) (tm 74))] .ret))) .skip))) (rg [mv 29 12,oo 30 (.bin .add (tm 29) (Kc 1)),mv 12 30])))))) (sr [lA 75 10 7,mv 76 2,oo 77 (.build [Z0,Z0,Z0,Z0,Z0,Z0,Z0,Z0,Z0,Z0,(.bool false),.nil] [(0,10,(tm 75)),(10,1,kF),(11,1,(tm 76))]),o0 (.store 12 (tm 8) (tm 77))] .ret)))))
theorem l59:(Tryz.f59.body.bind (bt Tryz.prog 78 []))=some c59:=by kernel_rfl
def c12:aV:=(sr [oo 6 (.box 6 (tm 1)),oo 8 (.box 10 (tm 3)),oo 10 (.alloc [Z0,Z0,Z0,Z0,Z0,Z0,Z0,Z0,Z0,Z0,(.bool false),.nil])] (.seq (sr [fa 15 0 6,ld 16 15,oo 17 (.bin .eql (tm 16) (Kc 0))] (.cond (tm 17) (sr [lA 18 10 8,mv 19 2,oo 20 (.build [Z0,Z0,Z0,Z0,Z0,Z0,Z0,Z0,Z0,Z0,(.bool false),.nil] [(0,10,(tm 18)),(10,1,kT),(11,1,(tm 19))]),o0 (.store 12 (tm 10) (tm 20))] .ret) .skip)) (.seq (sr [fa 21 0 6,ld 22 21,oo 23 (.bin .eql (tm 22) (Kc 5))] (.cond (tm 23) (sr [mv 24 0,lA 25 6 6,mv 26 2,lA 27 10 8,oo 28 (.call 59 [(tm 24),(tm 25),(tm 26),(tm 27)]),o0 (.store 12 (tm 10) (tm 28))] .ret) .skip)) (sr [mv 30 0,fa 31 2 6,ld 32 31,lA 33 10 8,oo 34 (.call 20 [(tm 30),(tm 32),(tm 33)]),mv 29 34,oo 35 (.ext (tm 29) 0),oo 36 (.ext (tm 29) 1),mv 11 35,mv 12 36] (sr [mv 38 2,fa 39 1 6,ld 40 39,mv 41 11,oo 42 (.call 26 [(tm 38),(tm 40),(tm 41)]),mv 37 42,oo 43 (.ext (tm 37) 0),oo 44 (.ext (tm 37) 1),⟨some 13,.alloc [S0,.nil,Z0,Z0],none,[]⟩,o0 (.store 4 (tm 13) (tm 43)),mv 14 44] (.seq (sr [fa 45 0 6,ld 46 45,oo 47 (.bin .eql (tm 46) (Kc 3))] (.cond (tm 47) (sr [lA 48 10 8,mv 49 14,mv 50 49,oT 51 50 (.offA 3 (tm 13)),oT 52 50 (.load 1 false (tm 51)),mT 53 4 50,oT 54 50 (.offA 4 (tm 6)),oT 55 50 (.load 1 false (tm 54)),oT 56 50 (.bin .sub (tm 53) (tm 55)),oT 57 50 (.bin .geq (tm 52) (tm 56)),oo 58 (.pick (tm 50) (tm 57) kF),mv 59 2,oo 60 (.build [Z0,Z0,Z0,Z0,Z0,Z0,Z0,Z0,Z0,Z0,(.bool false),.nil] [(0,10,(tm 48)),(10,1,(tm 58)),(11,1,(tm 59))]),o0 (.store 12 (tm 10) (tm 60))] .ret) .skip)) (.seq (sr [mv 61 14,oo 62 (.not (tm 61)),mv 63 62,mT 64 2 63,oT 65 63 (.offA 1 (tm 6)),oT 66 63 (.load 1 false (tm 65)),oT 67 63 (.call 60 [(tm 64),(tm 66)]),oT 68 63 (.bin .geq (tm 67) (Kc 100)),oo 69 (.pick (tm 63) (tm 68) kF)] (.cond (tm 69) (sr [lA 70 10 8,mv 71 2,oo 72 (.build [Z0,Z0,Z0,Z0,Z0,Z0,Z0,Z0,Z0,Z0,(.bool false),.nil] [(0,10,(tm 70)),(10,1,kF),(11,1,(tm 71))]),o0 (.store 12 (tm 10) (tm 72))] .ret) .skip)) (sr [fa 73 1 6,ld 74 73,fa 75 0 13,o0 (.store 1 (tm 75) (tm 74))] (sr [mv 76 11,fa 77 1 13,o0 (.store 1 (tm 77) (tm 76))] (.seq (sr [fa 78 0 6,ld 79 78] (.block 0 (sr [oo 81 (.bin .eql (tm 79) (Kc 1)),mv 80 81] (.cond (tm 80) (sr [fa 82 2 13,ld 83 82,oo 84 (.bin .add (tm 83) (Kc 1)),oo 85 (.minI (tm 84) (Kc 65535)),fa 86 2 13,o0 (.store 1 (tm 86) (tm 85))] (sr [mv 87 4,fa 88 3 13,o0 (.store 1 (tm 88) (tm 87))] (sr [mv 89 0,lA 90 10 8,fa 91 3 6,ld 92 91,fa 93 2 13,ld 94 93,oo 95 (.call 61 [(tm 89),(tm 90),(tm 92),(tm 94)]),mv 96 2,lA 97 4 13,oo 98 (.call 62 [(tm 96),(tm 97)]),oo 99 (.build [Z0,Z0,Z0,Z0,Z0,Z0,Z0,Z0,Z0,Z0,(.bool false),.nil] [(0,10,(tm 95)),(10,1,kT),(11,1,(tm 98))]),o0 (.store 12 (tm 10) (tm 99))] .ret))) (sr [oo 101 (.bin .eql (tm 79) (Kc 2)),mv 100 101] (.cond (tm 100) (sr [mv 102 4,fa 103 3 13,o0 (.store 1 (tm 103) (tm 102))] (sr [lA 104 10 8,mv 105 2,lA 106 4 13,oo 107 (.call 62 [(tm 105),(tm 106)]),oo 108 (.build [Z0,Z0,Z0,Z0,Z0,Z0,Z0,Z0,Z0,Z0,(.bool false),.nil] [(0,10,(tm 104)),(10,1,kT),(11,1,(tm 107))]),o0 (.store 12 (tm 10) (tm 108))] .ret)) (sr [oo 110 (.bin .eql (tm 79) (Kc 4)),mv 109 110] (.cond (tm 109) (.seq (sr [mv 111 14,oo 112 (.not (tm 111))] (.cond (tm 112) (rg [mv 113 2,fa 114 1 6,ld 115 114,fa 116 4 6,ld 117 116,fa 118 5 6,ld 119 118,oo 120 (.call 63 [(tm 113),(tm 115),(tm 117),(tm 119)]),fa 121 2 13,o0 (.store 1 (tm 121) (tm 120))]) .skip)) (.seq (sr [fa 122 2 13,ld 123 122,oo 124 (.bin .lss (tm 123) (Kc 0))] (.cond (tm 124) (sr [lA 125 10 8,mv 126 2,oo 127 (.build [Z0,Z0,Z0,Z0,Z0,Z0,Z0,Z0,Z0,Z0,(.bool false),.nil] [(0,10,(tm 125)),(10,1,kF),(11,1,(tm 126))]),o0 (.store 12 (tm 10) (tm 127))] .ret) .skip)) (sr [mv 128 4,fa 129 3 13,o0 (.store 1 (tm 129) (tm 128))] (sr [mv 130 0,lA 131 10 8,fa 132 3 6,ld 133 132,fa 134 2 13,ld 135 134,oo 136 (.call 61 [(tm 130),(tm 131),(tm 133),(tm 135)]),mv 137 2,lA 138 4 13,oo 139 (.call 62 [(tm 137),(tm 138)]),oo 140 (.build [Z0,Z0,Z0,Z0,Z0,Z0,Z0,Z0,Z0,Z0,(.bool false),.nil] [(0,10,(tm 136)),(10,1,kT),(11,1,(tm 139))]),o0 (.store 12 (tm 10) (tm 140))] .ret)))) .skip)))))))) (.seq (sr [mv 141 14,oo 142 (.not (tm 141))] (.cond (tm 142) (sr [fa 143 4 6,ld 144 143,fa 145 2 13,o0 (.store 1 (tm 145) (tm 144))] (rg [mv 146 4,fa 147 3 13,o0 (.store 1 (tm 147) (tm 146))])) .skip)) (sr [lA 148 6 6,lA 149 4 13,mv 150 4,oo 151 (.call 64 [(tm 148),(tm 149),(tm 150)]),o0 (.store 4 (tm 13) (tm 151))] (.seq (sr [fa 152 2 13,ld 153 152,oo 154 (.bin .eql (tm 153) (Kc 0))] (.cond (tm 154) (sr [lA 155 10 8,mv 156 2,lA 157 4 13,oo 158 (.call 62 [(tm 156),(tm 157)]),oo 159 (.build [Z0,Z0,Z0,Z0,Z0,Z0,Z0,Z0,Z0,Z0,(.bool false),.nil] [(0,10,(tm 155)),(10,1,kF),(11,1,(tm 158))]),o0 (.store 12 (tm 10) (tm 159))] .ret) .skip)) (sr [fa 160 2 13,ld 161 160,oo 162 (.bin .sub (tm 161) (Kc 1)),fa 163 2 13,o0 (.store 1 (tm 163) (tm 162))] (sr [lA 164 10 8,mv 165 2,lA 166 4 13,oo 167 (.call 62 [(tm 165),(tm 166)]),oo 168 (.build [Z0,Z0,Z0,Z0,Z0,Z0,Z0,Z0,Z0,Z0,(.bool false),.nil] [(0,10,(tm 164)),(10,1,kT),(11,1,(tm 167))]),o0 (.store 12 (tm 10) (tm 168))] .ret)))))))))))))))
theorem l12:(Tryz.f12.body.bind (bt Tryz.prog 169 []))=some c12:=by kernel_rfl
end Go.ST4
end
section
namespace Go.ST
open Go Go.DL Go.MM Go.Proofs
open Go.TY hiding Fd
abbrev fdc(l:List Fd)(k:ByteArray):T:=.agg [.str (fld l k).name,I (fld l k).a,I (fld l k).w]
theorem CM(l:List Fd)(b:LOk l)(k:ByteArray):DCalls Tryz.prog 107 [fds l,.str k] (.tup [fdc l k,.bool (uu l k)]):=by
 have h:=t74 l k b.len;unfold yC at h;unfold fdc fld uu;cases a:findF l k with
 |none=>rw [a] at h;exact h
 |some F=>rw [a] at h;exact h
theorem zT(l:List Fd)(b:LOk l)(k:ByteArray):DCalls Tryz.prog 17 [fds l,.str k] (.tup [fdc l k,.bool (uu l k)]):=by
 have h:=t51 l k b.len;unfold yC at h;unfold fdc fld uu;cases a:findF l k with
 |none=>rw [a] at h;exact h
 |some F=>rw [a] at h;exact h
theorem yp{l:List Fd}(b:LOk l){k:ByteArray}(h:uu l k=true):FOk (fld l k):=by
 unfold uu at h;obtain ⟨F,a⟩:=Option.isSome_iff_exists.1 h;rw [zK a];exact b.find a
theorem ten{h:List Int}(m:HOk h): ∃a b c d e f g i j k,h=[a,b,c,d,e,f,g,i,j,k]:=by
 have n:=m.len
 match h,n with
 |[a,b,c,d,e,f,g,i,j,k],_=>exact ⟨a,b,c,d,e,f,g,i,j,k,rfl⟩
theorem Ch(l:List Fd)(ks:List ByteArray)(h:List Int){i:Nat}(a:i<ks.length):(keyOf l (ks.take (i+1)) h).map I=(keyOf l (ks.take i) h).map I++[I (uI (fld l ks[i]) h)]:=by
 unfold keyOf;rw [List.take_succ_eq_append_getElem a,List.map_append,List.map_append];rfl
theorem K1(l:List Fd)(x:LOk l)(ks:List ByteArray)(B: ∀k∈ks,uu l k=true)(z:ks.length<2^40)(h:List Int)(v:HOk h):DCalls Tryz.prog 58 [fds l,.slice 1 (ks.map .str),hd h] (.tup [.slice 1 ((keyOf l ks h).map I),.bool true]):=by
 refine dl2 mixed [.tmp 6,.tmp 7] [.slice 1 _,.bool true] Tryz.func58 Go.ST4.l58 ?_;have u:((ks.map T.str).length:Int)=ks.length:=by rw [List.length_map]
 have y: ∀f,FOk f->DCalls Tryz.prog 108 [fd f,hd h] (I (uI f h)):=fun f b=>t78 f b h v
 obtain ⟨x0,x1,x2,x3,x4,x5,x6,x7,x8,x9,rfl⟩:=ten v
 repeat' ((conv=>whnf);first|refine aS ?_|fail)
 refine tx 0 (α:=Nat×Nat) (β:=Nat) (fun q=>{sl:=[(0,.t (fds l)),(5,.ptr 5 0),(8,.own q.2 3 1 ((keyOf l (ks.take q.1) [x0,x1,x2,x3,x4,x5,x6,x7,x8,x9]).map I)),(13,.t (.slice 1 (ks.map .str))),(14,.t (I ks.length)),(15,.t (I q.1))],bx:=[(5,.d 10 ([x0,x1,x2,x3,x4,x5,x6,x7,x8,x9].map I))]})
  (fun q=>q.1<=ks.length/\(q.2=8\/q.2=32)) (fun q=>ks.length - q.1) (fun q=>{sl:=[(8,.own q 3 1 ((keyOf l ks [x0,x1,x2,x3,x4,x5,x6,x7,x8,x9]).map I))],bx:=[]}) (fun q=>q=8\/q=32) (0,8) ⟨Nat.zero_le _,Or.inl rfl⟩ ?_ ?_ ?_
 ·repeat' (first|(exact leI u.symm)|exact wJ|refine And.intro ?_ ?_)
 ·rintro ⟨i,q⟩ ⟨C,c⟩;dsimp only at C c;rcases Nat.lt_or_ge i ks.length with h|h
  ·have a:(i:Int)<(ks.length:Int):=by omega
   have b:=B ks[i] (List.getElem_mem h);have w:=CM l x ks[i];rw [b] at w;have p:=y _ (yp x b);have j:((i+1:Nat):Int)=IntKind.wrap .i64 ((i:Int)+1):=by rw [nW] <;> omega
   have m:=Ch l ks [x0,x1,x2,x3,x4,x5,x6,x7,x8,x9] h;have A:((keyOf l (ks.take i) [x0,x1,x2,x3,x4,x5,x6,x7,x8,x9]).map I).length<=2^40:=by unfold keyOf;simp only [List.length_map,List.length_take];omega
   have r:(ks.map T.str)[((i:Int)).toNat]?.getD .nil= .str ks[i]:=by simp [h]
   generalize (keyOf l (ks.take i) [x0,x1,x2,x3,x4,x5,x6,x7,x8,x9]).map I=out at *
   generalize uI (fld l ks[i]) [x0,x1,x2,x3,x4,x5,x6,x7,x8,x9]=g at *
   rcases c with rfl|rfl <;> repeat' ((conv=>whnf);first|refine sC a ?_|(refine nv_ (.str ks[i]) (by first|exact r) ?_)|refine uc _ (w) ?_|refine uc _ (p) ?_|(exact ⟨(i+1,32),⟨h,Or.inr rfl⟩,(by dsimp only;omega),by (repeat' (first|(exact leI j)|(exact ug m)|exact wJ|refine And.intro ?_ ?_));done⟩)|(refine And.intro (by first|((simp only [List.length_cons,List.length_nil];omega);done)|fail) ?_)|refine aS ?_|refine nT_ ?_)
  ·have a: ¬(i:Int)<(ks.length:Int):=by omega
   have n:i=ks.length:=by omega
   have e0:(keyOf l ks [x0,x1,x2,x3,x4,x5,x6,x7,x8,x9]).map I=(keyOf l (ks.take i) [x0,x1,x2,x3,x4,x5,x6,x7,x8,x9]).map I:=by rw [n,List.take_length]
   repeat' ((conv=>whnf);first|refine su a ?_|(exact ⟨q,c,by (repeat' (first|(exact ug e0)|exact wJ|refine And.intro ?_ ?_));done⟩)|refine aS ?_|fail)
 ·rintro q c
  repeat' ((conv=>whnf);first|refine rb1 ?_|refine aS ?_|exact trivial)
theorem FK(l:List Fd)(w:LOk l)(ks:List ByteArray)(A: ∀k∈ks,uu l k=true)(y:ks.length<2^40)(h:List Int)(u:HOk h):DCalls Tryz.prog 20 [fds l,.slice 1 (ks.map .str),hd h] (.tup [.slice 1 ((keyOf l ks h).map I),.bool true]):=by
 refine dl2 mixed [.tmp 6,.tmp 7] [.slice 1 _,.bool true] Tryz.func20 Go.ST4.l20 ?_;have C:((ks.map T.str).length:Int)=ks.length:=by rw [List.length_map]
 have x: ∀f,FOk f->DCalls Tryz.prog 18 [fd f,hd h] (I (uI f h)):=fun f b=>t57 f b h u
 obtain ⟨x0,x1,x2,x3,x4,x5,x6,x7,x8,x9,rfl⟩:=ten u
 repeat' ((conv=>whnf);first|refine aS ?_|fail)
 refine tx 0 (α:=Nat×Nat) (β:=Nat) (fun q=>{sl:=[(0,.t (fds l)),(1,.t (.slice 1 (ks.map .str))),(5,.ptr 5 0),(8,.own q.2 3 1 ((keyOf l (ks.take q.1) [x0,x1,x2,x3,x4,x5,x6,x7,x8,x9]).map I)),(9,.t (I q.1))],bx:=[(5,.d 10 ([x0,x1,x2,x3,x4,x5,x6,x7,x8,x9].map I))]})
  (fun q=>q.1<=ks.length/\(q.2=8\/q.2=34)) (fun q=>ks.length - q.1) (fun q=>{sl:=[(8,.own q 3 1 ((keyOf l ks [x0,x1,x2,x3,x4,x5,x6,x7,x8,x9]).map I))],bx:=[]}) (fun q=>q=8\/q=34) (0,8) ⟨Nat.zero_le _,Or.inl rfl⟩ ?_ ?_ ?_
 ·repeat' (first|exact wJ|refine And.intro ?_ ?_)
 ·rintro ⟨i,q⟩ ⟨B,c⟩;dsimp only at B c;rcases Nat.lt_or_ge i ks.length with h|h
  ·have a:(i:Int)<((ks.map T.str).length:Int):=by omega
   have b:=A ks[i] (List.getElem_mem h);have v:=zT l w ks[i];rw [b] at v;have p:=x _ (yp w b);have j:((i+1:Nat):Int)=IntKind.wrap .i64 ((i:Int)+1):=by rw [nW] <;> omega
   have m:=Ch l ks [x0,x1,x2,x3,x4,x5,x6,x7,x8,x9] h;have z:((keyOf l (ks.take i) [x0,x1,x2,x3,x4,x5,x6,x7,x8,x9]).map I).length<=2^40:=by unfold keyOf;simp only [List.length_map,List.length_take];omega
   have r:(ks.map T.str)[((i:Int)).toNat]?.getD .nil= .str ks[i]:=by simp [h]
   generalize (keyOf l (ks.take i) [x0,x1,x2,x3,x4,x5,x6,x7,x8,x9]).map I=out at *
   generalize uI (fld l ks[i]) [x0,x1,x2,x3,x4,x5,x6,x7,x8,x9]=g at *
   rcases c with rfl|rfl <;> repeat' ((conv=>whnf);first|refine sC a ?_|(refine nv_ (.str ks[i]) (by first|exact r) ?_)|refine uc _ (v) ?_|refine uc _ (p) ?_|(exact ⟨(i+1,34),⟨h,Or.inr rfl⟩,(by dsimp only;omega),by (repeat' (first|(exact leI j)|(exact ug m)|exact wJ|refine And.intro ?_ ?_));done⟩)|(refine And.intro (by first|((simp only [List.length_cons,List.length_nil];omega);done)|fail) ?_)|refine aS ?_|refine nT_ ?_)
  ·have a: ¬(i:Int)<((ks.map T.str).length:Int):=by omega
   have n:i=ks.length:=by omega
   have e0:(keyOf l ks [x0,x1,x2,x3,x4,x5,x6,x7,x8,x9]).map I=(keyOf l (ks.take i) [x0,x1,x2,x3,x4,x5,x6,x7,x8,x9]).map I:=by rw [n,List.take_length]
   repeat' ((conv=>whnf);first|refine su a ?_|(exact ⟨q,c,by (repeat' (first|(exact ug e0)|exact wJ|refine And.intro ?_ ?_));done⟩)|refine aS ?_|fail)
 ·rintro q c
  repeat' ((conv=>whnf);first|refine rb1 ?_|refine aS ?_|exact trivial)
end Go.ST
end
noncomputable section
namespace Go.ST3
open Go Go.DL Go.Proofs
theorem mx:Tryz.prog.follows .mixedOrders=true:=by kernel_rfl
def b11:Code:=(Tryz.f11.body).getD .skip
theorem JC:Tryz.f11.body=some b11:=by kernel_rfl
def FO:Code:=iQ [0] b11
def H4:aV:=(rg [oo 6 (.box 6 (tm 1)),oo 8 (.box 10 (tm 3)),oo 10 (.alloc [Z0,Z0,Z0,Z0,Z0,Z0,Z0,Z0,Z0,Z0]),oo 11 (.mov kF),oo 12 (.mov (.const .nil))])
theorem KO:bt Tryz.prog 84 [] FO=some H4:=by kernel_rfl
theorem HZ[Glb]{st:St}{Q:aG->St->Prop}(a:wpC Tryz.prog H4 st Q):bR Tryz.prog 84 FO st Q:=bR.low mx KO (by kernel_rfl) (by kernel_rfl) a
def FP:Code:=iQ [1,0] b11
def H5:aV:=(sr [fa 17 0 6,ld 18 17,oo 19 (.bin .eql (tm 18) (Kc 0))] (.cond (tm 19) (sr [lA 20 10 8,mv 21 2,o0 (.store 10 (tm 10) (tm 20)),oo 11 (.mov kT),mv 12 21] .ret) .skip))
theorem KP:bt Tryz.prog 84 [] FP=some H5:=by kernel_rfl
theorem H0[Glb]{st:St}{Q:aG->St->Prop}(a:wpC Tryz.prog H5 st Q):bR Tryz.prog 84 FP st Q:=bR.low mx KP (by kernel_rfl) (by kernel_rfl) a
def FQ:Code:=iQ [1,1,0] b11
def H6:aV:=(rg [oo 22 (.build [.nilfn,.nilfn,.nilfn,.nilfn,.nilfn,.nilfn,.nilfn] [(0,1,(.const .nilfn)),(1,1,(.const (.clos 52 []))),(2,1,(.const (.clos 53 []))),(3,1,(.const (.clos 54 []))),(4,1,(.const (.clos 55 []))),(5,1,(.const (.clos 56 []))),(6,1,(.const (.clos 57 [])))]),oo 13 (.alloc [.nilfn,.nilfn,.nilfn,.nilfn,.nilfn,.nilfn,.nilfn]),o0 (.store 7 (tm 13) (tm 22))])
theorem KQ:bt Tryz.prog 84 [] FQ=some H6:=by kernel_rfl
theorem KG[Glb]{st:St}{Q:aG->St->Prop}(a:wpC Tryz.prog H6 st Q):bR Tryz.prog 84 FQ st Q:=bR.low mx KQ (by kernel_rfl) (by kernel_rfl) a
def FR:Code:=iQ [1,1,1,0] b11
def H7:aV:=(rg [mv 24 0,fa 25 2 6,ld 26 25,lA 27 10 8,oo 28 (.call 58 [(tm 24),(tm 26),(tm 27)]),mv 23 28,oo 29 (.ext (tm 23) 0),oo 30 (.ext (tm 23) 1),mv 14 29,mv 15 30])
theorem KR:bt Tryz.prog 84 [] FR=some H7:=by kernel_rfl
theorem KH[Glb]{st:St}{Q:aG->St->Prop}(a:wpC Tryz.prog H7 st Q):bR Tryz.prog 84 FR st Q:=bR.low mx KR (by kernel_rfl) (by kernel_rfl) a
def FT:Code:=iQ [1,1,1,1,0] b11
def H8:aV:=(rg [mv 31 0,lA 32 6 6,mv 33 2,lA 34 10 8,mv 35 4,⟨some 36,.build [.nil,Z0,S0,.nil,S0,Z0,Z0,.nil,Z0,Z0,Z0,Z0,Z0,Z0,Z0,Z0,Z0,Z0,Z0,S0,.nil,Z0,Z0,(.bool false)] [(0,1,(tm 31)),(1,6,(tm 32)),(7,1,(tm 33)),(8,10,(tm 34)),(18,1,(tm 35))],none,[]⟩,oo 37 (.box 24 (tm 36)),mv 16 37])
theorem KS:bt Tryz.prog 84 [] FT=some H8:=by kernel_rfl
theorem KI[Glb]{st:St}{Q:aG->St->Prop}(a:wpC Tryz.prog H8 st Q):bR Tryz.prog 84 FT st Q:=bR.low mx KS (by kernel_rfl) (by kernel_rfl) a
def FU:Code:=iQ [1,1,1,1,1,0] b11
def H9:aV:=(sr [mv 39 16,mv 40 16,mv 41 2,fa 42 1 6,ld 43 42,mv 44 14,oo 45 (.call 25 [(tm 41),(tm 43),(tm 44)]),mv 38 45,oo 46 (.ext (tm 38) 0),oo 47 (.ext (tm 38) 1),oo 48 (.nilck (tm 39)),fa 49 19 48,o0 (.store 4 (tm 49) (tm 46)),oo 50 (.nilck (tm 40)),fa 51 23 50,o0 (.store 1 (tm 51) (tm 47))] (sr [mv 52 16,oo 53 (.nilck (tm 52)),fa 54 23 53,ld 55 54,oo 56 (.not (tm 55))] (.cond (tm 56) (rg [mv 57 16,fa 58 1 6,ld 59 58,mv 60 14,⟨some 61,.build [S0,.nil,Z0,Z0] [(0,1,(tm 59)),(1,1,(tm 60))],none,[]⟩,oo 62 (.nilck (tm 57)),fa 63 19 62,o0 (.store 4 (tm 63) (tm 61))]) .skip)))
theorem KT:bt Tryz.prog 84 [] FU=some H9:=by kernel_rfl
theorem KJ[Glb]{st:St}{Q:aG->St->Prop}(a:wpC Tryz.prog H9 st Q):bR Tryz.prog 84 FU st Q:=bR.low mx KT (by kernel_rfl) (by kernel_rfl) a
def xC:Code:=iQ [1,1,1,1,1,1,0,0] b11
theorem Ko:xC= .region 9 (uj xC) false:=by kernel_rfl
theorem AJ[Glb]{st:St}{Q:aG->St->Prop}(c:cW Tryz.prog [⟨some 64,.offA 0 (.tmp 6),none,[]⟩,⟨some 65,.load 1 false (.tmp 64),none,[]⟩,⟨some 66,.idxA 7 1 (.tmp 13) (.tmp 65),none,[]⟩,⟨some 67,.load 1 false (.tmp 66),none,[]⟩,⟨some 68,.mov (.tmp 16),none,[]⟩] st fun a=>kQ Tryz.prog (ev a.sl (.tmp 67)) (List.map (ev a.sl) [(.tmp 68)]) (some 69) a fun b=>cW Tryz.prog [⟨some 70,.not (.tmp 69),none,[]⟩] b (Q .normal)):bR Tryz.prog 84 xC st Q:=by
 rw [Ko];exact bR.tZ (k1:=[0,1,2,3,4]) (k:=5) (k2:=[6]) (by kernel_rfl) (by kernel_rfl) (by kernel_rfl) (by kernel_rfl) (by kernel_rfl) (X:=.tmp 67) (az:= #[.tmp 68]) (ats:= #[105]) (d:=69) (by kernel_rfl) rfl rfl (by decide) c
def Cr:Code:=iQ [1,1,1,1,1,1,0,1] b11
def Ia:aV:=(.cond (tm 70) (.seq (.region [lA 71 10 8,mv 72 16,oo 73 (.nilck (tm 72)),fa 74 7 73,ld 75 74,o0 (.store 10 (tm 10) (tm 71)),oo 11 (.mov kF),mv 12 75] [[],[],[],[],[],[4],[],[]]) .ret) .skip)
theorem KU:bt Tryz.prog 84 [] Cr=some Ia:=by kernel_rfl
theorem KK[Glb]{st:St}{Q:aG->St->Prop}(a:wpC Tryz.prog Ia st Q):bR Tryz.prog 84 Cr st Q:=bR.low mx KU (by kernel_rfl) (by kernel_rfl) a
def Cs:Code:=iQ [1,1,1,1,1,1,1] b11
def Ib:aV:=(.seq (.region [mv 76 16,oo 77 (.nilck (tm 76)),fa 78 8 77,lA 79 10 78,mv 80 16,oo 81 (.nilck (tm 80)),fa 82 7 81,ld 83 82,o0 (.store 10 (tm 10) (tm 79)),oo 11 (.mov kT),mv 12 83] [[],[],[],[],[],[],[],[],[7],[],[]]) .ret)
theorem KV:bt Tryz.prog 84 [] Cs=some Ib:=by kernel_rfl
theorem KL[Glb]{st:St}{Q:aG->St->Prop}(a:wpC Tryz.prog Ib st Q):bR Tryz.prog 84 Cs st Q:=bR.low mx KV (by kernel_rfl) (by kernel_rfl) a
theorem k11:b11=(.seq FO (.seq FP (.seq FQ (.seq FR (.seq FT (.seq FU (.seq (.seq xC Cr) Cs))))))):=by kernel_rfl
end Go.ST3
end
section
namespace Go.ST
open Go Go.DL Go.MM Go.Proofs
open Go.TY hiding Fd
theorem WC.toM{P:Program}{f:FuncId}{us:List V}{d:Option Nat}{st:St}{K:St->Prop}(h:WC P f us d st K):WCM P f us d st K:=by
 refine ⟨h.1,fun N j S0 E a vs c b m hd=>(h.2 N j S0 E a vs c b m hd).mono ?_⟩;rintro e p ⟨v,rfl,i,st',n,k,g⟩;exact ⟨v,rfl,S0,i,st',Ext.refl _,n,k,g⟩
abbrev dL(l:List Fd)(s:RS)(st:List RE)(x0 x1 x2 x3 x4 x5 x6 x7 x8 x9 tick:Int)(e:RE)(is:Bool):List T:=
 [fds l,I s.kind,.str s.var,.slice 1 (s.key.map .str),.str s.field,I s.n,I s.m,esT st,I x0,I x1,I x2,I x3,I x4,I x5,I x6,I x7,I x8,I x9,I tick,.str e.var,.slice 1 (e.key.map I),I e.n,I e.at_,.bool is]
abbrev JQ:List T:=[.nilfn,.clos 52 [],.clos 53 [],.clos 54 [],.clos 55 [],.clos 56 [],.clos 57 []]
abbrev z10:List T:=[I 0,I 0,I 0,I 0,I 0,I 0,I 0,I 0,I 0,I 0]
section
variable (l:List Fd)(s:RS)(st:List RE)(x0 x1 x2 x3 x4 x5 x6 x7 x8 x9 tick:Int)(e:RE)(is:Bool)
abbrev S0:Wk:={sl:=[(6,.ptr 6 0),(8,.ptr 8 0),(10,.ptr 10 0),(13,.ptr 13 0),(16,.ptr 37 0)],bx:=[(6,.d 6 (uA s)),(8,.d 10 [I x0,I x1,I x2,I x3,I x4,I x5,I x6,I x7,I x8,I x9]),(10,.d 10 z10),(13,.d 7 JQ),(37,.d 24 (dL l s st x0 x1 x2 x3 x4 x5 x6 x7 x8 x9 tick e is))]}
abbrev S1(st':List RE)(y0 y1 y2 y3 y4 y5 y6 y7 y8 y9:Int)(e':RE)(pass:Bool):Wk:={sl:=[(8,.ptr 8 0),(10,.ptr 10 0),(16,.ptr 37 0),(70,.t (.bool (!pass)))],bx:=[(8,.d 10 [I x0,I x1,I x2,I x3,I x4,I x5,I x6,I x7,I x8,I x9]),(10,.d 10 z10),(37,.d 24 (dL l s st' y0 y1 y2 y3 y4 y5 y6 y7 y8 y9 tick e' is))]}
end
variable {l:List Fd}{s:RS}{st:List RE}{x0 x1 x2 x3 x4 x5 x6 x7 x8 x9 tick:Int}{e:RE}{is:Bool}
attribute [local irreducible] bR WCM YC
theorem II(g:s.kind=3)(b:Bool)(a:b=(is&&decide (e.at_>=tick - s.n)))(q: -2^40<tick/\tick<2^40)(j: -2^40<s.n/\s.n<2^40):
  bR Tryz.prog 84 Go.ST3.xC (S0 l s st x0 x1 x2 x3 x4 x5 x6 x7 x8 x9 tick e is).mk' (fun p k=>p= .normal/\bU (S1 l s x0 x1 x2 x3 x4 x5 x6 x7 x8 x9 tick is st x0 x1 x2 x3 x4 x5 x6 x7 x8 x9 e b) k):=by
 obtain ⟨r,i,key,f,n,m⟩:=s;dsimp only at g j a;subst g;have h:IntKind.wrap .i64 (tick - n)=tick - n:=nW (by omega) (by omega);refine Go.ST3.AJ ?_;cases is with
 |false=>
  subst a
  repeat' ((conv=>whnf);first|refine WC.toM (tW mixed Tryz.func54 Go.ST4.l54 rfl rfl (rs:=[.tmp 2]) rfl 3000 (nlZ rfl) ?_)|refine aS ?_|refine nT_ ?_)
  refine ⟨_,rfl,?_⟩
  repeat' ((conv=>whnf);first|(exact ⟨rfl,by (repeat' (first|exact wJ|refine And.intro ?_ ?_));done⟩)|fail)
 |true=>
  by_cases c:e.at_>=tick - n
  ·have d:e.at_>=IntKind.wrap .i64 (tick - n):=by rw [h];exact c
   obtain rfl:b=true:=by rw [a,decide_eq_true c];rfl
   repeat' ((conv=>whnf);first|refine WC.toM (tW mixed Tryz.func54 Go.ST4.l54 rfl rfl (rs:=[.tmp 2]) rfl 3000 (nlZ rfl) ?_)|refine sC d ?_|refine aS ?_|refine nT_ ?_)
   refine ⟨_,rfl,?_⟩
   repeat' ((conv=>whnf);first|(exact ⟨rfl,by (repeat' (first|exact wJ|refine And.intro ?_ ?_));done⟩)|fail)
  ·have d: ¬e.at_>=IntKind.wrap .i64 (tick - n):=by rw [h];exact c
   obtain rfl:b=false:=by rw [a,decide_eq_false c];rfl
   repeat' ((conv=>whnf);first|refine WC.toM (tW mixed Tryz.func54 Go.ST4.l54 rfl rfl (rs:=[.tmp 2]) rfl 3000 (nlZ rfl) ?_)|refine su d ?_|refine aS ?_|refine nT_ ?_)
   refine ⟨_,rfl,?_⟩
   repeat' ((conv=>whnf);first|(exact ⟨rfl,by (repeat' (first|exact wJ|refine And.intro ?_ ?_));done⟩)|fail)
end Go.ST
end
section
namespace Go.ST
open Go Go.DL Go.MM Go.Proofs
open Go.TY hiding Fd
variable {l:List Fd}{s:RS}{st st' o:List RE}{x0 x1 x2 x3 x4 x5 x6 x7 x8 x9 tick:Int}{e:RE}{is:Bool}
attribute [local irreducible] bR WCM YC
theorem JO(h:s.kind=2)(b:DCalls Tryz.prog 22 [esT st,.str s.var] (esT o))(i:DCalls Tryz.prog 139 [esT st,um ⟨e.var,e.key,e.n,tick⟩] (esT st'))(a:Bool)(f:a=(!is&&decide (100<=o.length))):
  bR Tryz.prog 84 Go.ST3.xC (S0 l s st x0 x1 x2 x3 x4 x5 x6 x7 x8 x9 tick e is).mk' (fun q p=>q= .normal/\bU (S1 l s x0 x1 x2 x3 x4 x5 x6 x7 x8 x9 tick is (if a then st else st') x0 x1 x2 x3 x4 x5 x6 x7 x8 x9 ⟨e.var,e.key,e.n,tick⟩ (!a)) p):=by
 obtain ⟨r,j,key,g,n,m⟩:=s;dsimp only at h b;subst h;have k:((o.map um).length:Int)=o.length:=by rw [List.length_map]
 refine Go.ST3.AJ ?_;cases is with
 |true=>
  obtain rfl:a=false:=by rw [f];rfl
  repeat' ((conv=>whnf);first|refine WC.toM (tW mixed Tryz.func53 Go.ST4.l53 rfl rfl (rs:=[.tmp 2]) rfl 3000 (nlZ rfl) ?_)|refine aS ?_|refine nT_ ?_)
  repeat' ((conv=>whnf);first|refine tW mixed Tryz.func105 Go.ST4.vW rfl rfl (rs:=[.tmp 2]) rfl 3100 (nlZ rfl) ?_|refine aS ?_|refine nT_ ?_)
  repeat' ((conv=>whnf);first|refine uc _ (i) ?_|refine aS ?_|fail)
  refine ⟨_,rfl,?_⟩
  skip
  refine ⟨_,rfl,?_⟩
  repeat' ((conv=>whnf);first|(exact ⟨rfl,by (repeat' (first|exact wJ|refine And.intro ?_ ?_));done⟩)|fail)
 |false=>
  by_cases c:100<=o.length
  ·obtain rfl:a=true:=by rw [f,decide_eq_true c];rfl
   have d:((o.map um).length:Int)>=100:=by omega
   repeat' ((conv=>whnf);first|refine WC.toM (tW mixed Tryz.func53 Go.ST4.l53 rfl rfl (rs:=[.tmp 2]) rfl 3000 (nlZ rfl) ?_)|refine aS ?_|refine nT_ ?_)
   repeat' ((conv=>whnf);first|refine tW mixed Tryz.func105 Go.ST4.vW rfl rfl (rs:=[.tmp 2]) rfl 3100 (nlZ rfl) ?_|refine aS ?_|refine nT_ ?_)
   repeat' ((conv=>whnf);first|refine uc _ (b) ?_|refine sC d ?_|refine aS ?_|fail)
   refine ⟨_,rfl,?_⟩
   skip
   refine ⟨_,rfl,?_⟩
   repeat' ((conv=>whnf);first|(exact ⟨rfl,by (repeat' (first|exact wJ|refine And.intro ?_ ?_));done⟩)|fail)
  ·obtain rfl:a=false:=by rw [f,decide_eq_false c];rfl
   have d: ¬((o.map um).length:Int)>=100:=by omega
   repeat' ((conv=>whnf);first|refine WC.toM (tW mixed Tryz.func53 Go.ST4.l53 rfl rfl (rs:=[.tmp 2]) rfl 3000 (nlZ rfl) ?_)|refine aS ?_|refine nT_ ?_)
   repeat' ((conv=>whnf);first|refine tW mixed Tryz.func105 Go.ST4.vW rfl rfl (rs:=[.tmp 2]) rfl 3100 (nlZ rfl) ?_|refine aS ?_|refine nT_ ?_)
   repeat' ((conv=>whnf);first|refine uc _ (b) ?_|refine su d ?_|refine uc _ (i) ?_|refine aS ?_|refine nT_ ?_)
   refine ⟨_,rfl,?_⟩
   skip
   refine ⟨_,rfl,?_⟩
   repeat' ((conv=>whnf);first|(exact ⟨rfl,by (repeat' (first|exact wJ|refine And.intro ?_ ?_));done⟩)|fail)
end Go.ST
end
section
namespace Go.ST
open Go Go.DL Go.MM Go.Proofs
open Go.TY hiding Fd
variable {l:List Fd}{s:RS}{st st' o:List RE}{x0 x1 x2 x3 x4 x5 x6 x7 x8 x9 y0 y1 y2 y3 y4 y5 y6 y7 y8 y9 tick:Int}{e:RE}{is:Bool}
attribute [local irreducible] bR WCM YC
abbrev E8(w:Nat)(n:Int):Int:=if ((2^w - 1:Nat):Int)<n then ((2^w - 1:Nat):Int) else n
theorem Du(w:Nat)(n:Int):E8 w n=min n ((2^w - 1:Nat):Int):=by
 unfold E8;split <;> omega
structure Wr (l:List Fd) (field:ByteArray) (h h':List Int) (n:Int):Prop where
 find:DCalls Tryz.prog 107 [fds l,.str field] (.tup [fdc l field,.bool (uu l field)])
 max:uu l field=true->DCalls Tryz.prog 141 [fdc l field] (I ((2^(fld l field).w - 1:Nat):Int))
 set:uu l field=true->DCalls Tryz.prog 140 [fdc l field,hd h,I (E8 (fld l field).w n)] (hd h')
 no:uu l field=false->h'=h
theorem F1{l:List Fd}(c:LOk l)(a:ByteArray){h:List Int}(f:HOk h){n:Int}(g:0<=n):Wr l a h (wrF l h a n) n:=by
 refine ⟨CM l c a,fun b=>t97 _ (yp c b),fun b=>?_,fun b=>?_⟩
 ·have i:=Nat.two_pow_pos (fld l a).w;have d:=t98 _ (yp c b) h f (min n ((2^(fld l a).w - 1:Nat):Int)).toNat (by omega);unfold wrF;rw [if_pos b,Du];rwa [Int.toNat_of_nonneg (by omega)] at d
 ·unfold wrF;rw [b];rfl
theorem IJ(u:s.kind=1)(d:DCalls Tryz.prog 22 [esT st,.str s.var] (esT o))(N:Int)(x:(if (65535:Int)<IntKind.wrap .i64 (e.n+1) then 65535 else IntKind.wrap .i64 (e.n+1))=N)(r:DCalls Tryz.prog 139 [esT st,um ⟨e.var,e.key,N,tick⟩] (esT st'))(a:Bool)(j:a=(!is&&decide (100<=o.length)))
  (v:Wr l s.field [x0,x1,x2,x3,x4,x5,x6,x7,x8,x9] [y0,y1,y2,y3,y4,y5,y6,y7,y8,y9] N):
  bR Tryz.prog 84 Go.ST3.xC (S0 l s st x0 x1 x2 x3 x4 x5 x6 x7 x8 x9 tick e is).mk' (fun z t=>z= .normal/\((a=true/\bU (S1 l s x0 x1 x2 x3 x4 x5 x6 x7 x8 x9 tick is st x0 x1 x2 x3 x4 x5 x6 x7 x8 x9 ⟨e.var,e.key,N,tick⟩ false) t)\/(a=false/\bU (S1 l s x0 x1 x2 x3 x4 x5 x6 x7 x8 x9 tick is st' y0 y1 y2 y3 y4 y5 y6 y7 y8 y9 ⟨e.var,e.key,N,tick⟩ true) t))):=by
 obtain ⟨A,w,key,g,n,m⟩:=s;dsimp only at u d v;subst u;subst x;have y:((o.map um).length:Int)=o.length:=by rw [List.length_map]
 obtain ⟨h,q,p,f⟩:=v;refine Go.ST3.AJ ?_
 by_cases c:a=true
 ·subst c;cases is with
  |true=>cases j
  |false=>
   have c:100<=o.length:=by
    by_cases c:100<=o.length
    ·exact c
    ·rw [decide_eq_false c] at j;cases j
   have i:((o.map um).length:Int)>=100:=by omega
   repeat' ((conv=>whnf);first|refine WC.toM (tW mixed Tryz.func52 Go.ST4.l52 rfl rfl (rs:=[.tmp 2]) rfl 3000 (nlZ rfl) ?_)|refine aS ?_|refine nT_ ?_)
   repeat' ((conv=>whnf);first|refine tW mixed Tryz.func105 Go.ST4.vW rfl rfl (rs:=[.tmp 2]) rfl 3100 (nlZ rfl) ?_|refine aS ?_|refine nT_ ?_)
   repeat' ((conv=>whnf);first|refine uc _ (d) ?_|refine sC i ?_|refine aS ?_|fail)
   refine ⟨_,rfl,?_⟩
   skip
   refine ⟨_,rfl,?_⟩
   repeat' ((conv=>whnf);first|(exact ⟨rfl,Or.inl ⟨rfl,by (repeat' (first|exact wJ|refine And.intro ?_ ?_));done⟩⟩)|fail)
 ·have c:a=false:=by simpa using c
  subst c;have k:(is=true)\/(is=false/\ ¬((o.map um).length:Int)>=100):=by
   cases is with
   |true=>exact Or.inl rfl
   |false=>
    refine Or.inr ⟨rfl,fun i=>?_⟩;rw [decide_eq_true (by omega)] at j;cases j
  cases b:uu l g with
  |true=>
   have q:=q b;have p:=p b;rw [b] at h;rcases k with rfl|⟨rfl,i⟩
   ·repeat' ((conv=>whnf);first|refine WC.toM (tW mixed Tryz.func52 Go.ST4.l52 rfl rfl (rs:=[.tmp 2]) rfl 3000 (nlZ rfl) ?_)|refine aS ?_|refine nT_ ?_)
    repeat' ((conv=>whnf);first|refine tW mixed Tryz.func105 Go.ST4.vW rfl rfl (rs:=[.tmp 2]) rfl 3100 (nlZ rfl) ?_|refine aS ?_|refine nT_ ?_)
    repeat' ((conv=>whnf);first|refine uc _ (r) ?_|refine aS ?_|fail)
    refine ⟨_,rfl,?_⟩
    repeat' ((conv=>whnf);first|refine tW mixed Tryz.func106 Go.ST4.zy rfl rfl (rs:=[]) rfl 3200 (nlZ rfl) ?_|refine aS ?_|refine nT_ ?_)
    repeat' ((conv=>whnf);first|refine uc _ (h) ?_|refine uc _ (q) ?_|refine uc _ (p) ?_|refine aS ?_|refine nT_ ?_)
    refine ⟨_,rfl,?_⟩
    skip
    refine ⟨_,rfl,?_⟩
    repeat' ((conv=>whnf);first|(exact ⟨rfl,Or.inr ⟨rfl,by (repeat' (first|exact wJ|refine And.intro ?_ ?_));done⟩⟩)|fail)
   ·repeat' ((conv=>whnf);first|refine WC.toM (tW mixed Tryz.func52 Go.ST4.l52 rfl rfl (rs:=[.tmp 2]) rfl 3000 (nlZ rfl) ?_)|refine aS ?_|refine nT_ ?_)
    repeat' ((conv=>whnf);first|refine tW mixed Tryz.func105 Go.ST4.vW rfl rfl (rs:=[.tmp 2]) rfl 3100 (nlZ rfl) ?_|refine aS ?_|refine nT_ ?_)
    repeat' ((conv=>whnf);first|refine uc _ (d) ?_|refine su i ?_|refine uc _ (r) ?_|refine aS ?_|refine nT_ ?_)
    refine ⟨_,rfl,?_⟩
    repeat' ((conv=>whnf);first|refine tW mixed Tryz.func106 Go.ST4.zy rfl rfl (rs:=[]) rfl 3200 (nlZ rfl) ?_|refine aS ?_|refine nT_ ?_)
    repeat' ((conv=>whnf);first|refine uc _ (h) ?_|refine uc _ (q) ?_|refine uc _ (p) ?_|refine aS ?_|refine nT_ ?_)
    refine ⟨_,rfl,?_⟩
    skip
    refine ⟨_,rfl,?_⟩
    repeat' ((conv=>whnf);first|(exact ⟨rfl,Or.inr ⟨rfl,by (repeat' (first|exact wJ|refine And.intro ?_ ?_));done⟩⟩)|fail)
  |false=>
   have f:=f b;cases f;rw [b] at h;rcases k with rfl|⟨rfl,i⟩
   ·repeat' ((conv=>whnf);first|refine WC.toM (tW mixed Tryz.func52 Go.ST4.l52 rfl rfl (rs:=[.tmp 2]) rfl 3000 (nlZ rfl) ?_)|refine aS ?_|refine nT_ ?_)
    repeat' ((conv=>whnf);first|refine tW mixed Tryz.func105 Go.ST4.vW rfl rfl (rs:=[.tmp 2]) rfl 3100 (nlZ rfl) ?_|refine aS ?_|refine nT_ ?_)
    repeat' ((conv=>whnf);first|refine uc _ (r) ?_|refine aS ?_|fail)
    refine ⟨_,rfl,?_⟩
    repeat' ((conv=>whnf);first|refine tW mixed Tryz.func106 Go.ST4.zy rfl rfl (rs:=[]) rfl 3200 (nlZ rfl) ?_|refine aS ?_|refine nT_ ?_)
    repeat' ((conv=>whnf);first|refine uc _ (h) ?_|refine aS ?_|fail)
    refine ⟨_,rfl,?_⟩
    skip
    refine ⟨_,rfl,?_⟩
    repeat' ((conv=>whnf);first|(exact ⟨rfl,Or.inr ⟨rfl,by (repeat' (first|exact wJ|refine And.intro ?_ ?_));done⟩⟩)|fail)
   ·repeat' ((conv=>whnf);first|refine WC.toM (tW mixed Tryz.func52 Go.ST4.l52 rfl rfl (rs:=[.tmp 2]) rfl 3000 (nlZ rfl) ?_)|refine aS ?_|refine nT_ ?_)
    repeat' ((conv=>whnf);first|refine tW mixed Tryz.func105 Go.ST4.vW rfl rfl (rs:=[.tmp 2]) rfl 3100 (nlZ rfl) ?_|refine aS ?_|refine nT_ ?_)
    repeat' ((conv=>whnf);first|refine uc _ (d) ?_|refine su i ?_|refine uc _ (r) ?_|refine aS ?_|refine nT_ ?_)
    refine ⟨_,rfl,?_⟩
    repeat' ((conv=>whnf);first|refine tW mixed Tryz.func106 Go.ST4.zy rfl rfl (rs:=[]) rfl 3200 (nlZ rfl) ?_|refine aS ?_|refine nT_ ?_)
    repeat' ((conv=>whnf);first|refine uc _ (h) ?_|refine aS ?_|fail)
    refine ⟨_,rfl,?_⟩
    skip
    refine ⟨_,rfl,?_⟩
    repeat' ((conv=>whnf);first|(exact ⟨rfl,Or.inr ⟨rfl,by (repeat' (first|exact wJ|refine And.intro ?_ ?_));done⟩⟩)|fail)
end Go.ST
end
section
namespace Go.ST
open Go Go.DL Go.MM Go.Proofs
open Go.TY hiding Fd
variable {l:List Fd}{s:RS}{st st' o:List RE}{x0 x1 x2 x3 x4 x5 x6 x7 x8 x9 tick:Int}{e:RE}{is:Bool}
attribute [local irreducible] bR WCM YC
abbrev W64(n:Int):Int:=IntKind.wrap .i64 n
abbrev vG(tick a m:Int):Int:=W64 ((if W64 (tick - a)>0 then W64 (tick - a) else 0).tdiv m)
abbrev HP(n m tick b a:Int):Int×Int:=if W64 (b+vG tick a m)>=n then (n,tick) else (W64 (b+vG tick a m),W64 (a+W64 (vG tick a m * m)))
theorem IK(y:s.kind=6)(z:s.m≠0)(t r h i:Int)(x:t=if is then e.n else s.n)(q:r=if is then e.at_ else tick)(f:HP s.n s.m tick t r=(h,i))(w:Int)(b:w=if h>0 then W64 (h - 1) else h)
  (g:DCalls Tryz.prog 22 [esT st,.str s.var] (esT o)) (k:DCalls Tryz.prog 139 [esT st,um ⟨e.var,e.key,w,i⟩] (esT st')) (d:Bool) (u:d=(!is&&decide (100<=o.length))):
  bR Tryz.prog 84 Go.ST3.xC (S0 l s st x0 x1 x2 x3 x4 x5 x6 x7 x8 x9 tick e is).mk' (fun D B=>D= .normal/\bU (S1 l s x0 x1 x2 x3 x4 x5 x6 x7 x8 x9 tick is (if d then st else st') x0 x1 x2 x3 x4 x5 x6 x7 x8 x9 ⟨e.var,e.key,w,i⟩ (!d&&decide (h>0))) B):=by
 obtain ⟨E,A,key,v,n,m⟩:=s;dsimp only at y g z x q f;subst y;have C:((o.map um).length:Int)=o.length:=by rw [List.length_map]
 refine Go.ST3.AJ ?_;cases is with
 |true=>
  obtain rfl:d=false:=by rw [u];rfl
  obtain rfl:t=e.n:=x;obtain rfl:r=e.at_:=q
  by_cases p:W64 (e.n+vG tick e.at_ m)>=n
  ·have f:(n,tick)=(h,i):=by rw [<- f];exact (if_pos p).symm
   obtain ⟨rfl,rfl⟩:=Prod.mk.injEq .. ▸f
   by_cases a:n>0
   ·rw [if_pos a] at b;subst b;rw [decide_eq_true a]
    repeat' ((conv=>whnf);first|refine WC.toM (tW mixed Tryz.func57 Go.ST4.l57 rfl rfl (rs:=[.tmp 2]) rfl 3000 (nlZ rfl) ?_)|refine aD1 ?_|refine aS ?_|refine nT_ ?_)
    repeat' ((conv=>whnf);first|refine tW mixed Tryz.func105 Go.ST4.vW rfl rfl (rs:=[.tmp 2]) rfl 3100 (nlZ rfl) ?_|refine aS ?_|refine nT_ ?_)
    repeat' ((conv=>whnf);first|refine uc _ (k) ?_|refine aS ?_|fail)
    refine ⟨_,rfl,?_⟩
    skip
    refine ⟨_,rfl,?_⟩
    repeat' ((conv=>whnf);first|(exact ⟨rfl,by (repeat' (first|exact wJ|refine And.intro ?_ ?_));done⟩)|fail)
   ·rw [if_neg a] at b;subst b;rw [decide_eq_false a]
    repeat' ((conv=>whnf);first|refine WC.toM (tW mixed Tryz.func57 Go.ST4.l57 rfl rfl (rs:=[.tmp 2]) rfl 3000 (nlZ rfl) ?_)|refine aD1 ?_|refine aD0 ?_|refine aS ?_|refine nT_ ?_)
    repeat' ((conv=>whnf);first|refine tW mixed Tryz.func105 Go.ST4.vW rfl rfl (rs:=[.tmp 2]) rfl 3100 (nlZ rfl) ?_|refine aS ?_|refine nT_ ?_)
    repeat' ((conv=>whnf);first|refine uc _ (k) ?_|refine aS ?_|fail)
    refine ⟨_,rfl,?_⟩
    skip
    refine ⟨_,rfl,?_⟩
    repeat' ((conv=>whnf);first|(exact ⟨rfl,by (repeat' (first|exact wJ|refine And.intro ?_ ?_));done⟩)|fail)
  ·have f:(W64 (e.n+vG tick e.at_ m),W64 (e.at_+W64 (vG tick e.at_ m * m)))=(h,i):=by rw [<- f];exact (if_neg p).symm
   obtain ⟨rfl,rfl⟩:=Prod.mk.injEq .. ▸f
   by_cases a:W64 (e.n+vG tick e.at_ m)>0
   ·rw [if_pos a] at b;subst b;rw [decide_eq_true a]
    repeat' ((conv=>whnf);first|refine WC.toM (tW mixed Tryz.func57 Go.ST4.l57 rfl rfl (rs:=[.tmp 2]) rfl 3000 (nlZ rfl) ?_)|refine aD1 ?_|refine aD0 ?_|refine aS ?_|refine nT_ ?_)
    repeat' ((conv=>whnf);first|refine tW mixed Tryz.func105 Go.ST4.vW rfl rfl (rs:=[.tmp 2]) rfl 3100 (nlZ rfl) ?_|refine aS ?_|refine nT_ ?_)
    repeat' ((conv=>whnf);first|refine uc _ (k) ?_|refine aS ?_|fail)
    refine ⟨_,rfl,?_⟩
    skip
    refine ⟨_,rfl,?_⟩
    repeat' ((conv=>whnf);first|(exact ⟨rfl,by (repeat' (first|exact wJ|refine And.intro ?_ ?_));done⟩)|fail)
   ·rw [if_neg a] at b;subst b;rw [decide_eq_false a]
    repeat' ((conv=>whnf);first|refine WC.toM (tW mixed Tryz.func57 Go.ST4.l57 rfl rfl (rs:=[.tmp 2]) rfl 3000 (nlZ rfl) ?_)|refine aD0 ?_|refine aS ?_|refine nT_ ?_)
    repeat' ((conv=>whnf);first|refine tW mixed Tryz.func105 Go.ST4.vW rfl rfl (rs:=[.tmp 2]) rfl 3100 (nlZ rfl) ?_|refine aS ?_|refine nT_ ?_)
    repeat' ((conv=>whnf);first|refine uc _ (k) ?_|refine aS ?_|fail)
    refine ⟨_,rfl,?_⟩
    skip
    refine ⟨_,rfl,?_⟩
    repeat' ((conv=>whnf);first|(exact ⟨rfl,by (repeat' (first|exact wJ|refine And.intro ?_ ?_));done⟩)|fail)
 |false=>
  obtain rfl:n=t:=x.symm;obtain rfl:tick=r:=q.symm
  by_cases c:100<=o.length
  ·have j:((o.map um).length:Int)>=100:=by omega
   obtain rfl:d=true:=by rw [u,decide_eq_true c];rfl
   by_cases p:W64 (n+vG tick tick m)>=n
   ·have f:(n,tick)=(h,i):=by rw [<- f];exact (if_pos p).symm
    obtain ⟨rfl,rfl⟩:=Prod.mk.injEq .. ▸f
    by_cases a:n>0
    ·rw [if_pos a] at b;subst b;rw [decide_eq_true a]
     repeat' ((conv=>whnf);first|refine WC.toM (tW mixed Tryz.func57 Go.ST4.l57 rfl rfl (rs:=[.tmp 2]) rfl 3000 (nlZ rfl) ?_)|refine aD1 ?_|refine aS ?_|refine nT_ ?_)
     repeat' ((conv=>whnf);first|refine tW mixed Tryz.func105 Go.ST4.vW rfl rfl (rs:=[.tmp 2]) rfl 3100 (nlZ rfl) ?_|refine aS ?_|refine nT_ ?_)
     repeat' ((conv=>whnf);first|refine uc _ (g) ?_|refine sC j ?_|refine aS ?_|fail)
     refine ⟨_,rfl,?_⟩
     skip
     refine ⟨_,rfl,?_⟩
     repeat' ((conv=>whnf);first|(exact ⟨rfl,by (repeat' (first|exact wJ|refine And.intro ?_ ?_));done⟩)|fail)
    ·rw [if_neg a] at b;subst b;rw [decide_eq_false a]
     repeat' ((conv=>whnf);first|refine WC.toM (tW mixed Tryz.func57 Go.ST4.l57 rfl rfl (rs:=[.tmp 2]) rfl 3000 (nlZ rfl) ?_)|refine aD1 ?_|refine aD0 ?_|refine aS ?_|refine nT_ ?_)
     repeat' ((conv=>whnf);first|refine tW mixed Tryz.func105 Go.ST4.vW rfl rfl (rs:=[.tmp 2]) rfl 3100 (nlZ rfl) ?_|refine aS ?_|refine nT_ ?_)
     repeat' ((conv=>whnf);first|refine uc _ (g) ?_|refine sC j ?_|refine aS ?_|fail)
     refine ⟨_,rfl,?_⟩
     skip
     refine ⟨_,rfl,?_⟩
     repeat' ((conv=>whnf);first|(exact ⟨rfl,by (repeat' (first|exact wJ|refine And.intro ?_ ?_));done⟩)|fail)
   ·have f:(W64 (n+vG tick tick m),W64 (tick+W64 (vG tick tick m * m)))=(h,i):=by rw [<- f];exact (if_neg p).symm
    obtain ⟨rfl,rfl⟩:=Prod.mk.injEq .. ▸f
    by_cases a:W64 (n+vG tick tick m)>0
    ·rw [if_pos a] at b;subst b;rw [decide_eq_true a]
     repeat' ((conv=>whnf);first|refine WC.toM (tW mixed Tryz.func57 Go.ST4.l57 rfl rfl (rs:=[.tmp 2]) rfl 3000 (nlZ rfl) ?_)|refine aD1 ?_|refine aD0 ?_|refine aS ?_|refine nT_ ?_)
     repeat' ((conv=>whnf);first|refine tW mixed Tryz.func105 Go.ST4.vW rfl rfl (rs:=[.tmp 2]) rfl 3100 (nlZ rfl) ?_|refine aS ?_|refine nT_ ?_)
     repeat' ((conv=>whnf);first|refine uc _ (g) ?_|refine sC j ?_|refine aS ?_|fail)
     refine ⟨_,rfl,?_⟩
     skip
     refine ⟨_,rfl,?_⟩
     repeat' ((conv=>whnf);first|(exact ⟨rfl,by (repeat' (first|exact wJ|refine And.intro ?_ ?_));done⟩)|fail)
    ·rw [if_neg a] at b;subst b;rw [decide_eq_false a]
     repeat' ((conv=>whnf);first|refine WC.toM (tW mixed Tryz.func57 Go.ST4.l57 rfl rfl (rs:=[.tmp 2]) rfl 3000 (nlZ rfl) ?_)|refine aD0 ?_|refine aS ?_|refine nT_ ?_)
     repeat' ((conv=>whnf);first|refine tW mixed Tryz.func105 Go.ST4.vW rfl rfl (rs:=[.tmp 2]) rfl 3100 (nlZ rfl) ?_|refine aS ?_|refine nT_ ?_)
     repeat' ((conv=>whnf);first|refine uc _ (g) ?_|refine sC j ?_|refine aS ?_|fail)
     refine ⟨_,rfl,?_⟩
     skip
     refine ⟨_,rfl,?_⟩
     repeat' ((conv=>whnf);first|(exact ⟨rfl,by (repeat' (first|exact wJ|refine And.intro ?_ ?_));done⟩)|fail)
  ·have j: ¬((o.map um).length:Int)>=100:=by omega
   obtain rfl:d=false:=by rw [u,decide_eq_false c];rfl
   by_cases p:W64 (n+vG tick tick m)>=n
   ·have f:(n,tick)=(h,i):=by rw [<- f];exact (if_pos p).symm
    obtain ⟨rfl,rfl⟩:=Prod.mk.injEq .. ▸f
    by_cases a:n>0
    ·rw [if_pos a] at b;subst b;rw [decide_eq_true a]
     repeat' ((conv=>whnf);first|refine WC.toM (tW mixed Tryz.func57 Go.ST4.l57 rfl rfl (rs:=[.tmp 2]) rfl 3000 (nlZ rfl) ?_)|refine aD1 ?_|refine aS ?_|refine nT_ ?_)
     repeat' ((conv=>whnf);first|refine tW mixed Tryz.func105 Go.ST4.vW rfl rfl (rs:=[.tmp 2]) rfl 3100 (nlZ rfl) ?_|refine aS ?_|refine nT_ ?_)
     repeat' ((conv=>whnf);first|refine uc _ (g) ?_|refine su j ?_|refine uc _ (k) ?_|refine aS ?_|refine nT_ ?_)
     refine ⟨_,rfl,?_⟩
     skip
     refine ⟨_,rfl,?_⟩
     repeat' ((conv=>whnf);first|(exact ⟨rfl,by (repeat' (first|exact wJ|refine And.intro ?_ ?_));done⟩)|fail)
    ·rw [if_neg a] at b;subst b;rw [decide_eq_false a]
     repeat' ((conv=>whnf);first|refine WC.toM (tW mixed Tryz.func57 Go.ST4.l57 rfl rfl (rs:=[.tmp 2]) rfl 3000 (nlZ rfl) ?_)|refine aD1 ?_|refine aD0 ?_|refine aS ?_|refine nT_ ?_)
     repeat' ((conv=>whnf);first|refine tW mixed Tryz.func105 Go.ST4.vW rfl rfl (rs:=[.tmp 2]) rfl 3100 (nlZ rfl) ?_|refine aS ?_|refine nT_ ?_)
     repeat' ((conv=>whnf);first|refine uc _ (g) ?_|refine su j ?_|refine uc _ (k) ?_|refine aS ?_|refine nT_ ?_)
     refine ⟨_,rfl,?_⟩
     skip
     refine ⟨_,rfl,?_⟩
     repeat' ((conv=>whnf);first|(exact ⟨rfl,by (repeat' (first|exact wJ|refine And.intro ?_ ?_));done⟩)|fail)
   ·have f:(W64 (n+vG tick tick m),W64 (tick+W64 (vG tick tick m * m)))=(h,i):=by rw [<- f];exact (if_neg p).symm
    obtain ⟨rfl,rfl⟩:=Prod.mk.injEq .. ▸f
    by_cases a:W64 (n+vG tick tick m)>0
    ·rw [if_pos a] at b;subst b;rw [decide_eq_true a]
     repeat' ((conv=>whnf);first|refine WC.toM (tW mixed Tryz.func57 Go.ST4.l57 rfl rfl (rs:=[.tmp 2]) rfl 3000 (nlZ rfl) ?_)|refine aD1 ?_|refine aD0 ?_|refine aS ?_|refine nT_ ?_)
     repeat' ((conv=>whnf);first|refine tW mixed Tryz.func105 Go.ST4.vW rfl rfl (rs:=[.tmp 2]) rfl 3100 (nlZ rfl) ?_|refine aS ?_|refine nT_ ?_)
     repeat' ((conv=>whnf);first|refine uc _ (g) ?_|refine su j ?_|refine uc _ (k) ?_|refine aS ?_|refine nT_ ?_)
     refine ⟨_,rfl,?_⟩
     skip
     refine ⟨_,rfl,?_⟩
     repeat' ((conv=>whnf);first|(exact ⟨rfl,by (repeat' (first|exact wJ|refine And.intro ?_ ?_));done⟩)|fail)
    ·rw [if_neg a] at b;subst b;rw [decide_eq_false a]
     repeat' ((conv=>whnf);first|refine WC.toM (tW mixed Tryz.func57 Go.ST4.l57 rfl rfl (rs:=[.tmp 2]) rfl 3000 (nlZ rfl) ?_)|refine aD0 ?_|refine aS ?_|refine nT_ ?_)
     repeat' ((conv=>whnf);first|refine tW mixed Tryz.func105 Go.ST4.vW rfl rfl (rs:=[.tmp 2]) rfl 3100 (nlZ rfl) ?_|refine aS ?_|refine nT_ ?_)
     repeat' ((conv=>whnf);first|refine uc _ (g) ?_|refine su j ?_|refine uc _ (k) ?_|refine aS ?_|refine nT_ ?_)
     refine ⟨_,rfl,?_⟩
     skip
     refine ⟨_,rfl,?_⟩
     repeat' ((conv=>whnf);first|(exact ⟨rfl,by (repeat' (first|exact wJ|refine And.intro ?_ ?_));done⟩)|fail)
end Go.ST
end
section
namespace Go.ST5
open Go Go.DL Go.Proofs
noncomputable def c56:aV:=(sr [oo 1 (.box 1 (tm 0)),oo 2 (.mov kF)] (sr [ld 10 1,oo 11 (.nilck (tm 10)),fa 12 0 11,ld 13 12,ld 14 1,oo 15 (.nilck (tm 14)),fa 16 1 15,fa 17 3 16,ld 18 17,oo 19 (.call 107 [(tm 13),(tm 18)]),mv 9 19,oo 20 (.ext (tm 9) 0),oo 21 (.ext (tm 9) 1),⟨some 3,.alloc [S0,Z0,Z0],none,[]⟩,o0 (.store 3 (tm 3) (tm 20)),mv 4 21] (sr [lA 22 3 3,ld 23 1,oo 24 (.nilck (tm 23)),fa 25 8 24,lA 26 10 25,oo 27 (.call 108 [(tm 22),(tm 26)]),oo 5 (.alloc [Z0]),o0 (.store 1 (tm 5) (tm 27))] (sr [ld 28 1,oo 29 (.nilck (tm 28)),fa 30 7 29,ld 31 30,oo 32 (.mkfn 110 [(tm 1),(tm 5)]),oo 33 (.inl 109 [(tm 31),(tm 32)]),mv 6 33] (.seq (sr [mv 34 6,oo 35 (.bin .lss (tm 34) (Kc 0))] (.cond (tm 35) (sr [oo 2 (.mov kF)] .ret) .skip)) (.seq (sr [ld 36 1,oo 37 (.nilck (tm 36)),fa 38 1 37,fa 39 2 38,ld 40 39,ln 41 40,oo 42 (.mov (Kc 0))] (.block 0 (.loop (sr [oo 43 (.bin .lss (tm 42) (tm 41))] (.seq (.cond (tm 43) .skip (.exit 0)) (.seq (.block 1 (sr [mv 44 42,ix 45 1 40 42,ld 46 45,mv 7 44,mv 8 46] (rg [ld 47 1,mv 48 8,ld 49 1,oo 50 (.nilck (tm 49)),fa 51 7 50,ld 52 51,mv 53 6,ix 54 4 52 53,fa 55 1 54,ld 56 55,mv 57 7,ix 58 1 56 57,ld 59 58,oo 60 (.inl 106 [(tm 47),(tm 48),(tm 59)])]))) (rg [oo 61 (.bin .add (tm 42) (Kc 1)),mv 42 61]))))))) (sr [oo 2 (.mov kT)] .ret)))))))
theorem l56:(Tryz.f56.body.bind (bt Tryz.prog 62 [106,109]))=some c56:=by kernel_rfl
end Go.ST5
end
section
namespace Go.ST
open Go Go.DL Go.MM
open Go.TY hiding Fd
def NM(n m N A t:Int):Int×Int:=if N+(if t>A then (t - A).tdiv m else 0)>=n then (n,t) else (N+(if t>A then (t - A).tdiv m else 0),A+(if t>A then (t - A).tdiv m else 0) * m)
theorem GL{n m N A t:Int}(k:1<=n)(j:1<=m)(p:0<=N)(r:0<=A)(i:A<=t): ∃q:Int,0<=q/\q * m<=t - A/\(m<=t - A->1<=q)/\t - A<(q+1) * m/\NM n m N A t=(if N+q>=n then (n,t) else (N+q,A+q * m)):=by
 refine ⟨if t>A then (t - A).tdiv m else 0,?_,?_,?_,?_,rfl⟩
 all_goals
  by_cases h:t>A
  ·rw [if_pos h,Int.tdiv_eq_ediv_of_nonneg (by omega)];have f:=Int.ediv_nonneg (a:=t - A) (b:=m) (by omega) (by omega);have g:=Int.ediv_mul_le (t - A) (b:=m) (by omega);have c:=Int.lt_ediv_add_one_mul_self (t - A) (b:=m) (by omega)
   first
    |exact f
    |exact g
    |exact c
    |(intro u
      generalize (t - A) / m=q at *
      by_cases d:q<=0
      ·have:q=0:=by omega
       subst this;simp at c;omega
      ·omega)
  ·rw [if_neg h]
   first|omega|(simp;omega)
structure zX (l:List Fd) (vars:List RV) (s:RS):Prop where
 k0:1<=s.kind
 k1:s.kind<=6
 keys: ∀k∈s.key,uu l k=true
 klen:s.key.length<=1000
 var: ∃v,varOf vars s.var=some v/\v.fam=vr s.kind/\v.ws=uO l s/\(s.kind=4->v.n=s.n/\v.m=s.m)/\(s.kind=6->v.n=s.n)
 k3:s.kind=3->0<=s.n/\s.n<=1073741824
 k4:s.kind=4->0<=s.n/\s.n<=65535/\s.n<=s.m/\s.m<=65535/\uu l s.field=true/\s.m<=((2^(fld l s.field).w - 1:Nat):Int)
 k5:s.kind=5->uu l s.field=true
 k6:s.kind=6->1<=s.n/\s.n<=65535/\1<=s.m/\s.m<=1073741824
theorem Ak{l:List Fd}(h:LOk l){k:ByteArray}(a:uu l k=true):FOk (MM.fld l k):=by
 unfold uu at a;obtain ⟨f,a⟩:=Option.isSome_iff_exists.1 a;rw [zK a];exact h.find a
theorem BT{l:List Fd}{h:List Int}: ∀(a:List ByteArray),vz (keyOf l a h) (a.map fun k=>((fld l k).w:Int))=true
 |[]=>rfl
 |k::ks=>by
  have b:=Bo (fld l k) h;show vz ((uI (fld l k) h:Int)::keyOf l ks h) (((fld l k).w:Int)::ks.map fun k=>((fld l k).w:Int))=true
  rw [vz,BT ks,Int.toNat_natCast];simp only [Bool.and_true,Bool.and_eq_true,decide_eq_true_eq];refine ⟨by omega,?_⟩
  have:((2^(fld l k).w:Nat):Int)=2^(fld l k).w:=by simp
  omega
theorem Fa{l:List Fd}{vars:List RV}{s:RS}{st:List RE}{h:List Int}{tick:Int}(D:LOk l)(m:uu l ⟨#[]⟩=false)(r:HOk h)(g:OkS vars st)(k:st.length<=1000000)(t:0<=tick)(F:tick<=1073741824)(f:zX l vars s):B7 l s st h tick:=by
 refine ⟨D,m,r,g.inc,k,fun e j=>⟨(g.fit e j).n0,(g.fit e j).n1,(g.fit e j).a0,(g.fit e j).a1⟩,t,F,by have:=f.k0;omega,f.k1,f.keys,f.klen,f.k3,fun G=>?_,fun C=>⟨f.k5 C,fun e j z=>?_⟩,f.k6⟩
 ·obtain ⟨a,b,c,d, -, -⟩:=f.k4 G;exact ⟨a,b,c,d⟩
 ·obtain ⟨v,B,H,u, -⟩:=f.var;obtain ⟨w,n,A, -⟩:=(g.fit e j).ex;rw [z,B] at n;cases n;obtain ⟨p,E⟩:=Ae.1 A;refine ⟨by rw [p,u];unfold uO;simp,fun x y=>?_⟩;obtain ⟨i,q,rfl⟩:=List.getElem_of_mem y;exact (E i e.key[i] (v.ws[i]'(by rw [<- p];exact q)) (ggZ q) (ggZ _)).1
theorem wX{l:List Fd}(b:LOk l){h:List Int}(a:HOk h){name:ByteArray}{n:Int}(d:0<=n):HOk (wrF l h name n):=by
 unfold wrF;cases c:uu l name with
 |false=>simpa using a
 |true=>
  rw [if_pos rfl]
  have:=Nat.two_pow_pos (fld l name).w
  exact a.set (Ak b c) (by omega)
theorem yM{l:List Fd}(a:LOk l): ∀{ks:List ByteArray} {vs:List Int} {h:List Int},HOk h->(∀ x∈vs,0<=x)->HOk (vT l ks vs h)
 |[],_,h,hh,_=>hh
 |_::_,[],h,hh,_=>hh
 |k::ks,v::vs,h,hh,hv=>show HOk (vT l ks vs (wrF l h k v)) from yM a (wX a hh (hv v (by simp))) fun x b=>hv x (by simp [b])
theorem Jn{l:List Fd}{vars:List RV}{s:RS}{st:List RE}{tick:Int}{key:List Int}(B:OkS vars st)(g:zX l vars s)(f:s.kind=6)(O:0<=tick)(h1:tick<=1073741824):
  0<=(xI s (uB st s.var key) key tick).n/\(xI s (uB st s.var key) key tick).n<=s.n/\0<=(xI s (uB st s.var key) key tick).at_/\(xI s (uB st s.var key) key tick).at_<=1073741824:=by
 obtain ⟨z,V,D,T⟩:=g.k6 f;have d: ∀(e:RE),0<=e.n->0<=e.at_->e.at_<=1073741824->e.n<=s.n->0<=(we s e tick).n/\(we s e tick).n<=s.n/\0<=(we s e tick).at_/\(we s e tick).at_<=1073741824:=by
  intro e e0 K e2 e3
  by_cases i:tick>e.at_
  ·obtain ⟨q,L,Y,q2,S,Z⟩:=GL (n:=s.n) (m:=s.m) (N:=e.n) (A:=e.at_) (t:=tick) z D e0 K (by omega);have Q:(if tick>e.at_ then (tick - e.at_).tdiv s.m else 0)=q\/True:=Or.inr trivial;have H:=Int.ediv_nonneg (a:=tick - e.at_) (b:=s.m) (by omega) (by omega);have E:=Int.ediv_mul_le (tick - e.at_) (b:=s.m) (by omega);unfold we;dsimp only;rw [if_pos i,Int.tdiv_eq_ediv_of_nonneg (by omega)];generalize (tick - e.at_) / s.m=k at *
   have C:=Int.mul_nonneg H (show (0:Int)<=s.m by omega);split <;> (dsimp only;omega)
  ·unfold we;dsimp only;rw [if_neg i];split <;> (dsimp only;omega)
 unfold xI;cases r:uB st s.var key with
 |none=>exact d _ (by dsimp [Option.getD];omega) (by dsimp [Option.getD];omega) (by dsimp [Option.getD];omega) (by dsimp [Option.getD];omega)
 |some e=>
  obtain ⟨p,F,W⟩:=vP r;have c:=B.fit e p;obtain ⟨v,G,I,X,U,y⟩:=g.var;obtain ⟨w,j,w2,P,M,x⟩:=c.ex;rw [F,G] at j;cases j;have J:v.fam=4:=by rw [I,f];decide
  have u:e.n<=s.n:=by
   have:=y f
   rcases x J with h|h <;> omega
  exact d e c.n0 c.a0 c.a1 u
theorem Dz{l:List Fd}{vars:List RV}{s:RS}{st:List RE}{h:List Int}{tick:Int}(M:LOk l)(t:HOk h)(z:OkS vars st)(u:0<=tick)(N:tick<=1073741824)(H:zX l vars s):
  OkS vars (doE l s st h tick).st/\HOk (doE l s st h tick).h/\wv (doE l s st h tick).st s.var=wv st s.var/\((doE l s st h tick).pass=false->(doE l s st h tick).h=h):=by
 obtain ⟨v,J,T,v3,v4,v5⟩:=H.var;have hk:=BT (l:=l) (h:=h) s.key;rw [show (s.key.map fun k=>((fld l k).w:Int))=v.ws from v3.symm] at hk;have put: ∀(n a:Int),0<=n->n<=65535->0<=a->a<=1073741824->(v.fam=2->n=0)->(v.fam=3->v.n<=n/\n<=v.m)->(v.fam=4->v.n=0\/n<=v.n)->uY (uB st s.var (keyOf l s.key h)) (ofE st s.var)=false->
   (v.fam=3-> ∀x∈st,x.var=s.var->uz x ⟨s.var,keyOf l s.key h,n,a⟩≠0->x.n≠n)->OkS vars (uS ⟨s.var,keyOf l s.key h,n,a⟩ st)/\wv (uS ⟨s.var,keyOf l s.key h,n,a⟩ st) s.var=wv st s.var:=by
  intro n a n0 n1 a0 a1 f2 f3 f4 f hun;refine ⟨z.put ⟨⟨v,J,hk,f2,f3,f4⟩,n0,n1,a0,a1⟩ ?_ ?_,Ei z.inc rfl⟩
  ·unfold uY at f;cases g:uB st s.var (keyOf l s.key h) with
   |some x=>exact Or.inl rfl
   |none=>
    rw [g] at f;right;simp at f;exact f
  ·rintro ⟨v',K,P⟩ x G d y;have e:some v'=some v:=K.symm.trans J;cases e;exact hun P x G d y
 have B: ∀e,uB st s.var (keyOf l s.key h)=some e->e∈st/\e.var=s.var/\e.key=keyOf l s.key h/\0<=e.n/\e.n<=65535/\(v.fam=2->e.n=0)/\(v.fam=3->v.n<=e.n/\e.n<=v.m):=by
  intro e g;obtain ⟨O,C,X⟩:=vP g;have A:=z.fit e O;obtain ⟨w,K,P,w3,w4,w5⟩:=A.ex;rw [C,J] at K;cases K;exact ⟨O,C,X,A.n0,A.n1,w3,w4⟩
 have c: ∀(b:Bool),OkS vars st/\HOk h/\wv st s.var=wv st s.var/\(b=false->h=h):=fun b=>⟨z,t,rfl,fun _=>rfl⟩
 have k0:=H.k0;have k1:=H.k1;unfold doE yB doR;rw [if_neg (by omega)]
 by_cases c1:s.kind=1
 ·rw [if_pos c1];unfold do1;cases f:uY (uB st s.var (keyOf l s.key h)) (ofE st s.var) with
  |true=>exact c false
  |false=>
   have g:v.fam=1:=by rw [T,c1];decide
   have D:0<=((uB st s.var (keyOf l s.key h)).map (·.n)).getD 0:=by
    cases g:uB st s.var (keyOf l s.key h) with
    |none=>exact Int.le_refl _
    |some e=>exact (B e g).2.2.2.1
   generalize ((uB st s.var (keyOf l s.key h)).map (·.n)).getD 0=n at *
   obtain ⟨q,p⟩:=put (min (n+1) 65535) tick (by omega) (by omega) u N (by omega) (by omega) (by omega) f (by omega);exact ⟨q,wX M t (by omega),p,fun r=>by cases r⟩
 rw [if_neg c1]
 by_cases W:s.kind=2
 ·rw [if_pos W];unfold do2;cases f:uY (uB st s.var (keyOf l s.key h)) (ofE st s.var) with
  |true=>exact c false
  |false=>
   have hf2:v.fam=2:=by rw [T,W];decide
   have D:((uB st s.var (keyOf l s.key h)).map (·.n)).getD 0=0:=by
    cases g:uB st s.var (keyOf l s.key h) with
    |none=>rfl
    |some e=>exact (B e g).2.2.2.2.2.1 hf2
   rw [D];obtain ⟨q,p⟩:=put 0 tick (by omega) (by omega) u N (by omega) (by omega) (by omega) f (by omega);exact ⟨q,t,p,fun r=>by cases r⟩
 rw [if_neg W]
 by_cases c3:s.kind=3
 ·rw [if_pos c3];exact c _
 rw [if_neg c3]
 by_cases c4:s.kind=4
 ·rw [if_pos c4];unfold do4;have F:v.fam=3:=by rw [T,c4];decide
  obtain ⟨e1,e2⟩:=v4 c4;obtain ⟨m1,m2,m3,m4,m5,m6⟩:=H.k4 c4;cases f:uY (uB st s.var (keyOf l s.key h)) (ofE st s.var) with
  |true=>exact c false
  |false=>
   rw [Bool.false_or];cases g:uB st s.var (keyOf l s.key h) with
   |some e=>
    obtain ⟨O,C,X,g4,g5,g6,g7⟩:=B e g;rw [show ((some e).isNone&&decide (wb s (some e) (ofE st s.var)>s.m))=false from rfl];obtain ⟨q,p⟩:=put e.n tick g4 g5 u N (by omega) (fun _=>g7 F) (by omega) f (fun _ x G d y D=>by
     have Z:uz x e≠0:=fun u=>y (by
      rw [wP] at u ⊢;exact ⟨u.1.trans C,u.2.trans X⟩)
     obtain ⟨i,L,rfl⟩:=List.getElem_of_mem G;obtain ⟨j,hj,rfl⟩:=List.getElem_of_mem O;have Y:i≠j:=fun t=>Z (by subst t;exact uv.refl _)
     have I:=List.pairwise_iff_getElem.1 z.tr;rcases Nat.lt_or_gt_of_ne Y with E|E
     ·exact I i j L hj E (d.trans C.symm) ⟨v,by rw [d];exact J,F⟩ D
     ·exact I j i hj L E (C.trans d.symm) ⟨v,by rw [C];exact J,F⟩ D.symm)
    exact ⟨q,wX M t g4,p,fun r=>by cases r⟩
   |none=>
    have vj:wb s none (ofE st s.var)=vq (ofE st s.var) (ofE st s.var).length s.n:=rfl
    by_cases S:wb s none (ofE st s.var)>s.m
    ·rw [show ((none:Option RE).isNone&&decide (wb s none (ofE st s.var)>s.m))=true by simp [S]];exact c false
    ·rw [show ((none:Option RE).isNone&&decide (wb s none (ofE st s.var)>s.m))=false by simp [S]];obtain ⟨V,q2,q3⟩:=xu (ofE st s.var) (ofE st s.var).length s.n;have U:=Ai (ofE st s.var) s.n;rw [<- vj] at V U;generalize wb s none (ofE st s.var)=n at *
     rw [g] at put f;obtain ⟨q,p⟩:=put n tick (by omega) (by omega) u N (by omega) (by omega) (by omega) f (fun _ x G d y D=>by
      unfold uT at U;rw [List.any_eq_false] at U;exact U x (List.mem_filter.2 ⟨G,by simpa using d⟩) (by simpa using D))
     exact ⟨q,wX M t (by omega),p,fun r=>by cases r⟩
 rw [if_neg c4]
 by_cases c5:s.kind=5
 ·rw [if_pos c5];unfold do5;split
  ·rename_i e he;have S:=List.mem_of_find?_eq_some he;obtain ⟨hm1,hm2⟩:=List.mem_filter.1 S;have I:=(Fa (h:=h) (tick:=tick) M (s:=s) (st:=st) (vars:=vars))
   refine ⟨z,yM M t fun x G=>?_,rfl,fun r=>by cases r⟩;obtain ⟨w,K,P, -⟩:=(z.fit e hm1).ex;obtain ⟨V,q2⟩:=Ae.1 P;obtain ⟨i,L,rfl⟩:=List.getElem_of_mem G;exact (q2 i e.key[i] (w.ws[i]'(by rw [<- V];exact L)) (ggZ L) (ggZ _)).1
  ·exact c false
 rw [if_neg c5];have Q:s.kind=6:=by omega
 unfold do6;have hf4:v.fam=4:=by rw [T,Q];decide
 obtain ⟨m1,m2,m3,m4⟩:=H.k6 Q;obtain ⟨t1,t2,t3,t4⟩:=Jn (key:=keyOf l s.key h) z H Q u N;have hvn:=v5 Q;cases f:uY (uB st s.var (keyOf l s.key h)) (ofE st s.var) with
 |true=>exact c false
 |false=>
  generalize xI s (uB st s.var (keyOf l s.key h)) (keyOf l s.key h) tick=e at *
  by_cases I:e.n>0
  ·rw [if_pos I];obtain ⟨q,p⟩:=put (e.n - 1) e.at_ (by omega) (by omega) t3 t4 (by omega) (by omega) (by omega) f (by omega);exact ⟨q,t,p,fun r=>by cases r⟩
  ·rw [if_neg I];obtain ⟨q,p⟩:=put e.n e.at_ (by omega) (by omega) t3 t4 (by omega) (by omega) (by omega) f (by omega);exact ⟨q,t,p,fun _=>rfl⟩
end Go.ST
end
section
namespace Go.ST
open Go Go.DL Go.MM Go.Proofs
open Go.TY hiding Fd
theorem DCalls.Gn{P:Program}{f:FuncId}{ts:List T}{r:T}(h:DCalls P f ts r)(g:r.flat=true):rR P f ts r:=by
 refine ⟨h.1,fun w vs j b d=>(h.2 (dZ w) w vs (fun _ _ a=>a) j b d).mono ?_⟩;rintro e k ⟨v,rfl,c,i⟩;exact ⟨v,rfl,c,i.of_flat g⟩
theorem Eg(xs:List RE)(f:FuncId)(g d:T)(p:RE->Bool)(r:xs.length<2^60)(n: ∀(i:Nat) (h:i<xs.length),DCalls Tryz.prog f [.agg (uk xs[i]),g,d] (.bool (p xs[i]))):
  DCalls Tryz.prog 109 [esT xs,.clos f [g,d]] (I (wq p xs)):=by
 refine dl2 mixed [.tmp 4] [.int _ _] Tryz.func109 JR ?_
 skip
 refine tT (α:=Nat) (fun i=>{sl:=[(0,.t (esT xs)),(1,.t (.clos f [g,d])),(6,.t (esT xs)),(7,.t (I xs.length)),(8,.t (I i))],bx:=[]})
  (fun i=>i<=xs.length/\ ∀j (h:j<xs.length),j<i->p xs[j]=false) (fun i=>xs.length - i) 0 (by simp) ?_ ?_
 ·repeat' (first|(exact leI (by simp))|exact wJ|refine And.intro ?_ ?_)
 rintro i ⟨u,k⟩;rcases Nat.lt_or_ge i xs.length with h|h
 ·have b:=n i h;cases a:p xs[i] with
  |true=>
   rw [a] at b;rw [Bq h a k]
   repeat' ((conv=>whnf);first|exact trivial|(refine nv_ (.agg (uk xs[i])) (by first|exact uP h) ?_)|refine uc _ (b) ?_|refine aD1 ?_|refine rix ?_|(refine And.intro (by first|exact uo _) ?_)|refine aS ?_|refine nT_ ?_)
  |false=>
   rw [a] at b
   repeat' ((conv=>whnf);first|(refine nv_ (.agg (uk xs[i])) (by first|exact uP h) ?_)|refine uc _ (b) ?_|refine aD1 ?_|(refine And.intro (by first|exact uo _) ?_)|refine aS ?_|refine nT_ ?_)
   refine ⟨i+1,⟨h,fun j c q=>?_⟩,by omega,?_⟩
   ·rcases Nat.lt_or_ge j i with m|m
    ·exact k j c m
    ·obtain rfl:j=i:=by omega
     exact a
   ·repeat' (first|exact wJ|refine And.intro ?_ ?_)
 ·have:i=xs.length:=by omega
  subst this;rw [Br fun j c=>k j c c]
  repeat' ((conv=>whnf);first|refine aD0 ?_|refine rix ?_|refine aS ?_|exact trivial)
structure H10 where
 x0:Int
 x1:Int
 x2:Int
 x3:Int
 x4:Int
 x5:Int
 x6:Int
 x7:Int
 x8:Int
 x9:Int
abbrev H10.ls(q:H10):List Int:=[q.x0,q.x1,q.x2,q.x3,q.x4,q.x5,q.x6,q.x7,q.x8,q.x9]
theorem Bk(l:List Fd)(k:ByteArray)(v:Int): ∀(a:List ByteArray) (b:List Int) (h:List Int),a.length=b.length->vT l (a++[k]) (b++[v]) h=wrF l (vT l a b h) k v
 |[],[],h,_=>rfl
 |x::a,y::b,h,e=>by
  show vT l (a++[k]) (b++[v]) (wrF l h x y)=_
  rw [Bk l k v a b _ (by simpa using e)];rfl
 |[],_::_,_,e=>by simp at e
 |_::_,[],_,e=>by simp at e
variable {l:List Fd}{s:RS}{st st' o:List RE}{x0 x1 x2 x3 x4 x5 x6 x7 x8 x9 y0 y1 y2 y3 y4 y5 y6 y7 y8 y9 tick:Int}{e:RE}{is:Bool}
theorem Jl(x:RE)(g:Int):DCalls Tryz.prog 110 [.agg (uk x),.cptr [.cptr (dL l s st x0 x1 x2 x3 x4 x5 x6 x7 x8 x9 tick e is) 0] 0,.cptr [I g] 0] (.bool (decide (x.var=s.var)&&decide (x.n=g))):=by
 refine dl2 mixed [.tmp 4] [.bool _] Tryz.func110 Go.ST4.MG ?_;have h:=eqS x.var s.var
 by_cases c:x.var=s.var
 ·rw [decide_eq_true c] at h ⊢
  by_cases a:x.n=g
  ·rw [decide_eq_true a]
   repeat' ((conv=>whnf);first|exact trivial|refine nb_ _ h ?_|refine sE a ?_|refine rb1 ?_|(refine And.intro (by first|exact uo _) ?_)|refine aS ?_|refine nT_ ?_)
  ·rw [decide_eq_false a]
   repeat' ((conv=>whnf);first|exact trivial|refine nb_ _ h ?_|refine sD a ?_|refine rb0 ?_|(refine And.intro (by first|exact uo _) ?_)|refine aS ?_|refine nT_ ?_)
 ·rw [decide_eq_false c] at h ⊢
  repeat' ((conv=>whnf);first|exact trivial|refine nb_ _ h ?_|refine rb0 ?_|(refine And.intro (by first|exact uo _) ?_)|refine aS ?_|refine nT_ ?_)
attribute [local irreducible] bR WCM YC
theorem JN(A:s.kind=5)(L:LOk l)(hlen:st.length<2^40)(hkl:s.key.length<2^40)(hh:HOk [x0,x1,x2,x3,x4,x5,x6,x7,x8,x9])(u:uu l s.field=true)
  (K: ∀x∈st,x.var=s.var->x.key.length=s.key.length/\ ∀v∈x.key,0<=v) (y:Option RE) (N:y=st.find? fun x=>decide (x.var=s.var)&&decide (x.n=(uI (fld l s.field) [x0,x1,x2,x3,x4,x5,x6,x7,x8,x9]:Int))):
  bR Tryz.prog 84 Go.ST3.xC (S0 l s st x0 x1 x2 x3 x4 x5 x6 x7 x8 x9 tick e is).mk' (fun ex s'=>ex= .normal/\((y=none/\bU (S1 l s x0 x1 x2 x3 x4 x5 x6 x7 x8 x9 tick is st x0 x1 x2 x3 x4 x5 x6 x7 x8 x9 e false) s')\/
   (∃ (x:RE) (q:H10),y=some x/\q.ls=vT l s.key x.key [x0,x1,x2,x3,x4,x5,x6,x7,x8,x9]/\bU (S1 l s x0 x1 x2 x3 x4 x5 x6 x7 x8 x9 tick is st q.x0 q.x1 q.x2 q.x3 q.x4 q.x5 q.x6 q.x7 q.x8 q.x9 e true) s'))):=by
 have Z:=Eg st 110 (.cptr [.cptr (dL l s st x0 x1 x2 x3 x4 x5 x6 x7 x8 x9 tick e is) 0] 0) (.cptr [I (uI (fld l s.field) [x0,x1,x2,x3,x4,x5,x6,x7,x8,x9])] 0) (fun x=>decide (x.var=s.var)&&decide (x.n=(uI (fld l s.field) [x0,x1,x2,x3,x4,x5,x6,x7,x8,x9]:Int))) (by omega) (fun i h=>Jl st[i] _);have Q:=CM l L s.field;rw [u] at Q;have W:=t78 _ (yp L u) _ hh;obtain ⟨kk,c,key,a,n,m⟩:=s;dsimp only at A Q W Z K N hkl u;subst A;rcases A3 (fun x=>decide (x.var=c)&&decide (x.n=(uI (fld l a) [x0,x1,x2,x3,x4,x5,x6,x7,x8,x9]:Int))) st with ⟨hx,hno⟩|⟨k,A,hx,H⟩
 ·rw [hno] at N;have C:=DCalls.Gn Z rfl;rw [hx] at C;refine Go.ST3.AJ ?_
  repeat' ((conv=>whnf);first|refine WC.toM (tW mixed Tryz.func56 Go.ST5.l56 rfl rfl (rs:=[.tmp 2]) rfl 3000 (nlZ rfl) ?_)|refine aS ?_|refine nT_ ?_)
  repeat' ((conv=>whnf);first|refine uc _ (Q) ?_|refine uc _ (W) ?_|refine tX rfl C ?_|refine aD1 ?_|refine aS ?_|refine nT_ ?_)
  refine ⟨_,rfl,?_⟩
  repeat' ((conv=>whnf);first|(exact ⟨rfl,Or.inl ⟨N,by (repeat' (first|exact wJ|refine And.intro ?_ ?_));done⟩⟩)|fail)
 ·rw [H] at N;have C:=DCalls.Gn Z rfl;rw [hx] at C;have V:st[k]∈st:=List.getElem_mem A;have S:st[k].var=c:=by
   have:=List.find?_some H
   rw [Bool.and_eq_true] at this;exact of_decide_eq_true this.1
  obtain ⟨U,X⟩:=K st[k] V S;have hgk:=uP A;have P:=ggZ A;have hn:((st.map um).length:Int)=st.length:=by rw [List.length_map]
  have hm:((key.map T.str).length:Int)=key.length:=by rw [List.length_map]
  have yw: ¬(k:Int)<0:=by omega
  have hgx:((uk st[k])[1]?.getD .nil)= .slice 1 (st[k].key.map I):=rfl;have NR:(T.agg (uk st[k])).cells[1]?.getD .nil= .slice 1 (st[k].key.map I):=rfl;have hk2:(k:Int)<((st.map um).length:Int):=by omega
  generalize hxx:st[k]=x at *
  obtain ⟨xv,b,xn,xa⟩:=x;dsimp only at U X;have hxl:((b.map I).length:Int)=key.length:=by rw [List.length_map];omega
  refine Go.ST3.AJ ?_
  repeat' ((conv=>whnf);first|refine WC.toM (tW mixed Tryz.func56 Go.ST5.l56 rfl rfl (rs:=[.tmp 2]) rfl 3000 (nlZ rfl) ?_)|refine aS ?_|refine nT_ ?_)
  repeat' ((conv=>whnf);first|refine uc _ (Q) ?_|refine uc _ (W) ?_|refine tX rfl C ?_|refine aD0 ?_|refine aS ?_|refine nT_ ?_)
  refine tx 0 (α:=Nat×H10) (β:=H10) (fun q=>{sl:=[(1,.ptr 3001 0),(6,.t (I k)),(40,.t (.slice 1 (key.map .str))),(41,.t (I key.length)),(42,.t (I q.1))],bx:=[(8,.d 10 [I x0,I x1,I x2,I x3,I x4,I x5,I x6,I x7,I x8,I x9]),(10,.d 10 z10),(3001,.v [.ptr 37 0]),(37,.d 24 (dL l ⟨5,c,key,a,n,m⟩ st q.2.x0 q.2.x1 q.2.x2 q.2.x3 q.2.x4 q.2.x5 q.2.x6 q.2.x7 q.2.x8 q.2.x9 tick e is))],gh:=[(0,[(8,.ptr 8 0),(10,.ptr 10 0),(16,.ptr 37 0)])],off:=3000})
   (fun q=>q.1<=key.length/\q.2.ls=vT l (key.take q.1) (b.take q.1) [x0,x1,x2,x3,x4,x5,x6,x7,x8,x9]) (fun q=>key.length - q.1)
   (fun q=>{sl:=[],bx:=[(8,.d 10 [I x0,I x1,I x2,I x3,I x4,I x5,I x6,I x7,I x8,I x9]),(10,.d 10 z10),(37,.d 24 (dL l ⟨5,c,key,a,n,m⟩ st q.x0 q.x1 q.x2 q.x3 q.x4 q.x5 q.x6 q.x7 q.x8 q.x9 tick e is))],gh:=[(0,[(8,.ptr 8 0),(10,.ptr 10 0),(16,.ptr 37 0)])],off:=3000})
   (fun q=>q.ls=vT l key b [x0,x1,x2,x3,x4,x5,x6,x7,x8,x9]) (0,⟨x0,x1,x2,x3,x4,x5,x6,x7,x8,x9⟩) ⟨Nat.zero_le _,rfl⟩ ?_ ?_ ?_
  ·repeat' (first|(exact leI hm.symm)|exact wJ|refine And.intro ?_ ?_)
  ·rintro ⟨i,q⟩ ⟨hi,z⟩;dsimp only at hi z;rcases Nat.lt_or_ge i key.length with h|h
   ·have f:(i:Int)<(key.length:Int):=by omega
    have J:((i+1:Nat):Int)=IntKind.wrap .i64 ((i:Int)+1):=by rw [nW] <;> omega
    have r:i<b.length:=by omega
    have D:HOk q.ls:=by rw [z];exact yM L hh fun v hv=>X v (List.mem_of_mem_take hv)
    have O:0<=b[i]:=X _ (List.getElem_mem r);have hW:=F1 L key[i] D O;have w:vT l (key.take (i+1)) (b.take (i+1)) [x0,x1,x2,x3,x4,x5,x6,x7,x8,x9]=wrF l q.ls key[i] b[i]:=by
     rw [List.take_succ_eq_append_getElem h,List.take_succ_eq_append_getElem r,Bk _ _ _ _ _ _ (by rw [List.length_take,List.length_take];omega),z]
    have M:(key.map T.str)[((i:Int)).toNat]?.getD .nil= .str key[i]:=by simp [h]
    have B:(b.map I)[((i:Int)).toNat]?.getD .nil=I b[i]:=by simp [r]
    obtain ⟨y0,y1,y2,y3,y4,y5,y6,y7,y8,y9,hy⟩:=ten (wX L D (name:=key[i]) O);rw [hy] at hW w;obtain ⟨g,p,j,Hc⟩:=hW;have F:0<=(i:Int)/\(i:Int)<((b.map I).length:Int):=by omega
    have E:0<=(k:Int)/\(k:Int)<((st.map um).length:Int):=by omega
    generalize key[i]=nm at *
    generalize b[i]=vl at *
    obtain ⟨z0,z1,z2,z3,z4,z5,z6,z7,z8,z9⟩:=q;cases G:uu l nm with
    |true=>
     rw [G] at g;have p:=p G;have j:=j G
     repeat' ((conv=>whnf);first|refine sC f ?_|(refine nv_ (.str nm) (by first|exact M) ?_)|(refine nv_ (.slice 1 (b.map I)) (by first|(simp [P,um,uk,T.cells];done)|fail) ?_)|(refine nv_ (I vl) (by first|exact B) ?_)|refine tW mixed Tryz.func106 Go.ST4.zy rfl rfl (rs:=[]) rfl 3200 (nlZ rfl) ?_|(refine And.intro (by first|exact F|exact E|((simp [P,um,uk,T.cells]);done)|fail) ?_)|refine aS ?_|refine nT_ ?_)
     repeat' ((conv=>whnf);first|refine uc _ (g) ?_|refine uc _ (p) ?_|refine uc _ (j) ?_|refine aS ?_|refine nT_ ?_)
     refine ⟨_,rfl,?_⟩
     repeat' ((conv=>whnf);first|(exact ⟨(i+1,⟨y0,y1,y2,y3,y4,y5,y6,y7,y8,y9⟩),⟨h,w.symm⟩,(by dsimp only;omega),by (repeat' (first|(exact leI J)|exact wJ|refine And.intro ?_ ?_));done⟩)|fail)
    |false=>
     rw [G] at g;have Hc:=Hc G;cases Hc
     repeat' ((conv=>whnf);first|refine sC f ?_|(refine nv_ (.str nm) (by first|exact M) ?_)|(refine nv_ (.slice 1 (b.map I)) (by first|(simp [P,um,uk,T.cells];done)|fail) ?_)|(refine nv_ (I vl) (by first|exact B) ?_)|refine tW mixed Tryz.func106 Go.ST4.zy rfl rfl (rs:=[]) rfl 3200 (nlZ rfl) ?_|(refine And.intro (by first|exact F|exact E|((simp [P,um,uk,T.cells]);done)|fail) ?_)|refine aS ?_|refine nT_ ?_)
     repeat' ((conv=>whnf);first|refine uc _ (g) ?_|refine aS ?_|fail)
     refine ⟨_,rfl,?_⟩
     repeat' ((conv=>whnf);first|(exact ⟨(i+1,⟨_,_,_,_,_,_,_,_,_,_⟩),⟨h,w.symm⟩,(by dsimp only;omega),by (repeat' (first|(exact leI J)|exact wJ|refine And.intro ?_ ?_));done⟩)|fail)
   ·have f: ¬(i:Int)<(key.length:Int):=by omega
    have Y:q.ls=vT l key b [x0,x1,x2,x3,x4,x5,x6,x7,x8,x9]:=by rw [z,List.take_of_length_le h,List.take_of_length_le (by omega)]
    repeat' ((conv=>whnf);first|refine su f ?_|(exact ⟨q,Y,by (repeat' (first|exact wJ|refine And.intro ?_ ?_));done⟩)|refine aS ?_|fail)
  ·rintro q z
   skip
   refine ⟨_,rfl,?_⟩
   repeat' ((conv=>whnf);first|(exact ⟨rfl,Or.inr ⟨_,q,N,z,by (repeat' (first|exact wJ|refine And.intro ?_ ?_));done⟩⟩)|fail)
end Go.ST
end
section
namespace Go.ST
open Go Go.DL Go.MM Go.Proofs
open Go.TY hiding Fd
def esU(ns:List Int):List (T×T):=ns.map fun n=>(I n,T.bool true)
def zD(n:Int):List Int->List Int
 |[]=>[n]
 |x::xs=>if x=n then n::xs else x::zD n xs
theorem EC(a b:Int):eqL (I a).cells (I b).cells=decide (a=b):=by
 show ((a==b)&&true)=_
 rw [Bool.and_true]
 by_cases h:a=b <;> simp [h]
theorem Gl(n:Int): ∀ns:List Int,bC (I n) (.bool true) (esU ns)=esU (zD n ns)
 |[]=>rfl
 |x::xs=>by
  have a:=Gl n xs;show cond (eqL (I n).cells (I x).cells) _ _=esU (zD n (x::xs))
  rw [EC];unfold zD
  by_cases h:x=n
  ·rw [decide_eq_true h.symm,if_pos h];rfl
  ·rw [decide_eq_false (fun e=>h e.symm),if_neg h,cond_false];show (I x,T.bool true)::bC (I n) (.bool true) (esU xs)=_
   rw [a];rfl
theorem DX{n m:Int}: ∀{ns:List Int},m∈zD n ns↔m=n\/m∈ns
 |[]=>by simp [zD]
 |x::xs=>by
  unfold zD
  by_cases h:x=n
  ·rw [if_pos h];subst h;simp
  ·rw [if_neg h,List.mem_cons,DX (ns:=xs),List.mem_cons];constructor
   ·rintro (a|a|a) <;> simp [a]
   ·rintro (a|a|a) <;> simp [a]
theorem EL(n:Int): ∀ns:List Int,oB (.bool false) false (eA (I n).cells (esU ns))= .bool (decide (n∈ns))
 |[]=>by simp;rfl
 |x::xs=>by
  have a:=EL n xs;show oB (.bool false) false (cond (eqL (I n).cells (I x).cells) (some (T.bool true)) (eA (I n).cells (esU xs)))=_
  rw [EC]
  by_cases h:n=x
  ·rw [decide_eq_true h,cond_true,decide_eq_true (by simp [h])];rfl
  ·rw [decide_eq_false h,cond_false,a]
   congr 1
   simp [h]
def xA(o:List RE):List Int:=o.foldl (fun ns e=>zD e.n ns) []
theorem C4{m:Int}: ∀{o:List RE} {ns:List Int},m∈o.foldl (fun ns e=>zD e.n ns) ns↔m∈ns\/uT o m=true
 |[],ns=>by simp [uT]
 |e::o,ns=>by
  rw [List.foldl_cons,C4 (o:=o),DX];unfold uT;rw [List.any_cons,Bool.or_eq_true,decide_eq_true_eq];constructor
  ·rintro ((h|h)|h)
   ·exact Or.inr (Or.inl h.symm)
   ·exact Or.inl h
   ·exact Or.inr (Or.inr h)
  ·rintro (h|h|h)
   ·exact Or.inl (Or.inr h)
   ·exact Or.inl (Or.inl h.symm)
   ·exact Or.inr h
theorem FF(o:List RE)(m:Int):decide (m∈xA o)=uT o m:=by
 have:=C4 (m:=m) (o:=o) (ns:=[])
 unfold xA;cases h:uT o m with
 |true=>exact decide_eq_true (this.2 (Or.inr h))
 |false=>
  refine decide_eq_false fun b=>?_
  rcases this.1 b with a|a
  ·cases a
  ·rw [h] at a;cases a
theorem FE(o:List RE){i:Nat}(h:i<o.length):xA (o.take (i+1))=zD o[i].n (xA (o.take i)):=by
 unfold xA;rw [List.take_succ_eq_append_getElem h,List.foldl_append];rfl
theorem FA{ks:List Nat}{bx:Nat->Option BX}{b:Bool}{c:List Sh}{d a:List (T×T)}(h:d=a):LeB ks bx (.m b c d none) (some (.m b c a none)):=by rw [h];exact .same _
variable {l:List Fd}{s:RS}{st st' o:List RE}{x0 x1 x2 x3 x4 x5 x6 x7 x8 x9 y0 y1 y2 y3 y4 y5 y6 y7 y8 y9 tick:Int}{e:RE}{is:Bool}
attribute [local irreducible] bR WCM YC
theorem Em(Y:s.kind=4)(hol:o.length<2^40)(hs:0<=s.n/\s.n<=65535)(u:DCalls Tryz.prog 22 [esT st,.str s.var] (esT o))(N:Int)(E:N=if is then e.n else vq o o.length s.n)
  (J:DCalls Tryz.prog 139 [esT st,um ⟨e.var,e.key,N,tick⟩] (esT st')) (g:Bool) (H:g=(!is&&decide (100<=o.length))) (p:Bool) (F:p=(!is&&decide (N>s.m)))
  (Z:Wr l s.field [x0,x1,x2,x3,x4,x5,x6,x7,x8,x9] [y0,y1,y2,y3,y4,y5,y6,y7,y8,y9] N):
  bR Tryz.prog 84 Go.ST3.xC (S0 l s st x0 x1 x2 x3 x4 x5 x6 x7 x8 x9 tick e is).mk' (fun ex X=>ex= .normal/\(((g||p)=true/\bU (S1 l s x0 x1 x2 x3 x4 x5 x6 x7 x8 x9 tick is st x0 x1 x2 x3 x4 x5 x6 x7 x8 x9 ⟨e.var,e.key,N,tick⟩ false) X)\/((g||p)=false/\bU (S1 l s x0 x1 x2 x3 x4 x5 x6 x7 x8 x9 tick is st' y0 y1 y2 y3 y4 y5 y6 y7 y8 y9 ⟨e.var,e.key,N,tick⟩ true) X))):=by
 obtain ⟨kk,f,key,a,n,m⟩:=s;dsimp only at Y u Z hs E F;subst Y;have M:((o.map um).length:Int)=o.length:=by rw [List.length_map]
 obtain ⟨r,A,z,k⟩:=Z;refine Go.ST3.AJ ?_;cases is with
 |true=>
  obtain rfl:g=false:=by rw [H];rfl
  obtain rfl:p=false:=by rw [F];rfl
  obtain rfl:N=e.n:=E;cases b:uu l a with
  |true=>
   have A:=A b;have z:=z b;rw [b] at r
   repeat' ((conv=>whnf);first|refine WC.toM (tW mixed Tryz.func55 Go.ST4.l55 rfl rfl (rs:=[.tmp 2]) rfl 3000 (nlZ rfl) ?_)|refine aS ?_|refine nT_ ?_)
   repeat' ((conv=>whnf);first|refine tW mixed Tryz.func105 Go.ST4.vW rfl rfl (rs:=[.tmp 2]) rfl 3100 (nlZ rfl) ?_|refine aS ?_|refine nT_ ?_)
   repeat' ((conv=>whnf);first|refine uc _ (J) ?_|refine aS ?_|fail)
   refine ⟨_,rfl,?_⟩
   repeat' ((conv=>whnf);first|refine tW mixed Tryz.func106 Go.ST4.zy rfl rfl (rs:=[]) rfl 3200 (nlZ rfl) ?_|refine aS ?_|refine nT_ ?_)
   repeat' ((conv=>whnf);first|refine uc _ (r) ?_|refine uc _ (A) ?_|refine uc _ (z) ?_|refine aS ?_|refine nT_ ?_)
   refine ⟨_,rfl,?_⟩
   skip
   refine ⟨_,rfl,?_⟩
   repeat' ((conv=>whnf);first|(exact ⟨rfl,Or.inr ⟨rfl,by (repeat' (first|exact wJ|refine And.intro ?_ ?_));done⟩⟩)|fail)
  |false=>
   have k:=k b;cases k;rw [b] at r
   repeat' ((conv=>whnf);first|refine WC.toM (tW mixed Tryz.func55 Go.ST4.l55 rfl rfl (rs:=[.tmp 2]) rfl 3000 (nlZ rfl) ?_)|refine aS ?_|refine nT_ ?_)
   repeat' ((conv=>whnf);first|refine tW mixed Tryz.func105 Go.ST4.vW rfl rfl (rs:=[.tmp 2]) rfl 3100 (nlZ rfl) ?_|refine aS ?_|refine nT_ ?_)
   repeat' ((conv=>whnf);first|refine uc _ (J) ?_|refine aS ?_|fail)
   refine ⟨_,rfl,?_⟩
   repeat' ((conv=>whnf);first|refine tW mixed Tryz.func106 Go.ST4.zy rfl rfl (rs:=[]) rfl 3200 (nlZ rfl) ?_|refine aS ?_|refine nT_ ?_)
   repeat' ((conv=>whnf);first|refine uc _ (r) ?_|refine aS ?_|fail)
   refine ⟨_,rfl,?_⟩
   skip
   refine ⟨_,rfl,?_⟩
   repeat' ((conv=>whnf);first|(exact ⟨rfl,Or.inr ⟨rfl,by (repeat' (first|exact wJ|refine And.intro ?_ ?_));done⟩⟩)|fail)
 |false=>
  have E:N=vq o o.length n:=E;have qf:(uu l a=true/\DCalls Tryz.prog 107 [fds l,.str a] (.tup [fdc l a,.bool true])/\DCalls Tryz.prog 141 [fdc l a] (I ((2^(fld l a).w - 1:Nat):Int))/\DCalls Tryz.prog 140 [fdc l a,hd [x0,x1,x2,x3,x4,x5,x6,x7,x8,x9],I (E8 (fld l a).w N)] (hd [y0,y1,y2,y3,y4,y5,y6,y7,y8,y9]))\/
    (DCalls Tryz.prog 107 [fds l,.str a] (.tup [fdc l a,.bool false])/\[y0,y1,y2,y3,y4,y5,y6,y7,y8,y9]=[x0,x1,x2,x3,x4,x5,x6,x7,x8,x9]):=by
   cases b:uu l a with
   |true=>rw [b] at r;exact Or.inl ⟨rfl,r,A b,z b⟩
   |false=>rw [b] at r;exact Or.inr ⟨r,k b⟩
  have Ku:(N>m/\p=true)\/(¬ N>m/\p=false):=by
   by_cases c:N>m
   ·exact Or.inl ⟨c,by rw [F,decide_eq_true c];rfl⟩
   ·exact Or.inr ⟨c,by rw [F,decide_eq_false c];rfl⟩
  have JG:(((o.map um).length:Int)>=100/\g=true)\/(¬ ((o.map um).length:Int)>=100/\g=false):=by
   by_cases c:100<=o.length
   ·exact Or.inl ⟨by omega,by rw [H,decide_eq_true c];rfl⟩
   ·exact Or.inr ⟨by omega,by rw [H,decide_eq_false c];rfl⟩
  have W:=Ai o n;rw [<- E] at W;clear r A z k F H
  repeat' ((conv=>whnf);first|refine WC.toM (tW mixed Tryz.func55 Go.ST4.l55 rfl rfl (rs:=[.tmp 2]) rfl 3000 (nlZ rfl) ?_)|refine aS ?_|refine nT_ ?_)
  repeat' ((conv=>whnf);first|refine uc _ (u) ?_)
  refine tx 0 (α:=Nat) (β:=Unit) (fun i=>{sl:=[(0,.ptr 37 0),(3,.mp 3019),(29,.t (esT o)),(30,.t (I o.length)),(31,.t (I i))],bx:=[(8,.d 10 [I x0,I x1,I x2,I x3,I x4,I x5,I x6,I x7,I x8,I x9]),(10,.d 10 z10),(3019,.m false [.int .i64] (esU (xA (o.take i))) none),(37,.d 24 (dL l ⟨4,f,key,a,n,m⟩ st x0 x1 x2 x3 x4 x5 x6 x7 x8 x9 tick ⟨e.var,e.key,e.n,tick⟩ false))],gh:=[(0,[(8,.ptr 8 0),(10,.ptr 10 0),(16,.ptr 37 0)])],off:=3000})
   (fun i=>i<=o.length) (fun i=>o.length - i)
   (fun _=>{sl:=[(0,.ptr 37 0),(3,.mp 3019)],bx:=[(8,.d 10 [I x0,I x1,I x2,I x3,I x4,I x5,I x6,I x7,I x8,I x9]),(10,.d 10 z10),(3019,.m false [.int .i64] (esU (xA o)) none),(37,.d 24 (dL l ⟨4,f,key,a,n,m⟩ st x0 x1 x2 x3 x4 x5 x6 x7 x8 x9 tick ⟨e.var,e.key,e.n,tick⟩ false))],gh:=[(0,[(8,.ptr 8 0),(10,.ptr 10 0),(16,.ptr 37 0)])],off:=3000}) (fun _=>True) 0 (Nat.zero_le _) ?_ ?_ ?_
  ·repeat' (first|(exact leI M.symm)|(exact FA rfl)|exact wJ|refine And.intro ?_ ?_)
  ·rintro i hi;rcases Nat.lt_or_ge i o.length with h|h
   ·have B:(i:Int)<(o.length:Int):=by omega
    have P:((i+1:Nat):Int)=IntKind.wrap .i64 ((i:Int)+1):=by rw [nW] <;> omega
    have hg:=uP h;have Q:esU (xA (o.take (i+1)))=bC (I o[i].n) (.bool true) (esU (xA (o.take i))):=by rw [Gl,FE o h]
    have V:0<=(i:Int)/\(i:Int)<((o.map um).length:Int):=by omega
    have U:(o.map um)[((i:Int)).toNat]?.getD .nil= .agg (uk o[i]):=by rw [Int.toNat_natCast];exact hg
    generalize o[i]=x at *
    have y:aR false [.int .i64] (I x.n):=⟨rfl,rfl,trivial⟩
    repeat' ((conv=>whnf);first|refine sC B ?_|(refine nv_ (.agg (uk x)) (by first|exact U) ?_)|(exact ⟨i+1,h,(by omega),by (repeat' (first|(exact leI P)|(exact FA Q)|exact wJ|refine And.intro ?_ ?_));done⟩)|(refine And.intro (by first|exact V|exact uo _|exact y) ?_)|refine aS ?_|refine nT_ ?_)
   ·have B: ¬(i:Int)<(o.length:Int):=by omega
    have e0:esU (xA o)=esU (xA (o.take i)):=by rw [List.take_of_length_le h]
    repeat' ((conv=>whnf);first|refine su B ?_|(exact ⟨(),trivial,by (repeat' (first|(exact FA e0)|exact wJ|refine And.intro ?_ ?_));done⟩)|refine aS ?_|fail)
  ·rintro - -
   repeat' ((conv=>whnf);first|refine aS ?_|refine nT_ ?_)
   refine tx 2 (α:=Nat) (β:=Unit) (fun j=>{sl:=[(0,.ptr 37 0),(3,.mp 3019)],bx:=[(8,.d 10 [I x0,I x1,I x2,I x3,I x4,I x5,I x6,I x7,I x8,I x9]),(10,.d 10 z10),(3019,.m false [.int .i64] (esU (xA o)) none),(37,.d 24 (dL l ⟨4,f,key,a,n,m⟩ st x0 x1 x2 x3 x4 x5 x6 x7 x8 x9 tick ⟨e.var,e.key,n+(j:Int),tick⟩ false))],gh:=[(0,[(8,.ptr 8 0),(10,.ptr 10 0),(16,.ptr 37 0)])],off:=3000})
    (fun j=>j<=o.length/\vq o (o.length - j) (n+j)=N) (fun j=>o.length - j)
    (fun _=>{sl:=[(0,.ptr 37 0)],bx:=[(8,.d 10 [I x0,I x1,I x2,I x3,I x4,I x5,I x6,I x7,I x8,I x9]),(10,.d 10 z10),(37,.d 24 (dL l ⟨4,f,key,a,n,m⟩ st x0 x1 x2 x3 x4 x5 x6 x7 x8 x9 tick ⟨e.var,e.key,N,tick⟩ false))],gh:=[(0,[(8,.ptr 8 0),(10,.ptr 10 0),(16,.ptr 37 0)])],off:=3000}) (fun _=>True) 0 ⟨Nat.zero_le _,by rw [E];simp⟩ ?_ ?_ ?_
   ·have h0:(dL l ⟨4,f,key,a,n,m⟩ st x0 x1 x2 x3 x4 x5 x6 x7 x8 x9 tick ⟨e.var,e.key,n+((0:Nat):Int),tick⟩ false)=(dL l ⟨4,f,key,a,n,m⟩ st x0 x1 x2 x3 x4 x5 x6 x7 x8 x9 tick ⟨e.var,e.key,n,tick⟩ false):=by rw [show n+((0:Nat):Int)=n by omega]
    repeat' (first|(exact ui h0)|exact wJ|refine And.intro ?_ ?_)
   ·rintro j ⟨hj,v⟩;have K:oB (.bool false) false (eA (I (n+(j:Int))).cells (esU (xA o)))= .bool (uT o (n+j)):=by rw [EL,FF]
    have y:aR false [.int .i64] (I (n+(j:Int))):=⟨rfl,rfl,trivial⟩
    cases D:uT o (n+j) with
    |true=>
     rw [D] at K;have O:j<o.length:=by
      rcases Nat.lt_or_ge j o.length with h|h
      ·exact h
      ·rw [show o.length - j=0 by omega] at v
       have:n+(j:Int)=N:=v
       rw [this,W] at D;cases D
     have Di:vq o (o.length - (j+1)) (n+((j+1:Nat):Int))=N:=by
      rw [<- v,show o.length - j=(o.length - (j+1))+1 by omega]
      conv=>rhs;unfold vq
      rw [if_pos D,show n+((j+1:Nat):Int)=n+j+1 by omega]
     have T:n+((j+1:Nat):Int)=IntKind.wrap .i64 (n+(j:Int)+1):=by rw [nW (by omega) (by omega)];omega
     have C:(dL l ⟨4,f,key,a,n,m⟩ st x0 x1 x2 x3 x4 x5 x6 x7 x8 x9 tick ⟨e.var,e.key,n+((j+1:Nat):Int),tick⟩ false)=(dL l ⟨4,f,key,a,n,m⟩ st x0 x1 x2 x3 x4 x5 x6 x7 x8 x9 tick ⟨e.var,e.key,IntKind.wrap .i64 (n+(j:Int)+1),tick⟩ false):=by rw [T]
     repeat' ((conv=>whnf);first|(refine nv_ (.bool true) (by first|exact K) ?_)|(exact ⟨j+1,⟨O,Di⟩,(by omega),by (repeat' (first|(exact ui C)|exact wJ|refine And.intro ?_ ?_));done⟩)|(refine And.intro (by first|exact y) ?_)|refine aS ?_|refine nT_ ?_)
    |false=>
     rw [D] at K;have S:N=n+(j:Int):=by
      rw [<- v];cases hq:o.length - j with
      |zero=>rfl
      |succ q=>unfold vq;rw [if_neg (by rw [D];simp)]
     have C:(dL l ⟨4,f,key,a,n,m⟩ st x0 x1 x2 x3 x4 x5 x6 x7 x8 x9 tick ⟨e.var,e.key,N,tick⟩ false)=(dL l ⟨4,f,key,a,n,m⟩ st x0 x1 x2 x3 x4 x5 x6 x7 x8 x9 tick ⟨e.var,e.key,n+(j:Int),tick⟩ false):=by rw [S]
     repeat' ((conv=>whnf);first|(refine nv_ (.bool false) (by first|exact K) ?_)|(exact ⟨(),trivial,by (repeat' (first|(exact ui C)|exact wJ|refine And.intro ?_ ?_));done⟩)|(refine And.intro (by first|exact y) ?_)|refine aS ?_|refine nT_ ?_)
   ·rintro - -;rcases Ku with ⟨G,rfl⟩|⟨G,rfl⟩
    ·repeat' ((conv=>whnf);first|refine sC G ?_|refine aS ?_|refine nT_ ?_)
     refine ⟨_,rfl,?_⟩
     repeat' ((conv=>whnf);first|(exact ⟨rfl,Or.inl ⟨Bool.or_true _,by (repeat' (first|exact wJ|refine And.intro ?_ ?_));done⟩⟩)|fail)
    ·rcases JG with ⟨L,rfl⟩|⟨L,rfl⟩
     ·repeat' ((conv=>whnf);first|refine su G ?_|refine tW mixed Tryz.func105 Go.ST4.vW rfl rfl (rs:=[.tmp 2]) rfl 3100 (nlZ rfl) ?_|refine aS ?_|refine nT_ ?_)
      repeat' ((conv=>whnf);first|refine uc _ (u) ?_|refine sC L ?_|refine aS ?_|fail)
      refine ⟨_,rfl,?_⟩
      skip
      refine ⟨_,rfl,?_⟩
      repeat' ((conv=>whnf);first|(exact ⟨rfl,Or.inl ⟨rfl,by (repeat' (first|exact wJ|refine And.intro ?_ ?_));done⟩⟩)|fail)
     ·rcases qf with ⟨-,r,A,z⟩|⟨r,k⟩
      ·repeat' ((conv=>whnf);first|refine su G ?_|refine tW mixed Tryz.func105 Go.ST4.vW rfl rfl (rs:=[.tmp 2]) rfl 3100 (nlZ rfl) ?_|refine aS ?_|refine nT_ ?_)
       repeat' ((conv=>whnf);first|refine uc _ (u) ?_|refine su L ?_|refine uc _ (J) ?_|refine aS ?_|refine nT_ ?_)
       refine ⟨_,rfl,?_⟩
       repeat' ((conv=>whnf);first|refine tW mixed Tryz.func106 Go.ST4.zy rfl rfl (rs:=[]) rfl 3200 (nlZ rfl) ?_|refine aS ?_|refine nT_ ?_)
       repeat' ((conv=>whnf);first|refine uc _ (r) ?_|refine uc _ (A) ?_|refine uc _ (z) ?_|refine aS ?_|refine nT_ ?_)
       refine ⟨_,rfl,?_⟩
       skip
       refine ⟨_,rfl,?_⟩
       repeat' ((conv=>whnf);first|(exact ⟨rfl,Or.inr ⟨rfl,by (repeat' (first|exact wJ|refine And.intro ?_ ?_));done⟩⟩)|fail)
      ·cases k
       repeat' ((conv=>whnf);first|refine su G ?_|refine tW mixed Tryz.func105 Go.ST4.vW rfl rfl (rs:=[.tmp 2]) rfl 3100 (nlZ rfl) ?_|refine aS ?_|refine nT_ ?_)
       repeat' ((conv=>whnf);first|refine uc _ (u) ?_|refine su L ?_|refine uc _ (J) ?_|refine aS ?_|refine nT_ ?_)
       refine ⟨_,rfl,?_⟩
       repeat' ((conv=>whnf);first|refine tW mixed Tryz.func106 Go.ST4.zy rfl rfl (rs:=[]) rfl 3200 (nlZ rfl) ?_|refine aS ?_|refine nT_ ?_)
       repeat' ((conv=>whnf);first|refine uc _ (r) ?_|refine aS ?_|fail)
       refine ⟨_,rfl,?_⟩
       skip
       refine ⟨_,rfl,?_⟩
       repeat' ((conv=>whnf);first|(exact ⟨rfl,Or.inr ⟨rfl,by (repeat' (first|exact wJ|refine And.intro ?_ ?_));done⟩⟩)|fail)
end Go.ST
end
section
namespace Go.ST
open Go Go.DL Go.MM Go.Proofs
open Go.TY hiding Fd
variable {l:List Fd}{s:RS}{st st':List RE}{x0 x1 x2 x3 x4 x5 x6 x7 x8 x9 y0 y1 y2 y3 y4 y5 y6 y7 y8 y9 tick:Int}{e e':RE}{is pass:Bool}
attribute [local irreducible] bR WCM YC
theorem Jz{a:St}(c:bU (S1 l s x0 x1 x2 x3 x4 x5 x6 x7 x8 x9 tick is st' y0 y1 y2 y3 y4 y5 y6 y7 y8 y9 e' pass) a)(r:List T)
  (b:r=[hd (if pass then [y0,y1,y2,y3,y4,y5,y6,y7,y8,y9] else [x0,x1,x2,x3,x4,x5,x6,x7,x8,x9]),.bool pass,esT st']):
  bR Tryz.prog 84 Go.ST3.Cr a (fun e s=>match e with
   |.normal=>bR Tryz.prog 84 Go.ST3.Cs s (sR Tryz.prog [.cell 10 27,.tmp 11,.tmp 12] r)
   |.exit id=>sR Tryz.prog [.cell 10 27,.tmp 11,.tmp 12] r (.exit id) s
   |.ret=>sR Tryz.prog [.cell 10 27,.tmp 11,.tmp 12] r .ret s):=by
 subst b;refine bR.bU c (Go.ST3.KK ?_);cases pass with
 |false=>
  repeat' ((conv=>whnf);first|refine aS ?_|refine nT_ ?_)
  refine ⟨?_,fun _ _=>trivial⟩
  repeat' ((conv=>whnf);first|refine rb0 ?_|refine aS ?_|exact trivial)
 |true=>
  skip
  refine Go.ST3.KL ?_
  repeat' ((conv=>whnf);first|refine aS ?_|refine nT_ ?_)
  refine ⟨?_,fun _ _=>trivial⟩
  repeat' ((conv=>whnf);first|refine rb1 ?_|refine aS ?_|exact trivial)
theorem KZ(p:LOk l){h:List Int}(q:HOk h)(H: ∀k∈s.key,uu l k=true)(C:s.key.length<=1000)(B:uR st)(a:st.length<2^40)(d: ∀x∈st,kOk x)(c:s.kind≠0)
  (f:Option RE) (A:f=uB st s.var (keyOf l s.key h)) (r:List T)
  (v: ∀(x0 x1 x2 x3 x4 x5 x6 x7 x8 x9:Int),h=[x0,x1,x2,x3,x4,x5,x6,x7,x8,x9]-> ∃(st':List RE) (y0 y1 y2 y3 y4 y5 y6 y7 y8 y9:Int) (e':RE) (pass:Bool),
   bR Tryz.prog 84 Go.ST3.xC (S0 l s st x0 x1 x2 x3 x4 x5 x6 x7 x8 x9 tick (f.getD ⟨s.var,keyOf l s.key h,0,0⟩) f.isSome).mk' (fun y t=>y= .normal/\bU (S1 l s x0 x1 x2 x3 x4 x5 x6 x7 x8 x9 tick f.isSome st' y0 y1 y2 y3 y4 y5 y6 y7 y8 y9 e' pass) t)/\
   r=[hd (if pass then [y0,y1,y2,y3,y4,y5,y6,y7,y8,y9] else [x0,x1,x2,x3,x4,x5,x6,x7,x8,x9]),.bool pass,esT st']):
  DCalls Tryz.prog 11 [fds l,wI s,esT st,hd h,I tick] (lg r):=by
 refine sV Tryz.func11 Go.ST3.JC rfl (r:=r) (nlZ rfl) ?_;rw [show Tryz.f11.ntmps=84 from rfl,show Tryz.f11.results.toList=[.cell 10 27,.tmp 11,.tmp 12] from rfl,Go.ST3.k11];have F:=K1 l p s.key H (by omega) h q;have z:(keyOf l s.key h).length<2^60:=by unfold keyOf;rw [List.length_map];omega
 have b:=J6 st B a d s.var (keyOf l s.key h) z;rw [<- A] at b;obtain ⟨x0,x1,x2,x3,x4,x5,x6,x7,x8,x9,rfl⟩:=ten q;obtain ⟨st',y0,y1,y2,y3,y4,y5,y6,y7,y8,y9,e',pass,u,E⟩:=v x0 x1 x2 x3 x4 x5 x6 x7 x8 x9 rfl;have w: ∀j:St,bU (S0 l s st x0 x1 x2 x3 x4 x5 x6 x7 x8 x9 tick (f.getD ⟨s.var,keyOf l s.key [x0,x1,x2,x3,x4,x5,x6,x7,x8,x9],0,0⟩) f.isSome) j->bR Tryz.prog 84 (.seq (.seq Go.ST3.xC Go.ST3.Cr) Go.ST3.Cs) j (sR Tryz.prog [.cell 10 27,.tmp 11,.tmp 12] r):=by
  intro j G;refine bR.bU G (bR.seq (bR.seq (bR.mono u ?_)));rintro y t ⟨rfl,g⟩;exact Jz g r E
 clear u v;generalize keyOf l s.key [x0,x1,x2,x3,x4,x5,x6,x7,x8,x9]=ky at *
 obtain ⟨J,D,key,i,n,m⟩:=s;dsimp only at *
 refine bR.seq (Go.ST3.HZ ?_)
 repeat' ((conv=>whnf);first|refine aS ?_|fail)
 refine bR.seq (Go.ST3.H0 ?_)
 repeat' ((conv=>whnf);first|refine sD c ?_|refine aS ?_|refine nT_ ?_)
 refine bR.seq (Go.ST3.KG ?_)
 repeat' ((conv=>whnf);first|refine aS ?_|fail)
 refine bR.seq (Go.ST3.KH ?_)
 repeat' ((conv=>whnf);first|refine uc _ (F) ?_|refine aS ?_|refine nT_ ?_)
 refine bR.seq (Go.ST3.KI ?_)
 repeat' ((conv=>whnf);first|refine aS ?_|fail)
 refine bR.seq (Go.ST3.KJ ?_);cases f with
 |none=>
  repeat' ((conv=>whnf);first|refine uc _ (b) ?_|refine aS ?_|refine nT_ ?_)
  refine w _ ?_
  repeat' (first|exact wJ|refine And.intro ?_ ?_)
 |some x=>
  repeat' ((conv=>whnf);first|refine uc _ (b) ?_|refine aS ?_|refine nT_ ?_)
  refine w _ ?_
  repeat' (first|exact wJ|refine And.intro ?_ ?_)
end Go.ST
end
section
namespace Go.ST
open Go Go.DL Go.MM Go.Proofs
open Go.TY hiding Fd
attribute [local irreducible] bR WCM YC
abbrev dnT(d:Dn):T:=.tup [hd d.h,.bool d.pass,esT d.st]
theorem xN{α:Type}(f:Option α):f.isNone= !f.isSome:=by cases f <;> rfl
theorem Ig{l:List Fd}{s:RS}{st:List RE}{h:List Int}{tick:Int}(d:HOk h)(a:s.kind=0):DCalls Tryz.prog 11 [fds l,wI s,esT st,hd h,I tick] (dnT (doE l s st h tick)):=by
 have b:doE l s st h tick=⟨h,true,st⟩:=by unfold doE yB doR;rw [if_pos a];rfl
 rw [b];refine sV Tryz.func11 Go.ST3.JC rfl (r:=[hd h,.bool true,esT st]) (nlZ rfl) ?_;rw [show Tryz.f11.ntmps=84 from rfl,show Tryz.f11.results.toList=[.cell 10 27,.tmp 11,.tmp 12] from rfl,Go.ST3.k11];obtain ⟨x0,x1,x2,x3,x4,x5,x6,x7,x8,x9,rfl⟩:=ten d;obtain ⟨g,f,key,c,n,m⟩:=s;dsimp only at a;refine bR.seq (Go.ST3.HZ ?_)
 repeat' ((conv=>whnf);first|refine aS ?_|fail)
 refine bR.seq (Go.ST3.H0 ?_)
 repeat' ((conv=>whnf);first|refine sE a ?_|refine aS ?_|refine nT_ ?_)
 refine ⟨?_,fun _ _=>trivial⟩
 repeat' ((conv=>whnf);first|refine rb1 ?_|refine aS ?_|exact trivial)
theorem Jo(s:RS)(v:ByteArray)(g:List Int){tick b a:Int}(_:1<=s.n/\s.n<=65535)(y:1<=s.m/\s.m<=1073741824)(z:0<=tick/\tick<=1073741824)(B:0<=b/\b<=65535)(A:0<=a/\a<=1073741824):
  HP s.n s.m tick b a=((we s ⟨v,g,b,a⟩ tick).n,(we s ⟨v,g,b,a⟩ tick).at_):=by
 obtain ⟨m,h⟩: ∃m,m=s.m:=⟨_,rfl⟩
 have q:W64 (tick - a)=tick - a:=nW (by omega) (by omega);have d:vG tick a s.m=if tick>a then (tick - a).tdiv s.m else 0:=by
  unfold vG;rw [q]
  by_cases c:tick>a
  ·rw [if_pos (show tick - a>0 by omega),if_pos c];have f:0<=(tick - a).tdiv s.m:=Int.tdiv_nonneg (by omega) (by omega);have j:(tick - a).tdiv s.m<=tick - a:=Int.tdiv_le_self _ (by omega);exact nW (by omega) (by omega)
  ·rw [if_neg (show ¬tick - a>0 by omega),if_neg c,Int.zero_tdiv];exact nW (by omega) (by omega)
 have w:0<=vG tick a s.m/\vG tick a s.m<=1073741824/\vG tick a s.m * s.m<=1073741824/\0<=vG tick a s.m * s.m:=by
  rw [d];split
  ·have f:0<=(tick - a).tdiv s.m:=Int.tdiv_nonneg (by omega) (by omega);have j:(tick - a).tdiv s.m<=tick - a:=Int.tdiv_le_self _ (by omega);have x:(tick - a).tdiv s.m * s.m<=tick - a:=by
    rw [Int.tdiv_eq_ediv_of_nonneg (by omega)];exact Int.ediv_mul_le _ (by omega)
   have t:0<=(tick - a).tdiv s.m * s.m:=Int.mul_nonneg f (by omega);omega
  ·simp
 unfold HP;generalize vG tick a s.m=k at *
 have r:W64 (b+k)=b+k:=nW (by omega) (by omega);have p:W64 (k * s.m)=k * s.m:=nW (by omega) (by omega);have i:W64 (a+k * s.m)=a+k * s.m:=nW (by omega) (by omega);unfold we;dsimp only;rw [r,p,i, <-d];split <;> rfl
theorem HG{l:List Fd}{s:RS}{st:List RE}{h:List Int}{tick:Int}(p:B7 l s st h tick)(L: ∀x∈st,kOk x):DCalls Tryz.prog 11 [fds l,wI s,esT st,hd h,I tick] (dnT (doE l s st h tick)):=by
 by_cases t:s.kind=0
 ·exact Ig p.hok t
 obtain ⟨f,X⟩: ∃f,f=uB st s.var (keyOf l s.key h):=⟨_,rfl⟩
 obtain ⟨o,T⟩: ∃o,o=ofE st s.var:=⟨_,rfl⟩
 obtain ⟨e,J⟩: ∃e,e=f.getD ⟨s.var,keyOf l s.key h,0,0⟩:=⟨_,rfl⟩
 have S:=p.len;have hol:o.length<=1000000:=by rw [T];exact Nat.le_trans (List.length_filter_le _ _) S
 have Hb:(keyOf l s.key h).length<=1000:=by unfold keyOf;rw [List.length_map];exact p.klen
 have y:=J8 st s.var (by omega);rw [show ofE st s.var=o from T.symm] at y;have hev:e.var=s.var/\e.key=keyOf l s.key h/\0<=e.n/\e.n<=65535/\0<=e.at_/\e.at_<=1073741824:=by
  cases f with
  |none=>rw [J];exact ⟨rfl,rfl,Int.le_refl 0,(by show (0:Int)<=65535;omega),Int.le_refl 0,(by show (0:Int)<=1073741824;omega)⟩
  |some x=>
   rw [J];obtain ⟨u,d,B⟩:=vP X.symm;exact ⟨d,B,p.num x u⟩
 obtain ⟨he1,he2,he3,he4,he5,he6⟩:=hev;have Z: ∀n a,DCalls Tryz.prog 139 [esT st,um ⟨e.var,e.key,n,a⟩] (esT (uS ⟨s.var,keyOf l s.key h,n,a⟩ st)):=fun n a=>by
  rw [he1,he2];exact K4 st p.inc (by omega) L ⟨s.var,keyOf l s.key h,n,a⟩ (show (keyOf l s.key h).length<2^60 by omega)
 have w:doE l s st h tick=⟨(doR l s f o h tick).1,(doR l s f o h tick).2.1,cN (doR l s f o h tick).2.2 st⟩:=by unfold doE yB;rw [<- X, <-T]
 have U:(f.map (·.n)).getD 0=e.n:=by rw [J];cases f <;> rfl
 have uN:uY f o=(!f.isSome&&decide (100<=o.length)):=by unfold uY;rw [xN]
 have ht0:=p.t0;have ht1:=p.t1;refine KZ p.lok p.hok p.keys p.klen p.inc (by omega) L t f X [hd (doE l s st h tick).h,.bool (doE l s st h tick).pass,esT (doE l s st h tick).st] ?_;intro x0 x1 x2 x3 x4 x5 x6 x7 x8 x9 v;rw [<- J];have hk:=p.k0;have hk':=p.k1;have Fq:s.kind=1\/s.kind=2\/s.kind=3\/s.kind=4\/s.kind=5\/s.kind=6:=by omega
 rcases Fq with u|d|B|P|h5|h6
 ·have Y:(if (65535:Int)<IntKind.wrap .i64 (e.n+1) then 65535 else IntKind.wrap .i64 (e.n+1))=min (e.n+1) 65535:=by rw [nW (by omega) (by omega)];split <;> omega
  obtain ⟨y0,y1,y2,y3,y4,y5,y6,y7,y8,y9,E⟩:=ten (wX p.lok p.hok (name:=s.field) (n:=min (e.n+1) 65535) (by omega));have D:=F1 p.lok s.field p.hok (n:=min (e.n+1) 65535) (by omega);rw [E,v] at D;have i:=IJ (x0:=x0) (x1:=x1) (x2:=x2) (x3:=x3) (x4:=x4) (x5:=x5) (x6:=x6) (x7:=x7) (x8:=x8) (x9:=x9) (tick:=tick) (is:=f.isSome) u y _ Y (Z _ tick) (uY f o) uN D;have g:doR l s f o h tick=do1 l s f o h tick (keyOf l s.key h):=by unfold doR;rw [if_neg t,if_pos u]
  cases b:uY f o with
  |true=>
   have j:doE l s st h tick=⟨h,false,st⟩:=by rw [w,g];unfold do1;rw [b];rfl
   rw [j];rw [b] at i;refine ⟨st,x0,x1,x2,x3,x4,x5,x6,x7,x8,x9,⟨e.var,e.key,min (e.n+1) 65535,tick⟩,false,i.mono ?_,?_⟩
   ·rintro O V ⟨u,d⟩;rcases d with ⟨-,d⟩|⟨d, -⟩
    ·exact ⟨u,d⟩
    ·cases d
   ·rw [v];rfl
  |false=>
   have j:doE l s st h tick=⟨wrF l h s.field (min (e.n+1) 65535),true,uS ⟨s.var,keyOf l s.key h,min (e.n+1) 65535,tick⟩ st⟩:=by rw [w,g];unfold do1;rw [b,U];rfl
   rw [j];rw [b] at i;refine ⟨uS ⟨s.var,keyOf l s.key h,min (e.n+1) 65535,tick⟩ st,y0,y1,y2,y3,y4,y5,y6,y7,y8,y9,⟨e.var,e.key,min (e.n+1) 65535,tick⟩,true,i.mono ?_,?_⟩
   ·rintro O V ⟨u,d⟩;rcases d with ⟨d, -⟩|⟨-,d⟩
    ·cases d
    ·exact ⟨u,d⟩
   ·dsimp only;rw [E];rfl
 ·have g:doR l s f o h tick=do2 s f o h tick (keyOf l s.key h):=by unfold doR;rw [if_neg t,if_neg (by omega),if_pos d]
  have i:=JO (x0:=x0) (x1:=x1) (x2:=x2) (x3:=x3) (x4:=x4) (x5:=x5) (x6:=x6) (x7:=x7) (x8:=x8) (x9:=x9) (l:=l) (tick:=tick) (is:=f.isSome) d y (Z e.n tick) (uY f o) uN;cases b:uY f o with
  |true=>
   have j:doE l s st h tick=⟨h,false,st⟩:=by rw [w,g];unfold do2;rw [b];rfl
   rw [j];rw [b] at i;exact ⟨st,x0,x1,x2,x3,x4,x5,x6,x7,x8,x9,⟨e.var,e.key,e.n,tick⟩,false,i,by rw [v];rfl⟩
  |false=>
   have j:doE l s st h tick=⟨h,true,uS ⟨s.var,keyOf l s.key h,e.n,tick⟩ st⟩:=by rw [w,g];unfold do2;rw [b,U];rfl
   rw [j];rw [b] at i;exact ⟨uS ⟨s.var,keyOf l s.key h,e.n,tick⟩ st,x0,x1,x2,x3,x4,x5,x6,x7,x8,x9,⟨e.var,e.key,e.n,tick⟩,true,i,by rw [v];rfl⟩
 ·have g:doR l s f o h tick=do3 s f h tick:=by unfold doR;rw [if_neg t,if_neg (by omega),if_neg (by omega),if_pos B]
  obtain ⟨K,F⟩:=p.k3 B;have i:=II (x0:=x0) (x1:=x1) (x2:=x2) (x3:=x3) (x4:=x4) (x5:=x5) (x6:=x6) (x7:=x7) (x8:=x8) (x9:=x9) (l:=l) (st:=st) (tick:=tick) (e:=e) (is:=f.isSome) B _ rfl ⟨by omega,by omega⟩ ⟨by omega,by omega⟩;have j:doE l s st h tick=⟨h,f.isSome&&decide (e.at_>=tick - s.n),st⟩:=by
   rw [w,g];unfold do3;cases f with
   |none=>rfl
   |some x=>
    have:e=x:=J
    subst this;rfl
  rw [j];refine ⟨st,x0,x1,x2,x3,x4,x5,x6,x7,x8,x9,e,_,i,?_⟩;rw [v];dsimp only;rw [ite_self]
 ·have g:doR l s f o h tick=do4 l s f o h tick (keyOf l s.key h):=by unfold doR;rw [if_neg t,if_neg (by omega),if_neg (by omega),if_neg (by omega),if_pos P]
  obtain ⟨K,F,b3,b4⟩:=p.k4 P;have Y:wb s f o=if f.isSome then e.n else vq o o.length s.n:=by
   rw [J];cases f <;> rfl
  have M:0<=wb s f o:=by
   rw [Y];split
   ·exact he3
   ·have:=(xu o o.length s.n).1;omega
  obtain ⟨y0,y1,y2,y3,y4,y5,y6,y7,y8,y9,E⟩:=ten (wX p.lok p.hok (name:=s.field) M);have D:=F1 p.lok s.field p.hok M;rw [E,v] at D;have i:=Em (x0:=x0) (x1:=x1) (x2:=x2) (x3:=x3) (x4:=x4) (x5:=x5) (x6:=x6) (x7:=x7) (x8:=x8) (x9:=x9) (l:=l) (tick:=tick) (is:=f.isSome) P (by omega) ⟨K,F⟩ y _ Y (Z _ tick) (uY f o) uN (f.isNone&&decide (wb s f o>s.m)) (by rw [xN]) D;cases b:(uY f o||(f.isNone&&decide (wb s f o>s.m))) with
  |true=>
   have j:doE l s st h tick=⟨h,false,st⟩:=by rw [w,g];unfold do4;rw [b];rfl
   rw [j];rw [b] at i;refine ⟨st,x0,x1,x2,x3,x4,x5,x6,x7,x8,x9,⟨e.var,e.key,wb s f o,tick⟩,false,i.mono ?_,?_⟩
   ·rintro O V ⟨u,d⟩;rcases d with ⟨-,d⟩|⟨d, -⟩
    ·exact ⟨u,d⟩
    ·cases d
   ·rw [v];rfl
  |false=>
   have j:doE l s st h tick=⟨wrF l h s.field (wb s f o),true,uS ⟨s.var,keyOf l s.key h,wb s f o,tick⟩ st⟩:=by rw [w,g];unfold do4;rw [b];rfl
   rw [j];rw [b] at i;refine ⟨uS ⟨s.var,keyOf l s.key h,wb s f o,tick⟩ st,y0,y1,y2,y3,y4,y5,y6,y7,y8,y9,⟨e.var,e.key,wb s f o,tick⟩,true,i.mono ?_,?_⟩
   ·rintro O V ⟨u,d⟩;rcases d with ⟨d, -⟩|⟨-,d⟩
    ·cases d
    ·exact ⟨u,d⟩
   ·dsimp only;rw [E];rfl
 ·have g:doR l s f o h tick=do5 l s o h:=by unfold doR;rw [if_neg t,if_neg (by omega),if_neg (by omega),if_neg (by omega),if_neg (by omega),if_pos h5]
  obtain ⟨K,F⟩:=p.k5 h5;have W:=p.hok;rw [v] at W;have hfd:(o.find? fun x=>decide (x.n=(uI (fld l s.field) h:Int)))=st.find? fun x=>decide (x.var=s.var)&&decide (x.n=(uI (fld l s.field) [x0,x1,x2,x3,x4,x5,x6,x7,x8,x9]:Int)):=by
   rw [T,v];unfold ofE;rw [List.find?_filter]
   congr 1
   funext a
   simp
  have i:=JN (x0:=x0) (x1:=x1) (x2:=x2) (x3:=x3) (x4:=x4) (x5:=x5) (x6:=x6) (x7:=x7) (x8:=x8) (x9:=x9) (l:=l) (tick:=tick) (e:=e) (is:=f.isSome) h5 p.lok (by omega) (by have:=p.klen;omega) W K (fun x v hv=>F x v hv) _ hfd;cases b:(o.find? fun x=>decide (x.n=(uI (fld l s.field) h:Int))) with
  |none=>
   have j:doE l s st h tick=⟨h,false,st⟩:=by rw [w,g];unfold do5;rw [b];rfl
   rw [j];rw [b] at i;refine ⟨st,x0,x1,x2,x3,x4,x5,x6,x7,x8,x9,e,false,i.mono ?_,?_⟩
   ·rintro O V ⟨u,d⟩;rcases d with ⟨-,d⟩|⟨x,q,d, -⟩
    ·exact ⟨u,d⟩
    ·cases d
   ·rw [v];rfl
  |some x=>
   have j:doE l s st h tick=⟨vT l s.key x.key h,true,st⟩:=by rw [w,g];unfold do5;rw [b];rfl
   rw [j];rw [b] at i;have Q:x∈st/\x.var=s.var:=by
    have u:=List.mem_of_find?_eq_some b;rw [T] at u;have d:=List.mem_filter.1 u;exact ⟨d.1,of_decide_eq_true d.2⟩
   obtain ⟨y0,y1,y2,y3,y4,y5,y6,y7,y8,y9,E⟩:=ten (yM p.lok (ks:=s.key) p.hok (F x Q.1 Q.2).2);refine ⟨st,y0,y1,y2,y3,y4,y5,y6,y7,y8,y9,e,true,i.mono ?_,?_⟩
   ·rintro O V ⟨u,d⟩;rcases d with ⟨d, -⟩|⟨x',q,d,B,P⟩
    ·cases d
    ·cases d;rw [<- v,E] at B;obtain ⟨z0,z1,z2,z3,z4,z5,z6,z7,z8,z9⟩:=q;simp only [H10.ls,List.cons.injEq,and_true] at B;obtain ⟨rfl,rfl,rfl,rfl,rfl,rfl,rfl,rfl,rfl,rfl⟩:=B;exact ⟨u,P⟩
   ·dsimp only;rw [E];rfl
 ·have g:doR l s f o h tick=do6 s f o h tick (keyOf l s.key h):=by unfold doR;rw [if_neg t,if_neg (by omega),if_neg (by omega),if_neg (by omega),if_neg (by omega),if_neg (by omega)]
  obtain ⟨K,F,b3,b4⟩:=p.k6 h6;obtain ⟨H,C⟩: ∃H,H=if f.isSome then e.n else s.n:=⟨_,rfl⟩
  obtain ⟨z,A⟩: ∃z,z=if f.isSome then e.at_ else tick:=⟨_,rfl⟩
  have Mm:0<=H/\H<=65535:=by rw [C];split <;> omega
  have Ml:0<=z/\z<=1073741824:=by rw [A];split <;> omega
  have G:xI s f (keyOf l s.key h) tick=we s ⟨s.var,keyOf l s.key h,H,z⟩ tick:=by
   unfold xI;cases f with
   |none=>rw [C,A];rfl
   |some x=>
    have hex:e=x:=J;obtain ⟨g1,g2,g3⟩:=vP X.symm;rw [C,A];show we s x tick=we s ⟨s.var,keyOf l s.key h,e.n,e.at_⟩ tick
    rw [hex, <-g2, <-g3]
  have D:=Jo s s.var (keyOf l s.key h) ⟨K,F⟩ ⟨b3,b4⟩ ⟨ht0,ht1⟩ Mm Ml;obtain ⟨r,N⟩: ∃r,r=we s ⟨s.var,keyOf l s.key h,H,z⟩ tick:=⟨_,rfl⟩
  rw [<- N] at G D;have htb:0<=r.n/\r.n<=65535 * 65536:=by
   rw [N];have t:0<=(if tick>z then (tick - z).tdiv s.m else 0):=by
    split
    ·exact Int.tdiv_nonneg (by omega) (by omega)
    ·exact Int.le_refl 0
   unfold we;dsimp only;generalize (if tick>z then (tick - z).tdiv s.m else 0)=k at *
   split
   ·exact ⟨by dsimp only;omega,by dsimp only;omega⟩
   ·exact ⟨by dsimp only;omega,by dsimp only;omega⟩
  have i:=IK (x0:=x0) (x1:=x1) (x2:=x2) (x3:=x3) (x4:=x4) (x5:=x5) (x6:=x6) (x7:=x7) (x8:=x8) (x9:=x9) (l:=l) (tick:=tick) (is:=f.isSome) h6 (by omega) H z r.n r.at_ C A D (if r.n>0 then r.n - 1 else r.n) (by
   split
   ·exact (nW (by omega) (by omega)).symm
   ·rfl) y (Z _ _) (uY f o) uN
  cases b:uY f o with
  |true=>
   have j:doE l s st h tick=⟨h,false,st⟩:=by rw [w,g];unfold do6;rw [b];rfl
   rw [j];rw [b] at i;exact ⟨st,x0,x1,x2,x3,x4,x5,x6,x7,x8,x9,_,false,i,by rw [v];rfl⟩
  |false=>
   rw [b] at i
   by_cases c:r.n>0
   ·have j:doE l s st h tick=⟨h,true,uS ⟨s.var,keyOf l s.key h,r.n - 1,r.at_⟩ st⟩:=by rw [w,g];unfold do6;rw [G,b,if_neg (by simp),if_pos c];rfl
    rw [j];rw [if_pos c,decide_eq_true c] at i;exact ⟨uS ⟨s.var,keyOf l s.key h,r.n - 1,r.at_⟩ st,x0,x1,x2,x3,x4,x5,x6,x7,x8,x9,⟨e.var,e.key,r.n - 1,r.at_⟩,true,i,by rw [v];rfl⟩
   ·have j:doE l s st h tick=⟨h,false,uS ⟨s.var,keyOf l s.key h,r.n,r.at_⟩ st⟩:=by rw [w,g];unfold do6;rw [G,b,if_neg (by simp),if_neg c];rfl
    rw [j];rw [if_neg c,decide_eq_false c] at i;exact ⟨uS ⟨s.var,keyOf l s.key h,r.n,r.at_⟩ st,x0,x1,x2,x3,x4,x5,x6,x7,x8,x9,⟨e.var,e.key,r.n,r.at_⟩,false,i,by rw [v];rfl⟩
end Go.ST
end
section
end
section
end
section
end
section
end
section
end
section
end
section
namespace Go.MM
open Go Go.DL Go.Proofs
def CC:ByteArray:=⟨#[100,115,116]⟩
def B1:ByteArray:=⟨#[115,114,99]⟩
def Dj:ByteArray:=⟨#[107,105,110,100]⟩
end Go.MM
end
section
end
section
end
section
end
section
end
section
end
section
end
section
end
section
end
section
end
section
namespace Go.TY
open Go Go.DL Go.MM
def G2(l:List Fd):RP->Int
 |.mk k f n m _=>if uq f e0 then 0 else match findF l f with
   |none=>4
   |some F=>if (if k=5 then m else n)>((2^F.w - 1:Nat):Int)\/(k=4/\m>F.w) then 1 else 0
def Fi(l:List Fd)(r:RP):Int:=uU ((xi r).map (G2 l))
def JA(l:List Fd)(f:ByteArray)(n:Int):Int:=match findF l f with
 |none=>4
 |some F=>if n>((2^F.w - 1:Nat):Int) then 1 else 0
def Fh(l:List Fd):RO->Int
 |.mk k p f n _=>if k=1 then Fi l p else if k=2 then JA l f n else 0
def xH(l:List Fd)(r:RO):Int:=if vQ r≠0 then vQ r else uU ((wO r).map (Fh l))
theorem Hz{f:ByteArray}(h:uq f e0=true):f=e0:=by
 unfold uq at h;have h:f.data.toList=[]:=by simpa using h
 exact ByteArray.ext (Array.ext' h)
theorem zb{f:ByteArray}(h:vh f=true):uq f e0=false:=by
 cases e:uq f e0 with
 |false=>rfl
 |true=>
  rw [Hz e] at h
  have:vh e0=false:=by decide+kernel
  rw [this] at h;cases h
theorem Iz{l:List Fd}{k:Int}{f:ByteArray}{n m:Int}{a:List RP}(h:okP k f n m=true):G2 l (.mk k f n m a)=yT l (.mk k f n m a):=by
 simp only [G2,yT];unfold okP at h
 by_cases d:k=1\/k=2
 ·rw [if_pos d] at h;unfold Ar at h;simp only [Bool.and_eq_true] at h;rw [if_pos h.1.1,if_neg (by omega)]
 rw [if_neg d] at h
 by_cases i:k=3
 ·subst i;simp only [if_true,Bool.and_eq_true] at h;rw [zb h.1.1];cases findF l f <;> simp
 rw [if_neg i] at h
 by_cases j:k=4
 ·subst j;simp only [if_true,Bool.and_eq_true] at h;rw [zb h.1.1.1];cases findF l f <;> simp
 rw [if_neg j] at h
 by_cases c:k=5
 ·subst c;simp only [if_true,Bool.and_eq_true] at h;rw [zb h.1.1.1];cases findF l f <;> simp
 rw [if_neg c] at h
 by_cases g:k=6\/k=7\/k=8
 ·rw [if_pos g] at h;unfold Ar at h;simp only [Bool.and_eq_true] at h;rw [if_pos h.1.1,if_neg (by omega)]
 rw [if_neg g] at h
 by_cases b:k=9
 ·subst b;simp only [if_true,Bool.and_eq_true] at h;rw [if_pos h.1.1.1,if_neg (by omega)]
 ·rw [if_neg b] at h;cases h
mutual
theorem AN: ∀r:RP,vV r=true-> ∀x∈xi r,vV x=true
 |.mk k f n m a,h,x,b=>by
  rw [xi] at b;rcases List.mem_cons.1 b with rfl|b
  ·exact h
  ·simp only [vV,Bool.and_eq_true] at h;exact zM a h.2 x b
theorem zM: ∀l:List RP,vK l=true-> ∀x∈wh l,vV x=true
 |[],_,x,a=>by simp [wh] at a
 |r::rs,h,x,a=>by
  simp only [vK,Bool.and_eq_true] at h;rw [wh] at a;rcases List.mem_append.1 a with a|a
  ·exact AN r h.1 x a
  ·exact zM rs h.2 x a
end
mutual
theorem AM: ∀r:RO,vU r=true-> ∀x∈wO r,vU x=true
 |.mk k p f n a,h,x,b=>by
  rw [wO] at b;rcases List.mem_cons.1 b with rfl|b
  ·exact h
  ·simp only [vU,Bool.and_eq_true] at h;exact zL a h.2 x b
theorem zL: ∀l:List RO,vJ l=true-> ∀x∈vC l,vU x=true
 |[],_,x,a=>by simp [vC] at a
 |r::rs,h,x,a=>by
  simp only [vJ,Bool.and_eq_true] at h;rw [vC] at a;rcases List.mem_append.1 a with a|a
  ·exact AM r h.1 x a
  ·exact zL rs h.2 x a
end
theorem G3{l:List Fd}{r:RP}(h:vV r=true):Fi l r=fitAll l r:=by
 unfold Fi fitAll
 congr 1
 refine List.map_congr_left fun x b=>?_
 have:=AN r h x b
 obtain ⟨k,f,n,m,a⟩:=x;simp only [vV,Bool.and_eq_true] at this;exact Iz this.1.1
theorem IB{e:Int}{b:Bool}(h:Ce e b=0):e=0/\b=true:=by
 unfold Ce at h
 by_cases a:e=0
 ·rw [if_pos a] at h;cases b with
  |true=>exact ⟨a,rfl⟩
  |false=>simp at h
 ·rw [if_neg a] at h;exact absurd h a
theorem G1{l:List Fd}{r:RO}(h:vU r=true):Fh l r=xD l r:=by
 obtain ⟨k,p,f,n,a⟩:=r;simp only [Fh,xD]
 by_cases b:k=1
 ·subst b;simp only [vU,okO,if_true,Bool.and_eq_true] at h;simp only [if_true];exact G3 h.1.1.1
 ·rw [if_neg b,if_neg b];rfl
theorem IX(l:List Fd)(r:RO):xH l r=FH l r:=by
 unfold xH FH
 by_cases h:vQ r≠0
 ·rw [if_pos h,if_pos h]
 ·rw [if_neg h,if_neg h];have a:=(IB (Decidable.not_not.1 h)).2
  congr 1
  exact List.map_congr_left fun x b=>G1 (AM r a x b)
end Go.TY
end
section
end
section
end
section
namespace Go.TY
open Go Go.DL Go.MM Go.Proofs
theorem uH{a b:ByteArray}:uq a b=true↔a=b:=by
 constructor
 ·intro h;unfold uq at h;exact ByteArray.ext (Array.ext' (by simpa using h))
 ·intro h;subst h;unfold uq;simp
end Go.TY
end
section
end
section
namespace Go.TY
open Go Go.DL Go.MM Go.Proofs
def Bv(n:Int):Bool:=decide (0<=n)&&decide (n<=1073741824)
end Go.TY
end
section
namespace Go.MM
open Go Go.DL Go.Proofs
theorem Bx:Tryz.prog.underlying 34=some (.slice 36):=by kernel_rfl
theorem By:Tryz.prog.underlying 37=some (.slice 39):=by kernel_rfl
theorem yN:Tryz.prog.cellsOf 3=1:=by kernel_rfl
theorem Il:Tryz.prog.cellsOf 27=10:=by kernel_rfl
theorem wo{us:List T}(h:cB Tryz.prog 3 us): ∃n,us=[I n]/\(Lit.int .i64 n).wf=true:=by
 cases h with
 |int h n a=>rw [Tryz.underlying3] at h;cases h;exact ⟨n,rfl,a⟩
 |bool h|str h|nil h|slice h|struct h|array h=>rw [Tryz.underlying3] at h;cases h
theorem IE{us:List T}(h:cB Tryz.prog 27 us): ∃x:List Int,us=x.map I/\x.length=10/\ ∀n∈x,(Lit.int .i64 n).wf=true:=by
 cases h with
 |array h us b d=>
  rw [Tryz.underlying27] at h;cases h;rw [Il] at b;have key: ∀i,i<10-> ∃n,us[i]? =some (I n)/\(Lit.int .i64 n).wf=true:=fun i a=>by
   obtain ⟨n,e,w⟩:=wo (d i a);rw [yN,Nat.mul_one,List.take_one] at e;refine ⟨n,?_,w⟩
   have:(us.drop i).head? =us[i]? :=by rw [List.head?_drop]
   rw [this] at e;cases c:us[i]? with
   |none=>rw [c] at e;cases e
   |some x=>rw [c] at e;cases e;rfl
  refine ⟨us.map fun t=>match t with|.int _ n=>n|_=>0,?_,by simpa using b,fun n g=>?_⟩
  ·refine List.ext_getElem? fun i=>?_
   rcases Nat.lt_or_ge i 10 with a|a
   ·obtain ⟨n,e,_⟩:=key i a;rw [e];simp [e]
   ·rw [List.getElem?_eq_none (by omega),List.getElem?_eq_none (by simp;omega)]
  ·obtain ⟨t,f,rfl⟩:=List.mem_map.1 g;obtain ⟨i,a⟩:=List.mem_iff_getElem?.1 f;obtain ⟨n,e,w⟩:=key i (by have:=(gsZ a).1;omega);rw [e] at a;cases a;exact w
 |int h|bool h|str h|nil h|slice h|struct h=>rw [Tryz.underlying27] at h;cases h
theorem Nz(us:List T):mkT Tryz.prog 27 us= .agg us:=by unfold mkT;rw [Tryz.underlying27]
end Go.MM
end
