/- Joined by program: parts of a data level over the model, of the program's functions over it, and of the statement's proof. -/
import Derived.Test.YtnfonfjleonbdaaGreatGd
import Derived.Test.YtnfonfjleonbdaaGreatGc
import Derived.WalkKit
import Derived.Lib.Walk
import Derived.Lib.SliceRun
import Derived.Laws.NewBlocks
import Derived.Laws.Externs
import Derived.Shelf.RegionOpenPlain
import Derived.Test.YtnfonfjleonbdaaGreatProg
import Derived.KernelRfl
import Derived.Shelf.Lays8
import Derived.LoopN
import Derived.Shelf.SlLaysF0
import Derived.Shelf.SlGeneric
set_option maxRecDepth 100000
set_option maxHeartbeats 8000000
section
namespace Go.ST
open Go Go.DL Go.MM Go.Proofs
open Go.TY hiding Fd
def Au(s:ByteArray)(n:Int):List (ByteArray×Int)->List (ByteArray×Int)
 |[]=>[(s,n)]
 |x::xs=>if x.1=s then (s,n)::xs else x::Au s n xs
def zh(m:List (ByteArray×Int))(s:ByteArray):Int:=((m.find? fun p=>decide (p.1=s)).map (·.2)).getD 0
def esC(m:List (ByteArray×Int)):List (T×T):=m.map fun p=>(T.str p.1,I p.2)
theorem Jo(a b:ByteArray):(a==b)=decide (a=b):=by
 obtain ⟨a⟩:=a;obtain ⟨b⟩:=b
 by_cases h:a=b
 ·subst h;rw [decide_eq_true rfl];show (a==a)=true
  simp
 ·rw [decide_eq_false (fun e=>h (ByteArray.mk.inj e))];show (a==b)=false
  exact beq_false_of_ne h
theorem HR(a b:ByteArray):eqL (T.str a).cells (T.str b).cells=decide (a=b):=by
 show ((a==b)&&true)=_
 rw [Bool.and_true,Jo]
theorem Gk(s:ByteArray)(n:Int): ∀m:List (ByteArray×Int),bC (.str s) (I n) (esC m)=esC (Au s n m)
 |[]=>rfl
 |x::xs=>by
  have a:=Gk s n xs;show cond (eqL (T.str s).cells (T.str x.1).cells) _ _=esC (Au s n (x::xs))
  rw [HR];unfold Au
  by_cases h:x.1=s
  ·rw [decide_eq_true h.symm,if_pos h];rfl
  ·rw [decide_eq_false (fun e=>h e.symm),if_neg h,cond_false];show (T.str x.1,I x.2)::bC (.str s) (I n) (esC xs)=_
   rw [a];rfl
theorem JQ(s:ByteArray)(m:List (ByteArray×Int)):oB (I 0) false (eA (T.str s).cells (esC m))=I (zh m s):=by
 have key:eA (T.str s).cells (esC m)=((m.find? fun p=>decide (p.1=s)).map (·.2)).map I:=by
  induction m with
  |nil=>rfl
  |cons x xs a=>
   show cond (eqL (T.str s).cells (T.str x.1).cells) (some (I x.2)) (eA (T.str s).cells (esC xs))=_
   rw [HR,a,List.find?_cons]
   by_cases h:x.1=s
   ·rw [decide_eq_true h.symm,decide_eq_true h];rfl
   ·rw [decide_eq_false (fun e=>h e.symm),decide_eq_false h];rfl
 rw [key];unfold zh;cases (m.find? fun p=>decide (p.1=s)) <;> rfl
theorem Gh(s t:ByteArray)(n:Int)(m:List (ByteArray×Int)):zh (Au s n m) t=if s=t then n else zh m t:=by
 unfold zh
 induction m with
 |nil=>unfold Au;by_cases h:s=t <;> simp [h]
 |cons x xs b=>
  unfold Au
  by_cases a:x.1=s
  ·rw [if_pos a,List.find?_cons,List.find?_cons]
   by_cases h:s=t
   ·simp [h]
   ·rw [decide_eq_false h,decide_eq_false (fun e=>h (a.symm.trans e)),if_neg h]
  ·rw [if_neg a,List.find?_cons,List.find?_cons]
   by_cases h:x.1=t
   ·rw [decide_eq_true h]
    have: ¬s=t:=fun e=>a (h.trans e.symm)
    rw [if_neg this]
   ·rw [decide_eq_false h];exact b
def AN(st:List RE):List (ByteArray×Int):=st.foldl (fun m e=>Au e.var (zh m e.var+1) m) []
theorem CU{st:List RE}{i:Nat}(h:i<st.length):AN (st.take (i+1))=Au st[i].var (zh (AN (st.take i)) st[i].var+1) (AN (st.take i)):=by
 unfold AN;rw [List.take_succ_eq_append_getElem h,List.foldl_append];rfl
theorem CT(st:List RE)(v:ByteArray): ∀i,i<=st.length->zh (AN (st.take i)) v=uC (st.take i) v:=by
 intro i
 induction i with
 |zero=>intro _;rfl
 |succ i b=>
  intro h;rw [CU h,Gh,Bz h]
  by_cases a:st[i].var=v
  ·subst a;rw [if_pos rfl,if_pos rfl,b (by omega)];rfl
  ·rw [if_neg a,if_neg a,b (by omega)];rfl
theorem JP{ks:List Nat}{bx:Nat->Option BX}{c:Bool}{b:List Sh}{d a:List (T×T)}(h:d=a):LeB ks bx (.m c b d none) (some (.m c b a none)):=by rw [h];exact .same _
theorem Jf(vars:List RV)(J:vars.length<2^60)(Q: ∀v∈vars,VOk v)(st:List RE)(U:st.length<2^60)(P: ∀e∈st,kOk e):DCalls Tryz.prog 23 [vsT vars,esT st] (I (zr vars st)):=by
 refine dl2 mixed [.tmp 4] [I _] Tryz.func23 l23 ?_
 skip
 refine tT (α:=Nat) (fun i=>{sl:=[(0,.t (vsT vars)),(1,.t (esT st)),(5,.mp 9),(10,.t (esT st)),(11,.t (I st.length)),(12,.t (I i))],bx:=[(9,.m false [.str] (esC (AN (st.take i))) none)]})
  (fun i=>i<=st.length/\zU vars (st.take i) (st.drop i)=zr vars st) (fun i=>st.length - i) 0 ⟨by omega,rfl⟩ ?_ ?_
 ·repeat' (first|(exact leI (by simp))|exact wJ|refine And.intro ?_ ?_)
 rintro i ⟨O,d⟩;rcases Nat.lt_or_ge i st.length with h|h
 ·have b:(i:Int)<(st.length:Int):=by omega
  rw [CN h] at d;have u:=GL vars st[i] J;have C:=P st[i] (List.getElem_mem h);have x:=Cc h;have a:zq vars (st.take i) st[i]=match varOf vars st[i].var with
   |none=>4
   |some v=>if xy v st[i] (st.take i)=false then 1 else if yH (st.take i) st[i]=true then 10 else if 100<=uC (st.take i) st[i].var then 2 else 0:=rfl
  rcases DS vars st[i].var with ⟨y,w⟩|⟨k,f,y,w⟩
  ·rw [y] at u;rw [w] at a;dsimp only at a;rw [a,if_neg (by decide)] at d;rw [<- d]
   repeat' ((conv=>whnf);first|exact trivial|refine sC b ?_|(refine nv_ (.agg (uk st[i])) (by first|exact uQ h) ?_)|refine uc _ (u) ?_|refine aD1 ?_|refine rix ?_|(refine And.intro (by first|exact uo _) ?_)|refine aS ?_|refine nT_ ?_)
  ·rw [y] at u;rw [w] at a;dsimp only at a;have z:=Kb vars[k] (Q _ (List.getElem_mem f)) st[i] C (st.take i) (by rw [List.length_take];omega);have E: ¬((k:Nat):Int)<0:=by omega
   cases F:xy vars[k] st[i] (st.take i) with
   |false=>
    rw [F] at z;rw [if_pos F] at a;rw [a,if_neg (by decide)] at d;rw [<- d]
    repeat' ((conv=>whnf);first|exact trivial|refine sC b ?_|(refine nv_ (.agg (uk st[i])) (by first|exact uQ h) ?_)|refine uc _ (u) ?_|refine su E ?_|(refine nv_ (.agg (uN vars[k])) (by first|exact xE f) ?_)|(refine nv_ (esT (st.take i)) (by first|exact yh) ?_)|refine uc _ (z) ?_|refine rix ?_|(refine And.intro (by first|exact uo _) ?_)|refine aS ?_|refine nT_ ?_)
   |true=>
    rw [F] at z;rw [if_neg (show ¬xy vars[k] st[i] (st.take i)=false by simp [F])] at a;have n:=JQ st[i].var (AN (st.take i));rw [CT st _ i O] at n;have H:=yj (st:=st.take i) (v:=st[i].var);rw [List.length_take] at H;have q:=Gk st[i].var (((uC (st.take i) st[i].var:Nat):Int)+1) (AN (st.take i));have D:=CU h;rw [CT st _ i O] at D;rw [<- D] at q;have K:IntKind.wrap .i64 (((uC (st.take i) st[i].var:Nat):Int)+1)=((uC (st.take i) st[i].var:Nat):Int)+1:=by rw [nW] <;> omega
    rw [<- K] at q
    by_cases N:0<i
    ·have g:(i:Int)>0:=by omega
     have j:i - 1<st.length:=by omega
     have A:IntKind.wrap .i64 ((i:Int) - 1)=((i - 1:Nat):Int):=by rw [nW] <;> omega
     have L:=xK (st[i - 1]'j) st[i] (P _ (List.getElem_mem j)) C;have T:=uv.r (st[i - 1]'j) st[i];rw [decide_eq_true N,Bool.true_and] at x;generalize S:ux (st[i - 1]'j) st[i]=c at *
     by_cases M:c= -1
     ·rw [show decide (c≠ -1)=false by simp [M]] at x;have p: ¬c>=0:=by omega
      rw [if_neg (by simp [x])] at a
      by_cases G:100<=uC (st.take i) st[i].var
      ·rw [if_pos G] at a;rw [a,if_neg (by decide)] at d;have B:((uC (st.take i) st[i].var:Nat):Int)>=100:=by omega
       rw [<- d]
       repeat' ((conv=>whnf);first|exact trivial|refine sC b ?_|refine sC g ?_|(refine nv_ (.agg (uk st[i])) (by first|exact uQ h) ?_)|(refine nv_ (.agg (uk (st[i - 1]'j))) (by first|((rw [A];exact uQ j);done)|fail) ?_)|refine uc _ (u) ?_|refine su E ?_|(refine nv_ (.agg (uN vars[k])) (by first|exact xE f) ?_)|(refine nv_ (esT (st.take i)) (by first|exact yh) ?_)|refine uc _ (z) ?_|refine uc _ (L) ?_|refine su p ?_|(refine nv_ (I (uC (st.take i) st[i].var:Nat)) (by first|exact n) ?_)|refine sC B ?_|refine rix ?_|(refine And.intro (by first|exact uo _|exact ⟨rfl,trivial,trivial⟩|exact ⟨rfl,rfl,trivial⟩|exact ⟨rfl,trivial⟩|(omega;done)|((rw [A];omega);done)|fail) ?_)|refine aS ?_|refine nT_ ?_)
      ·rw [if_neg G] at a;rw [a,if_pos rfl] at d;have B: ¬((uC (st.take i) st[i].var:Nat):Int)>=100:=by omega
       repeat' ((conv=>whnf);first|refine sC b ?_|refine sC g ?_|(refine nv_ (.agg (uk st[i])) (by first|exact uQ h) ?_)|(refine nv_ (.agg (uk (st[i - 1]'j))) (by first|((rw [A];exact uQ j);done)|fail) ?_)|refine uc _ (u) ?_|refine su E ?_|(refine nv_ (.agg (uN vars[k])) (by first|exact xE f) ?_)|(refine nv_ (esT (st.take i)) (by first|exact yh) ?_)|refine uc _ (z) ?_|refine uc _ (L) ?_|refine su p ?_|(refine nv_ (I (uC (st.take i) st[i].var:Nat)) (by first|exact n) ?_)|refine su B ?_|(refine And.intro (by first|exact uo _|exact ⟨rfl,trivial,trivial⟩|exact ⟨rfl,rfl,trivial⟩|exact ⟨rfl,trivial⟩|(omega;done)|((rw [A];omega);done)|fail) ?_)|refine aS ?_|refine nT_ ?_)
       exact ⟨i+1,⟨h,d⟩,by omega,by repeat' (first|(exact JP q.symm)|exact wJ|refine And.intro ?_ ?_)⟩
     ·rw [show decide (c≠ -1)=true by simp [M]] at x;have p:c>=0:=by omega
      rw [if_pos x] at a;rw [a,if_neg (by decide)] at d;rw [<- d]
      repeat' ((conv=>whnf);first|exact trivial|refine sC b ?_|refine sC g ?_|(refine nv_ (.agg (uk st[i])) (by first|exact uQ h) ?_)|(refine nv_ (.agg (uk (st[i - 1]'j))) (by first|((rw [A];exact uQ j);done)|fail) ?_)|refine uc _ (u) ?_|refine su E ?_|(refine nv_ (.agg (uN vars[k])) (by first|exact xE f) ?_)|(refine nv_ (esT (st.take i)) (by first|exact yh) ?_)|refine uc _ (z) ?_|refine uc _ (L) ?_|refine sC p ?_|refine rix ?_|(refine And.intro (by first|exact uo _|(omega;done)|((rw [A];omega);done)|fail) ?_)|refine aS ?_|refine nT_ ?_)
    ·have g: ¬(i:Int)>0:=by omega
     rw [decide_eq_false N,Bool.false_and] at x;rw [if_neg (by simp [x])] at a;have G: ¬100<=uC (st.take i) st[i].var:=by omega
     rw [if_neg G] at a;rw [a,if_pos rfl] at d;have B: ¬((uC (st.take i) st[i].var:Nat):Int)>=100:=by omega
     repeat' ((conv=>whnf);first|refine sC b ?_|refine su g ?_|(refine nv_ (.agg (uk st[i])) (by first|exact uQ h) ?_)|refine uc _ (u) ?_|refine su E ?_|(refine nv_ (.agg (uN vars[k])) (by first|exact xE f) ?_)|(refine nv_ (esT (st.take i)) (by first|exact yh) ?_)|refine uc _ (z) ?_|(refine nv_ (I (uC (st.take i) st[i].var:Nat)) (by first|exact n) ?_)|refine su B ?_|(refine And.intro (by first|exact uo _|exact ⟨rfl,trivial,trivial⟩|exact ⟨rfl,rfl,trivial⟩|exact ⟨rfl,trivial⟩) ?_)|refine aS ?_|refine nT_ ?_)
     exact ⟨i+1,⟨h,d⟩,by omega,by repeat' (first|(exact JP q.symm)|exact wJ|refine And.intro ?_ ?_)⟩
 ·have b: ¬(i:Int)<(st.length:Int):=by omega
  obtain rfl:i=st.length:=by omega
  rw [<- d,List.drop_length]
  repeat' ((conv=>whnf);first|refine su b ?_|refine rix ?_|refine aS ?_|exact trivial)
theorem JS{i j:Nat}(h:i+j<2^61):IntKind.wrap .i64 ((IntKind.wrap .u64 (IntKind.wrap .i64 ((i:Int)+(j:Int)))).fdiv (2^(min (1:Int).toNat (IntKind.bits .u64))))=(((i+j) / 2:Nat):Int):=by
 rw [nW (n:=(i:Int)+j) (by omega) (by omega)];have b: ∀n:Int,0<=n->n<18446744073709551616->IntKind.wrap .u64 n=n:=fun n d c=>by
  unfold IntKind.wrap;simp [IntKind.bits,IntKind.signed];omega
 rw [b ((i:Int)+j) (by omega) (by omega)];have a:((i:Int)+(j:Int)).fdiv (2^(min (1:Int).toNat (IntKind.bits .u64)))=(((i+j) / 2:Nat):Int):=by
  show ((i:Int)+(j:Int)).fdiv 2=_
  rw [Int.fdiv_eq_ediv_of_nonneg _ (by omega)];omega
 rw [a,nW (by omega) (by omega)]
def isE(st:List RE)(e:RE):Bool:=(uB st e.var e.key).isSome
theorem IC{st:List RE}(a:uH st){e:RE}(h:uP st e<st.length):isE st e=decide (ux st[uP st e] e=0):=by
 unfold isE;rw [yo a,ggZ h];dsimp only
 by_cases b:ux st[uP st e] e=0 <;> simp [b]
theorem EG{st:List RE}(a:uH st){e:RE}(h: ¬uP st e<st.length):isE st e=false:=by
 unfold isE;rw [yo a,List.getElem?_eq_none (by omega)];rfl
theorem HM(st:List RE)(u:uH st)(F:st.length<2^40)(C: ∀x∈st,kOk x)(e:RE)(w:kOk e):
  DCalls Tryz.prog 118 [esT st,um e,.clos 29 []] (.tup [I (uP st e),.bool (isE st e)]):=by
 refine dl2 mixed [.tmp 6,.tmp 7] [I _,.bool _] Tryz.func118 MJ ?_;have D:=Bo st e
 repeat' ((conv=>whnf);first|(refine And.intro (by first|exact uo _) ?_)|fail)
 refine tT (α:=Nat×Nat) (fun p=>{sl:=[(0,.t (esT st)),(2,.t (.clos 29 [])),(4,.ptr 4 0),(8,.t (I st.length)),(9,.t (I p.1)),(10,.t (I p.2))],bx:=[(4,.d 4 (uk e))]})
  (fun p=>p.1<=uP st e/\uP st e<=p.2/\p.2<=st.length) (fun p=>p.2 - p.1) (0,st.length) ⟨Nat.zero_le _,D,Nat.le_refl _⟩ ?_ ?_
 ·repeat' (first|(exact leI (by simp))|exact wJ|refine And.intro ?_ ?_)
 rintro ⟨i,j⟩ ⟨y,z,B⟩;dsimp only at y z B;rcases Nat.lt_or_ge i j with v|v
 ·have a:(i:Int)<(j:Int):=by omega
  have k:=JS (i:=i) (j:=j) (by omega);have b:(i+j) / 2<st.length:=by omega
  have m:=xK st[(i+j) / 2] e (C _ (List.getElem_mem b)) w;have A:=CB u (e:=e) b;have E:=uv.r st[(i+j) / 2] e;generalize ux st[(i+j) / 2] e=c at *
  by_cases f:c= -1
  ·have g:c<0:=by omega
   have q:=A.1 f
   repeat' ((conv=>whnf);first|refine sC a ?_|(refine nv_ (.agg (uk st[(i+j) / 2])) (by first|((dsimp only;rw [k,Int.toNat_natCast];exact uQ b);done)|fail) ?_)|refine uc _ (m) ?_|refine sC g ?_|(refine And.intro (by first|exact uo _|((dsimp only;rw [k];simp;omega);done)|fail) ?_)|refine aS ?_|refine nT_ ?_)
   exact ⟨((i+j) / 2+1,j),⟨q,z,B⟩,by dsimp only;omega,by repeat' (first|(exact leI (by dsimp only;rw [k,nW] <;> omega))|exact wJ|refine And.intro ?_ ?_)⟩
  ·have g: ¬c<0:=by omega
   have q:uP st e<=(i+j) / 2:=Nat.le_of_not_lt fun h=>f (A.2 h)
   repeat' ((conv=>whnf);first|refine sC a ?_|(refine nv_ (.agg (uk st[(i+j) / 2])) (by first|((dsimp only;rw [k,Int.toNat_natCast];exact uQ b);done)|fail) ?_)|refine uc _ (m) ?_|refine su g ?_|(refine And.intro (by first|exact uo _|((dsimp only;rw [k];simp;omega);done)|fail) ?_)|refine aS ?_|refine nT_ ?_)
   exact ⟨(i,(i+j) / 2),⟨y,q,by dsimp only;omega⟩,by dsimp only;omega,by repeat' (first|(exact leI k.symm)|exact wJ|refine And.intro ?_ ?_)⟩
 ·have a: ¬(i:Int)<(j:Int):=by omega
  obtain rfl:i=uP st e:=by omega
  rcases Nat.lt_or_ge (uP st e) st.length with b|b
  ·have n:((uP st e:Nat):Int)<(st.length:Int):=by omega
   have m:=xK st[uP st e] e (C _ (List.getElem_mem b)) w;rw [IC u b];generalize ux st[uP st e] e=c at *
   by_cases f:c=0
   ·rw [decide_eq_true f]
    repeat' ((conv=>whnf);first|exact trivial|refine su a ?_|refine sC n ?_|(refine nv_ (.agg (uk st[uP st e])) (by first|exact uQ b) ?_)|refine uc _ (m) ?_|refine sE f ?_|refine rb1 ?_|refine rix ?_|(refine And.intro (by first|exact uo _) ?_)|refine aS ?_|refine nT_ ?_)
   ·rw [decide_eq_false f]
    repeat' ((conv=>whnf);first|exact trivial|refine su a ?_|refine sC n ?_|(refine nv_ (.agg (uk st[uP st e])) (by first|exact uQ b) ?_)|refine uc _ (m) ?_|refine sD f ?_|refine rb0 ?_|refine rix ?_|(refine And.intro (by first|exact uo _) ?_)|refine aS ?_|refine nT_ ?_)
  ·have n: ¬((uP st e:Nat):Int)<(st.length:Int):=by omega
   rw [EG u (by omega)]
   repeat' ((conv=>whnf);first|refine su a ?_|refine su n ?_|refine rb0 ?_|refine rix ?_|refine aS ?_|exact trivial)
theorem ET(st:List RE)(a:uH st)(d:st.length<2^40)(b: ∀x∈st,kOk x)(e:RE)(c:kOk e):
  DCalls Tryz.prog 76 [esT st,um e,.clos 29 []] (.tup [I (uP st e),.bool (isE st e)]):=by
 refine dl2 mixed [.tmp 6,.tmp 7] [I _,.bool _] Tryz.func76 l76 ?_;have h:=HM st a d b e c
 repeat' ((conv=>whnf);first|refine uc _ (h) ?_|refine rbx ?_|refine rix ?_|(refine And.intro (by first|exact uo _) ?_)|exact trivial)
abbrev zE:T:=.agg [.str ⟨#[]⟩,.nil,I 0,I 0]
def G6(o:Option RE):T:=match o with
 |some e=>.tup [um e,.bool true]
 |none=>.tup [zE,.bool false]
theorem J4(st:List RE)(f:uH st)(n:st.length<2^40)(k: ∀x∈st,kOk x)(v:ByteArray)(key:List Int)(m:key.length<2^60):
  DCalls Tryz.prog 25 [esT st,.str v,.slice 1 (key.map I)] (G6 (uB st v key)):=by
 have h:=ET st f n k ⟨v,key,0,0⟩ m;have a:=yo f ⟨v,key,0,0⟩;dsimp only at a;have j:isE st ⟨v,key,0,0⟩=(uB st v key).isSome:=rfl;rw [j] at h;cases d:uB st v key with
 |none=>
  rw [d] at h;refine dl2 mixed [.cell 6 64,.tmp 7] [zE,.bool false] Tryz.func25 l25 ?_
  repeat' ((conv=>whnf);first|refine uc _ (h) ?_|refine rb0 ?_|refine aS ?_|exact trivial)
 |some x=>
  rw [d] at h a;have b:uP st ⟨v,key,0,0⟩<st.length:=by
   rcases Nat.lt_or_ge (uP st ⟨v,key,0,0⟩) st.length with c|c
   ·exact c
   ·rw [List.getElem?_eq_none c] at a;cases a
  rw [ggZ b] at a;dsimp only at a;have i:st[uP st ⟨v,key,0,0⟩]=x:=by
   split at a
   ·exact (Option.some.inj a).symm
   ·cases a
  have g:=uQ b;rw [i] at g;refine dl2 mixed [.cell 6 64,.tmp 7] [um x,.bool true] Tryz.func25 l25 ?_;generalize uP st ⟨v,key,0,0⟩=p at *
  repeat' ((conv=>whnf);first|exact trivial|refine uc _ (h) ?_|(refine nv_ (.agg (uk x)) (by first|exact g) ?_)|refine rb1 ?_|(refine And.intro (by first|exact uo _|((simp;omega);done)|fail) ?_)|refine aS ?_|refine nT_ ?_)
theorem JU(st:List RE)(J:st.length<2^60)(H: ∀x∈st,kOk x)(v:ByteArray)(key:List Int)(D:key.length<2^60):
  DCalls Tryz.prog 26 [esT st,.str v,.slice 1 (key.map I)] (G6 (uB st v key)):=by
 have M:((st.map um).length:Int)=st.length:=by rw [List.length_map]
 have C: ∀r,wpC Tryz.prog c26 (gA [esT st,.str v,.slice 1 (key.map I)]) (nX (dj Tryz.prog) [.cell 6 64,.tmp 7] r)->DCalls Tryz.prog 26 [esT st,.str v,.slice 1 (key.map I)] (lg r):=fun r E=>
  oi (rs:=[.cell 6 64,.tmp 7]) mixed Tryz.func26 l26 rfl rfl rfl (r:=r) (nlZ rfl) E
 have k: ∀r,(uB st v key=none->r=[zE,.bool false])->(∀ x,uB st v key=some x->r=[um x,.bool true])->wpC Tryz.prog c26 (gA [esT st,.str v,.slice 1 (key.map I)]) (nX (dj Tryz.prog) [.cell 6 64,.tmp 7] r):=fun r F z=>by
  skip
  refine tT (α:=Nat) (fun i=>{sl:=[(0,.t (esT st)),(1,.t (.str v)),(2,.t (.slice 1 (key.map I))),(6,.ptr 6 0),(8,.t (I i))],bx:=[(6,.d 4 [.str ⟨#[]⟩,.nil,I 0,I 0])]})
   (fun i=>i<=st.length/\uB st v key=uB (st.drop i) v key) (fun i=>st.length - i) 0 ⟨by omega,rfl⟩ ?_ ?_
  ·repeat' (first|exact wJ|refine And.intro ?_ ?_)
  rintro i ⟨K,f⟩;rcases Nat.lt_or_ge i st.length with h|h
  ·have g:(i:Int)<((st.map um).length:Int):=by omega
   have j:=eqS st[i].var v;have q:=A5 st[i].key key (H _ (List.getElem_mem h)) D;have hd:uB (st.drop i) v key=if st[i].var=v/\st[i].key=key then some st[i] else uB (st.drop (i+1)) v key:=by
    rw [List.drop_eq_getElem_cons h];unfold uB;rw [List.find?_cons]
    by_cases a:st[i].var=v <;> by_cases b:st[i].key=key <;> simp [a,b]
   have m:=wP (a:=st[i].key) (b:=key);have L:=uQ h;have G:(uk st[i])[1]?.getD .nil= .slice 1 (st[i].key.map I):=rfl
   by_cases n:st[i].var=v
   ·rw [decide_eq_true n] at j
    by_cases p:st[i].key=key
    ·rw [f,hd,if_pos ⟨n,p⟩] at z;obtain rfl:=z _ rfl;have m:=m.2 p;rw [m] at q
     repeat' ((conv=>whnf);first|exact trivial|refine sC g ?_|(refine nv_ (.agg (uk st[i])) (by first|exact uQ h) ?_)|refine nb_ _ j ?_|refine uc _ (q) ?_|refine aE1 ?_|refine rb1 ?_|(refine And.intro (by first|exact uo _) ?_)|refine aS ?_|refine nT_ ?_)
    ·rw [hd,if_neg (fun w=>p w.2)] at f;have u:u9 st[i].key key≠0:=fun e=>p (m.1 e)
     generalize u9 st[i].key key=c at *
     repeat' ((conv=>whnf);first|refine sC g ?_|(refine nv_ (.agg (uk st[i])) (by first|exact uQ h) ?_)|refine nb_ _ j ?_|refine uc _ (q) ?_|refine sD u ?_|refine aS ?_|refine nT_ ?_)
     exact ⟨i+1,⟨h,f⟩,by omega,by repeat' (first|exact wJ|refine And.intro ?_ ?_)⟩
   ·rw [decide_eq_false n] at j;rw [hd,if_neg (fun w=>n w.1)] at f
    repeat' ((conv=>whnf);first|refine sC g ?_|(refine nv_ (.agg (uk st[i])) (by first|exact uQ h) ?_)|refine nb_ _ j ?_|refine aS ?_|refine nT_ ?_)
    exact ⟨i+1,⟨h,f⟩,by omega,by repeat' (first|exact wJ|refine And.intro ?_ ?_)⟩
  ·have g: ¬(i:Int)<((st.map um).length:Int):=by omega
   rw [List.drop_eq_nil_of_le h] at f;obtain rfl:=F f
   repeat' ((conv=>whnf);first|refine su g ?_|refine rb0 ?_|refine aS ?_|exact trivial)
 cases f:uB st v key with
 |none=>exact C [zE,.bool false] (k [zE,.bool false] (fun _=>rfl) (fun x A=>by rw [f] at A;cases A))
 |some x=>exact C [um x,.bool true] (k [um x,.bool true] (fun h=>by rw [f] at h;cases h) (fun y B=>by rw [f] at B;cases B;rfl))
theorem Ax(e:RE): ∀(st:List RE) (d:Bool),(uF e d st).length<=st.length+1
 |[],d=>by unfold uF;split <;> simp
 |x::xs,true=>by
  have:=Ax e xs true
  have h:(uF e true xs).length<=xs.length:=by
   clear this
   induction xs with
   |nil=>simp [uF]
   |cons y ys b=>unfold uF;simp only [Bool.true_eq_false,and_false,if_false,List.nil_append,Bool.true_or,List.length_append,List.length_cons];split <;> simp <;> omega
  unfold uF;simp only [Bool.true_eq_false,and_false,if_false,List.nil_append,Bool.true_or,List.length_append,List.length_cons];split <;> simp <;> omega
 |x::xs,false=>by
  have c:=Ax e xs false;have h:(uF e true xs).length<=xs.length:=by
   clear c
   induction xs with
   |nil=>simp [uF]
   |cons y ys b=>unfold uF;simp only [Bool.true_eq_false,and_false,if_false,List.nil_append,Bool.true_or,List.length_append,List.length_cons];split <;> simp <;> omega
  unfold uF;rw [List.length_append,List.length_append,List.length_cons]
  by_cases a:ux x e= -1
  ·rw [if_neg (by simp [a]),if_pos (by omega),show (false||decide (ux x e≠ -1))=false by simp [a]];simp;omega
  ·rw [if_pos ⟨a,rfl⟩,show (false||decide (ux x e≠ -1))=true by simp [a]];split <;> simp <;> omega
theorem Dk(o:List RE)(y:RE):(o++[y]).map um=o.map um++[um y]:=by rw [List.map_append];rfl
theorem Ep(e x:RE)(xs:List RE)(d:Bool):uF e d (x::xs)=(if ux x e≠ -1/\d=false then [e] else [])++((if ux x e≠0 then [x] else [])++uF e (d||decide (ux x e≠ -1)) xs):=rfl
theorem Hl{st:List RE}{v:ByteArray}{i:Nat}(h:i<st.length):ofE (st.take (i+1)) v=ofE (st.take i) v++if st[i].var=v then [st[i]] else []:=by
 unfold ofE;rw [List.take_succ_eq_append_getElem h,List.filter_append]
 by_cases a:st[i].var=v <;> simp [a]
theorem NB(st:List RE)(v:ByteArray)(j:st.length<2^40):DCalls Tryz.prog 31 [esT st,.str v] (esT (ofE st v)):=by
 refine dl2 mixed [.tmp 4] [.slice 4 _] Tryz.func31 l31 ?_;have k:((st.map um).length:Int)=st.length:=by rw [List.length_map]
 skip
 refine tT (α:=Nat) (fun i=>{sl:=[(0,.t (esT st)),(1,.t (.str v)),(5,.own 26 64 4 ((ofE (st.take i) v).map um)),(6,.t (I i))],bx:=[]})
  (fun i=>i<=st.length) (fun i=>st.length - i) 0 (by simp) ?_ ?_
 ·repeat' (first|exact wJ|refine And.intro ?_ ?_)
 rintro i g;rcases Nat.lt_or_ge i st.length with h|h
 ·have a:(i:Int)<((st.map um).length:Int):=by omega
  have d:=eqS st[i].var v;have c:=Hl (v:=v) h;have f:(ofE (st.take i) v).length<=i:=by
   have:=yj (st:=st.take i) (v:=v)
   unfold uC at this;rw [List.length_take] at this;omega
  by_cases b:st[i].var=v
  ·rw [decide_eq_true b] at d;rw [if_pos b] at c
   repeat' ((conv=>whnf);first|refine sC a ?_|(refine nv_ (.agg (uk st[i])) (by first|exact uQ h) ?_)|refine nb_ _ d ?_|(refine And.intro (by first|exact uo _|((simp only [List.length_map];omega);done)|fail) ?_)|refine aS ?_|refine nT_ ?_)
   exact ⟨i+1,h,by omega,by repeat' (first|(exact ug (by rw [c];exact Dk _ _))|exact wJ|refine And.intro ?_ ?_)⟩
  ·rw [decide_eq_false b] at d;rw [if_neg b,List.append_nil] at c
   repeat' ((conv=>whnf);first|refine sC a ?_|(refine nv_ (.agg (uk st[i])) (by first|exact uQ h) ?_)|refine nb_ _ d ?_|refine aS ?_|refine nT_ ?_)
   exact ⟨i+1,h,by omega,by repeat' (first|(exact ug (by rw [c]))|exact wJ|refine And.intro ?_ ?_)⟩
 ·have a: ¬(i:Int)<((st.map um).length:Int):=by omega
  obtain rfl:i=st.length:=by omega
  rw [List.take_length]
  repeat' ((conv=>whnf);first|refine su a ?_|refine aS ?_|exact trivial)
theorem KU(st:List RE)(H:st.length<2^30)(G: ∀x∈st,kOk x)(e:RE)(B:kOk e):DCalls Tryz.prog 62 [esT st,um e] (esT (uF e false st)):=by
 refine dl2 mixed [.tmp 4] [.slice 4 _] Tryz.func62 l62 ?_;have J:((st.map um).length:Int)=st.length:=by rw [List.length_map]
 have y:=Ax e st false
 repeat' ((conv=>whnf);first|(refine And.intro (by first|exact uo _) ?_)|fail)
 refine tx 0 (α:=Nat×Bool×Nat×List RE) (β:=Bool×Nat×List RE) (fun p=>{sl:=[(0,.t (esT st)),(3,.ptr 3 0),(5,.own p.2.2.1 64 4 (p.2.2.2.map um)),(6,.t (.bool p.2.1)),(7,.t (I p.1))],bx:=[(3,.d 4 (uk e))]})
  (fun p=>p.1<=st.length/\(p.2.2.1=30\/p.2.2.1=39)/\p.2.2.2++uF e p.2.1 (st.drop p.1)=uF e false st) (fun p=>st.length - p.1)
  (fun q=>{sl:=[(3,.ptr 3 0),(5,.own q.2.1 64 4 (q.2.2.map um)),(6,.t (.bool q.1))],bx:=[(3,.d 4 (uk e))]}) (fun q=>(q.2.1=30\/q.2.1=39)/\q.2.2++uF e q.1 []=uF e false st) (0,false,30,[]) ⟨by simp,Or.inl rfl,rfl⟩ ?_ ?_ ?_
 ·repeat' (first|exact wJ|refine And.intro ?_ ?_)
 ·rintro ⟨i,d,r,a⟩ ⟨D,g,f⟩;dsimp only at D g f;have j:a.length<=st.length+1:=by
   have:=congrArg List.length f
   rw [List.length_append] at this;omega
  rcases Nat.lt_or_ge i st.length with h|h
  ·have m:(i:Int)<((st.map um).length:Int):=by omega
   rw [List.drop_eq_getElem_cons h,Ep] at f;have A:=C4 st[i] e (G _ (List.getElem_mem h)) B;have w:=uQ h;obtain ⟨x,C⟩: ∃x,st[i]=x:=⟨_,rfl⟩
   rw [C] at f A w;have E:=uv.r x e;generalize ux x e=c at *
   clear y
   repeat' ((conv=>whnf);first|refine sC m ?_|refine aS ?_|fail)
   refine tV (β:=Unit) (fun _=>{sl:=[(0,.t (esT st)),(3,.ptr 3 0),(5,.own r 64 4 (a.map um)),(6,.t (.bool d)),(7,.t (I i)),(8,.t (I c))],bx:=[(3,.d 4 (uk e))]}) (fun _=>True) ?_ ?_
   ·repeat' ((conv=>whnf);first|(refine nv_ (.agg (uk x)) (by first|exact w) ?_)|refine uc _ (A) ?_|(exact ⟨(),trivial,by (repeat' (first|exact wJ|refine And.intro ?_ ?_));done⟩)|(refine And.intro (by first|exact uo _) ?_)|refine aS ?_|refine nT_ ?_)
   rintro _ _
   skip
   refine tV (β:=Bool×Nat×List RE) (fun p=>{sl:=[(0,.t (esT st)),(3,.ptr 3 0),(5,.own p.2.1 64 4 (p.2.2.map um)),(6,.t (.bool p.1)),(7,.t (I i)),(8,.t (I c))],bx:=[(3,.d 4 (uk e))]})
    (fun p=>(p.2.1=30\/p.2.1=39)/\p.2.2.length<=st.length+2/\p.2.2++((if c≠0 then [x] else [])++uF e p.1 (st.drop (i+1)))=uF e false st) ?_ ?_
   ·by_cases u:c>=0
    ·have hd:decide (c≠ -1)=true:=by simp;omega
     rw [hd,Bool.or_true] at f;cases d with
     |false=>
      rw [if_pos ⟨by omega,rfl⟩, <-List.append_assoc] at f;have b:(30=30\/30=39)/\(a++[e]).length<=st.length+2/\(a++[e])++((if c≠0 then [x] else [])++uF e true (st.drop (i+1)))=uF e false st:=⟨Or.inl rfl,by rw [List.length_append,List.length_cons,List.length_nil];omega,f⟩
      clear f;rcases g with rfl|rfl <;> repeat' ((conv=>whnf);first|refine sC u ?_|(exact ⟨(true,30,a++[e]),b,by (repeat' (first|(exact ug (Dk a e))|exact wJ|refine And.intro ?_ ?_));done⟩)|refine aS ?_|fail)
     |true=>
      rw [if_neg (by simp),List.nil_append] at f;have b: ∀r,(r=30\/r=39)->(r=30\/r=39)/\a.length<=st.length+2/\a++((if c≠0 then [x] else [])++uF e true (st.drop (i+1)))=uF e false st:=fun r g=>⟨g,by omega,f⟩
      clear f;rcases g with rfl|rfl
      ·repeat' ((conv=>whnf);first|refine sC u ?_|(exact ⟨(true,30,a),b 30 (Or.inl rfl),by (repeat' (first|exact wJ|refine And.intro ?_ ?_));done⟩)|refine aS ?_|fail)
      ·repeat' ((conv=>whnf);first|refine sC u ?_|(exact ⟨(true,39,a),b 39 (Or.inr rfl),by (repeat' (first|exact wJ|refine And.intro ?_ ?_));done⟩)|refine aS ?_|fail)
    ·have hd:decide (c≠ -1)=false:=by simp;omega
     rw [hd,Bool.or_false,if_neg (fun F=>F.1 (by omega)),List.nil_append] at f;have b: ∀r,(r=30\/r=39)->(r=30\/r=39)/\a.length<=st.length+2/\a++((if c≠0 then [x] else [])++uF e d (st.drop (i+1)))=uF e false st:=fun r g=>⟨g,by omega,f⟩
     clear f;rcases g with rfl|rfl
     ·repeat' ((conv=>whnf);first|refine su u ?_|(exact ⟨(d,30,a),b 30 (Or.inl rfl),by (repeat' (first|exact wJ|refine And.intro ?_ ?_));done⟩)|refine aS ?_|fail)
     ·repeat' ((conv=>whnf);first|refine su u ?_|(exact ⟨(d,39,a),b 39 (Or.inr rfl),by (repeat' (first|exact wJ|refine And.intro ?_ ?_));done⟩)|refine aS ?_|fail)
   clear g f j;rintro ⟨d,r,a⟩ ⟨g,j,k⟩;dsimp only at g j k;have n:st.length - (i+1)<st.length - i:=by omega
   by_cases v:c=0
   ·rw [if_neg (by omega),List.nil_append] at k;rcases g with rfl|rfl
    ·have b:i+1<=st.length/\(30=30\/30=39)/\a++uF e d (st.drop (i+1))=uF e false st:=⟨h,Or.inl rfl,k⟩
     clear k
     repeat' ((conv=>whnf);first|refine sF v ?_|(exact ⟨(i+1,d,30,a),b,n,by (repeat' (first|exact wJ|refine And.intro ?_ ?_));done⟩)|refine aS ?_|fail)
    ·have b:i+1<=st.length/\(39=30\/39=39)/\a++uF e d (st.drop (i+1))=uF e false st:=⟨h,Or.inr rfl,k⟩
     clear k
     repeat' ((conv=>whnf);first|refine sF v ?_|(exact ⟨(i+1,d,39,a),b,n,by (repeat' (first|exact wJ|refine And.intro ?_ ?_));done⟩)|refine aS ?_|fail)
   ·rw [if_pos v, <-List.append_assoc] at k;have b:i+1<=st.length/\(39=30\/39=39)/\(a++[x])++uF e d (st.drop (i+1))=uF e false st:=⟨h,Or.inr rfl,k⟩
    clear k;rcases g with rfl|rfl <;> repeat' ((conv=>whnf);first|refine sG v ?_|(refine nv_ (.agg (uk x)) (by first|exact w) ?_)|(exact ⟨(i+1,d,39,a++[x]),b,n,by (repeat' (first|(exact ug (Dk a x))|exact wJ|refine And.intro ?_ ?_));done⟩)|(refine And.intro (by first|exact uo _|((simp only [List.length_map];omega);done)|fail) ?_)|refine aS ?_|refine nT_ ?_)
  ·have m: ¬(i:Int)<((st.map um).length:Int):=by omega
   rw [List.drop_eq_nil_of_le h] at f
   repeat' ((conv=>whnf);first|refine su m ?_|(exact ⟨(d,r,a),⟨g,f⟩,by (repeat' (first|exact wJ|refine And.intro ?_ ?_));done⟩)|refine aS ?_|fail)
 ·rintro ⟨d,r,a⟩ ⟨g,f⟩;dsimp only at g f;have j:a.length<=st.length+1:=by
   have:=congrArg List.length f
   rw [List.length_append] at this;omega
  rw [<- f];cases d with
  |false=>
   have z:uF e false []=[e]:=rfl;rw [z,Dk];rcases g with rfl|rfl <;> repeat' ((conv=>whnf);first|refine aS ?_|exact trivial)
  |true=>
   have z:uF e true []=[]:=rfl;rw [z,List.append_nil];rcases g with rfl|rfl <;> repeat' ((conv=>whnf);first|refine aS ?_|exact trivial)
end Go.ST
end
section
namespace Go.ST
open Go Go.DL Go.MM Go.Proofs
abbrev zeV:Value:=.agg #[.string ByteArray.empty,.slice none 0 0,.int .i64 0,.int .i64 0]
theorem yG:(Tryz.prog.info? 64).map (fun i=>(i.zero,i.size,i.bytes))=some (some zeV,4,56):=by kernel_rfl
theorem uZ:Tryz.prog.underlying 25=some (.slice 64):=by kernel_rfl
abbrev uz(k:Nat):Array Value:=Builtin.zeroCells zeV.cells k
theorem C5(w:World)(p:TypeId)(base:Option Addr)(n c:Nat)(d:List Value)(g:(Builtin.firstCells 4 n (.slice base n c)).run Tryz.prog w.drew= .ok d.toArray w.drew)(b off m f:Nat)(a:List Value)(r:a.length=m * 4)
  (y: ∀j u,a[j]? =some u->w.cell? ⟨b,off+j,none⟩=some u) (t: ∀u∈a,u.oneCell'=true) (q:c<n+m) (A:(n+m) * 56<=140737488355328):
  (Builtin.append_ #[25,25] p #[.slice base n c,.slice (some ⟨b,off,none⟩) m f]).run Tryz.prog w=
   .ok (.slice (some ⟨w.heap.size,0,none⟩) (n+m) (grownCap w (n+m) c 64)) (w.drew.alloc (.cells ((d++a).toArray++uz (grownCap w (n+m) c 64 - (n+m))) 64)):=by
 obtain ⟨i0,x,i,h,k⟩:=info_parts yG;have z:Src Tryz.prog i0.size 25 (.slice (some ⟨b,off,none⟩) m f) m a w:=by
  rw [h];exact Src.ofSlice w uZ ⟨b,off,none⟩ m f a r (fun j u v=>by rw [Addr.add_lit];exact y j u v) t
 exact run_append_grow_src w 25 25 p 64 i0 zeV uZ x i base n c d (by rw [h];exact g) _ m a z q (by omega) (by rw [k];exact growslice_fits q A)
theorem nil_eq(w:World)(a:Option Addr)(n c b d:Nat):(binOp .eql 25 (.slice a n c) (.slice none b d)).run Tryz.prog w= .ok (.bool a.isNone) w:=Lib.run_eql_slice_nil w _ _ a n c b d uZ
theorem Ex(b off n c:Nat)(a:List Value)(w:World)(z:0<n)(m:a.length=n * 4)(y:n * 56<=140737488355328)(q: ∀j u,a[j]? =some u->w.cell? ⟨b,off+j,none⟩=some u)(p: ∀u∈a,u.oneCell'=true):
  Calls Tryz.prog 114 #[.slice (some ⟨b,off,none⟩) n c] w fun e t=> ∃G,n<=G/\G<=maxLen/\e= .returned (.slice (some ⟨w.heap.size+1,0,none⟩) n G)/\
   t=((w.alloc (.cells #[] 64)).drew.alloc (.cells (a.toArray++uz (G - n)) 64)):=by
 have x:=nil_eq;have k: ∀w,Sem.run Tryz.prog (underlying 25) w= .ok (TypeDesc.slice 64) w:=run_underlying uZ;have mx:=mixed;have h:=fun r=>C5 (w.alloc (.cells #[] 64)) r (some ⟨w.heap.size,0,none⟩) 0 0 [] (run_firstCells_some (P:=Tryz.prog) (w.alloc (.cells #[] 64)).drew 4 0 ⟨w.heap.size,0,none⟩ 0 0 [] rfl (fun j v g=>by simp at g)) b off n c a m (fun j u g=>Lib.cell?_alloc_some _ (q j u g)) p (by omega) (by omega)
 simp only [Nat.zero_add,List.nil_append] at h;have f:=grownCap_ge (w.alloc (.cells #[] 64)) n 0 64;have i:=grownCap_le_maxLen (w.alloc (.cells #[] 64)) n 0 64 (by unfold maxLen;omega);generalize grownCap (w.alloc (.cells #[] 64)) n 0 64=G at *
 have d:(w.alloc (.cells #[] 64)).heap.size=w.heap.size+1:=Array.size_push _;rw [d] at h
 go_enter Tryz.func114,Tryz.ntmps114
 go_wp2_with (at_builtin;refine Lib.wpList_append_run _ rfl _ _ _ _ rfl _ _ rfl rfl _ _ (h _) ?_)
 go_ret
 exact ⟨G,f,i,rfl,rfl⟩
theorem Du(a:Option Addr)(c:Nat)(w:World):Calls Tryz.prog 114 #[.slice a 0 c] w fun e f=> ∃b,e= .returned (.slice b 0 0)/\(f=w\/f=w.alloc (.cells #[] 64)):=by
 have q:=nil_eq;have g: ∀w,Sem.run Tryz.prog (underlying 25) w= .ok (TypeDesc.slice 64) w:=run_underlying uZ;have mx:=mixed;obtain ⟨i0,h,i,k,p⟩:=info_parts yG;cases a with
 |none=>
  go_enter Tryz.func114,Tryz.ntmps114
  go_wp2
  go_ret
  exact ⟨_,rfl,Or.inl rfl⟩
 |some a=>
  have n:=fun m=>run_append_room_src (P:=Tryz.prog) (w.alloc (.cells #[] 64)) 25 25 m 64 i0 uZ h w.heap.size 0 0 0 (.slice (some a) 0 c) 0 [] (Src.ofSlice (P:=Tryz.prog) (size:=i0.size) (w.alloc (.cells #[] 64)) uZ a 0 c [] (by simp) (fun j u d=>by simp at d) (by simp)) (by omega) (fun j d=>by simp at d) (fun j d=>by simp at d)
  go_enter Tryz.func114,Tryz.ntmps114
  go_wp2_with (at_builtin;refine Lib.wpList_append_run _ rfl _ _ _ _ rfl _ _ rfl rfl _ _ (n _) ?_)
  go_ret
  exact ⟨_,rfl,Or.inr rfl⟩
theorem zS{P:Program}{b:Array Oper}{o:Oper}{a:Act}{w:World}{K:Act->World->Prop}{Q:Exit->Act->World->Prop}{E:Prop}
  (p:o.guard=none) (d x:Operand) (h i:TypeId) (c:o.op=Op.call {callee:=Callee.builtin Builtin.copy,args:= #[d,x],argTypes:= #[h,i]})
  (v u:Value) (hd:a.eval d=v) (m:a.eval x=u) {g:Value} {f:World} (j:(Builtin.copy_ #[h,i] o.type #[v,u]).run P w= .ok g f) (k:K (a.put o.dst g) f):
  if Region.wanted o (yielded b a.tmps)=true then Oper.wp P o a w K Q else E:=by
 have n:Region.wanted o (yielded b a.tmps)=true:=by simp [Region.wanted,p]
 rw [if_pos n];unfold Oper.wp;simp [execOp,c,resolve,invoke,builtin,hd,m,j,Result.andThen];exact k
theorem vM(b:Nat)(vs:List Value)(o:Nat)(w:World)(h: ∀j,j<vs.length->(w.cell? ⟨b,o+j,none⟩).isSome=true)(k:Nat)(a:(w.cell? ⟨b,k,none⟩).isSome=true):((w.setCells b o vs).cell? ⟨b,k,none⟩).isSome=true:=by
 by_cases c:o<=k/\k<o+vs.length
 ·have:=World.cell?_setCells_in b vs o w h (k - o) (by omega)
  rw [show o+(k - o)=k by omega] at this;rw [this];rfl
 ·rw [World.cell?_setCells_out b vs o w ⟨b,k,none⟩ (fun _ _=>by show k<o\/o+vs.length<=k;omega)];exact a
theorem szE:(Tryz.prog.info? 64).map (·.size)=some 4:=by
 obtain ⟨i0,c,b,a,d⟩:=info_parts yG;rw [c];simp [a]
theorem Jb(w:World):(Go.sizeOf 64).run Tryz.prog w= .ok 4 w:=by
 obtain ⟨i0,c,b,a,d⟩:=info_parts yG;simp [Go.sizeOf,typeInfo,c,a]
theorem Gf(b off n c i vb a vc:Nat)(g vs:List Value)(w:World)(hi:i<n)(bp:n+1<=c)(Me:c<=9223372036854775807)(z:vb≠b)
  (B:g.length=n * 4) (K:vs.length=4)
  (M: ∀j v,g[j]? =some v->w.cell? ⟨b,off+j,none⟩=some v) (m: ∀j,j<(n+1) * 4->(w.cell? ⟨b,off+j,none⟩).isSome=true) (u: ∀j,j<(n+1) * 4->w.frozen? ⟨b,off+j,none⟩=false)
  (N: ∀j v,vs[j]? =some v->w.cell? ⟨vb,a+j,none⟩=some v) (I: ∀v∈g,v.oneCell'=true) (T: ∀v∈vs,v.oneCell'=true)
  (X V:TypeId) (F H:Nat) (Q:w.shape? vb=some (X,F)) (O:w.shape? b=some (V,H)) (P:H≠0) (G:w.frozen? ⟨vb,a,none⟩=false) (L:w.frozen? ⟨vb,F,none⟩=false):
  Calls Tryz.prog 176 #[.slice (some ⟨b,off,none⟩) n c,.int .i64 i,.slice (some ⟨vb,a,none⟩) 1 vc] w fun e w'=>
   e= .returned (.slice (some ⟨b,off,none⟩) (n+1) c)/\w'=(w.drew.setCells b (off+(i+1) * 4) (g.drop (i * 4))).setCells b (off+i * 4) vs:=by
 have u24: ∀w,Sem.run Tryz.prog (underlying 25) w= .ok (TypeDesc.slice 64) w:=run_underlying uZ;have mx:=mixed;have hz2: ¬((i:Int)=(n:Int)):=by omega
 have r:=szE;have D: ∀S C,(callFunc 192 #[.slice (some ⟨vb,a,none⟩) 1 vc,.slice (some ⟨b,off+(i+1) * 4,none⟩) S C]).run Tryz.prog w= .ok (.value (.bool false)) w:=fun S C=>by
  rw [run_callFunc_extern Tryz.func192 (by kernel_rfl) (by kernel_rfl) (by kernel_rfl) (e:=Extern.SlicesOverlaps.overlaps #[25,25] #[4]) (by kernel_rfl),
   Lib.run_overlaps_apart w 25 4 64 uZ 4 Jb ⟨vb,a,none⟩ ⟨b,off+(i+1) * 4,none⟩ 1 vc S C z X V F H Q O P G L]
  rfl
 have J:(g.drop (i * 4)).length=(n - i) * 4:=by rw [List.length_drop,B];omega
 have U: ∀p q A,(Builtin.copy_ #[25,25] p #[.slice (some ⟨b,off+(i+1) * 4,none⟩) (n - i) q,.slice (some ⟨b,off+i * 4,none⟩) (n+1 - i) A]).run Tryz.prog w.drew= .ok (goInt (Nat.min (n+1 - i) (n - i))) (w.drew.setCells b (off+(i+1) * 4) (g.drop (i * 4))):=fun p q A=>
  sO w.drew _ _ p 64 4 b (off+(i+1) * 4) (n - i) q ⟨b,off+i * 4,none⟩ (n+1 - i) A (g.drop (i * 4)) uZ r (by rw [J];simp only [Nat.min_def];split <;> omega)
   (fun j v f=>by rw [Addr.add_lit,Nat.add_assoc];exact M (i * 4+j) v (by rwa [List.getElem?_drop] at f))
   (fun j f=>by rw [Nat.add_assoc];exact m _ (by omega)) (fun j f=>by rw [Nat.add_assoc];exact u _ (by omega)) (fun v hv=>I v (List.mem_of_mem_drop hv))
 obtain ⟨t,d⟩: ∃t,t=w.drew.setCells b (off+(i+1) * 4) (g.drop (i * 4)):=⟨_,rfl⟩
 have Ms: ∀k,k<(n+1) * 4->(t.cell? ⟨b,off+k,none⟩).isSome=true:=fun k hk=>by
  rw [d];exact vM b _ _ _ (fun j f=>by rw [Nat.add_assoc];exact m _ (by omega)) _ (m k hk)
 have Y: ∀(W:World),(∀ x,W.cell? x=t.cell? x)->(∀ x,W.frozen? x=t.frozen? x)-> ∀p q,(Builtin.copy_ #[25,25] p #[.slice (some ⟨b,off+i * 4,none⟩) (n+1 - i) q,.slice (some ⟨vb,a,none⟩) 1 vc]).run Tryz.prog W= .ok (goInt (Nat.min 1 (n+1 - i))) (W.setCells b (off+i * 4) vs):=fun W y E p q=>
  sO W _ _ p 64 4 b (off+i * 4) (n+1 - i) q ⟨vb,a,none⟩ 1 vc vs uZ r (by rw [K];simp only [Nat.min_def];split <;> omega)
   (fun j v f=>by
    rw [Addr.add_lit,y,d,World.cell?_setCells_out b _ _ _ _ (fun h _=>absurd h z)];exact N j v f)
   (fun j f=>by rw [y,Nat.add_assoc];exact Ms _ (by omega)) (fun j f=>by rw [E,d,World.frozen?_setCells,Nat.add_assoc];exact u _ (by omega)) T
 rw [<- d] at U;have hw1:IntKind.i64.wrap ((i:Int)+1)=(i:Int)+1:=by rw [IntKind.wrap_i64];omega
 have hw2:IntKind.i64.wrap ((n:Int)+1)=(n:Int)+1:=by rw [IntKind.wrap_i64];omega
 have hb1:(0:Int)<=(i:Int)+1:=by omega
 have hin:i<=n:=by omega
 have htn:((i:Int)+1).toNat=i+1:=by omega
 have NU:((n:Int)+1).toNat=n+1:=by omega
 have hb2: ¬(c=i+1):=by omega
 have Z:(i:Int)<=(n:Int)+1:=by omega
 have hb4: ¬(c=i):=by omega
 go_enter Tryz.func176,Tryz.ntmps176
 go_wp2_with (simp only [D])
 go_region_law_o (refine zS rfl _ _ 25 25 rfl _ _ (by simp [Act.eval,Act.put]) (by simp [Act.eval,Act.put]) (U _ _ _) ?_)
 go_wp2_with (at_builtin;refine wpList_copy_run' _ rfl _ _ 25 25 rfl _ _ rfl rfl (Y _ (fun _=>rfl) (fun _=>rfl) _ _) ?_)
 go_ret
 first|exact ⟨rfl,rfl⟩|exact ⟨rfl,by rw [d]⟩
theorem Hg(b off n c vb a vc:Nat)(vs:List Value)(w:World)(B:n+1<=c)(C:c<=9223372036854775807)
  (f:vs.length=4) (g: ∀j,j<4->(w.cell? ⟨b,off+n * 4+j,none⟩).isSome=true) (h: ∀j,j<4->w.frozen? ⟨b,off+n * 4+j,none⟩=false)
  (i: ∀j v,vs[j]? =some v->w.cell? ⟨vb,a+j,none⟩=some v) (k: ∀v∈vs,v.oneCell'=true):
  Calls Tryz.prog 176 #[.slice (some ⟨b,off,none⟩) n c,.int .i64 n,.slice (some ⟨vb,a,none⟩) 1 vc] w fun e y=>
   e= .returned (.slice (some ⟨b,off,none⟩) (n+1) c)/\y=w.setCells b (off+n * 4) vs:=by
 have p: ∀w,Sem.run Tryz.prog (underlying 25) w= .ok (TypeDesc.slice 64) w:=run_underlying uZ;have mx:=mixed;obtain ⟨i0,r,t,d,A⟩:=info_parts yG;have z:Src Tryz.prog i0.size 25 (.slice (some ⟨vb,a,none⟩) 1 vc) 1 vs w:=by
  rw [d];exact Src.ofSlice w uZ ⟨vb,a,none⟩ 1 vc vs (by omega) (fun j u q=>by rw [Addr.add_lit];exact i j u q) k
 have m:=fun x=>run_append_room_src w 25 25 x 64 i0 uZ r b off n c _ 1 vs z B (by rw [f,d];exact g) (by rw [f,d];exact h)
 rw [d] at m
 go_enter Tryz.func176,Tryz.ntmps176
 go_wp2_with (at_builtin;refine Lib.wpList_append_run _ rfl _ _ _ _ rfl _ _ rfl rfl _ _ (m _) ?_)
 go_ret
 exact ⟨rfl,rfl⟩
theorem CY(base:Option Addr)(n c vb b vc:Nat)(g vs:List Value)(w:World)(u:c<n+1)(t:(n+1) * 56<=140737488355328)
  (k:vs.length=4) (d:(Builtin.firstCells 4 n (.slice base n c)).run Tryz.prog w.drew= .ok g.toArray w.drew)
  (f: ∀j v,vs[j]? =some v->w.cell? ⟨vb,b+j,none⟩=some v) (h: ∀v∈vs,v.oneCell'=true):
  Calls Tryz.prog 176 #[.slice base n c,.int .i64 n,.slice (some ⟨vb,b,none⟩) 1 vc] w fun e r=>
   e= .returned (.slice (some ⟨w.heap.size,0,none⟩) (n+1) (grownCap w (n+1) c 64))/\
   r=w.drew.alloc (.cells ((g++vs).toArray++uz (grownCap w (n+1) c 64 - (n+1))) 64):=by
 have p: ∀w,Sem.run Tryz.prog (underlying 25) w= .ok (TypeDesc.slice 64) w:=run_underlying uZ;have mx:=mixed;have i:=fun q=>C5 w q base n c g d vb b 1 vc vs (by omega) f h u t
 go_enter Tryz.func176,Tryz.ntmps176
 cases base with
 |none=>
  go_wp2_with (at_builtin;refine Lib.wpList_append_run _ rfl _ _ _ _ rfl _ _ rfl rfl _ _ (i _) ?_)
  all_goals (go_ret;exact ⟨rfl,rfl⟩)
 |some a=>
  obtain ⟨x,y,m⟩:=a
  go_wp2_with (at_builtin;refine Lib.wpList_append_run _ rfl _ _ _ _ rfl _ _ rfl rfl _ _ (i _) ?_)
  all_goals (go_ret;exact ⟨rfl,rfl⟩)
theorem Hf(b off n c i vb d vc:Nat)(m vs:List Value)(w:World)(hi:i<n)(hnc:n<=c)(bp:c<n+1)(iI:(n+1) * 56<=140737488355328)
  (S:m.length=n * 4) (Z:vs.length=4)
  (C: ∀j v,m[j]? =some v->w.cell? ⟨b,off+j,none⟩=some v)
  (J: ∀j v,vs[j]? =some v->w.cell? ⟨vb,d+j,none⟩=some v) (h1c: ∀v∈m,v.oneCell'=true) (P: ∀v∈vs,v.oneCell'=true):
  Calls Tryz.prog 176 #[.slice (some ⟨b,off,none⟩) n c,.int .i64 i,.slice (some ⟨vb,d,none⟩) 1 vc] w fun e w'=>
   e= .returned (.slice (some ⟨w.heap.size,0,none⟩) (n+1) (grownCap w (n+1) c 64))/\
   w'=(((w.alloc (.cells ((m.take (i * 4)).toArray++uz (n+1 - i)++uz (grownCap w (n+1) c 64 - (n+1))) 64)).drew.setCells w.heap.size (i * 4) vs).drew).setCells w.heap.size ((i+1) * 4) (m.drop (i * 4)):=by
 have u24: ∀w,Sem.run Tryz.prog (underlying 25) w= .ok (TypeDesc.slice 64) w:=run_underlying uZ;have mx:=mixed;obtain ⟨i0,T,hz0,hzs,K⟩:=info_parts yG;have hz2: ¬((i:Int)=(n:Int)):=by omega
 have hz3:(c:Int)<(n:Int)+1:=by omega
 have I:=szE;have Q:b<w.heap.size:=block_lt_of_cell (C 0 _ (ggZ (by omega)));have U:vb<w.heap.size:=block_lt_of_cell (J 0 _ (ggZ (by omega)));have E:(n:Int)+1 - (i:Int)=((n+1 - i:Nat):Int):=by omega
 have A:i+(n+1 - i)=n+1:=by omega
 have y:(Builtin.firstCells i0.size i (.slice (some ⟨b,off,none⟩) i c)).run Tryz.prog w.drew= .ok (m.take (i * 4)).toArray w.drew:=by
  rw [hzs];exact run_firstCells_some w.drew 4 i ⟨b,off,none⟩ i c (m.take (i * 4)) (by rw [List.length_take];omega) (fun j v f=>by
   rw [Addr.add_lit];rw [List.getElem?_take] at f;split at f
   ·exact C j v f
   ·cases f)
 have H:Tryz.prog.underlying 3=some (.int .i64):=by kernel_rfl
 have u: ∀p,(Builtin.append_ #[25,3] p #[.slice (some ⟨b,off,none⟩) i c,.int .i64 ((n:Int)+1 - (i:Int))]).run Tryz.prog w=
   .ok (.slice (some ⟨w.heap.size,0,none⟩) (n+1) (grownCap w (n+1) c 64)) (w.drew.alloc (.cells ((m.take (i * 4)).toArray++uz (n+1 - i)++uz (grownCap w (n+1) c 64 - (n+1))) 64)):=fun p=>by
  have h:=Lib.run_append_grow_zeros w 25 3 p 64 i0 _ .i64 .i64 uZ H T hz0 (some ⟨b,off,none⟩) i c (m.take (i * 4)) y (n+1 - i) (by omega) (by omega) (by omega) (by omega) (by rw [K];omega) (by rw [K,A];exact growslice_fits bp iI);rw [A] at h;rw [E];exact h
 obtain ⟨G,L⟩: ∃G,G=grownCap w (n+1) c 64:=⟨_,rfl⟩
 obtain ⟨a,V⟩: ∃a:Array Value,a=(m.take (i * 4)).toArray++uz (n+1 - i)++uz (G - (n+1)):=⟨_,rfl⟩
 rw [<- L] at u ⊢;rw [<- V] at u ⊢;have D: ∀k,(uz k).size=k * 4:=fun k=>by simp [uz,Builtin.zeroCells,Value.cells]
 have hRl:(n+1) * 4<=a.size:=by
  rw [V,Array.size_append,Array.size_append,D,D,List.size_toArray,List.length_take];omega
 obtain ⟨r,g⟩: ∃r,r=w.drew.alloc (.cells a 64):=⟨_,rfl⟩
 rw [<- g] at u;have Y: ∀j,j<(n+1) * 4->(r.cell? ⟨w.heap.size,j,none⟩).isSome=true:=fun j f=>by
  rw [g,World.cell?_alloc_at (w:=w.drew) a _ w.heap.size j rfl,Array.getElem?_eq_getElem (by omega)];rfl
 have F: ∀j,r.frozen? ⟨w.heap.size,j,none⟩=false:=fun j=>by rw [g];exact World.frozen?_alloc_at (w:=w.drew) a _ w.heap.size j rfl
 have hOb: ∀j v,w.cell? ⟨b,j,none⟩=some v->r.cell? ⟨b,j,none⟩=some v:=fun j v h=>by rw [g,World.cell?_alloc_past (w:=w.drew) _ b j Q];exact h
 have O: ∀j v,w.cell? ⟨vb,j,none⟩=some v->r.cell? ⟨vb,j,none⟩=some v:=fun j v h=>by rw [g,World.cell?_alloc_past (w:=w.drew) _ vb j U];exact h
 have Mg: ∀(W:World),(∀ x,W.cell? x=r.cell? x)->(∀ x,W.frozen? x=r.frozen? x)-> ∀p B,(Builtin.copy_ #[25,25] p #[.slice (some ⟨w.heap.size,i * 4,none⟩) (n+1 - i) B,.slice (some ⟨vb,d,none⟩) 1 vc]).run Tryz.prog W= .ok (goInt (Nat.min 1 (n+1 - i))) (W.setCells w.heap.size (i * 4) vs):=fun W q z p B=>
  sO W _ _ p 64 4 w.heap.size (i * 4) (n+1 - i) B ⟨vb,d,none⟩ 1 vc vs uZ I (by rw [Z];simp only [Nat.min_def];split <;> omega)
   (fun j v f=>by rw [Addr.add_lit,q];exact O _ v (J j v f))
   (fun j f=>by rw [q];exact Y _ (by omega)) (fun j f=>by rw [z];exact F _) P
 have hGn:n+1<=G:=by rw [L];exact grownCap_ge w _ _ _
 have NM:G<=9223372036854775807:=by
  have:=grownCap_le_maxLen w (n+1) c 64 (by unfold maxLen;omega)
  rw [<- L] at this;unfold maxLen at this;omega
 have hGi: ¬(G=i):=by omega
 have NN: ¬(G=i+1):=by omega
 have hci: ¬(c=i):=by omega
 have N:b≠w.heap.size:=by omega
 have hdl:(m.drop (i * 4)).length=(n - i) * 4:=by rw [List.length_drop,S];omega
 have JB: ∀(W:World),(∀ x,W.cell? x=(r.setCells w.heap.size (i * 4) vs).cell? x)->(∀ x,W.frozen? x=(r.setCells w.heap.size (i * 4) vs).frozen? x)-> ∀p B M,(Builtin.copy_ #[25,25] p #[.slice (some ⟨w.heap.size,(i+1) * 4,none⟩) (n - i) B,.slice (some ⟨b,off+i * 4,none⟩) (n - i) M]).run Tryz.prog W= .ok (goInt (Nat.min (n - i) (n - i))) (W.setCells w.heap.size ((i+1) * 4) (m.drop (i * 4))):=fun W q z p B M=>
  sO W _ _ p 64 4 w.heap.size ((i+1) * 4) (n - i) B ⟨b,off+i * 4,none⟩ (n - i) M (m.drop (i * 4)) uZ I (by rw [hdl];simp only [Nat.min_def];split <;> omega)
   (fun j v f=>by
    rw [Addr.add_lit,q,World.cell?_setCells_out _ _ _ _ _ (fun h _=>absurd h N),Nat.add_assoc];exact hOb _ v (C (i * 4+j) v (by rwa [List.getElem?_drop] at f)))
   (fun j f=>by rw [q];exact vM _ _ _ _ (fun t ht=>Y _ (by omega)) _ (Y _ (by omega)))
   (fun j f=>by rw [z,World.frozen?_setCells];exact F _) (fun v hv=>h1c v (List.mem_of_mem_drop hv))
 subst g;have X: ∀x,((w.alloc (.cells a 64)).drew).cell? x=(w.drew.alloc (.cells a 64)).cell? x:=fun x=>rfl
 have hE2: ∀x,((w.alloc (.cells a 64)).drew).frozen? x=(w.drew.alloc (.cells a 64)).frozen? x:=fun x=>rfl
 have hF1: ∀x,(((w.alloc (.cells a 64)).drew.setCells w.heap.size (i * 4) vs).drew).cell? x=((w.drew.alloc (.cells a 64)).setCells w.heap.size (i * 4) vs).cell? x:=fun x=>rfl
 have hF2: ∀x,(((w.alloc (.cells a 64)).drew.setCells w.heap.size (i * 4) vs).drew).frozen? x=((w.drew.alloc (.cells a 64)).setCells w.heap.size (i * 4) vs).frozen? x:=fun x=>rfl
 have hw1:IntKind.i64.wrap ((i:Int)+1)=(i:Int)+1:=by rw [IntKind.wrap_i64];omega
 have hw2:IntKind.i64.wrap ((n:Int)+1)=(n:Int)+1:=by rw [IntKind.wrap_i64];omega
 have hw3:IntKind.i64.wrap ((n:Int)+1 - (i:Int))=(n:Int)+1 - (i:Int):=by rw [IntKind.wrap_i64];omega
 have hb1:(0:Int)<=(i:Int)+1:=by omega
 have hin:i<=n:=by omega
 have htn:((i:Int)+1).toNat=i+1:=by omega
 have hb3:(i:Int)<=(n:Int):=by omega
 clear E A y V L hRl
 go_enter Tryz.func176,Tryz.ntmps176
 go_wp2_with (first
  |(at_builtin;refine Lib.wpList_append_run _ rfl _ _ _ _ rfl _ _ rfl rfl _ _ (u _) ?_)
  |(at_builtin;refine wpList_copy_run' _ rfl _ _ 25 25 rfl _ _ rfl rfl (Mg _ X hE2 _ _) ?_)
  |(at_builtin;refine wpList_copy_run' _ rfl _ _ 25 25 rfl _ _ rfl rfl (JB _ (fun _=>rfl) (fun _=>rfl) _ _ _) ?_))
 go_region_law_o (refine zS rfl _ _ 25 25 rfl (.slice (some ⟨w.heap.size,(i+1) * 4,none⟩) (n - i) (G - (i+1))) (.slice (some ⟨b,off+i * 4,none⟩) (n - i) (c - i)) (by simp [Act.eval,Act.put]) (by simp [Act.eval,Act.put]) (JB _ hF1 hF2 3 (G - (i+1)) (c - i)) ?_)
 go_wp2
 go_ret
 exact ⟨rfl,rfl⟩
theorem ve{B:Nat}{a:World}(b:Nat)(c:B<=b): ∀(vs:List Value) (o:Nat) (w:World),DL.Below B a w->DL.Below B a (w.setCells b o vs)
 |[],_,_,h=>h
 |v::r,o,_,h=>ve b c r (o+1) _ ⟨h.toBelow.setCell (p:=⟨b,o,none⟩) c v,h.dr⟩
theorem AL{w:World}{r i n:Nat}{b vs:List Value}(g:b.length=n * 4)(c:vs.length=4)(p:i<=n)(h: ∀(j:Nat) (v:Value),j<i * 4->b[j]? =some v->w.cell? ⟨r,j,none⟩=some v)(k: ∀(j:Nat) (v:Value),vs[j]? =some v->w.cell? ⟨r,i * 4+j,none⟩=some v)
  (m: ∀(j:Nat) (v:Value),(b.drop (i * 4))[j]? =some v->w.cell? ⟨r,(i+1) * 4+j,none⟩=some v): ∀(j:Nat) (u:Value),(b.take (i * 4)++(vs++b.drop (i * 4)))[j]? =some u->w.cell? ⟨r,j,none⟩=some u:=by
 intro j u a;have d:(b.take (i * 4)).length=i * 4:=by rw [List.length_take];omega
 by_cases f:j<i * 4
 ·rw [List.getElem?_append_left (by omega),List.getElem?_take_of_lt f] at a;exact h j u f a
 ·rw [List.getElem?_append_right (by omega),d] at a
  by_cases q:j - i * 4<4
  ·rw [List.getElem?_append_left (by omega)] at a
   have:=k _ u a
   rwa [show i * 4+(j - i * 4)=j by omega] at this
  ·rw [List.getElem?_append_right (by omega),c] at a
   have:=m _ u a
   rwa [show (i+1) * 4+(j - i * 4 - 4)=j by omega] at this
theorem IB{W:World}{base g n G i vb:Nat}{A:Array Value}{m vs:List Value}(U:W.heap[g]? =some (.cells A 64 (0,0)))(dU:A.size=G * 4)(J: ∀(j:Nat) (v:Value),m[j]? =some v->A[j]? =some v)(q:m.length=n * 4)
  (a:W.heap[vb]? =some (.cells vs.toArray 64 (0,0))) (t:vs.length=4) (hne:vb≠g) (hn:0<n) (Z:n<=G) (hG:G<=9223372036854775807) (hi:i<=n) (iI:(n+1) * 56<=140737488355328)
  (P: ∀v∈m,v.oneCell'=true) (D: ∀v∈vs,v.oneCell'=true) (y:base<=g) (x:base<=W.heap.size):
  Calls Tryz.prog 176 #[.slice (some ⟨g,0,none⟩) n G,.int .i64 i,.slice (some ⟨vb,0,none⟩) 1 1] W fun e K=> ∃r c,e= .returned (.slice (some ⟨r,0,none⟩) (n+1) c)/\n+1<=c/\base<=r/\r<K.heap.size/\DL.Below base W K/\
   ∀(j:Nat) (u:Value),(m.take (i * 4)++(vs++m.drop (i * 4)))[j]? =some u->K.cell? ⟨r,j,none⟩=some u:=by
 have T: ∀j,W.cell? ⟨g,j,none⟩=A[j]? :=fun j=>cell_of_row _ _ _ _ _ _ U
 have cv: ∀j,W.cell? ⟨vb,j,none⟩=vs[j]? :=fun j=>by rw [cell_of_row _ _ _ _ _ _ a];simp
 have fg: ∀j,W.frozen? ⟨g,j,none⟩=false:=fun j=>by unfold World.frozen?;simp [U]
 have fv: ∀j,W.frozen? ⟨vb,j,none⟩=false:=fun j=>by unfold World.frozen?;simp [a]
 have Q:g<W.heap.size:=(Array.getElem?_eq_some_iff.1 U).1;have V: ∀j v,m[j]? =some v->W.cell? ⟨g,0+j,none⟩=some v:=fun j v h=>by rw [Nat.zero_add,T];exact J j v h
 have S: ∀j v,vs[j]? =some v->W.cell? ⟨vb,0+j,none⟩=some v:=fun j v h=>by rw [Nat.zero_add,cv];exact h
 have sg:W.shape? g=some (64,G * 4):=by unfold World.shape?;simp [U,dU]
 have sv:W.shape? vb=some (64,4):=by unfold World.shape?;simp [a,t]
 have f: ∀j,j<G * 4->(W.cell? ⟨g,j,none⟩).isSome=true:=fun j d=>by rw [T,Array.getElem?_eq_getElem (by omega)];rfl
 have z: ∀(w:World) b o (vs:List Value),(w.setCells b o vs).heap.size=w.heap.size:=by
  intro w b o vs
  induction vs generalizing w o with
  |nil=>rfl
  |cons v r ih=>rw [World.setCells,ih];simp [World.setCell]
 rcases Nat.lt_or_ge i n with N|N
 ·rcases Nat.lt_or_ge n G with F|F
  ·refine (Gf g 0 n G i vb 0 1 m vs W N F hG hne q t V (fun j d=>by rw [Nat.zero_add];exact f j (by omega)) (fun j _=>by rw [Nat.zero_add];exact fg j) S P D _ _ _ _ sv sg (by omega) (fv 0) (fv 4)).mono ?_;rintro e K ⟨rfl,rfl⟩;simp only [Nat.zero_add];refine ⟨g,G,rfl,F,y,by rw [z,z];exact Q,ve g y _ _ _ (ve g y _ _ _ (DL.Below.refl _ _).drew),?_⟩;have hdl:(m.drop (i * 4)).length=(n - i) * 4:=by rw [List.length_drop,q];omega
   have s1: ∀k,k<G * 4->((W.drew.setCells g ((i+1) * 4) (m.drop (i * 4))).cell? ⟨g,k,none⟩).isSome=true:=fun k E=>vM g (m.drop (i * 4)) ((i+1) * 4) W.drew (fun j d=>f ((i+1) * 4+j) (by omega)) k (f k E)
   refine AL q t hi (fun j v d a=>?_) (fun j v a=>?_) (fun j v a=>?_)
   ·rw [World.cell?_setCells_out _ _ _ _ _ (fun _ _=>by left;show j<i * 4;omega),World.cell?_setCells_out _ _ _ _ _ (fun _ _=>by left;show j<(i+1) * 4;omega)];show W.cell? _=_
    rw [T];exact J j v a
   ·have d:=(gsZ a).1
    have:=World.cell?_setCells_in g vs (i * 4) _ (fun k E=>s1 _ (by omega)) j d
    rw [this, <-a,ggZ d]
   ·have d:=(gsZ a).1;rw [World.cell?_setCells_out _ _ _ _ _ (fun _ _=>by right;show i * 4+vs.length<=(i+1) * 4+j;omega)]
    have:=World.cell?_setCells_in g (m.drop (i * 4)) ((i+1) * 4) W.drew (fun k E=>f _ (by omega)) j d
    rw [this, <-a,ggZ d]
  ·refine (Hf g 0 n G i vb 0 1 m vs W N Z (by omega) iI q t V S P D).mono ?_;rintro e K ⟨rfl,rfl⟩;have H:=grownCap_ge W (n+1) G 64;generalize grownCap W (n+1) G 64=C at *
   have M: ∀k,(uz k).size=k * 4:=fun k=>by simp [uz,Builtin.zeroCells,Value.cells]
   obtain ⟨p,BP⟩: ∃p:Array Value,p=(m.take (i * 4)).toArray++uz (n+1 - i)++uz (C - (n+1)):=⟨_,rfl⟩
   rw [<- BP];have hRl:(n+1) * 4<=p.size:=by
    rw [BP,Array.size_append,Array.size_append,M,M,List.size_toArray,List.length_take];omega
   have X: ∀j v,j<i * 4->m[j]? =some v->p[j]? =some v:=fun j v d a=>by
    rw [BP,Array.getElem?_append_left (by rw [Array.size_append,M,List.size_toArray,List.length_take];omega),Array.getElem?_append_left (by rw [List.size_toArray,List.length_take];omega),List.getElem?_toArray,List.getElem?_take_of_lt d];exact a
   have Y:(W.alloc (.cells p 64)).heap.size=W.heap.size+1:=Array.size_push _;have hN: ∀j,(W.alloc (.cells p 64)).drew.cell? ⟨W.heap.size,j,none⟩=p[j]? :=fun j=>World.cell?_alloc_at p _ W.heap.size j rfl
   have L: ∀j,j<(n+1) * 4->((W.alloc (.cells p 64)).drew.cell? ⟨W.heap.size,j,none⟩).isSome=true:=fun j d=>by rw [hN,Array.getElem?_eq_getElem (by omega)];rfl
   refine ⟨W.heap.size,C,rfl,H,x,?_,ve _ x _ _ _ (ve _ x _ _ _ (((DL.Below.refl _ _).alloc x _).drew)).drew,?_⟩
   ·rw [z];show _<(World.setCells _ _ _ _).heap.size
    rw [z];show _<(W.alloc _).heap.size
    rw [Y];omega
   have hdl:(m.drop (i * 4)).length=(n - i) * 4:=by rw [List.length_drop,q];omega
   obtain ⟨I,B⟩: ∃I,I=(W.alloc (.cells p 64)).drew.setCells W.heap.size (i * 4) vs:=⟨_,rfl⟩
   rw [<- B];have s1: ∀k,k<(n+1) * 4->(I.drew.cell? ⟨W.heap.size,k,none⟩).isSome=true:=fun k E=>by
    show (I.cell? _).isSome=true
    rw [B];exact vM W.heap.size vs (i * 4) _ (fun j d=>L (i * 4+j) (by omega)) k (L k E)
   refine AL q t hi (fun j v d a=>?_) (fun j v a=>?_) (fun j v a=>?_)
   ·rw [World.cell?_setCells_out _ _ _ _ _ (fun _ _=>by left;show j<(i+1) * 4;omega)];show I.cell? _=_
    rw [B,World.cell?_setCells_out _ _ _ _ _ (fun _ _=>by left;show j<i * 4;omega),hN];exact X j v d a
   ·have d:=(gsZ a).1;rw [World.cell?_setCells_out _ _ _ _ _ (fun _ _=>by left;show i * 4+j<(i+1) * 4;omega)];show I.cell? _=_
    rw [B]
    have:=World.cell?_setCells_in W.heap.size vs (i * 4) _ (fun k E=>L _ (by omega)) j d
    rw [this, <-a,ggZ d]
   ·have d:=(gsZ a).1
    have:=World.cell?_setCells_in W.heap.size (m.drop (i * 4)) ((i+1) * 4) I.drew (fun k E=>s1 _ (by omega)) j d
    rw [this, <-a,ggZ d]
 ·obtain rfl:i=n:=by omega
  have ht:m.take (i * 4)=m:=List.take_of_length_le (by omega);have hd:m.drop (i * 4)=[]:=List.drop_eq_nil_of_le (by omega);rcases Nat.lt_or_ge i G with F|F
  ·refine (Hg g 0 i G vb 0 1 vs W F hG t (fun j d=>by rw [Nat.zero_add];exact f _ (by omega)) (fun j _=>fg _) S D).mono ?_;rintro e K ⟨rfl,rfl⟩;simp only [Nat.zero_add];refine ⟨g,G,rfl,F,y,by rw [z];exact Q,ve g y _ _ _ (DL.Below.refl _ _),?_⟩;refine AL q t hi (fun j v d a=>?_) (fun j v a=>?_) (fun j v a=>?_)
   ·rw [World.cell?_setCells_out _ _ _ _ _ (fun _ _=>by left;show j<i * 4;omega),T];exact J j v a
   ·have d:=(gsZ a).1
    have:=World.cell?_setCells_in g vs (i * 4) W (fun k E=>f _ (by omega)) j d
    rw [this, <-a,ggZ d]
   ·rw [hd] at a;simp at a
  ·have O:(Builtin.firstCells 4 i (.slice (some ⟨g,0,none⟩) i G)).run Tryz.prog W.drew= .ok m.toArray W.drew:=
    run_firstCells_some W.drew 4 i ⟨g,0,none⟩ i G m q (fun j v d=>by rw [Addr.add_lit];exact V j v d)
   refine (CY (some ⟨g,0,none⟩) i G vb 0 1 m vs W (by omega) iI t O S D).mono ?_;rintro e K ⟨rfl,rfl⟩;have H:=grownCap_ge W (i+1) G 64;generalize grownCap W (i+1) G 64=C at *
   refine ⟨W.heap.size,C,rfl,H,x,?_,(DL.Below.refl _ _).drew.alloc x _,?_⟩
   ·show _<(W.drew.alloc _).heap.size
    have:(W.drew.alloc (.cells ((m++vs).toArray++uz (C - (i+1))) 64)).heap.size=W.heap.size+1:=Array.size_push _
    rw [this];omega
   ·intro j u hu;rw [ht,hd,List.append_nil] at hu;rw [World.cell?_alloc_at (w:=W.drew) _ _ W.heap.size j rfl,Array.getElem?_append_left (by rw [List.size_toArray];exact (gsZ hu).1),List.getElem?_toArray];exact hu
theorem IV(v0:Value)(i g t m:Value)(hc: ∀x∈[i,g,t,m],x.oneCell'=true)(b off n J:Nat)(a:List Value)(w:World)(p:Nat)(V:0<n)(hp:p<=n)(L:a.length=n * 4)(iI:(n+1) * 56<=140737488355328)
  (N:v0= .slice (some ⟨b,off,none⟩) n J) (U: ∀j u,a[j]? =some u->w.cell? ⟨b,off+j,none⟩=some u) (Q: ∀u∈a,u.oneCell'=true)
  (wV:Calls Tryz.prog 76 #[v0,.agg #[i,g,t,m],.func (.func 29) #[] #[]] (w.alloc (.cells #[i,g,t,m] 64)) fun e y=>e= .returned (.tuple #[.int .i64 p,.bool false])/\DL.Below (w.heap.size+1) (w.alloc (.cells #[i,g,t,m] 64)) y):
  Calls Tryz.prog 139 #[v0,.agg #[i,g,t,m]] w fun e y=> ∃r c,e= .returned (.slice (some ⟨r,0,none⟩) (n+1) c)/\n+1<=c/\w.heap.size<=r/\r<y.heap.size/\DL.Below w.heap.size w y/\
   ∀(j:Nat) (u:Value),(a.take (p * 4)++([i,g,t,m]++a.drop (p * 4)))[j]? =some u->y.cell? ⟨r,j,none⟩=some u:=by
 have mx:=mixed;have q22:=nil_eq;have W: ∀w,Sem.run Tryz.prog (underlying 25) w= .ok (TypeDesc.slice 64) w:=run_underlying uZ;subst N;have X:b<w.heap.size:=block_lt_of_cell (U 0 _ (ggZ (by omega)));have xN: ∀d,DL.Below (w.heap.size+1) (w.alloc (.cells #[i,g,t,m] 64)) d-> ∀j u,a[j]? =some u->d.cell? ⟨b,off+j,none⟩=some u:=fun d h j u M=>by
  rw [h.toBelow.cell (p:=⟨b,off+j,none⟩) (by show b<w.heap.size+1;omega)];exact Lib.cell?_alloc_some _ (U j u M)
 have S: ∀d f G,DL.Below (w.heap.size+1) (w.alloc (.cells #[i,g,t,m] 64)) d->f=(d.alloc (.cells #[] 64)).drew.alloc (.cells (a.toArray++uz (G - n)) 64)->
   f.cell? ⟨w.heap.size,0,none⟩=some i/\f.cell? ⟨w.heap.size,1,none⟩=some g/\f.cell? ⟨w.heap.size,2,none⟩=some t/\f.cell? ⟨w.heap.size,3,none⟩=some m/\DL.Below w.heap.size w f/\w.heap.size<d.heap.size/\f.heap.size=d.heap.size+2/\f.heap[d.heap.size+1]? =some (.cells (a.toArray++uz (G - n)) 64 (0,0)):=by
  intro d f G I E;have hs0:(w.alloc (.cells #[i,g,t,m] 64)).heap.size=w.heap.size+1:=Array.size_push _;have H:w.heap.size<d.heap.size:=by have:=I.toBelow.size;omega
  have B:(d.alloc (.cells #[] 64)).heap.size=d.heap.size+1:=Array.size_push _;have F:f.heap.size=d.heap.size+2:=by
   rw [E]
   have:((d.alloc (.cells #[] 64)).drew.alloc (.cells (a.toArray++uz (G - n)) 64)).heap.size=(d.alloc (.cells #[] 64)).heap.size+1:=Array.size_push _
   rw [this,B]
  have K: ∀(j:Nat) (u:Value), #[i,g,t,m][j]? =some u->f.cell? ⟨w.heap.size,j,none⟩=some u:=fun j u M=>by
   rw [E];refine Lib.cell?_alloc_some _ ?_;show (d.alloc (.cells #[] 64)).cell? _=_
   refine Lib.cell?_alloc_some _ ?_;rw [I.toBelow.cell (p:=⟨w.heap.size,j,none⟩) (by show w.heap.size<w.heap.size+1;omega),World.cell?_alloc_at _ _ w.heap.size j rfl];exact M
  refine ⟨K 0 i rfl,K 1 g rfl,K 2 t rfl,K 3 m rfl,?_,H,F,?_⟩
  ·rw [E];exact (((((DL.Below.refl _ w).alloc (Nat.le_refl _) _).trans (I.mono (Nat.le_succ _))).alloc (by omega) _).drew).alloc (by show w.heap.size<=(d.alloc _).heap.size;rw [B];omega) _
  ·rw [E];show (((d.alloc (.cells #[] 64)).heap.push (.cells (a.toArray++uz (G - n)) 64)))[d.heap.size+1]? =_
   rw [<- B];exact Array.getElem?_push_size
 have P: ∀k,(uz k).size=k * 4:=fun k=>by simp [uz,Builtin.zeroCells,Value.cells]
 have G9: ∀d f G,n<=G->G<=maxLen->DL.Below (w.heap.size+1) (w.alloc (.cells #[i,g,t,m] 64)) d->f=(d.alloc (.cells #[] 64)).drew.alloc (.cells (a.toArray++uz (G - n)) 64)->
   Calls Tryz.prog 176 #[.slice (some ⟨d.heap.size+1,0,none⟩) n G,.int .i64 p,.slice (some ⟨f.heap.size,0,none⟩) 1 1] (f.alloc (.cells #[i,g,t,m] 64)) fun e y=> ∃r c,e= .returned (.slice (some ⟨r,0,none⟩) (n+1) c)/\n+1<=c/\w.heap.size<=r/\r<y.heap.size/\DL.Below w.heap.size w y/\
    ∀(j:Nat) (u:Value),(a.take (p * 4)++([i,g,t,m]++a.drop (p * 4)))[j]? =some u->y.cell? ⟨r,j,none⟩=some u:=by
  intro d f G D z I E;obtain ⟨-, -, -, -,hB,H,F,mI⟩:=S d f G I E;have Kv:(f.alloc (.cells #[i,g,t,m] 64)).heap[d.heap.size+1]? =some (.cells (a.toArray++uz (G - n)) 64 (0,0)):=by
   rw [DL.Below.heap_alloc _ _ _ (by omega)];exact mI
  have O:(f.alloc (.cells #[i,g,t,m] 64)).heap[f.heap.size]? =some (.cells [i,g,t,m].toArray 64 (0,0)):=Array.getElem?_push_size;have hsv:(f.alloc (.cells #[i,g,t,m] 64)).heap.size=f.heap.size+1:=Array.size_push _;refine (IB (base:=w.heap.size) Kv (by rw [Array.size_append,P,List.size_toArray,L];omega) (fun j v T=>by rw [Array.getElem?_append_left (by rw [List.size_toArray];exact (gsZ T).1),List.getElem?_toArray];exact T) L O rfl (by omega) V D (by unfold maxLen at z;omega) hp iI Q hc (by omega) (by omega)).mono ?_;rintro e y ⟨r,c,rfl,Y,q2,q3,q4,q5⟩;exact ⟨r,c,rfl,Y,q2,q3,(hB.alloc (by omega) _).trans q4,q5⟩
 go_enter Tryz.func139,Tryz.ntmps139
 go_wp2_with (first
  |(go_at_call 76;refine wV.mono ?_;rintro e d ⟨rfl,A⟩)
  |(go_at_call 114;refine (Ex b off n J a d V L (by omega) (xN d A) Q).mono ?_;rintro e f ⟨G,D,z,rfl,C⟩;obtain ⟨k0,k1,k2,k3, -⟩:=S d f G A C;have Z:Aside (f=(d.alloc (.cells #[] 64)).drew.alloc (.cells (a.toArray++uz (G - n)) 64)):=C;clear C)
  |(go_at_call 176;refine (G9 d f G D z A Z.out).mono ?_;rintro e w3 ⟨r,c,rfl,q⟩))
 go_ret
 exact ⟨r,c,rfl,q⟩
theorem IW(f d h g:Value)(S: ∀x∈[f,d,h,g],x.oneCell'=true)(a:Option Addr)(m:Nat)(w:World)
  (T:Calls Tryz.prog 76 #[.slice a 0 m,.agg #[f,d,h,g],.func (.func 29) #[] #[]] (w.alloc (.cells #[f,d,h,g] 64)) fun e k=>e= .returned (.tuple #[.int .i64 0,.bool false])/\DL.Below (w.heap.size+1) (w.alloc (.cells #[f,d,h,g] 64)) k):
  Calls Tryz.prog 139 #[.slice a 0 m,.agg #[f,d,h,g]] w fun e k=> ∃r c,e= .returned (.slice (some ⟨r,0,none⟩) 1 c)/\1<=c/\w.heap.size<=r/\r<k.heap.size/\DL.Below w.heap.size w k/\
   ∀(j:Nat) (u:Value),[f,d,h,g][j]? =some u->k.cell? ⟨r,j,none⟩=some u:=by
 have mx:=mixed;have X:=nil_eq;have I: ∀w,Sem.run Tryz.prog (underlying 25) w= .ok (TypeDesc.slice 64) w:=run_underlying uZ;have M: ∀i b:World,DL.Below (w.heap.size+1) (w.alloc (.cells #[f,d,h,g] 64)) i->(b=i\/b=i.alloc (.cells #[] 64))->
   b.cell? ⟨w.heap.size,0,none⟩=some f/\b.cell? ⟨w.heap.size,1,none⟩=some d/\b.cell? ⟨w.heap.size,2,none⟩=some h/\b.cell? ⟨w.heap.size,3,none⟩=some g/\DL.Below w.heap.size w b:=by
  intro i b G K;have P:(w.alloc (.cells #[f,d,h,g] 64)).heap.size=w.heap.size+1:=Array.size_push _;have Q:w.heap.size<i.heap.size:=by have:=G.toBelow.size;omega
  have A: ∀(j:Nat) (u:Value), #[f,d,h,g][j]? =some u->i.cell? ⟨w.heap.size,j,none⟩=some u:=fun j u n=>by
   rw [G.toBelow.cell (p:=⟨w.heap.size,j,none⟩) (by show w.heap.size<w.heap.size+1;omega),World.cell?_alloc_at _ _ w.heap.size j rfl];exact n
  have B:DL.Below w.heap.size w i:=((DL.Below.refl _ w).alloc (Nat.le_refl _) _).trans (G.mono (Nat.le_succ _));rcases K with rfl|rfl
  ·exact ⟨A 0 f rfl,A 1 d rfl,A 2 h rfl,A 3 g rfl,B⟩
  ·have D: ∀(j:Nat) (u:Value), #[f,d,h,g][j]? =some u->(i.alloc (.cells #[] 64)).cell? ⟨w.heap.size,j,none⟩=some u:=fun j u n=>Lib.cell?_alloc_some _ (A j u n)
   exact ⟨D 0 f rfl,D 1 d rfl,D 2 h rfl,D 3 g rfl,B.alloc (by omega) _⟩
 have U: ∀(b:World) (base:Option Addr),DL.Below w.heap.size w b->
   Calls Tryz.prog 176 #[.slice base 0 0,.int .i64 0,.slice (some ⟨b.heap.size,0,none⟩) 1 1] (b.alloc (.cells #[f,d,h,g] 64)) fun e k=> ∃r c,e= .returned (.slice (some ⟨r,0,none⟩) 1 c)/\1<=c/\w.heap.size<=r/\r<k.heap.size/\DL.Below w.heap.size w k/\
    ∀(j:Nat) (u:Value),[f,d,h,g][j]? =some u->k.cell? ⟨r,j,none⟩=some u:=by
  intro b base H;have V:w.heap.size<=b.heap.size:=H.toBelow.size;have L:(b.alloc (.cells #[f,d,h,g] 64)).heap.size=b.heap.size+1:=Array.size_push _;have t:(Builtin.firstCells 4 0 (.slice base 0 0)).run Tryz.prog (b.alloc (.cells #[f,d,h,g] 64)).drew= .ok ([]:List Value).toArray (b.alloc (.cells #[f,d,h,g] 64)).drew:=by
   cases base with
   |none=>exact run_firstCells_none _ 4 0 0 0
   |some a=>exact run_firstCells_some _ 4 0 a 0 0 [] rfl (fun j v N=>by simp at N)
  refine (CY base 0 0 b.heap.size 0 1 [] [f,d,h,g] _ (by omega) (by omega) rfl t (fun j v O=>by rw [Nat.zero_add,World.cell?_alloc_at _ _ b.heap.size j rfl, <-O];simp) S).mono ?_;rintro e k ⟨rfl,rfl⟩;have E:=grownCap_ge (b.alloc (.cells #[f,d,h,g] 64)) (0+1) 0 64;generalize grownCap (b.alloc (.cells #[f,d,h,g] 64)) (0+1) 0 64=C at *
  refine ⟨_,C,rfl,E,by omega,?_,(((H.alloc (by omega) _).drew).alloc (by show w.heap.size<=(b.alloc _).heap.size;omega) _),?_⟩
  ·show _<(((b.alloc (.cells #[f,d,h,g] 64)).drew).alloc _).heap.size
   have:(((b.alloc (.cells #[f,d,h,g] 64)).drew).alloc (.cells (([]++[f,d,h,g]).toArray++uz (C - (0+1))) 64)).heap.size=(b.alloc (.cells #[f,d,h,g] 64)).heap.size+1:=Array.size_push _
   rw [this];omega
  ·intro j u n;rw [World.cell?_alloc_at (w:=(b.alloc (.cells #[f,d,h,g] 64)).drew) _ _ (b.alloc (.cells #[f,d,h,g] 64)).heap.size j rfl,Array.getElem?_append_left (by rw [List.size_toArray];exact (gsZ n).1),List.getElem?_toArray];exact n
 go_enter Tryz.func139,Tryz.ntmps139
 go_wp2_with (first
  |(go_at_call 76;refine T.mono ?_;rintro e i ⟨rfl,F⟩)
  |(go_at_call 114;refine (Du a m i).mono ?_;rintro e b ⟨W,rfl,z⟩;obtain ⟨k0,k1,k2,Z,y⟩:=M i b F z;have J:Aside (DL.Below w.heap.size w b):=y;clear z y)
  |(go_at_call 176;refine (U b W J.out).mono ?_;rintro e Y ⟨r,c,rfl,q⟩))
 go_ret
 exact ⟨r,c,rfl,q⟩
theorem size_setCells(b:Nat)(vs:List Value): ∀(w:World) (o:Nat),(w.setCells b o vs).heap.size=w.heap.size:=by
 induction vs with
 |nil=>intro w o;rfl
 |cons v r a=>intro w o;rw [World.setCells,a];simp [World.setCell]
theorem Ay(W:World)(g o:Nat)(v:Value)(a:v.oneCell'=true)(c:(W.cell? ⟨g,o,none⟩).isSome=true)(b:W.frozen? ⟨g,o,none⟩=false):(store ⟨g,o,none⟩ v).run Tryz.prog W= .ok () (W.setCell ⟨g,o,none⟩ v):=by
 obtain ⟨u,d⟩:=Option.isSome_iff_exists.1 c;rw [run_store Tryz.prog W _ v _ a];simp [d,b]
theorem J2(i f q m:Value)(y: ∀x∈[i,f,q,m],x.oneCell'=true)(W:World)(g p n:Nat)(c:List Value)(I:p<n)(G:c.length=n * 4)(t: ∀(j:Nat) (u:Value),c[j]? =some u->W.cell? ⟨g,j,none⟩=some u)(w: ∀j,W.frozen? ⟨g,j,none⟩=false):
  ∃D E F B:World,(store ⟨g,p * 4,none⟩ i).run Tryz.prog W= .ok () D/\(store ⟨g,p * 4+1,none⟩ f).run Tryz.prog D= .ok () E/\(store ⟨g,p * 4+2,none⟩ q).run Tryz.prog E= .ok () F/\(store ⟨g,p * 4+3,none⟩ m).run Tryz.prog F= .ok () B/\
   B=W.setCells g (p * 4) [i,f,q,m]/\ ∀(j:Nat) (u:Value),(c.take (p * 4)++([i,f,q,m]++c.drop ((p+1) * 4)))[j]? =some u->B.cell? ⟨g,j,none⟩=some u:=by
 have r: ∀j,j<n * 4->(W.cell? ⟨g,j,none⟩).isSome=true:=fun j H=>by rw [t j _ (ggZ (by omega))];rfl
 have b: ∀(V:World) (a:Addr) (v:Value) (j:Nat),(V.cell? ⟨g,j,none⟩).isSome=true->((V.setCell a v).cell? ⟨g,j,none⟩).isSome=true:=fun V a v j h=>by
  obtain ⟨u,d⟩:=Option.isSome_iff_exists.1 h
  by_cases e:a=⟨g,j,none⟩
  ·subst e;rw [World.cell?_setCell_same _ _ _ d];rfl
  ·rw [World.cell?_setCell_other _ _ _ _ e];exact h
 refine ⟨_,_,_,_,Ay W g (p * 4) i (y _ (by simp)) (r _ (by omega)) (w _),Ay _ g (p * 4+1) f (y _ (by simp)) (b _ _ _ _ (r _ (by omega))) (by rw [World.frozen?_setCell];exact w _),
  Ay _ g (p * 4+2) q (y _ (by simp)) (b _ _ _ _ (b _ _ _ _ (r _ (by omega)))) (by rw [World.frozen?_setCell,World.frozen?_setCell];exact w _),Ay _ g (p * 4+3) m (y _ (by simp)) (b _ _ _ _ (b _ _ _ _ (b _ _ _ _ (r _ (by omega))))) (by rw [World.frozen?_setCell,World.frozen?_setCell,World.frozen?_setCell];exact w _),rfl,?_⟩
 show ∀(j:Nat) (u:Value),_->(W.setCells g (p * 4) [i,f,q,m]).cell? _=_
 intro j u d;have A:(c.take (p * 4)).length=p * 4:=by rw [List.length_take];omega
 by_cases C:j<p * 4
 ·rw [List.getElem?_append_left (by omega),List.getElem?_take_of_lt C] at d;rw [World.cell?_setCells_out _ _ _ _ _ (fun _ _=>by left;exact C)];exact t j u d
 ·rw [List.getElem?_append_right (by omega),A] at d
  by_cases z:j - p * 4<4
  ·rw [List.getElem?_append_left (by simpa using z)] at d
   have:=World.cell?_setCells_in g [i,f,q,m] (p * 4) W (fun k t=>r _ (by simp at t;omega)) (j - p * 4) (by simpa using z)
   rw [show p * 4+(j - p * 4)=j by omega] at this;rw [this, <-d,ggZ (by simpa using z)]
  ·rw [List.getElem?_append_right (by simp;omega),List.getElem?_drop] at d;rw [World.cell?_setCells_out _ _ _ _ _ (fun _ _=>by right;show p * 4+4<=j;omega)];refine t j u ?_;rw [<- d]
   congr 1
   simp;omega
theorem IX(v0:Value)(i g q m:Value)(hc: ∀x∈[i,g,q,m],x.oneCell'=true)(b off n C:Nat)(a:List Value)(w:World)(p:Nat)(hp:p<n)(N:a.length=n * 4)(iI:n * 56<=140737488355328)
  (K:v0= .slice (some ⟨b,off,none⟩) n C) (P: ∀j u,a[j]? =some u->w.cell? ⟨b,off+j,none⟩=some u) (X: ∀u∈a,u.oneCell'=true)
  (Z:Calls Tryz.prog 76 #[v0,.agg #[i,g,q,m],.func (.func 29) #[] #[]] (w.alloc (.cells #[i,g,q,m] 64)) fun e B=>e= .returned (.tuple #[.int .i64 p,.bool true])/\DL.Below (w.heap.size+1) (w.alloc (.cells #[i,g,q,m] 64)) B):
  Calls Tryz.prog 139 #[v0,.agg #[i,g,q,m]] w fun e B=> ∃r c,e= .returned (.slice (some ⟨r,0,none⟩) n c)/\n<=c/\w.heap.size<=r/\r<B.heap.size/\DL.Below w.heap.size w B/\
   ∀(j:Nat) (u:Value),(a.take (p * 4)++([i,g,q,m]++a.drop ((p+1) * 4)))[j]? =some u->B.cell? ⟨r,j,none⟩=some u:=by
 have mx:=mixed;have q22:=nil_eq;have T: ∀w,Sem.run Tryz.prog (underlying 25) w= .ok (TypeDesc.slice 64) w:=run_underlying uZ;subst K;have U:b<w.heap.size:=block_lt_of_cell (P 0 _ (ggZ (by omega)));have xN: ∀d,DL.Below (w.heap.size+1) (w.alloc (.cells #[i,g,q,m] 64)) d-> ∀j u,a[j]? =some u->d.cell? ⟨b,off+j,none⟩=some u:=fun d h j u y=>by
  rw [h.toBelow.cell (p:=⟨b,off+j,none⟩) (by show b<w.heap.size+1;omega)];exact Lib.cell?_alloc_some _ (P j u y)
 have hzl: ∀k,(uz k).size=k * 4:=fun k=>by simp [uz,Builtin.zeroCells,Value.cells]
 have Y: ∀d f G,n<=G->DL.Below (w.heap.size+1) (w.alloc (.cells #[i,g,q,m] 64)) d->f=(d.alloc (.cells #[] 64)).drew.alloc (.cells (a.toArray++uz (G - n)) 64)->
   f.cell? ⟨w.heap.size,0,none⟩=some i/\f.cell? ⟨w.heap.size,1,none⟩=some g/\f.cell? ⟨w.heap.size,2,none⟩=some q/\f.cell? ⟨w.heap.size,3,none⟩=some m/\DL.Below w.heap.size w f/\w.heap.size<d.heap.size/\f.heap.size=d.heap.size+2/\(∀ j,f.frozen? ⟨d.heap.size+1,j,none⟩=false)/\
   (∀ (j:Nat) (u:Value),a[j]? =some u->f.cell? ⟨d.heap.size+1,j,none⟩=some u):=by
  intro d f G hG J z;have hs0:(w.alloc (.cells #[i,g,q,m] 64)).heap.size=w.heap.size+1:=Array.size_push _;have I:w.heap.size<d.heap.size:=by have:=J.toBelow.size;omega
  have t:(d.alloc (.cells #[] 64)).heap.size=d.heap.size+1:=Array.size_push _;have H:f.heap.size=d.heap.size+2:=by
   rw [z]
   have:((d.alloc (.cells #[] 64)).drew.alloc (.cells (a.toArray++uz (G - n)) 64)).heap.size=(d.alloc (.cells #[] 64)).heap.size+1:=Array.size_push _
   rw [this,t]
  have E: ∀(j:Nat) (u:Value), #[i,g,q,m][j]? =some u->f.cell? ⟨w.heap.size,j,none⟩=some u:=fun j u y=>by
   rw [z];refine Lib.cell?_alloc_some _ ?_;show (d.alloc (.cells #[] 64)).cell? _=_
   refine Lib.cell?_alloc_some _ ?_;rw [J.toBelow.cell (p:=⟨w.heap.size,j,none⟩) (by show w.heap.size<w.heap.size+1;omega),World.cell?_alloc_at _ _ w.heap.size j rfl];exact y
  refine ⟨E 0 i rfl,E 1 g rfl,E 2 q rfl,E 3 m rfl,?_,I,H,fun j=>?_,fun j u y=>?_⟩
  ·rw [z];exact (((((DL.Below.refl _ w).alloc (Nat.le_refl _) _).trans (J.mono (Nat.le_succ _))).alloc (by omega) _).drew).alloc (by show w.heap.size<=(d.alloc _).heap.size;rw [t];omega) _
  ·rw [z, <-t];exact World.frozen?_alloc_at (w:=(d.alloc (.cells #[] 64)).drew) _ _ _ j rfl
  ·rw [z, <-t,World.cell?_alloc_at (w:=(d.alloc (.cells #[] 64)).drew) _ _ (d.alloc (.cells #[] 64)).heap.size j rfl,Array.getElem?_append_left (by rw [List.size_toArray];exact (gsZ y).1),List.getElem?_toArray];exact y
 go_enter Tryz.func139,Tryz.ntmps139
 go_wp2_with (first
  |(go_at_call 76;refine Z.mono ?_;rintro e d ⟨rfl,A⟩)
  |(go_at_call 114;refine (Ex b off n C a d (by omega) N (by omega) (xN d A) X).mono ?_;rintro e f ⟨G,D,V,rfl,v⟩;obtain ⟨k0,k1,k2,k3,F,L,kT,M,S⟩:=Y d f G D A v;have W:Aside (DL.Below w.heap.size w f/\w.heap.size<d.heap.size/\f.heap.size=d.heap.size+2):=⟨F,L,kT⟩;clear F L kT;have A2:Aside (f=(d.alloc (.cells #[] 64)).drew.alloc (.cells (a.toArray++uz (G - n)) 64)):=v;clear v;obtain ⟨Wa,Wb,Wc,Wd,s0,s1,s2,s3,O,kD⟩:=J2 i g q m hc f (d.heap.size+1) p n a hp N S M;have Q:Aside (Wd=f.setCells (d.heap.size+1) (p * 4) [i,g,q,m]):=O;clear O M S))
 go_ret
 obtain ⟨F,L,kT⟩:=W.out;refine ⟨d.heap.size+1,G,rfl,D,by omega,?_,?_,kD⟩
 ·rw [Q.out,size_setCells];omega
 ·rw [Q.out];exact ve _ (by omega) _ _ _ F
structure Al {α β:Type} (R:α->β->Prop) (xs:List α) (ts:List β):Prop where
 len:xs.length=ts.length
 at_: ∀(i:Nat) (x:α) (t:β),xs[i]? =some x->ts[i]? =some t->R x t
section
variable {α β:Type}{R:α->β->Prop}{xs ys:List α}{ts us:List β}
theorem Al.take(h:Al R xs ts)(k:Nat):Al R (xs.take k) (ts.take k):=⟨by rw [List.length_take,List.length_take,h.len],fun i x t a b=>by
 rw [List.getElem?_take] at a b;split at a
 ·rename_i c;rw [if_pos c] at b;exact h.at_ i x t a b
 ·cases a⟩
theorem Al.drop(h:Al R xs ts)(k:Nat):Al R (xs.drop k) (ts.drop k):=⟨by rw [List.length_drop,List.length_drop,h.len],fun i x t a b=>by
 rw [List.getElem?_drop] at a b;exact h.at_ _ x t a b⟩
theorem Al.append(h:Al R xs ts)(k:Al R ys us):Al R (xs++ys) (ts++us):=⟨by rw [List.length_append,List.length_append,h.len,k.len],fun i x t a b=>by
 by_cases c:i<xs.length
 ·rw [List.getElem?_append_left c] at a;rw [List.getElem?_append_left (by rw [<- h.len];exact c)] at b;exact h.at_ i x t a b
 ·rw [List.getElem?_append_right (by omega)] at a;rw [List.getElem?_append_right (by rw [<- h.len];omega), <-h.len] at b;exact k.at_ _ x t a b⟩
end
theorem yE(st:List RE):(st.map um).flatMap T.cells=st.flatMap uk:=by
 induction st with
 |nil=>rfl
 |cons x xs a=>rw [List.map_cons,List.flatMap_cons,List.flatMap_cons,a];rfl
theorem vq(st:List RE):(st.flatMap uk).length=st.length * 4:=by
 induction st with
 |nil=>rfl
 |cons x xs a=>rw [List.flatMap_cons,List.length_append,a,List.length_cons];show 4+_=_;omega
theorem Ad(st:List RE)(k:Nat):(st.take k).flatMap uk=(st.flatMap uk).take (k * 4):=by
 induction st generalizing k with
 |nil=>simp
 |cons x xs a=>
  cases k with
  |zero=>simp
  |succ k=>
   rw [List.take_succ_cons,List.flatMap_cons,List.flatMap_cons,a,show (k+1) * 4=(uk x).length+k * 4 by show _=4+k * 4;omega,List.take_append,List.take_of_length_le (l:=uk x) (Nat.le_add_right _ _),Nat.add_sub_cancel_left]
theorem Ac(st:List RE)(k:Nat):(st.drop k).flatMap uk=(st.flatMap uk).drop (k * 4):=by
 induction st generalizing k with
 |nil=>simp
 |cons x xs a=>
  cases k with
  |zero=>simp
  |succ k=>
   rw [List.drop_succ_cons,List.flatMap_cons,a,show (k+1) * 4=(uk x).length+k * 4 by show _=4+k * 4;omega,List.drop_append];simp
theorem DX(st:List RE): ∀t∈st.flatMap uk,t.one=true:=fun t a=>by
 obtain ⟨e,_,h⟩:=List.mem_flatMap.1 a;simp only [uk,List.mem_cons,List.not_mem_nil,or_false] at h;rcases h with rfl|rfl|rfl|rfl <;> rfl
theorem J0{S:ar}{w:World}{r n c:Nat}{L:List Value}{st:List RE}(m:st.length=n)(h:n<=c)(d:Al (fun x t=>Rep S w x t) L (st.flatMap uk))(k: ∀(j:Nat) (u:Value),L[j]? =some u->w.cell? ⟨r,j,none⟩=some u)(f: ∀o,S r o):
  Rep S w (.slice (some ⟨r,0,none⟩) n c) (esT st):=by
 refine Rep.slice (some ⟨r,0,none⟩) r 0 n c 4 (st.map um) (fun i=>L[i]?.getD undef) (by rw [List.length_map,m]) h (fun x g=>?_) (fun t b=>?_) (fun _=>rfl) (fun i a=>?_) (fun i t b=>?_)
 ·obtain ⟨e,_,rfl⟩:=List.mem_map.1 g;rfl
 ·rw [yE] at b;exact DX st t b
 ·rw [yE, <-d.len] at a;rw [Nat.zero_add,k i L[i] (ggZ a),ggZ a];exact ⟨rfl,f i⟩
 ·rw [yE] at b;have a:=(gsZ b).1;rw [<- d.len] at a;show Rep S w (L[i]?.getD undef) t
  rw [ggZ a];exact d.at_ i _ t (ggZ a) b
theorem K1(st:List RE)(p:uH st)(hl:st.length<2^40)(I: ∀x∈st,kOk x)(e:RE)(he:kOk e):DCalls Tryz.prog 139 [esT st,um e] (esT (uK e st)):=by
 refine ⟨eb Tryz.func139 rfl rfl,fun S w vs hS hG X aq=>?_⟩;obtain ⟨v0,v1,rfl⟩: ∃v0 v1,vs=[v0,v1]:=by
  match vs,X with
  |[a,b],_=>exact ⟨a,b,rfl⟩
 have r0:=aq 0 v0 _ rfl rfl;have r1:=aq 1 v1 _ rfl rfl;obtain ⟨y,q,A,z,rfl⟩: ∃y q A z,v1= .agg #[y,q,A,z]:=by
  cases r1 with
  |agg E ts p F h=>
   have p:E.size=4:=p;refine ⟨E[0],E[1],E[2],E[3],?_⟩
   congr 1
   apply Array.ext
   ·simp [p]
   ·intro i F h2
    match i,F with
    |0,_|1,_|2,_|3,_=>rfl
    |i+4,F=>omega
 have O:Al (fun x t=>Rep S w x t) [y,q,A,z] (uk e):=by
  cases r1 with
  |agg E ts p F h=>exact ⟨rfl,fun i x t C B=>h i x t (by rw [<- C];simp) B⟩
 have N: ∀x∈[y,q,A,z],x.oneCell'=true:=fun x C=>by
  obtain ⟨i,D,rfl⟩:=List.getElem_of_mem C;have G:i<(uk e).length:=D;exact (O.at_ i _ _ (ggZ D) (ggZ G)).one (DX [e] _ (by simp [List.getElem_mem]))
 have hsz:(w.alloc (.cells #[y,q,A,z] 64)).heap.size=w.heap.size+1:=Array.size_push _;have hB1:DL.Below w.heap.size w (w.alloc (.cells #[y,q,A,z] 64)):=(DL.Below.refl _ w).alloc (Nat.le_refl _) _;have up: ∀{x:Value} {t:T},Rep S w x t->Rep S (w.alloc (.cells #[y,q,A,z] 64)) x t:=fun h=>h.mono (fun _ _ p=>p) (fun b o p=>aC.dC hB1 (hS b o p))
 have hpl:=(ET st p hl I e he).2 S (w.alloc (.cells #[y,q,A,z] 64)) [v0,.agg #[y,q,A,z],.func (.func 29) #[] #[]] (fun b o h=>by rw [hsz];have:=hS b o h;omega) (hG.up (fun _ _ h=>h) hB1) rfl (fun i v t H B=>by
  match i,H,B with
  |0,H,B=>cases H;cases B;exact up r0
  |1,H,B=>cases H;cases B;exact up r1
  |2,H,B=>cases H;cases B;exact .clos _ #[] [] rfl (fun i x t C=>by simp at C)
  |i+3,H,_=>simp at H)
 have Q:Calls Tryz.prog 76 #[v0,.agg #[y,q,A,z],.func (.func 29) #[] #[]] (w.alloc (.cells #[y,q,A,z] 64)) fun en m=>en= .returned (.tuple #[.int .i64 (uP st e:Nat),.bool (isE st e)])/\DL.Below (w.heap.size+1) (w.alloc (.cells #[y,q,A,z] 64)) m:=by
  refine hpl.mono ?_;rintro en m ⟨v,rfl,V,hr⟩;rw [hsz] at V;refine ⟨congrArg _ ?_,V⟩;cases hr with
  |tup E ts p h=>
   have p:E.size=2:=p;have e0:=h 0 E[0] _ (Array.getElem?_eq_getElem (by omega)) rfl;have e1:=h 1 E[1] _ (Array.getElem?_eq_getElem (by omega)) rfl;have e0:=e0.aA;have e1:=e1.aP
   congr 1
   apply Array.ext
   ·simp [p]
   ·intro i F h2
    match i,F with
    |0,_=>exact e0
    |1,_=>exact e1
    |i+2,F=>omega
 have Hc:=Bo st e;have P: ∀(m:World) (r n c:Nat) (d:List Value) (k:Nat),Al (fun x t=>Rep S w x t) d (st.flatMap uk)->(st.take (uP st e)++e::st.drop k).length=n->n<=c->w.heap.size<=r->r<m.heap.size->DL.Below w.heap.size w m->
   uK e st=st.take (uP st e)++e::st.drop k->(∀ (j:Nat) (u:Value),(d.take (uP st e * 4)++([y,q,A,z]++d.drop (k * 4)))[j]? =some u->m.cell? ⟨r,j,none⟩=some u)->
   ∃v,Ending.returned (.slice (some ⟨r,0,none⟩) n c)= .returned v/\DL.Below w.heap.size w m/\Rep (fun b o=>S b o\/(w.heap.size<=b/\b<m.heap.size)) m v (esT (uK e st)):=by
  intro m r n c d k J hn hc hr hr2 V K cj;refine ⟨_,rfl,V,?_⟩;rw [K];have hup: ∀{x:Value} {t:T},Rep S w x t->Rep (fun b o=>S b o\/(w.heap.size<=b/\b<m.heap.size)) m x t:=fun h=>h.mono (fun _ _ p=>Or.inl p) (fun b o p=>aC.dC V (hS b o p))
  refine J0 (L:=d.take (uP st e * 4)++([y,q,A,z]++d.drop (k * 4))) hn hc ?_ cj (fun o=>Or.inr ⟨hr,hr2⟩);rw [List.flatMap_append,List.flatMap_cons,Ad,Ac];have hA':Al (fun x t=>Rep (fun b o=>S b o\/(w.heap.size<=b/\b<m.heap.size)) m x t) d (st.flatMap uk):=⟨J.len,fun i x t C B=>hup (J.at_ i x t C B)⟩
  have rZ:Al (fun x t=>Rep (fun b o=>S b o\/(w.heap.size<=b/\b<m.heap.size)) m x t) [y,q,A,z] (uk e):=⟨O.len,fun i x t C B=>hup (O.at_ i x t C B)⟩
  exact (hA'.take _).append (rZ.append (hA'.drop _))
 have K:=DZ p e;have Mm:(uB st e.var e.key).isSome=isE st e:=rfl;rw [Mm] at K
 by_cases h0:st=[]
 ·subst h0;obtain ⟨a,f,rfl⟩: ∃a f,v0= .slice a 0 f:=by
   cases r0 with
   |slice a b o len f n xs g hl hc M F ha hg h=>
    have:len=0:=by simpa using hl.symm
    subst this;exact ⟨a,f,rfl⟩
  have hp0:uP [] e=0:=rfl;have hi0:isE [] e=false:=rfl;rw [hi0] at Q;refine (IW y q A z N a f w Q).mono ?_;rintro en m ⟨r,c,rfl,q1,U,Y,W,q5⟩;exact P m r 1 c [] 0 ⟨rfl,fun i x t C=>by simp at C⟩ rfl q1 U Y W rfl (fun j u M=>q5 j u (by simpa using M))
 ·have hn:0<st.length:=List.length_pos_iff.2 h0;obtain ⟨b,off,f,d,Z,hnl,Gc,J⟩: ∃b off f d,v0= .slice (some ⟨b,off,none⟩) st.length f/\d.length=st.length * 4/\(∀ (j:Nat) (u:Value),d[j]? =some u->w.cell? ⟨b,off+j,none⟩=some u)/\Al (fun x t=>Rep S w x t) d (st.flatMap uk):=by
   cases r0 with
   |slice a b o len f n xs g hl hc M F ha hg h=>
    rw [yE] at ha hg h;have hle:len=st.length:=by simpa using hl.symm
    subst hle;have hfl:=vq st;rw [ha (by omega)];refine ⟨b,o,f,(List.range (st.length * 4)).map g,rfl,by simp,fun j u M=>?_,by simp [hfl],fun i x t C B=>?_⟩
    ·obtain ⟨k,I,rfl⟩:=List.getElem?_map .. ▸M |> Option.map_eq_some_iff.1
     have hj:j<st.length * 4:=by
      have:=(gsZ I).1
      simpa using this
     have:k=j:=by rw [List.getElem?_range hj] at I;exact (Option.some.inj I).symm
     subst this;exact (hg k (by omega)).1
    ·obtain ⟨k,I,rfl⟩:=List.getElem?_map .. ▸C |> Option.map_eq_some_iff.1
     have hj:i<st.length * 4:=by
      have:=(gsZ I).1
      simpa using this
     have:k=i:=by rw [List.getElem?_range hj] at I;exact (Option.some.inj I).symm
     subst this;exact h k t B
  have h1n: ∀u∈d,u.oneCell'=true:=fun u M=>by
   obtain ⟨i,D,rfl⟩:=List.getElem_of_mem M;have G:i<(st.flatMap uk).length:=by rw [<- J.len];exact D
   exact (J.at_ i _ _ (ggZ D) (ggZ G)).one (DX st _ (List.getElem_mem G))
  cases D:isE st e with
  |false=>
   rw [D] at Q K;refine (IV v0 y q A z N b off st.length f d w (uP st e) hn Hc hnl (by omega) Z Gc h1n Q).mono ?_;rintro en m ⟨r,c,rfl,q1,U,Y,W,q5⟩;exact P m r (st.length+1) c d (uP st e) J (by rw [List.length_append,List.length_take,List.length_cons,List.length_drop];omega) q1 U Y W K q5
  |true=>
   rw [D] at Q K;have hlt:uP st e<st.length:=by
    rcases Nat.lt_or_ge (uP st e) st.length with h|h
    ·exact h
    ·rw [EG p (by omega)] at D;cases D
   refine (IX v0 y q A z N b off st.length f d w (uP st e) hlt hnl (by omega) Z Gc h1n Q).mono ?_;rintro en m ⟨r,c,rfl,q1,U,Y,W,q5⟩;exact P m r st.length c d (uP st e+1) J (by rw [List.length_append,List.length_take,List.length_cons,List.length_drop];omega) q1 U Y W K q5
end Go.ST
end
noncomputable section
namespace Go.ST0
open Go Go.DL Go.Proofs
def c71:aV:=(sr [oo 3 (.box 1 (tm 1)),oo 4 (.mov (.const .nil))] (sr [mv 5 0,oo 6 (.call 114 [tm 5]),oo 7 (.mkfn 115 [tm 3]),oo 8 (.call 113 [(tm 6),(tm 7)]),mv 4 8] .ret))
theorem l71:(Tryz.f71.body.bind (bt Tryz.prog 9 []))=some c71:=by kernel_rfl
def GU:aV:=(sr [oo 4 (.mov (.const .nil))] (sr [mv 8 0,mv 9 1,oo 10 (.call 109 [(tm 8),(tm 9)]),mv 5 10] (.seq (sr [mv 11 5,oo 12 (.bin .eql (tm 11) (.const (.int .i64 (-1))))] (.cond (tm 12) (sr [mv 13 0,mv 4 13] .ret) .skip)) (.seq (sr [mv 14 5,oo 15 (.bin .add (tm 14) (Kc 1)),mv 6 15] (.block 0 (.loop (.seq (sr [mv 16 6,mv 17 0,ln 18 17,oo 19 (.bin .lss (tm 16) (tm 18))] (.cond (tm 19) .skip (.exit 0))) (.seq (.block 1 (sr [mv 22 0,mv 23 6,ix 24 4 22 23,lA 25 4 24,⟨some 7,.alloc [S0,.nil,Z0,Z0],none,[]⟩,o0 (.store 4 (tm 7) (tm 25))] (sr [mv 26 1,lA 27 4 7,oo 28 (.bY (tm 26) [tm 27]),oo 29 (.not (tm 28))] (.cond (tm 29) (sr [mv 30 0,mv 31 5,lA 32 4 7,ix 33 4 30 31,o0 (.store 4 (tm 33) (tm 32))] (rg [mv 34 5,oo 35 (.bin .add (tm 34) (Kc 1)),mv 5 35])) .skip)))) (rg [mv 20 6,oo 21 (.bin .add (tm 20) (Kc 1)),mv 6 21])))))) (sr [mv 36 0,mv 37 5,oo 38 (.slice 4 (tm 36) (some (tm 37)) none),⟨none,.clr 4 [S0,.nil,Z0,Z0] (tm 38),none,[]⟩] (sr [mv 39 0,mv 40 5,oo 41 (.slice 4 (tm 39) none (some (tm 40))),mv 4 41] .ret))))))
theorem Hh:(Tryz.f113.body.bind (bt Tryz.prog 42 []))=some GU:=by kernel_rfl
end Go.ST0
end
section
namespace Go.ST
open Go Go.DL Go.MM Go.Proofs
open Go.TY hiding Fd
theorem HC:DCalls Tryz.prog 114 [esT []] (esT []):=by
 refine ⟨eb Tryz.func114 rfl rfl,fun S w vs r z d j=>?_⟩;obtain ⟨v0,rfl⟩: ∃v0,vs=[v0]:=by
  match vs,d with
  |[a],_=>exact ⟨a,rfl⟩
 have p:=j 0 v0 _ rfl rfl;obtain ⟨a,c,rfl⟩: ∃a c,v0= .slice a 0 c:=by
  cases p with
  |slice a b o len c n xs g f x v u B A h=>
   have:len=0:=by simpa using f.symm
   subst this;exact ⟨a,c,rfl⟩
 refine (Du a c w).mono ?_;rintro e y ⟨b,rfl,m⟩;refine ⟨_,rfl,?_,?_⟩
 ·rcases m with rfl|rfl
  ·exact DL.Below.refl _ _
  ·exact (DL.Below.refl _ _).alloc (Nat.le_refl _) _
 ·exact Rep.slice b 0 0 0 0 4 [] (fun _=>undef) rfl (Nat.le_refl _) (by simp) (by simp) (by simp) (fun i k=>by simp at k) (fun i t q=>by simp at q)
theorem Da(x:RE)(f:FuncId)(c:T)(b:Bool)(a:DCalls Tryz.prog f [um x,c] (.bool b)):DCalls Tryz.prog 115 [um x,.cptr [.clos f [c]] 0] (.bool !b):=by
 refine dl2 mixed [.tmp 3] [.bool _] Tryz.func115 MG ?_
 repeat' ((conv=>whnf);first|exact trivial|refine uc _ (a) ?_|refine rbx ?_|(refine And.intro (by first|exact uo _) ?_)|refine aS ?_|refine nT_ ?_)
theorem AM(st:List RE):chunk 4 st.length (st.flatMap uk)=st.map um:=by
 induction st with
 |nil=>rfl
 |cons x xs a=>
  rw [List.flatMap_cons,List.length_cons,List.map_cons];show DL.elemOf 4 (List.take 4 (uk x++xs.flatMap uk))::chunk 4 xs.length (List.drop 4 (uk x++xs.flatMap uk))=_
  rw [show List.drop 4 (uk x++xs.flatMap uk)=xs.flatMap uk from rfl,a];rfl
theorem CO: ∀(n:Nat) (a b:List T),n * 4<=a.length->chunk 4 n (a++b)=chunk 4 n a:=by
 intro n
 induction n with
 |zero=>intro a b _;rfl
 |succ n c=>
  intro a b h;show DL.elemOf 4 ((a++b).take 4)::chunk 4 n ((a++b).drop 4)=DL.elemOf 4 (a.take 4)::chunk 4 n (a.drop 4)
  rw [List.take_append_of_le_length (by omega),List.drop_append_of_le_length (by omega),c _ _ (by rw [List.length_drop];omega)]
theorem Io(st:List RE)(k:Nat)(b:k<=st.length):chunk 4 k (st.flatMap uk)=(st.take k).map um:=by
 have h:=CO;have e:st.flatMap uk=(st.take k).flatMap uk++(st.drop k).flatMap uk:=by rw [<- List.flatMap_append,List.take_append_drop]
 have a:(st.take k).length=k:=by rw [List.length_take];omega
 rw [e,h k _ _ (by rw [vq,a];omega)]
 have:=AM (st.take k)
 rwa [a] at this
theorem E0{L:List RE}{j:Nat}(h:j<L.length):((L.flatMap uk).drop (j * 4)).take 4=uk L[j]:=by
 rw [<- Ac,List.drop_eq_getElem_cons h];rfl
theorem Hp{L:List RE}{i:Nat}(h:i<L.length)(e:RE):aN (L.flatMap uk) (i * 4) 4 (uk e)=(L.set i e).flatMap uk:=by
 unfold aN;rw [<- Ad,show i * 4+4=(i+1) * 4 by omega, <-Ac,List.set_eq_take_append_cons_drop,if_pos h,List.flatMap_append,List.flatMap_cons]
theorem IM{ks:List Nat}{bx:Nat->Option BX}{n off a b size:Nat}(h:a=b):LeV ks bx (.view n off a size) (.view n off b size):=by rw [h];exact .same _
theorem Hi{ks:List Nat}{bx:Nat->Option BX}{n m:Nat}{ts us:List T}(a:n=m)(h:ts=us):LeB ks bx (.d n ts) (some (.d m us)):=by rw [h,a];exact .same _
theorem Jq{L:List RE}{i n:Nat}(b:i<=n)(a:L.length=n):aN (L.flatMap uk) (i * 4) ((n - i) * 4) (List.replicate (n - i) [T.str ⟨#[]⟩,.nil,I 0,I 0]).flatten=(L.take i).flatMap uk++(List.replicate (n - i) [T.str ⟨#[]⟩,.nil,I 0,I 0]).flatten:=by
 unfold aN;rw [<- Ad,List.drop_eq_nil_of_le (by rw [vq,a];omega),List.append_nil]
theorem Fv{α:Type}{p:α->Bool}{xs:List α}{i:Nat}(h:wv p xs=i): ∀j (c:j<xs.length),j<i->p xs[j]=false:=by
 unfold wv at h;cases a:xs.findIdx? p with
 |none=>rw [a] at h;dsimp only at h;omega
 |some k=>
  rw [a] at h;obtain ⟨f,g,b⟩:=List.findIdx?_eq_some_iff_getElem.1 a;dsimp only at h;intro j c d
  have:=b j (by omega)
  simpa using this
theorem HI(st:List RE)(hl:st.length<2^40)(f:FuncId)(c:T)(p:RE->Bool)(hf: ∀x∈st,DCalls Tryz.prog f [um x,c] (.bool (p x))):
  DCalls Tryz.prog 71 [esT st,.clos f [c]] (esT (st.filter p)):=by
 have y:=BK st 115 (.cptr [.clos f [c]] 0) (fun x=> !p x) (by omega) fun i h=>Da st[i] f c (p st[i]) (hf _ (List.getElem_mem h))
 rcases st with _|⟨x0,O⟩
 ·refine dl2 mixed [.tmp 4] [.slice 4 _] Tryz.func71 ST0.l71 ?_;have hD:DCalls Tryz.prog 113 [esT [],.clos 115 [.cptr [.clos f [c]] 0]] (esT []):=by
   refine dl2 mixed [.tmp 4] [.slice 4 _] Tryz.func113 ST0.Hh ?_;have e:wv (fun x=> !p x) ([]:List RE)= -1:=rfl;rw [e] at y
   repeat' ((conv=>whnf);first|refine uc _ (y) ?_|refine aE1 ?_|refine aS ?_|exact trivial)
  repeat' ((conv=>whnf);first|refine uc _ (HC) ?_|refine uc _ (hD) ?_|refine aS ?_|exact trivial)
 generalize M:x0::O=st at *
 have aH:0<st.length:=by rw [<- M];simp
 have Z:0<((st.map um).flatMap T.cells).length:=by rw [yE,vq];omega
 refine dl2 mixed [.tmp 4] [.slice 4 _] Tryz.func71 l71 ?_
 repeat' ((conv=>whnf);first|refine aS ?_|fail)
 refine tW mixed Tryz.func114 MF rfl rfl (rs:=[.tmp 2]) rfl 500 (nlZ rfl) ?_;have K:4=4/\0<(st.map um).length/\(st.map um).length * 56<=140737488355328:=⟨rfl,by rw [List.length_map];exact aH,by rw [List.length_map];omega⟩
 repeat' ((conv=>whnf);first|(refine And.intro (by first|exact Z|exact K) ?_)|refine aS ?_|fail)
 refine ⟨_,rfl,?_⟩
 skip
 refine tW mixed Tryz.func113 Hh rfl rfl (rs:=[.tmp 4]) rfl 700 (nlZ rfl) ?_;have D: ∀(bx:Nat->Option BX),bx 507=some (.d ((st.map um).length * 4) ((st.map um).flatMap T.cells))->conv bx (.view 507 0 (st.map um).length 4)=some (esT st,[507]):=fun bx A=>by
  have:conv bx (.view 507 0 (st.map um).length 4)=(match bx 507 with|some (.d m ts)=>cond (Nat.blt 0 4&&Nat.ble (0+(st.map um).length * 4) m) (some (T.slice 4 (chunk 4 (st.map um).length (ts.drop 0)),[507])) none|_=>none):=rfl
  rw [this,A];simp only;have w:Nat.ble (0+(st.map um).length * 4) ((st.map um).length * 4)=true:=Nat.ble_eq_true_of_le (by omega);rw [w,List.drop_zero,yE,List.length_map,AM];rfl
 have hcv: ∀(bx:Nat->Option BX) (L:List RE) (k:Nat),bx 507=some (.d (st.length * 4) (L.flatMap uk))->L.length=st.length->k<=L.length->conv bx (.view 507 0 k 4)=some (esT (L.take k),[507]):=fun bx L k A hL G=>by
  have:conv bx (.view 507 0 k 4)=(match bx 507 with|some (.d m ts)=>cond (Nat.blt 0 4&&Nat.ble (0+k * 4) m) (some (T.slice 4 (chunk 4 k (ts.drop 0)),[507])) none|_=>none):=rfl
  rw [this,A];simp only;have w:Nat.ble (0+k * 4) (st.length * 4)=true:=Nat.ble_eq_true_of_le (by omega);rw [w,List.drop_zero,Io L k G];rfl
 conv=>whnf
 split
 ·rename_i ts b;have e:=b.symm.trans (sU (D _ rfl) rfl);cases e
 rotate_left
 ·rename_i b;have e:=b.symm.trans (sU (D _ rfl) rfl);cases e
 rename_i ts r0 rs b;have e:=b.symm.trans (sU (D _ rfl) rfl);cases e;refine ⟨_,y,rfl,?_⟩;clear b;rcases AV (fun x=> !p x) st with ⟨g,Q⟩|⟨k,G,g,P⟩
 ·have Mk:st.filter p=st:=by
   rw [List.filter_eq_self];intro x g
   have:=List.find?_eq_none.1 Q x g
   simpa using this
  rw [Mk];have V:wv (fun x=> !p x) st= -1:=g
  repeat' ((conv=>whnf);first|refine sE V ?_|refine aS ?_|fail)
  refine ⟨_,rfl,?_⟩
  skip
  refine ⟨?_,trivial⟩;have Y: ∀bx:Nat->Option BX,bx 507=some (.d ((st.map um).length * 4) ((st.map um).flatMap T.cells))->Option.map (fun x=>x.1) (og bx (.view 507 0 (st.map um).length 4))=some (esT st):=fun bx A=>congrArg (Option.map Prod.fst) (D bx A)
  refine Y _ ?_;rfl
 ·have W:p st[k]=false:=by simpa using List.find?_some P
  have Md:(st.take (k+1)).filter p=st.take k:=by
   rw [List.take_succ_eq_append_getElem G,List.filter_append];have w:(st.take k).filter p=st.take k:=by
    rw [List.filter_eq_self];intro x hxm;obtain ⟨j,n,rfl⟩:=List.getElem_of_mem hxm;rw [List.length_take] at n;rw [List.getElem_take]
    have:=Fv g j (by omega) (by omega)
    simpa using this
   rw [w];simp [W]
  have V:wv (fun x=> !p x) st≠ -1:=by rw [g];omega
  have hA:((k:Nat):Int)=wv (fun x=> !p x) st:=g.symm;have hB:((k+1:Nat):Int)=IntKind.wrap .i64 (wv (fun x=> !p x) st+1):=by rw [g,nW] <;> omega
  have N:st.length=(st.map um).length:=by rw [List.length_map]
  have S:st.length * 4=(st.map um).length * 4:=by rw [List.length_map]
  have H: ∀x∈st,DCalls Tryz.prog 115 [um x,.cptr [.clos f [c]] 0] (.bool !(p x)):=fun x g=>Da x f c (p x) (hf x g)
  repeat' ((conv=>whnf);first|refine sD V ?_|refine aS ?_|fail)
  refine tx 0 (α:=Nat×Nat×List RE) (β:=Nat×List RE) (fun q=>{sl:=[(0,.view 507 0 st.length 4),(1,.fn 115 [.ptr 3 0]),(5,.t (I q.1)),(6,.t (I ((q.2.1+1:Nat):Int)))],bx:=[(3,.d 1 [.clos f [c]]),(507,.d (st.length * 4) (q.2.2.flatMap uk))],gh:=[],off:=700})
   (fun q=>q.1<q.2.1+1/\q.2.1+1<=st.length/\q.2.2.length=st.length/\q.2.2.take q.1=(st.take (q.2.1+1)).filter p/\q.2.2.drop (q.2.1+1)=st.drop (q.2.1+1)) (fun q=>st.length - q.2.1)
   (fun q=>{sl:=[(0,.view 507 0 st.length 4),(5,.t (I q.1))],bx:=[(507,.d (st.length * 4) (q.2.flatMap uk))],gh:=[],off:=700}) (fun q=>q.1<st.length/\q.2.length=st.length/\q.2.take q.1=st.filter p) (k,k,st) ⟨Nat.lt_succ_self k,G,rfl,Md.symm,rfl⟩ ?_ ?_ ?_
  ·repeat' (first|(exact leI hA)|(exact leI hB)|(exact IM N)|(exact Hi S (yE st).symm)|exact wJ|refine And.intro ?_ ?_)
  ·rintro ⟨i,a,L⟩ ⟨J,q2,z,v,E⟩;dsimp only at J q2 z v E;rcases Nat.lt_or_ge (a+1) st.length with n|n
   ·have r:((a+1:Nat):Int)<(st.length:Int):=by omega
    have B:a+1<L.length:=by omega
    have X:L[a+1]=st[a+1]:=by
     have e:L[a+1]? =st[a+1]? :=by have:=congrArg List.head? E;simpa [List.head?_drop] using this
     rw [ggZ B,ggZ n] at e;exact Option.some.inj e
    have gU:T.agg (((L.flatMap uk).drop (0+((a+1:Nat):Int).toNat * 4)).take 4)= .agg (uk st[a+1]):=by
     rw [Int.toNat_natCast,Nat.zero_add,E0 B,X]
    have F:=H st[a+1] (List.getElem_mem n);have u:(st.take (a+1+1)).filter p=L.take i++(if p st[a+1] then [st[a+1]] else []):=by
     rw [List.take_succ_eq_append_getElem n,List.filter_append,v];cases h:p st[a+1] <;> simp [h]
    have Dg:L.drop (a+1+1)=st.drop (a+1+1):=by
     rw [List.drop_eq_getElem_cons B,List.drop_eq_getElem_cons n] at E;exact (List.cons.inj E).2
    have hJ:((a+1+1:Nat):Int)=IntKind.wrap .i64 (((a+1:Nat):Int)+1):=by rw [nW] <;> omega
    have hI:((i+1:Nat):Int)=IntKind.wrap .i64 ((i:Int)+1):=by rw [nW] <;> omega
    generalize hxx:st[a+1]=x at *
    cases hp:p x with
    |false=>
     rw [hp] at u F
     repeat' ((conv=>whnf);first|refine sC r ?_|(refine nv_ (.agg (uk x)) (by first|exact gU) ?_)|refine ⟨_,F,rfl,?_⟩|(refine And.intro (by first|exact uo _|((simp;omega);done)|fail) ?_)|refine aS ?_|fail)
     exact ⟨(i,a+1,L),⟨by dsimp only;omega,n,z,by rw [u];simp,Dg⟩,by dsimp only;omega,by repeat' (first|(exact leI hJ)|exact wJ|refine And.intro ?_ ?_)⟩
    |true=>
     rw [hp] at u F;have U:i<L.length:=by omega
     have tN:=Hp U x;have Kw:(L.set i x).flatMap uk=aN (L.flatMap uk) (0+((i:Nat):Int).toNat * 4) 4 (uk x):=by rw [Int.toNat_natCast,Nat.zero_add,tN]
     have Mt:(aN [T.str ⟨#[]⟩,.nil,I 0,I 0] 0 4 (uk x)).length=4/\0+((i:Nat):Int).toNat * 4+4<=st.length * 4:=⟨rfl,by rw [Int.toNat_natCast];omega⟩
     repeat' ((conv=>whnf);first|refine sC r ?_|(refine nv_ (.agg (uk x)) (by first|exact gU) ?_)|refine ⟨_,F,rfl,?_⟩|(refine And.intro (by first|exact uo _|exact Mt|((simp;omega);done)|fail) ?_)|refine aS ?_|fail)
     refine ⟨(i+1,a+1,L.set i x),⟨by dsimp only;omega,n,by simpa using z,?_,?_⟩,by dsimp only;omega,by repeat' (first|(exact leI hJ)|(exact leI hI)|(exact ui Kw)|exact wJ|refine And.intro ?_ ?_)⟩
     ·rw [u,List.take_set,List.take_succ_eq_append_getElem U,List.set_append_right _ _ (by simp;omega)];simp [List.length_take,Nat.min_eq_left (Nat.le_of_lt U)]
     ·show (L.set i x).drop (a+1+1)=_
      rw [List.drop_set_of_lt (by omega)];exact Dg
   ·have r: ¬((a+1:Nat):Int)<(st.length:Int):=by omega
    have hj2:a+1=st.length:=by omega
    rw [hj2,List.take_length] at v
    repeat' ((conv=>whnf);first|refine su r ?_|refine aS ?_|fail)
    exact ⟨(i,L),⟨by dsimp only;omega,z,v⟩,by repeat' (first|exact wJ|refine And.intro ?_ ?_)⟩
  ·rintro ⟨i,L⟩ ⟨J,z,v⟩;dsimp only at J z v;have hz:aN (L.flatMap uk) (0+((i:Nat):Int).toNat * 4) ((((st.length:Nat):Int).toNat - ((i:Nat):Int).toNat) * 4) (List.replicate (((st.length:Nat):Int).toNat - ((i:Nat):Int).toNat) [T.str ⟨#[]⟩,.nil,I 0,I 0]).flatten=(L.take i).flatMap uk++(List.replicate (st.length - i) [T.str ⟨#[]⟩,.nil,I 0,I 0]).flatten:=by
    rw [Int.toNat_natCast,Int.toNat_natCast,Nat.zero_add];exact Jq (by omega) z
   have hr1: ∀bx:Nat->Option BX,bx 507=some (.d (st.length * 4) (aN (L.flatMap uk) (0+((i:Nat):Int).toNat * 4) ((((st.length:Nat):Int).toNat - ((i:Nat):Int).toNat) * 4) (List.replicate (((st.length:Nat):Int).toNat - ((i:Nat):Int).toNat) [T.str ⟨#[]⟩,.nil,I 0,I 0]).flatten))->Option.map (fun x=>x.1) (og bx (.view 507 0 i 4))=some (esT (st.filter p)):=fun bx A=>by
    have h0:og bx (.view 507 0 i 4)=(match bx 507 with|some (.d m ts)=>cond (Nat.blt 0 4&&Nat.ble (0+i * 4) m) (some (T.slice 4 (chunk 4 i (ts.drop 0)),[507])) none|_=>none):=rfl;rw [h0,A];simp only;have w:Nat.ble (0+i * 4) (st.length * 4)=true:=Nat.ble_eq_true_of_le (by omega);have C:(L.take i).length=i:=by rw [List.length_take];omega
    have h2:=AM (L.take i);rw [C] at h2;rw [w,List.drop_zero,hz,CO i _ _ (by rw [vq,C];omega),h2,v];rfl
   refine And.intro (by dsimp only;simp only [Int.toNat_natCast];omega) ?_
   conv=>whnf
   refine And.intro (by dsimp only;omega) ?_
   conv=>whnf
   refine And.intro (by dsimp only;omega) ?_
   conv=>whnf
   refine ⟨_,rfl,?_⟩
   conv=>whnf
   refine And.intro ?_ trivial;refine hr1 _ ?_;rfl
end Go.ST
end
section
namespace Go.ST1
open Go Go.DL Go.Proofs
noncomputable def c22:aV:=(.seq (.cut (rg [oo 3 (.box 1 (tm 1)),oo 4 (.mov (.const .nil))])) (sr [mv 5 0,oo 6 (.mkfn 72 [tm 3]),oo 7 (.call 71 [(tm 5),(tm 6)]),mv 4 7] .ret))
theorem l22:(Tryz.f22.body.bind (bt Tryz.prog 8 [6000000]))=some c22:=by kernel_rfl
end Go.ST1
end
section
namespace Go.ST
open Go Go.DL Go.MM Go.Proofs
open Go.TY hiding Fd
theorem KY(x:RE)(v:ByteArray):DCalls Tryz.prog 72 [um x,.cptr [.str v] 0] (.bool (decide (x.var=v))):=by
 refine dl2 mixed [.tmp 3] [.bool _] Tryz.func72 l72 ?_;have h:=eqS x.var v
 repeat' ((conv=>whnf);first|exact trivial|refine nb_ _ h ?_|refine rbx ?_|(refine And.intro (by first|exact uo _) ?_)|refine aS ?_|refine nT_ ?_)
theorem J6(st:List RE)(v:ByteArray)(b:st.length<2^40):DCalls Tryz.prog 22 [esT st,.str v] (esT (ofE st v)):=by
 refine dl2 mixed [.tmp 4] [.slice 4 _] Tryz.func22 Go.ST1.l22 ?_;have h:=HI st b 72 (.cptr [.str v] 0) (fun e=>decide (e.var=v)) fun x _=>KY x v
 refine tV (β:=Unit) (fun _=>{sl:=[(0,.t (esT st)),(3,.t (.cptr [.str v] 0))],bx:=[]}) (fun _=>True) ?_ ?_
 ·repeat' ((conv=>whnf);first|(exact ⟨(),trivial,by (repeat' (first|(exact LeV.conv _ _ _ rfl (fun n _ a=>absurd (show n∈([]:List Nat) from a) (by simp)))|exact wJ|refine And.intro ?_ ?_));done⟩)|refine aS ?_|fail)
 rintro _ _
 repeat' ((conv=>whnf);first|refine uc _ (h) ?_|refine aS ?_|exact trivial)
end Go.ST
end
section
namespace Go.Proofs
open Go.Shelf
def Tryz.Cd:Go.Shelf.Ren:=⟨fun|4=>119|n=>n,fun|22=>25|25=>64|3=>3|4=>4|9=>9|20=>20|0=>0|n=>n,fun|n=>n⟩
theorem Tryz.BD:Go.Proofs.Lays8.n4 Tryz.prog Tryz.Cd:={
 mixed:=by kernel_rfl
 f4:=⟨Tryz.f119.name,by decide,Tryz.func119.trans (congrArg some (by kernel_rfl))⟩
 t0:=Tryz.underlying0
 a0:=Tryz.isAgg0
 z0:=Tryz.sizeOf0
 v0:=Tryz.zeroValue0
 t3:=Tryz.underlying3
 a3:=Tryz.isAgg3
 z3:=Tryz.sizeOf3
 v3:=Tryz.zeroValue3
 t4:=Tryz.underlying4
 a4:=Tryz.isAgg4
 z4:=Tryz.sizeOf4
 v4:=Tryz.zeroValue4
 t9:=Tryz.underlying9
 a9:=Tryz.isAgg9
 z9:=Tryz.sizeOf9
 v9:=Tryz.zeroValue9
 t20:=Tryz.underlying20
 a20:=Tryz.isAgg20
 z20:=Tryz.sizeOf20
 v20:=Tryz.zeroValue20
 t22:=Tryz.underlying25
 a22:=Tryz.isAgg25
 z22:=Tryz.sizeOf25
 v22:=Tryz.zeroValue25 }
end Go.Proofs
end
section
namespace Go.ST
open Go Go.DL Go.MM Go.Proofs Go.Shelf Go.RowKit
theorem Jd(w:World)(p:Option Addr)(n c:Nat)(b:List Value)(g:b.length=n * 4)(h:p=none->n=0)(f: ∀a,p=some a-> ∀(j:Nat) (u:Value),b[j]? =some u->w.cell? (a.add j)=some u)(d: ∀u∈b,u.oneCell'=true):
  Src Tryz.prog 4 25 (.slice p n c) n b w:=by
 cases p with
 |none=>
  have:=h rfl
  subst this
  have:b=[]:=List.eq_nil_of_length_eq_zero (by omega)
  subst this;exact Src.ofNil w uZ c
 |some a=>exact Src.ofSlice w uZ a n c b g (f a rfl) d
theorem Ko(w:World):Calls Tryz.prog 119 #[.slice none 0 0,.int .i64 0] w fun e a=>e= .returned (.slice none 0 0)/\a=w:=
 Any8.slices_Grow_room Tryz.BD none 0 0 0 w (Nat.le_refl _) (by omega) (by omega) (by omega)
theorem Kp(w:World)(n:Nat)(m:Int)(f:m=n)(h:0<n)(j:n<2^40):Calls Tryz.prog 119 #[.slice none 0 0,.int .i64 m] w fun e d=> ∃G,n<=G/\e= .returned (.slice (some ⟨w.heap.size,0,none⟩) 0 G)/\d=w.drew.alloc (.cells (uz n++uz (G - n)) 64):=by
 subst f;obtain ⟨i0,g,b,i,c⟩:=info_parts yG;refine (Any8.slices_Grow_grow Tryz.BD i0 zeV g b (by omega) none 0 0 n [] w (Nat.le_refl _) (by omega) (by rw [c];omega) (by omega) (by simp) (fun _=>rfl) (fun a h=>by cases h)).mono ?_;rintro e d ⟨rfl,rfl⟩;refine ⟨_,Nat.le_trans (Nat.le_of_eq (Nat.zero_add n).symm) (grownCap_ge _ _ _ _),rfl,?_⟩;simp;rfl
theorem C6(w:World)(c:TypeId)(g n G m:Nat)(x:Value)(a:List Value)(d:Src Tryz.prog 4 25 x m a w)(q:n+m<=G)(k: ∀j,j<G * 4->(w.cell? ⟨g,j,none⟩).isSome=true)(f: ∀j,w.frozen? ⟨g,j,none⟩=false):
  (Builtin.append_ #[25,25] c #[.slice (some ⟨g,0,none⟩) n G,x]).run Tryz.prog w= .ok (.slice (some ⟨g,0,none⟩) (n+m) G) (w.setCells g (n * 4) a):=by
 obtain ⟨i0,i,h,b,p⟩:=info_parts yG
 have:=run_append_room_src (P:=Tryz.prog) w 25 25 c 64 i0 uZ i g 0 n G x m a (by rw [b];exact d) q (fun j r=>by rw [b];exact k _ (by have:=d.newsLen;omega)) (fun j _=>f _)
 rw [b,Nat.zero_add] at this;exact this
theorem Is(W:World)(vb K a E c y:Nat)(D z:Option Addr)(A B:List Value)(M:W.cell? ⟨vb,0,none⟩=some (.slice D a E))(k1:W.cell? ⟨vb,1,none⟩=some (.slice z c y))(Y:a<2^30)(hnb:c<2^30)
  (F: ∀b,DL.Below W.heap.size W b->Src Tryz.prog 4 25 (.slice D a E) a A b) (sB: ∀b,DL.Below W.heap.size W b->Src Tryz.prog 4 25 (.slice z c y) c B b) (Z:0<a+c):
  Calls Tryz.prog 77 #[.slice (some ⟨vb,0,none⟩) 2 K] W fun e b=> ∃G,a+c<=G/\e= .returned (.slice (some ⟨W.heap.size,0,none⟩) (a+c) G)/\
   b=((W.drew.alloc (.cells (uz (a+c)++uz (G - (a+c))) 64)).setCells W.heap.size 0 A).setCells W.heap.size (a * 4) B:=by
 have q22:=nil_eq;have T: ∀w,Sem.run Tryz.prog (underlying 25) w= .ok (TypeDesc.slice 64) w:=run_underlying uZ;have mx:=mixed;have w1:wrap64 (a:Int)=a:=by unfold wrap64;omega
 have w2:wrap64 ((a:Int)+c)=((a+c:Nat):Int):=by unfold wrap64;omega
 have n1: ¬((a:Int)<0):=by omega
 have n2: ¬(((a+c:Nat):Int)<0):=by omega
 have NT:W.drew.heap.size=W.heap.size:=rfl;have r: ∀G,DL.Below W.heap.size W (W.drew.alloc (.cells (uz (a+c)++uz (G - (a+c))) 64)):=fun G=>((DL.Below.refl _ _).drew).alloc (Nat.le_refl _) _
 have q:vb<W.heap.size:=block_lt_of_cell M;have x: ∀b,DL.Below W.heap.size W b->b.cell? ⟨vb,0,none⟩=some (.slice D a E):=fun b h=>by rw [h.toBelow.cell (p:=⟨vb,0,none⟩) q];exact M
 have i: ∀b,DL.Below W.heap.size W b->b.cell? ⟨vb,1,none⟩=some (.slice z c y):=fun b h=>by rw [h.toBelow.cell (p:=⟨vb,1,none⟩) q];exact k1
 have u: ∀k,(uz k).size=k * 4:=fun k=>by simp [uz,Builtin.zeroCells,Value.cells]
 have O: ∀G,a+c<=G-> ∀j,j<G * 4->((W.drew.alloc (.cells (uz (a+c)++uz (G - (a+c))) 64)).cell? ⟨W.heap.size,j,none⟩).isSome=true:=fun G L j P=>by
  rw [World.cell?_alloc_at (w:=W.drew) _ _ W.heap.size j rfl,Array.getElem?_eq_getElem (by rw [Array.size_append,u,u];omega)];rfl
 have Q: ∀G j,(W.drew.alloc (.cells (uz (a+c)++uz (G - (a+c))) 64)).frozen? ⟨W.heap.size,j,none⟩=false:=fun G j=>World.frozen?_alloc_at (w:=W.drew) _ _ W.heap.size j rfl
 go_enter Tryz.func77,Tryz.ntmps77
 go_wp2
 refine wp_loop_rounds 3 ?_;rw [rounds_succ]
 go_wp2
 rw [rounds_succ]
 go_wp2
 rw [rounds_succ]
 go_wp2_with (go_at_call 119;refine (Kp W (a+c) _ (by omega) Z (by omega)).mono ?_;rintro e b ⟨G,L,rfl,d⟩;have N:Aside (b=W.drew.alloc (.cells (uz (a+c)++uz (G - (a+c))) 64)):=d;clear d)
 have d:=N.out;have n:=r G;have v:=O G L;have C:=Q G;rw [<- d] at n v C;have m: ∀j,j<G * 4->((b.setCells W.heap.size 0 A).cell? ⟨W.heap.size,j,none⟩).isSome=true:=fun j P=>by
  have X:=(F W (DL.Below.refl _ _)).newsLen;exact vM _ A 0 b (fun t ht=>by rw [Nat.zero_add];exact v t (by omega)) j (v j P)
 have f:DL.Below W.heap.size W (b.setCells W.heap.size 0 A):=ve _ (Nat.le_refl _) _ _ _ n;have H:=fun J=>C6 b J W.heap.size 0 G a (.slice D a E) A (F b n) (by omega) v C
 have S:=fun J=>C6 (b.setCells W.heap.size 0 A) J W.heap.size a G c (.slice z c y) B (sB _ f) (by omega) m (fun j=>by rw [World.frozen?_setCells];exact C j)
 have q0:=x b n;have U:=i _ f;simp only [Nat.zero_add,Nat.zero_mul] at H;clear d n f v m C r O Q x i F sB M k1;obtain ⟨I,g⟩: ∃I,I=b.setCells W.heap.size 0 A:=⟨_,rfl⟩
 rw [<- g] at H S U;have V:Aside (I=b.setCells W.heap.size 0 A):=g;clear g;refine wp_loop_rounds 3 ?_;rw [rounds_succ]
 go_wp2_with (at_builtin;refine Lib.wpList_append_run _ rfl _ _ _ _ rfl _ _ rfl rfl _ _ (H _) ?_)
 rw [rounds_succ]
 go_wp2_with (at_builtin;refine Lib.wpList_append_run _ rfl _ _ _ _ rfl _ _ rfl rfl _ _ (S _) ?_)
 rw [rounds_succ]
 go_wp2
 go_ret
 exact ⟨G,L,rfl,by rw [V.out,N.out]⟩
theorem Eb(w:World)(f:TypeId)(x:Value)(a:Src Tryz.prog 4 25 x 0 [] w):(Builtin.append_ #[25,25] f #[.slice none 0 0,x]).run Tryz.prog w= .ok (.slice none 0 0) w:=by
 obtain ⟨i0,h,g,b,i⟩:=info_parts yG;have j:=a.cells;have d:=a.cellsD;rcases a.kind with ⟨e',c⟩|c <;> simp [Builtin.append_,run_underlying uZ,sizeOf,typeInfo,h,b,a.len,j]
theorem Ir(W:World)(vb b h c:Nat)(g d:Option Addr)(p:W.cell? ⟨vb,0,none⟩=some (.slice g 0 h))(k1:W.cell? ⟨vb,1,none⟩=some (.slice d 0 c))
  (j:Src Tryz.prog 4 25 (.slice g 0 h) 0 [] W) (sB:Src Tryz.prog 4 25 (.slice d 0 c) 0 [] W):
  Calls Tryz.prog 77 #[.slice (some ⟨vb,0,none⟩) 2 b] W fun e f=>e= .returned (.slice none 0 0)/\f=W:=by
 have n:=nil_eq;have i: ∀w,Sem.run Tryz.prog (underlying 25) w= .ok (TypeDesc.slice 64) w:=run_underlying uZ;have mx:=mixed;have k:=fun a=>Eb W a _ j
 have m:=fun a=>Eb W a _ sB
 go_enter Tryz.func77,Tryz.ntmps77
 go_wp2
 refine wp_loop_rounds 3 ?_;rw [rounds_succ]
 go_wp2
 rw [rounds_succ]
 go_wp2
 rw [rounds_succ]
 go_wp2_with (go_at_call 119;refine (Ko W).mono ?_;rintro e f ⟨rfl,rfl⟩)
 refine wp_loop_rounds 3 ?_;rw [rounds_succ]
 go_wp2_with (at_builtin;refine Lib.wpList_append_run _ rfl _ _ _ _ rfl _ _ rfl rfl _ _ (k _) ?_)
 rw [rounds_succ]
 go_wp2_with (at_builtin;refine Lib.wpList_append_run _ rfl _ _ _ _ rfl _ _ rfl rfl _ _ (m _) ?_)
 rw [rounds_succ]
 go_wp2
 go_ret
 exact ⟨rfl,rfl⟩
end Go.ST
end
section
namespace Go.ST
open Go Go.DL Go.MM Go.Proofs
theorem yt(b:Nat)(e:TypeId)(s:Nat×Nat): ∀(vs:List Value) (o:Nat) (w:World) (c:Array Value),w.heap[b]? =some (.cells c e s)-> ∃a,(w.setCells b o vs).heap[b]? =some (.cells a e s)/\a.size=c.size
 |[],_,_,c,h=>⟨c,h,rfl⟩
 |v::vs,o,w,c,h=>by
  have f:(w.setCell ⟨b,o,none⟩ v).heap[b]? =some (.cells (c.setIfInBounds o v) e s):=by
   unfold World.setCell;simp [Array.getElem?_modify,h]
  obtain ⟨a,g,d⟩:=yt b e s vs (o+1) _ _ f;exact ⟨a,g,by rw [d,Array.size_setIfInBounds]⟩
theorem GD{S:ar}{w:World}{v:Value}{L:List RE}(h:Rep S w v (esT L)): ∃(a:Option Addr) (f:Nat) (c:List Value),v= .slice a L.length f/\c.length=L.length * 4/\(a=none->L.length=0)/\
  (∀ r,a=some r-> ∀(j:Nat) (u:Value),c[j]? =some u->w.cell? (r.add j)=some u)/\Al (fun x t=>Rep S w x t) c (L.flatMap uk):=by
 cases h with
 |slice a b o len f n xs g B H G F A D h=>
  rw [yE] at *
  have k:len=L.length:=by rw [<- B,List.length_map]
  subst k;refine ⟨a,f,(List.range (L.length * 4)).map g,rfl,by simp,fun E=>?_,fun r m j u p=>?_,⟨by rw [vq];simp,fun i x t q C=>?_⟩⟩
  ·rcases Nat.eq_zero_or_pos L.length with y|y
   ·exact y
   ·have:=A (by rw [vq];omega)
    rw [E] at this;cases this
  ·have d:=(gsZ p).1;rw [List.length_map,List.length_range] at d
   have:=A (by rw [vq];omega)
   rw [m] at this;cases this;rw [List.getElem?_map,List.getElem?_range d] at p;cases p;rw [Addr.add_lit];exact (D j (by rw [vq];exact d)).1
  ·have z:=(gsZ q).1;rw [List.length_map,List.length_range] at z;rw [List.getElem?_map,List.getElem?_range z] at q;cases q;exact h i t C
theorem F3(a b:List RE)(ha:a.length<2^30)(hb:b.length<2^30){st:St}{r d:Nat}{K:St->Prop}(hq:st.bx (d+st.off)=none)(qj:a++b=[]->K (st.set (some d) (.t .nil)))
  (hk:0<(a++b).length->K ({st with bx:=upd st.bx (d+st.off) (some (.d ((a++b).length * 4) ((a++b).flatMap uk)))}.set (some d) (.view (d+st.off) 0 (a++b).length 4))):
  WC Tryz.prog 77 [.own r 25 1 [esT a,esT b]] (some d) st K:=by
 refine ⟨eb Tryz.func77 rfl rfl,fun N w0 S0 E t vs h W hv hd=>?_⟩;have hsz:vs.size=1:=W;have hvs:vs= #[vs[0]]:=by
  apply Array.ext
  ·simp [hsz]
  ·intro i h1 h2
   match i,h1 with
   |0,_=>rfl
   |i+1,h1=>omega
 have ho:=(hv 0 vs[0] _ (by simp [hsz]) rfl).eY;generalize vs[0]=v0 at *
 subst hvs;obtain ⟨cells,k1,k2,k3⟩:=ho.ex;rcases k1.2 with ⟨rfl,hn⟩|⟨g,cap,cur,rfl,hbg,hg,cT,hm,Q,X⟩
 ·cases hn
 have hcl:cells.length=2:=k2;obtain ⟨va,vb,rfl⟩: ∃va vb,cells=[va,vb]:=by
  match cells,hcl with
  |[x,y],_=>exact ⟨x,y,rfl⟩
 obtain ⟨pa,ca,A,rfl,M,hA2,hA3,P⟩:=GD (k3 0 va (esT a) rfl rfl);obtain ⟨pb,cb,B,rfl,O,U,hB3,H⟩:=GD (k3 1 vb (esT b) rfl rfl);have hc0:E.w.cell? ⟨g,0,none⟩=some (.slice pa a.length ca):=by
  rw [cell_of_row _ _ _ _ _ _ hg]
  have:=congrArg (fun l:List Value=>l[0]?) X
  simpa using this
 have hc1:E.w.cell? ⟨g,1,none⟩=some (.slice pb b.length cb):=by
  rw [cell_of_row _ _ _ _ _ _ hg]
  have:=congrArg (fun l:List Value=>l[1]?) X
  simpa using this
 have one: ∀{l:List Value} {L:List RE},Al (fun x t=>Rep E.S E.w x t) l (L.flatMap uk)-> ∀u∈l,u.oneCell'=true:=fun {l L} h u I=>by
  obtain ⟨i,T,rfl⟩:=List.getElem_of_mem I;have V:i<(L.flatMap uk).length:=by rw [<- h.len];exact T
  exact (h.at_ i _ _ (ggZ T) (ggZ V)).one (DX L _ (List.getElem_mem V))
 have v: ∀{l:List Value} {L:List RE} {p:Option Addr} {c:Nat},l.length=L.length * 4->(p=none->L.length=0)->(∀ Y,p=some Y-> ∀(j:Nat) (u:Value),l[j]? =some u->E.w.cell? (Y.add j)=some u)->Al (fun x t=>Rep E.S E.w x t) l (L.flatMap uk)-> ∀f,DL.Below E.w.heap.size E.w f->
   Src Tryz.prog 4 25 (.slice p L.length c) L.length l f:=fun h1 h2 h3 h4 f hb=>Jd f _ _ _ _ h1 h2 (fun Y had j u hj=>by
  have:=h3 Y had j u hj
  have hlt:(Y.add j).block<E.w.heap.size:=block_lt_of_cell this;rw [hb.toBelow.cell hlt];exact this) (one h4)
 rcases Nat.eq_zero_or_pos (a++b).length with Z|Z
 ·rw [List.length_append] at Z;have ha0:a=[]:=List.eq_nil_of_length_eq_zero (by omega);have hb0:b=[]:=List.eq_nil_of_length_eq_zero (by omega);subst ha0;subst hb0;have hA0:A=[]:=List.eq_nil_of_length_eq_zero M;have hB0:B=[]:=List.eq_nil_of_length_eq_zero O;have s1:=v M hA2 hA3 P (c:=ca) E.w (DL.Below.refl _ _);have s2:=v O U hB3 H (c:=cb) E.w (DL.Below.refl _ _);rw [hA0] at s1;rw [hB0] at s2;refine (Ir E.w g cap ca cb pa pb hc0 hc1 s1 s2).mono ?_;rintro e f ⟨rfl,rfl⟩;exact ⟨_,rfl,E,_,rfl,qj rfl,eZ h hd (.t _ _ .nil)⟩
 have hk:=hk Z;rw [List.length_append] at Z;refine (Is E.w g cap a.length ca b.length cb pa pb A B hc0 hc1 ha hb (v M hA2 hA3 P) (v O U hB3 H) Z).mono ?_;rintro e f ⟨G,hG,rfl,F⟩;have n: ∀k,(uz k).size=k * 4:=fun k=>by simp [uz,Builtin.zeroCells,Value.cells]
 have hBl:DL.Below E.w.heap.size E.w f:=by
  rw [F];exact ve _ (Nat.le_refl _) _ _ _ (ve _ (Nat.le_refl _) _ _ _ (((DL.Below.refl _ _).drew).alloc (Nat.le_refl _) _))
 obtain ⟨C,Fo,Mh⟩: ∃z,f.heap[E.w.heap.size]? =some (.cells z 64 (0,0))/\z.size=G * 4:=by
  obtain ⟨c1,g1,z1⟩:=yt E.w.heap.size 64 (0,0) A 0 (E.w.drew.alloc (.cells (uz (a.length+b.length)++uz (G - (a.length+b.length))) 64)) _ (heap_alloc_new E.w.drew _);obtain ⟨c2,g2,z2⟩:=yt E.w.heap.size 64 (0,0) B (a.length * 4) _ _ g1;rw [F];exact ⟨c2,g2,by rw [z2,z1,Array.size_append,n,n, <-Nat.add_mul];congr 1;omega⟩
 have cj: ∀(j:Nat) (u:Value),(A++B)[j]? =some u->C[j]? =some u:=fun j u I=>by
  have c1: ∀j,j<G * 4->((E.w.drew.alloc (.cells (uz (a.length+b.length)++uz (G - (a.length+b.length))) 64)).cell? ⟨E.w.heap.size,j,none⟩).isSome=true:=fun j hj=>by
   rw [World.cell?_alloc_at (w:=E.w.drew) _ _ E.w.heap.size j rfl,Array.getElem?_eq_getElem (by rw [Array.size_append,n,n];omega)];rfl
  rw [<- cell_of_row _ _ _ _ _ _ Fo,F];have hj:=(gsZ I).1;rw [List.length_append] at hj
  by_cases D:j<A.length
  ·rw [List.getElem?_append_left D] at I;rw [World.cell?_setCells_out _ _ _ _ _ (fun _ _=>by left;show j<a.length * 4;omega)]
   have:=World.cell?_setCells_in E.w.heap.size A 0 (E.w.drew.alloc (.cells (uz (a.length+b.length)++uz (G - (a.length+b.length))) 64)) (fun k hk=>c1 _ (by omega)) j D
   rw [Nat.zero_add] at this;rw [this, <-I,ggZ D]
  ·rw [List.getElem?_append_right (by omega)] at I
   have:=World.cell?_setCells_in E.w.heap.size B (a.length * 4) ((E.w.drew.alloc (.cells (uz (a.length+b.length)++uz (G - (a.length+b.length))) 64)).setCells E.w.heap.size 0 A) (fun k hk=>vM _ A 0 _ (fun t ht=>by rw [Nat.zero_add];exact c1 t (by omega)) _ (c1 _ (by omega))) (j - A.length) (by omega)
   rw [show a.length * 4+(j - A.length)=j by omega] at this;rw [this, <-I,ggZ (by omega)]
 have h':SR N w0 S0 {E with w:=f } st t:=h.world hBl E.S (fun b o=>⟨.inl,fun hh=>hh.elim id fun k=>k.1⟩);have klt: ∀m,E.live m=true->E.κ m<E.w.heap.size:=fun m hm=>lV (a:=⟨t,[]⟩) h hm
 have J:Al (fun x t=>Rep E.S E.w x t) (A++B) ((a++b).flatMap uk):=by rw [List.flatMap_append];exact P.append H
 have HT:(A++B).length=(a++b).length * 4:=by rw [J.len,vq]
 have hgl:E.w.heap.size<f.heap.size:=(Array.getElem?_eq_some_iff.1 Fo).1;have h2:=h'.pK (q:=d+st.off) (g:=E.w.heap.size) hq (fun m hm=>by have:=klt m hm;show E.κ m≠_;omega) (fun r' hr=>by have:=(h.rows r' _ hr).2.1;omega)
  (bx:=.d ((a++b).length * 4) ((a++b).flatMap uk)) ⟨by show E.B<=E.w.heap.size;rw [h.base];exact h.below.size,fun o Q=>absurd (h.lt _ o Q) (by omega),_,Fo,.cells C 64 _ <| .d _ _ (vq _) (by rw [Mh,List.length_append];exact Nat.mul_le_mul_right _ hG) fun i x u hx ht=>by
   have T:i<(A++B).length:=by rw [J.len];exact (gsZ ht).1
   have hx':=cj i _ (ggZ T);rw [hx] at hx';have hR:=J.at_ i x u (by rw [ggZ T];exact hx'.symm) ht;exact ⟨hR.mono (fun _ _ Q=>Q) (fun b o Q=>aC.dC hBl (h.lt b o Q)),DX _ _ (List.mem_of_getElem? ht)⟩⟩
 refine ⟨_,rfl,_,_,rfl,hk,eZ h2 hd ?_⟩
 have:=VR.view (E:={E with w:=f,κ:=upd E.κ (d+st.off) E.w.heap.size,live:=upd E.live (d+st.off) true }) (d+st.off) 0 (a++b).length 4 G (by show upd E.live _ true _=true;exact aj _ _ _) (by rw [List.length_append];exact hG)
 have hκ:upd E.κ (d+st.off) E.w.heap.size (d+st.off)=E.w.heap.size:=aj _ _ _;simp only [hκ,List.length_append] at this;rw [List.length_append];exact this
end Go.ST
end
section
namespace Go.Proofs
open Go.Shelf
def Tryz.Cz:Go.Shelf.Ren:=⟨fun|6=>78|15=>121|14=>120|28=>154|29=>155|20=>146|21=>147|22=>148|23=>149|24=>150|25=>151|26=>152|27=>153|46=>177|47=>178|48=>179|49=>180|50=>181|57=>194|n=>n,fun|22=>25|24=>64|25=>73|3=>3|39=>163|0=>0|53=>198|55=>183|4=>4|46=>192|45=>191|50=>124|5=>5|9=>9|66=>220|70=>219|76=>233|77=>234|n=>n,fun|n=>n⟩
theorem Tryz.Fw:Go.Proofs.SlLaysF0.n6 Tryz.prog Tryz.Cz:={
 mixed:=by kernel_rfl
 f6:=⟨Tryz.f78.name,by decide,Tryz.func78.trans (congrArg some (by kernel_rfl))⟩
 f14:=⟨Tryz.f120.name,by decide,Tryz.func120.trans (congrArg some (by kernel_rfl))⟩
 f15:=Tryz.func121.trans (congrArg some (by kernel_rfl))
 f20:=⟨Tryz.f146.name,by decide,Tryz.func146.trans (congrArg some (by kernel_rfl))⟩
 f21:=⟨Tryz.f147.name,by decide,Tryz.func147.trans (congrArg some (by kernel_rfl))⟩
 f22:=⟨Tryz.f148.name,by decide,Tryz.func148.trans (congrArg some (by kernel_rfl))⟩
 f23:=⟨Tryz.f149.name,by decide,Tryz.func149.trans (congrArg some (by kernel_rfl))⟩
 f24:=⟨Tryz.f150.name,by decide,Tryz.func150.trans (congrArg some (by kernel_rfl))⟩
 f25:=⟨Tryz.f151.name,by decide,Tryz.func151.trans (congrArg some (by kernel_rfl))⟩
 f26:=⟨Tryz.f152.name,by decide,Tryz.func152.trans (congrArg some (by kernel_rfl))⟩
 f27:=⟨Tryz.f153.name,by decide,Tryz.func153.trans (congrArg some (by kernel_rfl))⟩
 f28:=Tryz.func154.trans (congrArg some (by kernel_rfl))
 f29:=Tryz.func155.trans (congrArg some (by kernel_rfl))
 f46:=⟨Tryz.f177.name,by decide,Tryz.func177.trans (congrArg some (by kernel_rfl))⟩
 f47:=Tryz.func178.trans (congrArg some (by kernel_rfl))
 f48:=Tryz.func179.trans (congrArg some (by kernel_rfl))
 f49:=⟨Tryz.f180.name,by decide,Tryz.func180.trans (congrArg some (by kernel_rfl))⟩
 f50:=⟨Tryz.f181.name,by decide,Tryz.func181.trans (congrArg some (by kernel_rfl))⟩
 f57:=⟨Tryz.f194.name,by decide,Tryz.func194.trans (congrArg some (by kernel_rfl))⟩
 t0:=Tryz.underlying0
 a0:=Tryz.isAgg0
 z0:=Tryz.sizeOf0
 v0:=Tryz.zeroValue0
 t3:=Tryz.underlying3
 a3:=Tryz.isAgg3
 z3:=Tryz.sizeOf3
 v3:=Tryz.zeroValue3
 t4:=Tryz.underlying4
 a4:=Tryz.isAgg4
 z4:=Tryz.sizeOf4
 v4:=Tryz.zeroValue4
 t5:=Tryz.underlying5
 a5:=Tryz.isAgg5
 z5:=Tryz.sizeOf5
 v5:=Tryz.zeroValue5
 t9:=Tryz.underlying9
 a9:=Tryz.isAgg9
 z9:=Tryz.sizeOf9
 v9:=Tryz.zeroValue9
 t22:=Tryz.underlying25
 a22:=Tryz.isAgg25
 z22:=Tryz.sizeOf25
 v22:=Tryz.zeroValue25
 t25:=Tryz.underlying73
 a25:=Tryz.isAgg73
 z25:=Tryz.sizeOf73
 v25:=Tryz.zeroValue73
 t39:=Tryz.underlying163
 a39:=Tryz.isAgg163
 z39:=Tryz.sizeOf163
 v39:=Tryz.zeroValue163
 t45:=Tryz.underlying191
 a45:=Tryz.isAgg191
 z45:=Tryz.sizeOf191
 v45:=Tryz.zeroValue191
 t46:=Tryz.underlying192
 a46:=Tryz.isAgg192
 z46:=Tryz.sizeOf192
 v46:=Tryz.zeroValue192
 t50:=Tryz.underlying124
 a50:=Tryz.isAgg124
 z50:=Tryz.sizeOf124
 v50:=Tryz.zeroValue124
 t53:=Tryz.underlying198
 a53:=Tryz.isAgg198
 z53:=Tryz.sizeOf198
 v53:=Tryz.zeroValue198
 t55:=Tryz.underlying183
 a55:=Tryz.isAgg183
 z55:=Tryz.sizeOf183
 v55:=Tryz.zeroValue183
 t66:=Tryz.underlying220
 a66:=Tryz.isAgg220
 z66:=Tryz.sizeOf220
 v66:=Tryz.zeroValue220
 t70:=Tryz.underlying219
 a70:=Tryz.isAgg219
 z70:=Tryz.sizeOf219
 v70:=Tryz.zeroValue219
 t76:=Tryz.underlying233
 a76:=Tryz.isAgg233
 z76:=Tryz.sizeOf233
 v76:=Tryz.zeroValue233
 t77:=Tryz.underlying234
 a77:=Tryz.isAgg234
 z77:=Tryz.sizeOf234
 v77:=Tryz.zeroValue234 }
end Go.Proofs
end
section
namespace Go.ST2
open Go Go.DL Go.Proofs
noncomputable def c27:aV:=(sr [oo 4 (.mov (.const .nil)),oo 5 (.mov (Kc 0))] (sr [mv 8 0,mv 9 1,oo 10 (.buildS 25 1 2 [.nil] [(0,(tm 8)),(1,(tm 9))]),oo 11 (.inl 77 [tm 10]),mv 6 11] (sr [mv 12 6,oo 13 (.inl 78 [(tm 12),(.const (.clos 29 []))])] (.seq (sr [mv 14 6,ln 15 14,oo 16 (.mov (Kc 0))] (.block 0 (.loop (sr [oo 17 (.bin .lss (tm 16) (tm 15))] (.seq (.cond (tm 17) .skip (.exit 0)) (.seq (.block 1 (sr [mv 18 16,mv 7 18] (sr [mv 19 7,oo 20 (.bin .gtr (tm 19) (Kc 0)),mv 21 20,mT 22 6 21,mT 23 7 21,oT 24 21 (.bin .sub (tm 23) (Kc 1)),oT 25 21 (.idxL 4 (tm 22) (tm 24)),oT 26 21 (.load 4 true (tm 25)),mT 27 6 21,mT 28 7 21,oT 29 21 (.idxL 4 (tm 27) (tm 28)),oT 30 21 (.load 4 true (tm 29)),oT 31 21 (.call 29 [(tm 26),(tm 30)]),oT 32 21 (.bin .eql (tm 31) (Kc 0)),oo 33 (.pick (tm 21) (tm 32) kF)] (.cond (tm 33) (sr [oo 4 (.mov (.const .nil)),oo 5 (.mov (Kc 10))] .ret) .skip)))) (rg [oo 34 (.bin .add (tm 16) (Kc 1)),mv 16 34]))))))) (sr [mv 35 6,mv 4 35,oo 5 (.mov (Kc 0))] .ret)))))
theorem l27:(Tryz.f27.body.bind (bt Tryz.prog 36 [77,78]))=some c27:=by kernel_rfl
end Go.ST2
end
section
namespace Go.ST
open Go Go.DL Go.MM Go.Proofs
theorem GG:lY Tryz.prog 78 4:=
 lY.of Tryz.Fw 4 (fun w=>Tryz.isAgg64 w) (fun w=>Tryz.sizeOf64 w) (eb Tryz.func78 rfl rfl)
theorem Eh{P:Program}{f:FuncId}{k:Nat}{u:V}{d:Option Nat}{st:St}{K:St->Prop}(p:lY P f k)(z:K (st.set d (.t (.tup [])))):WC P f [.t .nil,u] d st K:=by
 refine ⟨p.callable,fun N C S0 E a vs h c r hd=>?_⟩;have b:vs.size=2:=c;have g:=(r 0 vs[0] _ (by simp [b]) rfl).ax;have j:vs= #[vs[0],vs[1]]:=by
  apply Array.ext
  ·simp [b]
  ·intro i n A
   match i,n with
   |0,_=>rfl
   |1,_=>rfl
   |i+2,n=>omega
 have m:vs[0]= .slice none 0 0:=by
  generalize vs[0]=v at g;cases g;rfl
 have q:=p.none_ none 0 vs[1] E.w;rw [<- m, <-j] at q;refine q.mono ?_;rintro e' B ⟨rfl,rfl⟩;exact ⟨_,rfl,_,_,rfl,z,eZ h hd (.t _ _ (.tup #[] [] rfl fun i x t y=>by simp at y))⟩
def unI:T->Int
 |.int _ i=>i
 |_=>0
def unE:T->RE
 |.agg [.str v,.slice _ ks,.int _ n,.int _ t]=>⟨v,ks.map unI,n,t⟩
 |_=>⟨⟨#[]⟩,[],0,0⟩
theorem Bs(e:RE):unE (um e)=e:=by
 obtain ⟨v,k,n,t⟩:=e;show RE.mk v ((k.map I).map unI) n t=_
 rw [List.map_map,show unI ∘ I=id from rfl,List.map_id]
def cfE(x y:T):Int:=ux (unE x) (unE y)
theorem xp(a b:RE):cfE (um a) (um b)=ux a b:=by unfold cfE;rw [Bs,Bs]
theorem Gr{a:List RE}{ys:List T}(h:ys.Perm (a.map um)): ∃us:List RE,us.Perm a/\ys=us.map um:=by
 refine ⟨ys.map unE,?_,?_⟩
 ·have:=h.map unE
  rw [List.map_map] at this;rwa [show unE ∘ um=id from funext Bs,List.map_id] at this
 ·rw [List.map_map]
  have:ys.map (um ∘ unE)=ys.map id:=List.map_congr_left fun y b=>by
   obtain ⟨z,_,rfl⟩:=List.mem_map.1 (h.mem_iff.1 b);show um (unE (um z))=um z
   rw [Bs]
  rw [this,List.map_id]
theorem FD{l:List RE}(h: ∃(i:Nat) (b:i+1<l.length),ux l[i] l[i+1]≠ -1):xf l=false:=by
 cases c:xf l with
 |false=>rfl
 |true=>
  obtain ⟨i,b,a⟩:=h;exact absurd (List.pairwise_iff_getElem.1 (xY.1 c) i (i+1) (by omega) b (by omega)) a
theorem Gp{l:List RE}(h: ∀(i:Nat) (c:i+1<l.length),ux l[i] l[i+1]= -1):xf l=true:=by
 induction l with
 |nil=>rfl
 |cons a r d=>
  cases r with
  |nil=>rfl
  |cons b r=>
   show (decide (ux a b= -1)&&xf (b::r))=true
   rw [Bool.and_eq_true];exact ⟨decide_eq_true (h 0 (by simp)),d fun i c=>h (i+1) (by simpa using c)⟩
theorem A4{a vs:List T}{n:Nat}(h:a.length=n):aN a 0 n vs=vs:=by
 unfold aN;rw [List.take_zero,List.nil_append,List.drop_eq_nil_of_le (by omega),List.append_nil]
def NC:Option (List RE)->T
 |some a=>.tup [esT a,I 0]
 |none=>.tup [.nil,I 10]
theorem HV(a b:List RE)(ha:a.length<2^30)(hb:b.length<2^30)(hka: ∀x∈a,kOk x)(hkb: ∀x∈b,kOk x)(r:T)(e:Int)
  (V: ∀c:List RE,c.Perm (a++b)->(c.Pairwise fun x y=>ux y x≠ -1)->(xf c=true->r=esT c/\e=0)/\(xf c=false->r= .nil/\e=10)):DCalls Tryz.prog 27 [esT a,esT b] (.tup [r,I e]):=by
 refine dl2 mixed [.tmp 4,.tmp 5] [r,I e] Tryz.func27 Go.ST2.l27 ?_;have JD: ∀x∈a++b,kOk x:=fun x u=>(List.mem_append.1 u).elim (hka x) (hkb x)
 have hlen:(a++b).length<2^31:=by rw [List.length_append];omega
 repeat' ((conv=>whnf);first|refine F3 a b ha hb rfl (fun h0=>?_) (fun h0=>?_)|refine aS ?_|fail)
 ·have:=V [] (by rw [h0]) List.Pairwise.nil
  obtain ⟨rfl,rfl⟩:=this.1 rfl
  repeat' ((conv=>whnf);first|refine Eh GG ?_)
  refine tx 0 (α:=Unit) (β:=Unit) (fun _=>{sl:=[(6,.t .nil),(15,.t (I 0)),(16,.t (I 0))],bx:=[]}) (fun _=>True) (fun _=>0) (fun _=>{sl:=[(6,.t (esT []))],bx:=[]}) (fun _=>True) () trivial ?_ ?_ ?_
  ·repeat' (first|exact wJ|refine And.intro ?_ ?_)
  ·rintro - -
   repeat' ((conv=>whnf);first|(exact ⟨(),trivial,by (repeat' (first|(exact LeV.empty 4)|exact wJ|refine And.intro ?_ ?_));done⟩)|refine aD0 ?_|refine aS ?_|fail)
  ·rintro - -
   repeat' ((conv=>whnf);first|refine rix ?_|refine aS ?_|exact trivial)
 ·have hfl:=vq (a++b);have q:chunk 4 (a++b).length (((a++b).flatMap uk).drop 0)=(a++b).map um:=by rw [List.drop_zero];exact AM _
  have p: ∀x∈(a++b).map um, ∃e:RE,x=um e/\kOk e:=fun x u=>by
   obtain ⟨e,S,rfl⟩:=List.mem_map.1 u;exact ⟨e,rfl,JD e S⟩
  repeat' ((conv=>whnf);first|refine tU (n:=11) (off:=0) (len:=(a++b).length) (k:=4) (m:=(a++b).length * 4) (ts:=(a++b).flatMap uk) GG rfl (by omega) (by decide) (by omega) (.inl rfl) (eb Tryz.func29 rfl rfl) cfE ?_ ?_ ?_ ?_ (fun ys A K=>?_)|fail)
  ·rw [q];intro x u y A;obtain ⟨e,rfl,S⟩:=p x u;obtain ⟨f,rfl,hf⟩:=p y A;rw [xp];exact xK e f S hf
  ·rw [q];intro x u;obtain ⟨e,rfl,S⟩:=p x u;rw [xp,uv.refl];decide
  ·rw [q];intro x u y A z D;obtain ⟨e,rfl, -⟩:=p x u;obtain ⟨f,rfl, -⟩:=p y A;obtain ⟨g,rfl, -⟩:=p z D;rw [xp,xp,xp];intro X h2
   have:=uv.t e f g (by have:=uv.r e f;omega) (by have:=uv.r f g;omega)
   omega
  ·rw [q];intro x u y A z D;obtain ⟨e,rfl, -⟩:=p x u;obtain ⟨f,rfl, -⟩:=p y A;obtain ⟨g,rfl, -⟩:=p z D;rw [xp,xp,xp];intro X h2 h3;have G:=uv.r e f;have N:=uv.r f g;have r3:=uv.r e g;have s1:=uv.s e f;have s2:=uv.s f g;rcases G with G|G|G
   ·omega
   ·have:=uv.z e f G g;omega
   ·rcases N with N|N|N
    ·omega
    ·have:=uv.z' N e;omega
    ·have:=uv.t g f e (by omega) (by omega)
     have:=uv.s e g
     omega
  ·rw [q] at A;obtain ⟨c,Z,rfl⟩:=Gr A;have L:c.Pairwise fun x y=>ux y x≠ -1:=by
    refine (List.pairwise_map.1 K).imp fun {x y} h=>?_
    rw [xp] at h;omega
   obtain ⟨Y,hrf⟩:=V c Z L;have Q:c.length=(a++b).length:=Z.length_eq;have O: ∀x∈c,kOk x:=fun x u=>JD x (Z.mem_iff.1 u)
   have fc:c.flatMap uk=aN ((a++b).flatMap uk) 0 ((a++b).length * 4) ((c.map um).flatMap T.cells):=by rw [A4 (vq _),yE]
   clear V q p K A;generalize (a++b).length=n at *
   generalize (a++b).flatMap uk=cs at *
   have hr0: ∀bx:Nat->Option BX,bx 11=some (.d (n * 4) (aN cs 0 (n * 4) ((c.map um).flatMap T.cells)))->conv bx (.view 11 0 n 4)=some (esT c,[11]):=fun bx hb=>by
    have:conv bx (.view 11 0 n 4)=(match bx 11 with|some (.d m ts)=>cond (Nat.blt 0 4&&Nat.ble (0+n * 4) m) (some (T.slice 4 (chunk 4 n (ts.drop 0)),[11])) none|_=>none):=rfl
    rw [this,hb, <-fc];simp only;have X:Nat.ble (0+n * 4) (n * 4)=true:=Nat.ble_eq_true_of_le (by omega);rw [X,List.drop_zero, <-Q,AM c];rfl
   have JF:((c.map um).length:Int)=(n:Int):=by rw [List.length_map,Q]
   refine tx 0 (α:=Nat) (β:=Unit) (fun i=>{sl:=[(6,.t (esT c)),(15,.t (I n)),(16,.t (I i))],bx:=[]})
    (fun i=>i<=n/\ ∀j (h:j+1<c.length),j+1<i->ux c[j] c[j+1]= -1) (fun i=>n - i)
    (fun _=>{sl:=[(6,.t (esT c))],bx:=[]}) (fun _=>xf c=true) 0 ⟨Nat.zero_le _,fun j _ h=>by omega⟩ ?_ ?_ ?_
   ·repeat' (first|(exact LeV.conv _ _ _ (hr0 _ rfl) (fun n _ U=>absurd (show n∈([]:List Nat) from U) (by simp)))|exact wJ|refine And.intro ?_ ?_)
   ·rintro i ⟨hi,B⟩;rcases Nat.lt_or_ge i n with h|h
    ·have v:(i:Int)<(n:Int):=by omega
     have M:((i+1:Nat):Int)=IntKind.wrap .i64 ((i:Int)+1):=by rw [nW] <;> omega
     cases i with
     |zero=>
      repeat' ((conv=>whnf);first|refine sC v ?_|(exact ⟨1,⟨h,fun j _ hj=>by omega⟩,(by omega),by (repeat' (first|(exact leI M)|exact wJ|refine And.intro ?_ ?_));done⟩)|refine aN0 ?_|refine aS ?_|fail)
     |succ j=>
      have E:((j+1:Nat):Int)>0:=by omega
      have C:j<c.length:=by omega
      have w:j+1<c.length:=by omega
      have hw:IntKind.wrap .i64 (((j+1:Nat):Int) - 1)=(j:Int):=by rw [nW] <;> omega
      have F:(c.map um)[(IntKind.wrap .i64 (((j+1:Nat):Int) - 1)).toNat]?.getD .nil= .agg (uk c[j]):=by
       rw [hw,Int.toNat_natCast,uQ C]
      have P:(c.map um)[((j+1:Nat):Int).toNat]?.getD .nil= .agg (uk c[j+1]):=by
       rw [Int.toNat_natCast,uQ w]
      have H:0<=IntKind.wrap .i64 (((j+1:Nat):Int) - 1)/\IntKind.wrap .i64 (((j+1:Nat):Int) - 1)<((c.map um).length:Int):=by rw [hw,JF];omega
      have J:0<=((j+1:Nat):Int)/\((j+1:Nat):Int)<((c.map um).length:Int):=by rw [JF];omega
      have hC:=xK c[j] c[j+1] (O _ (List.getElem_mem C)) (O _ (List.getElem_mem w));have hcr:=uv.r c[j] c[j+1];have hne:=List.pairwise_iff_getElem.1 L j (j+1) C w (by omega);have hcs:=uv.s c[j] c[j+1]
      by_cases D:ux c[j] c[j+1]=0
      ·obtain ⟨rfl,rfl⟩:=hrf (FD ⟨j,w,by omega⟩)
       repeat' ((conv=>whnf);first|exact trivial|refine sC v ?_|refine sC E ?_|(refine nv_ (.agg (uk c[j])) (by first|exact F) ?_)|(refine nv_ (.agg (uk c[j+1])) (by first|exact P) ?_)|refine uc _ (hC) ?_|refine sE D ?_|refine rix ?_|(refine And.intro (by first|exact H|exact J|exact uo _) ?_)|refine aS ?_|refine nT_ ?_)
      ·have Ks: ∀k (U:k+1<c.length),k+1<j+1+1->ux c[k] c[k+1]= -1:=fun k U hk2=>by
        rcases Nat.lt_or_ge (k+1) (j+1) with h3|h3
        ·exact B k U h3
        ·have:k=j:=by omega
         subst this;omega
       repeat' ((conv=>whnf);first|refine sC v ?_|refine sC E ?_|(refine nv_ (.agg (uk c[j])) (by first|exact F) ?_)|(refine nv_ (.agg (uk c[j+1])) (by first|exact P) ?_)|refine uc _ (hC) ?_|refine sD D ?_|(exact ⟨j+1+1,⟨h,Ks⟩,(by omega),by (repeat' (first|(exact leI M)|exact wJ|refine And.intro ?_ ?_));done⟩)|(refine And.intro (by first|exact H|exact J|exact uo _) ?_)|refine aS ?_|refine nT_ ?_)
    ·have v: ¬(i:Int)<(n:Int):=by omega
     have W:xf c=true:=Gp fun j hj=>B j hj (by omega)
     repeat' ((conv=>whnf);first|refine su v ?_|(exact ⟨(),W,by (repeat' (first|exact wJ|refine And.intro ?_ ?_));done⟩)|refine aS ?_|fail)
   ·rintro - W;obtain ⟨rfl,rfl⟩:=Y W
    repeat' ((conv=>whnf);first|refine rix ?_|refine aS ?_|exact trivial)
theorem J5(a b:List RE)(n:uH a)(m:uH b)(p:a.length<2^30)(q:b.length<2^30)(j: ∀x∈a,kOk x)(g: ∀x∈b,kOk x):DCalls Tryz.prog 27 [esT a,esT b] (NC (Ca a b)):=by
 have k:=fun (c:List RE) (f:c.Perm (a++b)) d=>Ej n m f d
 cases h:Ca a b with
 |none=>
  refine HV a b p q j g .nil 10 fun c f d=>⟨fun i=>?_,fun _=>⟨rfl,rfl⟩⟩
  have:=k c f d
  rw [h,if_pos i] at this;cases this
 |some w=>
  refine HV a b p q j g (esT w) 0 fun c f d=>⟨fun i=>?_,fun i=>?_⟩
  ·have:=k c f d
   rw [h,if_pos i] at this;cases this;exact ⟨rfl,rfl⟩
  ·have:=k c f d
   rw [h,if_neg (by simp [i])] at this;cases this
end Go.ST
end
section
end
noncomputable section
namespace Go.ST4
open Go Go.DL Go.Proofs
def c58:aV:=(sr [oo 5 (.box 10 (tm 2)),oo 6 (.mov (.const .nil)),oo 7 (.mov kF)] (sr [oo 8 (.mov (.const .nil))] (.seq (sr [mv 13 1,ln 14 13,oo 15 (.mov (Kc 0))] (.block 0 (.loop (sr [oo 16 (.bin .lss (tm 15) (tm 14))] (.seq (.cond (tm 16) .skip (.exit 0)) (.seq (.block 1 (sr [ix 17 1 13 15,ld 18 17,mv 10 18] (sr [mv 20 0,mv 21 10,oo 22 (.call 107 [(tm 20),(tm 21)]),mv 19 22,oo 23 (.ext (tm 19) 0),oo 24 (.ext (tm 19) 1),⟨some 11,.alloc [S0,Z0,Z0],none,[]⟩,o0 (.store 3 (tm 11) (tm 23)),mv 12 24] (.seq (sr [mv 25 12,oo 26 (.not (tm 25))] (.cond (tm 26) (sr [oo 6 (.mov (.const .nil)),oo 7 (.mov kF)] .ret) .skip)) (rg [mv 27 8,lA 28 3 11,lA 29 10 5,oo 30 (.call 108 [(tm 28),(tm 29)]),oo 31 (.buildF 1 1 [Z0] [(0,(tm 30))]),oo 32 (.append 59 3 1 8 (tm 27) (tm 31)),mv 8 32]))))) (rg [oo 33 (.bin .add (tm 15) (Kc 1)),mv 15 33]))))))) (sr [mv 34 8,mv 6 34,oo 7 (.mov kT)] .ret))))
theorem l58:(Tryz.f58.body.bind (bt Tryz.prog 35 [8000031]))=some c58:=by kernel_rfl
def c20:aV:=(sr [oo 5 (.box 10 (tm 2)),oo 6 (.mov (.const .nil)),oo 7 (.mov kF)] (sr [oo 8 (.mov (.const .nil))] (.seq (sr [oo 9 (.mov (Kc 0))] (.block 0 (.loop (.seq (sr [mv 12 9,mv 13 1,ln 14 13,oo 15 (.bin .lss (tm 12) (tm 14))] (.cond (tm 15) .skip (.exit 0))) (.seq (.block 1 (sr [mv 19 0,mv 20 1,mv 21 9,ix 22 1 20 21,ld 23 22,oo 24 (.call 17 [(tm 19),(tm 23)]),mv 18 24,oo 25 (.ext (tm 18) 0),oo 26 (.ext (tm 18) 1),⟨some 10,.alloc [S0,Z0,Z0],none,[]⟩,o0 (.store 3 (tm 10) (tm 25)),mv 11 26] (.seq (sr [mv 27 11,oo 28 (.not (tm 27))] (.cond (tm 28) (sr [oo 6 (.mov (.const .nil)),oo 7 (.mov kF)] .ret) .skip)) (rg [mv 29 8,lA 30 3 10,lA 31 10 5,oo 32 (.call 18 [(tm 30),(tm 31)]),oo 33 (.buildF 1 1 [Z0] [(0,(tm 32))]),oo 34 (.append 59 3 1 8 (tm 29) (tm 33)),mv 8 34])))) (rg [mv 16 9,oo 17 (.bin .add (tm 16) (Kc 1)),mv 9 17])))))) (sr [mv 35 8,mv 6 35,oo 7 (.mov kT)] .ret))))
theorem l20:(Tryz.f20.body.bind (bt Tryz.prog 36 [8000033]))=some c20:=by kernel_rfl
def Lh:aV:=(sr [mv 9 0,oo 10 (.nilck (tm 9)),fa 11 0 10,ld 12 11,mv 13 1,oo 14 (.call 107 [(tm 12),(tm 13)]),mv 8 14,oo 15 (.ext (tm 8) 0),oo 16 (.ext (tm 8) 1),⟨some 6,.alloc [S0,Z0,Z0],none,[]⟩,o0 (.store 3 (tm 6) (tm 15)),mv 7 16] (sr [mv 17 7] (.cond (tm 17) (rg [mv 18 0,lA 19 3 6,mv 20 0,oo 21 (.nilck (tm 20)),fa 22 8 21,lA 23 10 22,mv 24 2,lA 25 3 6,oo 26 (.call 141 [tm 25]),oo 27 (.minI (tm 24) (tm 26)),oo 28 (.call 140 [(tm 19),(tm 23),(tm 27)]),oo 29 (.nilck (tm 18)),fa 30 8 29,o0 (.store 10 (tm 30) (tm 28))]) .skip)))
theorem zx:(Tryz.f106.body.bind (bt Tryz.prog 31 []))=some Lh:=by kernel_rfl
def Lg:aV:=(sr [oo 2 (.mov kF)] (.seq (sr [mv 3 0,oo 4 (.nilck (tm 3)),fa 5 23 4,ld 6 5,oo 7 (.not (tm 6)),mv 8 7,mT 9 0 8,oT 10 8 (.nilck (tm 9)),oT 11 8 (.offA 7 (tm 10)),oT 12 8 (.load 1 false (tm 11)),mT 13 0 8,oT 14 8 (.nilck (tm 13)),oT 15 8 (.offA 1 (tm 14)),oT 16 8 (.offA 1 (tm 15)),oT 17 8 (.load 1 false (tm 16)),oT 18 8 (.call 22 [(tm 12),(tm 17)]),oT 19 8 (.len (tm 18)),oT 20 8 (.bin .geq (tm 19) (Kc 100)),oo 21 (.pick (tm 8) (tm 20) kF)] (.cond (tm 21) (sr [oo 2 (.mov kF)] .ret) .skip)) (sr [mv 22 0,mv 23 0,oo 24 (.nilck (tm 23)),fa 25 7 24,ld 26 25,mv 27 0,oo 28 (.nilck (tm 27)),fa 29 19 28,lA 30 4 29,oo 31 (.call 139 [(tm 26),(tm 30)]),oo 32 (.nilck (tm 22)),fa 33 7 32,o0 (.store 1 (tm 33) (tm 31))] (sr [oo 2 (.mov kT)] .ret))))
theorem vW:(Tryz.f105.body.bind (bt Tryz.prog 34 []))=some Lg:=by kernel_rfl
def c52:aV:=(sr [oo 2 (.mov kF)] (sr [mv 3 0,mv 4 0,mv 5 0,oo 6 (.nilck (tm 5)),fa 7 19 6,fa 8 2 7,ld 9 8,oo 10 (.bin .add (tm 9) (Kc 1)),oo 11 (.minI (tm 10) (Kc 65535)),mv 12 0,oo 13 (.nilck (tm 12)),fa 14 18 13,ld 15 14,oo 16 (.nilck (tm 3)),fa 17 19 16,fa 18 2 17,o0 (.store 1 (tm 18) (tm 11)),oo 19 (.nilck (tm 4)),fa 20 19 19,fa 21 3 20,o0 (.store 1 (tm 21) (tm 15))] (.seq (sr [mv 22 0,oo 23 (.inl 105 [tm 22]),oo 24 (.not (tm 23))] (.cond (tm 24) (sr [oo 2 (.mov kF)] .ret) .skip)) (sr [mv 25 0,mv 26 0,oo 27 (.nilck (tm 26)),fa 28 1 27,fa 29 3 28,ld 30 29,mv 31 0,oo 32 (.nilck (tm 31)),fa 33 19 32,fa 34 2 33,ld 35 34,oo 36 (.inl 106 [(tm 25),(tm 30),(tm 35)])] (sr [oo 2 (.mov kT)] .ret)))))
theorem l52:(Tryz.f52.body.bind (bt Tryz.prog 37 [105,106]))=some c52:=by kernel_rfl
def c53:aV:=(sr [oo 2 (.mov kF)] (sr [mv 3 0,mv 4 0,oo 5 (.nilck (tm 4)),fa 6 18 5,ld 7 6,oo 8 (.nilck (tm 3)),fa 9 19 8,fa 10 3 9,o0 (.store 1 (tm 10) (tm 7))] (sr [mv 11 0,oo 12 (.inl 105 [tm 11]),mv 2 12] .ret)))
theorem l53:(Tryz.f53.body.bind (bt Tryz.prog 13 [105]))=some c53:=by kernel_rfl
def c54:aV:=(sr [oo 2 (.mov kF)] (sr [mv 3 0,oo 4 (.nilck (tm 3)),fa 5 23 4,ld 6 5,mv 7 6,mT 8 0 7,oT 9 7 (.nilck (tm 8)),oT 10 7 (.offA 19 (tm 9)),oT 11 7 (.offA 3 (tm 10)),oT 12 7 (.load 1 false (tm 11)),mT 13 0 7,oT 14 7 (.nilck (tm 13)),oT 15 7 (.offA 18 (tm 14)),oT 16 7 (.load 1 false (tm 15)),mT 17 0 7,oT 18 7 (.nilck (tm 17)),oT 19 7 (.offA 1 (tm 18)),oT 20 7 (.offA 4 (tm 19)),oT 21 7 (.load 1 false (tm 20)),oT 22 7 (.bin .sub (tm 16) (tm 21)),oT 23 7 (.bin .geq (tm 12) (tm 22)),oo 24 (.pick (tm 7) (tm 23) kF),mv 2 24] .ret))
theorem l54:(Tryz.f54.body.bind (bt Tryz.prog 25 []))=some c54:=by kernel_rfl
def c55:aV:=(sr [oo 2 (.mov kF)] (sr [mv 6 0,mv 7 0,oo 8 (.nilck (tm 7)),fa 9 18 8,ld 10 9,oo 11 (.nilck (tm 6)),fa 12 19 11,fa 13 3 12,o0 (.store 1 (tm 13) (tm 10))] (.seq (sr [mv 14 0,oo 15 (.nilck (tm 14)),fa 16 23 15,ld 17 16,oo 18 (.not (tm 17))] (.cond (tm 18) (sr [oo 19 (.mkmap false [.int .i64]),mv 3 19] (.seq (sr [mv 20 0,oo 21 (.nilck (tm 20)),fa 22 7 21,ld 23 22,mv 24 0,oo 25 (.nilck (tm 24)),fa 26 1 25,fa 27 1 26,ld 28 27,oo 29 (.call 22 [(tm 23),(tm 28)]),ln 30 29,oo 31 (.mov (Kc 0))] (.block 0 (.loop (sr [oo 32 (.bin .lss (tm 31) (tm 30))] (.seq (.cond (tm 32) .skip (.exit 0)) (.seq (.block 1 (sr [ix 33 4 29 31,lA 34 4 33,⟨some 5,.alloc [S0,.nil,Z0,Z0],none,[]⟩,o0 (.store 4 (tm 5) (tm 34))] (rg [mv 35 3,fa 36 2 5,ld 37 36,o0 (.bC false [.int .i64] (tm 35) (tm 37) kT)]))) (rg [oo 38 (.bin .add (tm 31) (Kc 1)),mv 31 38]))))))) (.seq (sr [mv 39 0,mv 40 0,oo 41 (.nilck (tm 40)),fa 42 1 41,fa 43 4 42,ld 44 43,oo 45 (.nilck (tm 39)),fa 46 19 45,fa 47 2 46,o0 (.store 1 (tm 47) (tm 44))] (.block 2 (.loop (.seq (sr [mv 48 3,mv 49 0,oo 50 (.nilck (tm 49)),fa 51 19 50,fa 52 2 51,ld 53 52,oo 54 (.mlook false [.int .i64] (.bool false) false (tm 48) (tm 53))] (.cond (tm 54) .skip (.exit 2))) (.seq (.block 3 .skip) (rg [mv 55 0,oo 56 (.nilck (tm 55)),fa 57 19 56,fa 58 2 57,ld 59 58,oo 60 (.bin .add (tm 59) (Kc 1)),oo 61 (.nilck (tm 55)),fa 62 19 61,fa 63 2 62,o0 (.store 1 (tm 63) (tm 60))])))))) (sr [mv 64 0,oo 65 (.nilck (tm 64)),fa 66 19 65,fa 67 2 66,ld 68 67,mv 69 0,oo 70 (.nilck (tm 69)),fa 71 1 70,fa 72 5 71,ld 73 72,oo 74 (.bin .gtr (tm 68) (tm 73))] (.cond (tm 74) (sr [oo 2 (.mov kF)] .ret) .skip))))) .skip)) (.seq (sr [mv 75 0,oo 76 (.inl 105 [tm 75]),oo 77 (.not (tm 76))] (.cond (tm 77) (sr [oo 2 (.mov kF)] .ret) .skip)) (sr [mv 78 0,mv 79 0,oo 80 (.nilck (tm 79)),fa 81 1 80,fa 82 3 81,ld 83 82,mv 84 0,oo 85 (.nilck (tm 84)),fa 86 19 85,fa 87 2 86,ld 88 87,oo 89 (.inl 106 [(tm 78),(tm 83),(tm 88)])] (sr [oo 2 (.mov kT)] .ret))))))
theorem l55:(Tryz.f55.body.bind (bt Tryz.prog 90 [105,106]))=some c55:=by kernel_rfl
def Lk:aV:=(sr [oo 3 (.box 4 (tm 0)),oo 4 (.mov kF)] (sr [fa 5 0 3,ld 6 5,ld 7 1,oo 8 (.nilck (tm 7)),fa 9 1 8,fa 10 1 9,ld 11 10,oo 12 (.bin .eql (tm 6) (tm 11)),mv 13 12,oT 14 13 (.offA 2 (tm 3)),oT 15 13 (.load 1 false (tm 14)),oT 16 13 (.load 1 false (tm 2)),oT 17 13 (.bin .eql (tm 15) (tm 16)),oo 18 (.pick (tm 13) (tm 17) kF),mv 4 18] .ret))
theorem MB:(Tryz.f110.body.bind (bt Tryz.prog 19 []))=some Lk:=by kernel_rfl
def c57:aV:=(sr [oo 2 (.mov kF)] (sr [mv 7 0,oo 8 (.nilck (tm 7)),fa 9 19 8,mv 10 0,oo 11 (.nilck (tm 10)),fa 12 1 11,lA 13 6 12,⟨some 4,.alloc [Z0,S0,.nil,S0,Z0,Z0],none,[]⟩,mv 3 9,o0 (.store 6 (tm 4) (tm 13))] (.seq (sr [mv 14 0,oo 15 (.nilck (tm 14)),fa 16 23 15,ld 17 16,oo 18 (.not (tm 17))] (.cond (tm 18) (rg [mv 19 3,mv 20 3,fa 21 4 4,ld 22 21,mv 23 0,oo 24 (.nilck (tm 23)),fa 25 18 24,ld 26 25,oo 27 (.nilck (tm 19)),fa 28 2 27,o0 (.store 1 (tm 28) (tm 22)),oo 29 (.nilck (tm 20)),fa 30 3 29,o0 (.store 1 (tm 30) (tm 26))]) .skip)) (sr [mv 31 0,oo 32 (.nilck (tm 31)),fa 33 18 32,ld 34 33,mv 35 3,oo 36 (.nilck (tm 35)),fa 37 3 36,ld 38 37,oo 39 (.bin .sub (tm 34) (tm 38)),oo 40 (.maxI (Kc 0) (tm 39)),fa 41 5 4,ld 42 41,oo 43 (.bin .quo (tm 40) (tm 42)),mv 5 43] (.seq (sr [mv 44 3,oo 45 (.nilck (tm 44)),fa 46 2 45,ld 47 46,mv 48 5,oo 49 (.bin .add (tm 47) (tm 48)),fa 50 4 4,ld 51 50,oo 52 (.bin .geq (tm 49) (tm 51))] (.cond (tm 52) (rg [mv 53 3,mv 54 3,fa 55 4 4,ld 56 55,mv 57 0,oo 58 (.nilck (tm 57)),fa 59 18 58,ld 60 59,oo 61 (.nilck (tm 53)),fa 62 2 61,o0 (.store 1 (tm 62) (tm 56)),oo 63 (.nilck (tm 54)),fa 64 3 63,o0 (.store 1 (tm 64) (tm 60))]) (.region [mv 65 3,mv 66 3,mv 67 3,oo 68 (.nilck (tm 67)),fa 69 2 68,ld 70 69,mv 71 5,oo 72 (.bin .add (tm 70) (tm 71)),mv 73 3,oo 74 (.nilck (tm 73)),fa 75 3 74,ld 76 75,mv 77 5,fa 78 5 4,ld 79 78,oo 80 (.bin .mul (tm 77) (tm 79)),oo 81 (.bin .add (tm 76) (tm 80)),oo 82 (.nilck (tm 65)),fa 83 2 82,o0 (.store 1 (tm 83) (tm 72)),oo 84 (.nilck (tm 66)),fa 85 3 84,o0 (.store 1 (tm 85) (tm 81))] [[],[],[],[],[],[],[],[],[],[],[],[],[],[],[],[],[],[],[],[14],[],[],[]]))) (sr [mv 86 3,oo 87 (.nilck (tm 86)),fa 88 2 87,ld 89 88,oo 90 (.bin .gtr (tm 89) (Kc 0)),mv 6 90] (.seq (sr [mv 91 6] (.cond (tm 91) (rg [mv 92 3,oo 93 (.nilck (tm 92)),fa 94 2 93,ld 95 94,oo 96 (.bin .sub (tm 95) (Kc 1)),oo 97 (.nilck (tm 92)),fa 98 2 97,o0 (.store 1 (tm 98) (tm 96))]) .skip)) (sr [mv 99 0,oo 100 (.inl 105 [tm 99]),mv 101 100,mT 102 6 101,oo 103 (.pick (tm 101) (tm 102) kF),mv 2 103] .ret))))))))
theorem l57:(Tryz.f57.body.bind (bt Tryz.prog 104 [105]))=some c57:=by kernel_rfl
def c61:aV:=(sr [oo 5 (.box 10 (tm 1)),oo 8 (.alloc [Z0,Z0,Z0,Z0,Z0,Z0,Z0,Z0,Z0,Z0])] (sr [mv 12 0,mv 13 2,oo 14 (.call 17 [(tm 12),(tm 13)]),mv 11 14,oo 15 (.ext (tm 11) 0),oo 16 (.ext (tm 11) 1),⟨some 9,.alloc [S0,Z0,Z0],none,[]⟩,o0 (.store 3 (tm 9) (tm 15)),mv 10 16] (.seq (sr [mv 17 10,oo 18 (.not (tm 17)),mv 19 18,mF 20 2 19,⟨some 21,.bin .eql (tm 20) (.const S0),some (19,false),[]⟩,oo 22 (.pick (tm 19) kT (tm 21))] (.cond (tm 22) (sr [lA 23 10 5,o0 (.store 10 (tm 8) (tm 23))] .ret) .skip)) (sr [lA 24 3 9,lA 25 10 5,mv 26 3,lA 27 3 9,oo 28 (.call 111 [tm 27]),oo 29 (.minI (tm 26) (tm 28)),oo 30 (.call 19 [(tm 24),(tm 25),(tm 29)]),o0 (.store 10 (tm 8) (tm 30))] .ret))))
theorem l61:(Tryz.f61.body.bind (bt Tryz.prog 31 []))=some c61:=by kernel_rfl
def c63:aV:=(sr [oo 8 (.mov (Kc 0))] (sr [mv 13 0,mv 14 1,oo 15 (.call 31 [(tm 13),(tm 14)]),mv 9 15] (.seq (sr [mv 16 2,mv 10 16] (.block 0 (.loop (.seq (sr [mv 17 10,mv 18 3,oo 19 (.bin .leq (tm 17) (tm 18)),mv 20 19,mT 21 10 20,mT 22 2 20,mT 23 9 20,oT 24 20 (.len (tm 23)),oT 25 20 (.bin .add (tm 22) (tm 24)),oT 26 20 (.bin .leq (tm 21) (tm 25)),oo 27 (.pick (tm 20) (tm 26) kF)] (.cond (tm 27) .skip (.exit 0))) (.seq (.block 1 (sr [oo 11 (.mov kF)] (.seq (sr [oo 12 (.mov (Kc 0))] (.block 2 (.loop (.seq (sr [mv 30 12,mv 31 9,ln 32 31,oo 33 (.bin .lss (tm 30) (tm 32))] (.cond (tm 33) .skip (.exit 2))) (.seq (.block 3 (rg [mv 36 11,mv 37 36,mF 38 9 37,mF 39 12 37,oF 40 37 (.idxL 4 (tm 38) (tm 39)),oF 41 37 (.offA 2 (tm 40)),oF 42 37 (.load 1 false (tm 41)),mF 43 10 37,oF 44 37 (.bin .eql (tm 42) (tm 43)),oo 45 (.pick (tm 37) kT (tm 44)),mv 11 45])) (rg [mv 34 12,oo 35 (.bin .add (tm 34) (Kc 1)),mv 12 35])))))) (sr [mv 46 11,oo 47 (.not (tm 46))] (.cond (tm 47) (sr [mv 48 10,mv 8 48] .ret) .skip))))) (rg [mv 28 10,oo 29 (.bin .add (tm 28) (Kc 1)),mv 10 29])))))) (sr [oo 8 (.mov (.const (.int .i64 (-1))))] .ret))))
theorem l63:(Tryz.f63.body.bind (bt Tryz.prog 49 []))=some c63:=by kernel_rfl
def c64:aV:=(sr [oo 3 (.box 6 (tm 0)),oo 4 (.box 4 (tm 1)),⟨some 6,.alloc [S0,.nil,Z0,Z0],none,[]⟩] (sr [oo 7 (.mov (Kc 0))] (.seq (sr [mv 8 2,fa 9 3 4,ld 10 9,oo 11 (.bin .gtr (tm 8) (tm 10))] (.cond (tm 11) (rg [mv 12 2,fa 13 3 4,ld 14 13,oo 15 (.bin .sub (tm 12) (tm 14)),fa 16 5 3,ld 17 16,oo 18 (.bin .quo (tm 15) (tm 17)),mv 7 18]) .skip)) (.seq (sr [fa 19 2 4,ld 20 19,mv 21 7,oo 22 (.bin .add (tm 20) (tm 21)),fa 23 4 3,ld 24 23,oo 25 (.bin .geq (tm 22) (tm 24))] (.cond (tm 25) (sr [fa 26 4 3,ld 27 26,fa 28 2 4,o0 (.store 1 (tm 28) (tm 27))] (sr [mv 29 2,fa 30 3 4,o0 (.store 1 (tm 30) (tm 29))] (sr [lA 31 4 4,o0 (.store 4 (tm 6) (tm 31))] .ret))) .skip)) (sr [fa 32 2 4,ld 33 32,mv 34 7,oo 35 (.bin .add (tm 33) (tm 34)),fa 36 2 4,o0 (.store 1 (tm 36) (tm 35))] (sr [fa 37 3 4,ld 38 37,mv 39 7,fa 40 5 3,ld 41 40,oo 42 (.bin .mul (tm 39) (tm 41)),oo 43 (.bin .add (tm 38) (tm 42)),fa 44 3 4,o0 (.store 1 (tm 44) (tm 43))] (sr [lA 45 4 4,o0 (.store 4 (tm 6) (tm 45))] .ret)))))))
theorem l64:(Tryz.f64.body.bind (bt Tryz.prog 46 []))=some c64:=by kernel_rfl
def c59:aV:=(sr [oo 5 (.box 6 (tm 1)),oo 7 (.box 10 (tm 3)),oo 8 (.alloc [Z0,Z0,Z0,Z0,Z0,Z0,Z0,Z0,Z0,Z0,(.bool false),.nil])] (sr [mv 16 0,fa 17 3 5,ld 18 17,oo 19 (.call 17 [(tm 16),(tm 18)]),mv 15 19,oo 20 (.ext (tm 15) 0),oo 21 (.ext (tm 15) 1),⟨some 9,.alloc [S0,Z0,Z0],none,[]⟩,o0 (.store 3 (tm 9) (tm 20)),mv 10 21] (sr [lA 22 3 9,lA 23 10 7,oo 24 (.call 18 [(tm 22),(tm 23)]),mv 11 24] (.seq (sr [oo 12 (.mov (Kc 0))] (.block 0 (.loop (.seq (sr [mv 25 12,mv 26 2,ln 27 26,oo 28 (.bin .lss (tm 25) (tm 27))] (.cond (tm 28) .skip (.exit 0))) (.seq (.block 1 (sr [mv 31 2,mv 32 12,ix 33 4 31 32,fa 34 0 33,ld 35 34,fa 36 1 5,ld 37 36,oo 38 (.bin .eql (tm 35) (tm 37)),mv 39 38,mT 40 2 39,mT 41 12 39,oT 42 39 (.idxL 4 (tm 40) (tm 41)),oT 43 39 (.offA 2 (tm 42)),oT 44 39 (.load 1 false (tm 43)),mT 45 11 39,oT 46 39 (.bin .eql (tm 44) (tm 45)),oo 47 (.pick (tm 39) (tm 46) kF)] (.cond (tm 47) (sr [lA 48 10 7,oo 13 (.alloc [Z0,Z0,Z0,Z0,Z0,Z0,Z0,Z0,Z0,Z0]),o0 (.store 10 (tm 13) (tm 48))] (.seq (sr [oo 14 (.mov (Kc 0))] (.block 2 (.loop (.seq (sr [mv 49 14,fa 50 2 5,ld 51 50,ln 52 51,oo 53 (.bin .lss (tm 49) (tm 52))] (.cond (tm 53) .skip (.exit 2))) (.seq (.block 3 (rg [mv 56 0,lA 57 10 13,fa 58 2 5,ld 59 58,mv 60 14,ix 61 1 59 60,ld 62 61,mv 63 2,mv 64 12,ix 65 4 63 64,fa 66 1 65,ld 67 66,mv 68 14,ix 69 1 67 68,ld 70 69,oo 71 (.call 61 [(tm 56),(tm 57),(tm 62),(tm 70)]),o0 (.store 10 (tm 13) (tm 71))])) (rg [mv 54 14,oo 55 (.bin .add (tm 54) (Kc 1)),mv 14 55])))))) (sr [lA 72 10 13,mv 73 2,oo 74 (.build [Z0,Z0,Z0,Z0,Z0,Z0,Z0,Z0,Z0,Z0,(.bool false),.nil] [(0,10,(tm 72)),(10,1,kT),(11,1,(tm 73))]),o0 (.store 12 (tm 8) (tm 74))] .ret))) .skip))) (rg [mv 29 12,oo 30 (.bin .add (tm 29) (Kc 1)),mv 12 30])))))) (sr [lA 75 10 7,mv 76 2,oo 77 (.build [Z0,Z0,Z0,Z0,Z0,Z0,Z0,Z0,Z0,Z0,(.bool false),.nil] [(0,10,(tm 75)),(10,1,kF),(11,1,(tm 76))]),o0 (.store 12 (tm 8) (tm 77))] .ret)))))
theorem l59:(Tryz.f59.body.bind (bt Tryz.prog 78 []))=some c59:=by kernel_rfl
def c12:aV:=(sr [oo 6 (.box 6 (tm 1)),oo 8 (.box 10 (tm 3)),oo 10 (.alloc [Z0,Z0,Z0,Z0,Z0,Z0,Z0,Z0,Z0,Z0,(.bool false),.nil])] (.seq (sr [fa 15 0 6,ld 16 15,oo 17 (.bin .eql (tm 16) (Kc 0))] (.cond (tm 17) (sr [lA 18 10 8,mv 19 2,oo 20 (.build [Z0,Z0,Z0,Z0,Z0,Z0,Z0,Z0,Z0,Z0,(.bool false),.nil] [(0,10,(tm 18)),(10,1,kT),(11,1,(tm 19))]),o0 (.store 12 (tm 10) (tm 20))] .ret) .skip)) (.seq (sr [fa 21 0 6,ld 22 21,oo 23 (.bin .eql (tm 22) (Kc 5))] (.cond (tm 23) (sr [mv 24 0,lA 25 6 6,mv 26 2,lA 27 10 8,oo 28 (.call 59 [(tm 24),(tm 25),(tm 26),(tm 27)]),o0 (.store 12 (tm 10) (tm 28))] .ret) .skip)) (sr [mv 30 0,fa 31 2 6,ld 32 31,lA 33 10 8,oo 34 (.call 20 [(tm 30),(tm 32),(tm 33)]),mv 29 34,oo 35 (.ext (tm 29) 0),oo 36 (.ext (tm 29) 1),mv 11 35,mv 12 36] (sr [mv 38 2,fa 39 1 6,ld 40 39,mv 41 11,oo 42 (.call 26 [(tm 38),(tm 40),(tm 41)]),mv 37 42,oo 43 (.ext (tm 37) 0),oo 44 (.ext (tm 37) 1),⟨some 13,.alloc [S0,.nil,Z0,Z0],none,[]⟩,o0 (.store 4 (tm 13) (tm 43)),mv 14 44] (.seq (sr [fa 45 0 6,ld 46 45,oo 47 (.bin .eql (tm 46) (Kc 3))] (.cond (tm 47) (sr [lA 48 10 8,mv 49 14,mv 50 49,oT 51 50 (.offA 3 (tm 13)),oT 52 50 (.load 1 false (tm 51)),mT 53 4 50,oT 54 50 (.offA 4 (tm 6)),oT 55 50 (.load 1 false (tm 54)),oT 56 50 (.bin .sub (tm 53) (tm 55)),oT 57 50 (.bin .geq (tm 52) (tm 56)),oo 58 (.pick (tm 50) (tm 57) kF),mv 59 2,oo 60 (.build [Z0,Z0,Z0,Z0,Z0,Z0,Z0,Z0,Z0,Z0,(.bool false),.nil] [(0,10,(tm 48)),(10,1,(tm 58)),(11,1,(tm 59))]),o0 (.store 12 (tm 10) (tm 60))] .ret) .skip)) (.seq (sr [mv 61 14,oo 62 (.not (tm 61)),mv 63 62,mT 64 2 63,oT 65 63 (.offA 1 (tm 6)),oT 66 63 (.load 1 false (tm 65)),oT 67 63 (.call 60 [(tm 64),(tm 66)]),oT 68 63 (.bin .geq (tm 67) (Kc 100)),oo 69 (.pick (tm 63) (tm 68) kF)] (.cond (tm 69) (sr [lA 70 10 8,mv 71 2,oo 72 (.build [Z0,Z0,Z0,Z0,Z0,Z0,Z0,Z0,Z0,Z0,(.bool false),.nil] [(0,10,(tm 70)),(10,1,kF),(11,1,(tm 71))]),o0 (.store 12 (tm 10) (tm 72))] .ret) .skip)) (sr [fa 73 1 6,ld 74 73,fa 75 0 13,o0 (.store 1 (tm 75) (tm 74))] (sr [mv 76 11,fa 77 1 13,o0 (.store 1 (tm 77) (tm 76))] (.seq (sr [fa 78 0 6,ld 79 78] (.block 0 (sr [oo 81 (.bin .eql (tm 79) (Kc 1)),mv 80 81] (.cond (tm 80) (sr [fa 82 2 13,ld 83 82,oo 84 (.bin .add (tm 83) (Kc 1)),oo 85 (.minI (tm 84) (Kc 65535)),fa 86 2 13,o0 (.store 1 (tm 86) (tm 85))] (sr [mv 87 4,fa 88 3 13,o0 (.store 1 (tm 88) (tm 87))] (sr [mv 89 0,lA 90 10 8,fa 91 3 6,ld 92 91,fa 93 2 13,ld 94 93,oo 95 (.call 61 [(tm 89),(tm 90),(tm 92),(tm 94)]),mv 96 2,lA 97 4 13,oo 98 (.call 62 [(tm 96),(tm 97)]),oo 99 (.build [Z0,Z0,Z0,Z0,Z0,Z0,Z0,Z0,Z0,Z0,(.bool false),.nil] [(0,10,(tm 95)),(10,1,kT),(11,1,(tm 98))]),o0 (.store 12 (tm 10) (tm 99))] .ret))) (sr [oo 101 (.bin .eql (tm 79) (Kc 2)),mv 100 101] (.cond (tm 100) (sr [mv 102 4,fa 103 3 13,o0 (.store 1 (tm 103) (tm 102))] (sr [lA 104 10 8,mv 105 2,lA 106 4 13,oo 107 (.call 62 [(tm 105),(tm 106)]),oo 108 (.build [Z0,Z0,Z0,Z0,Z0,Z0,Z0,Z0,Z0,Z0,(.bool false),.nil] [(0,10,(tm 104)),(10,1,kT),(11,1,(tm 107))]),o0 (.store 12 (tm 10) (tm 108))] .ret)) (sr [oo 110 (.bin .eql (tm 79) (Kc 4)),mv 109 110] (.cond (tm 109) (.seq (sr [mv 111 14,oo 112 (.not (tm 111))] (.cond (tm 112) (rg [mv 113 2,fa 114 1 6,ld 115 114,fa 116 4 6,ld 117 116,fa 118 5 6,ld 119 118,oo 120 (.call 63 [(tm 113),(tm 115),(tm 117),(tm 119)]),fa 121 2 13,o0 (.store 1 (tm 121) (tm 120))]) .skip)) (.seq (sr [fa 122 2 13,ld 123 122,oo 124 (.bin .lss (tm 123) (Kc 0))] (.cond (tm 124) (sr [lA 125 10 8,mv 126 2,oo 127 (.build [Z0,Z0,Z0,Z0,Z0,Z0,Z0,Z0,Z0,Z0,(.bool false),.nil] [(0,10,(tm 125)),(10,1,kF),(11,1,(tm 126))]),o0 (.store 12 (tm 10) (tm 127))] .ret) .skip)) (sr [mv 128 4,fa 129 3 13,o0 (.store 1 (tm 129) (tm 128))] (sr [mv 130 0,lA 131 10 8,fa 132 3 6,ld 133 132,fa 134 2 13,ld 135 134,oo 136 (.call 61 [(tm 130),(tm 131),(tm 133),(tm 135)]),mv 137 2,lA 138 4 13,oo 139 (.call 62 [(tm 137),(tm 138)]),oo 140 (.build [Z0,Z0,Z0,Z0,Z0,Z0,Z0,Z0,Z0,Z0,(.bool false),.nil] [(0,10,(tm 136)),(10,1,kT),(11,1,(tm 139))]),o0 (.store 12 (tm 10) (tm 140))] .ret)))) .skip)))))))) (.seq (sr [mv 141 14,oo 142 (.not (tm 141))] (.cond (tm 142) (sr [fa 143 4 6,ld 144 143,fa 145 2 13,o0 (.store 1 (tm 145) (tm 144))] (rg [mv 146 4,fa 147 3 13,o0 (.store 1 (tm 147) (tm 146))])) .skip)) (sr [lA 148 6 6,lA 149 4 13,mv 150 4,oo 151 (.call 64 [(tm 148),(tm 149),(tm 150)]),o0 (.store 4 (tm 13) (tm 151))] (.seq (sr [fa 152 2 13,ld 153 152,oo 154 (.bin .eql (tm 153) (Kc 0))] (.cond (tm 154) (sr [lA 155 10 8,mv 156 2,lA 157 4 13,oo 158 (.call 62 [(tm 156),(tm 157)]),oo 159 (.build [Z0,Z0,Z0,Z0,Z0,Z0,Z0,Z0,Z0,Z0,(.bool false),.nil] [(0,10,(tm 155)),(10,1,kF),(11,1,(tm 158))]),o0 (.store 12 (tm 10) (tm 159))] .ret) .skip)) (sr [fa 160 2 13,ld 161 160,oo 162 (.bin .sub (tm 161) (Kc 1)),fa 163 2 13,o0 (.store 1 (tm 163) (tm 162))] (sr [lA 164 10 8,mv 165 2,lA 166 4 13,oo 167 (.call 62 [(tm 165),(tm 166)]),oo 168 (.build [Z0,Z0,Z0,Z0,Z0,Z0,Z0,Z0,Z0,Z0,(.bool false),.nil] [(0,10,(tm 164)),(10,1,kT),(11,1,(tm 167))]),o0 (.store 12 (tm 10) (tm 168))] .ret)))))))))))))))
theorem l12:(Tryz.f12.body.bind (bt Tryz.prog 169 []))=some c12:=by kernel_rfl
end Go.ST4
end
section
namespace Go.ST
open Go Go.DL Go.MM Go.Proofs
open Go.TY hiding Fd
abbrev fdc(l:List Fd)(k:ByteArray):T:=.agg [.str (fld l k).name,I (fld l k).a,I (fld l k).w]
theorem CJ(l:List Fd)(b:LOk l)(k:ByteArray):DCalls Tryz.prog 107 [fds l,.str k] (.tup [fdc l k,.bool (uA l k)]):=by
 have h:=t74 l k b.len;unfold yC at h;unfold fdc fld uA;cases a:findF l k with
 |none=>rw [a] at h;exact h
 |some F=>rw [a] at h;exact h
theorem Bq(l:List Fd)(b:LOk l)(k:ByteArray):DCalls Tryz.prog 17 [fds l,.str k] (.tup [fdc l k,.bool (uA l k)]):=by
 have h:=t51 l k b.len;unfold yC at h;unfold fdc fld uA;cases a:findF l k with
 |none=>rw [a] at h;exact h
 |some F=>rw [a] at h;exact h
theorem yp{l:List Fd}(b:LOk l){k:ByteArray}(h:uA l k=true):FOk (fld l k):=by
 unfold uA at h;obtain ⟨F,a⟩:=Option.isSome_iff_exists.1 h;rw [B7 a];exact b.find a
theorem ten{h:List Int}(m:HOk h): ∃a b c d e f g i j k,h=[a,b,c,d,e,f,g,i,j,k]:=by
 have n:=m.len
 match h,n with
 |[a,b,c,d,e,f,g,i,j,k],_=>exact ⟨a,b,c,d,e,f,g,i,j,k,rfl⟩
theorem Cb(l:List Fd)(ks:List ByteArray)(h:List Int){i:Nat}(a:i<ks.length):(keyOf l (ks.take (i+1)) h).map I=(keyOf l (ks.take i) h).map I++[I (vk (fld l ks[i]) h)]:=by
 unfold keyOf;rw [List.take_succ_eq_append_getElem a,List.map_append,List.map_append];rfl
theorem FY(l:List Fd)(v:LOk l)(ks:List ByteArray)(C: ∀k∈ks,uA l k=true)(y:ks.length<2^40)(h:List Int)(x:HOk h):DCalls Tryz.prog 58 [fds l,.slice 1 (ks.map .str),hd h] (.tup [.slice 1 ((keyOf l ks h).map I),.bool true]):=by
 refine dl2 mixed [.tmp 6,.tmp 7] [.slice 1 _,.bool true] Tryz.func58 Go.ST4.l58 ?_;have m:((ks.map T.str).length:Int)=ks.length:=by rw [List.length_map]
 have B: ∀f,FOk f->DCalls Tryz.prog 108 [fd f,hd h] (I (vk f h)):=fun f b=>t78 f b h x
 obtain ⟨x0,x1,x2,x3,x4,x5,x6,x7,x8,x9,rfl⟩:=ten x
 repeat' ((conv=>whnf);first|refine aS ?_|fail)
 refine tx 0 (α:=Nat×Nat) (β:=Nat) (fun q=>{sl:=[(0,.t (fds l)),(5,.ptr 5 0),(8,.own q.2 3 1 ((keyOf l (ks.take q.1) [x0,x1,x2,x3,x4,x5,x6,x7,x8,x9]).map I)),(13,.t (.slice 1 (ks.map .str))),(14,.t (I ks.length)),(15,.t (I q.1))],bx:=[(5,.d 10 ([x0,x1,x2,x3,x4,x5,x6,x7,x8,x9].map I))]})
  (fun q=>q.1<=ks.length/\(q.2=8\/q.2=32)) (fun q=>ks.length - q.1) (fun q=>{sl:=[(8,.own q 3 1 ((keyOf l ks [x0,x1,x2,x3,x4,x5,x6,x7,x8,x9]).map I))],bx:=[]}) (fun q=>q=8\/q=32) (0,8) ⟨Nat.zero_le _,Or.inl rfl⟩ ?_ ?_ ?_
 ·repeat' (first|(exact leI m.symm)|exact wJ|refine And.intro ?_ ?_)
 ·rintro ⟨i,q⟩ ⟨z,c⟩;dsimp only at z c;rcases Nat.lt_or_ge i ks.length with h|h
  ·have a:(i:Int)<(ks.length:Int):=by omega
   have b:=C ks[i] (List.getElem_mem h);have w:=CJ l v ks[i];rw [b] at w;have p:=B _ (yp v b);have u:((i+1:Nat):Int)=IntKind.wrap .i64 ((i:Int)+1):=by rw [nW] <;> omega
   have r:=Cb l ks [x0,x1,x2,x3,x4,x5,x6,x7,x8,x9] h;have A:((keyOf l (ks.take i) [x0,x1,x2,x3,x4,x5,x6,x7,x8,x9]).map I).length<=2^40:=by unfold keyOf;simp only [List.length_map,List.length_take];omega
   have n:(ks.map T.str)[((i:Int)).toNat]?.getD .nil= .str ks[i]:=by simp [h]
   generalize (keyOf l (ks.take i) [x0,x1,x2,x3,x4,x5,x6,x7,x8,x9]).map I=out at *
   generalize vk (fld l ks[i]) [x0,x1,x2,x3,x4,x5,x6,x7,x8,x9]=g at *
   rcases c with rfl|rfl <;> repeat' ((conv=>whnf);first|refine sC a ?_|(refine nv_ (.str ks[i]) (by first|exact n) ?_)|refine uc _ (w) ?_|refine uc _ (p) ?_|(exact ⟨(i+1,32),⟨h,Or.inr rfl⟩,(by dsimp only;omega),by (repeat' (first|(exact leI u)|(exact ug r)|exact wJ|refine And.intro ?_ ?_));done⟩)|(refine And.intro (by first|((simp only [List.length_cons,List.length_nil];omega);done)|fail) ?_)|refine aS ?_|refine nT_ ?_)
  ·have a: ¬(i:Int)<(ks.length:Int):=by omega
   have j:i=ks.length:=by omega
   have e0:(keyOf l ks [x0,x1,x2,x3,x4,x5,x6,x7,x8,x9]).map I=(keyOf l (ks.take i) [x0,x1,x2,x3,x4,x5,x6,x7,x8,x9]).map I:=by rw [j,List.take_length]
   repeat' ((conv=>whnf);first|refine su a ?_|(exact ⟨q,c,by (repeat' (first|(exact ug e0)|exact wJ|refine And.intro ?_ ?_));done⟩)|refine aS ?_|fail)
 ·rintro q c
  repeat' ((conv=>whnf);first|refine rb1 ?_|refine aS ?_|exact trivial)
theorem FF(l:List Fd)(u:LOk l)(ks:List ByteArray)(C: ∀k∈ks,uA l k=true)(y:ks.length<2^40)(h:List Int)(w:HOk h):DCalls Tryz.prog 20 [fds l,.slice 1 (ks.map .str),hd h] (.tup [.slice 1 ((keyOf l ks h).map I),.bool true]):=by
 refine dl2 mixed [.tmp 6,.tmp 7] [.slice 1 _,.bool true] Tryz.func20 Go.ST4.l20 ?_;have x:((ks.map T.str).length:Int)=ks.length:=by rw [List.length_map]
 have B: ∀f,FOk f->DCalls Tryz.prog 18 [fd f,hd h] (I (vk f h)):=fun f b=>t57 f b h w
 obtain ⟨x0,x1,x2,x3,x4,x5,x6,x7,x8,x9,rfl⟩:=ten w
 repeat' ((conv=>whnf);first|refine aS ?_|fail)
 refine tx 0 (α:=Nat×Nat) (β:=Nat) (fun q=>{sl:=[(0,.t (fds l)),(1,.t (.slice 1 (ks.map .str))),(5,.ptr 5 0),(8,.own q.2 3 1 ((keyOf l (ks.take q.1) [x0,x1,x2,x3,x4,x5,x6,x7,x8,x9]).map I)),(9,.t (I q.1))],bx:=[(5,.d 10 ([x0,x1,x2,x3,x4,x5,x6,x7,x8,x9].map I))]})
  (fun q=>q.1<=ks.length/\(q.2=8\/q.2=34)) (fun q=>ks.length - q.1) (fun q=>{sl:=[(8,.own q 3 1 ((keyOf l ks [x0,x1,x2,x3,x4,x5,x6,x7,x8,x9]).map I))],bx:=[]}) (fun q=>q=8\/q=34) (0,8) ⟨Nat.zero_le _,Or.inl rfl⟩ ?_ ?_ ?_
 ·repeat' (first|exact wJ|refine And.intro ?_ ?_)
 ·rintro ⟨i,q⟩ ⟨z,c⟩;dsimp only at z c;rcases Nat.lt_or_ge i ks.length with h|h
  ·have a:(i:Int)<((ks.map T.str).length:Int):=by omega
   have b:=C ks[i] (List.getElem_mem h);have v:=Bq l u ks[i];rw [b] at v;have n:=B _ (yp u b);have r:((i+1:Nat):Int)=IntKind.wrap .i64 ((i:Int)+1):=by rw [nW] <;> omega
   have p:=Cb l ks [x0,x1,x2,x3,x4,x5,x6,x7,x8,x9] h;have A:((keyOf l (ks.take i) [x0,x1,x2,x3,x4,x5,x6,x7,x8,x9]).map I).length<=2^40:=by unfold keyOf;simp only [List.length_map,List.length_take];omega
   have m:(ks.map T.str)[((i:Int)).toNat]?.getD .nil= .str ks[i]:=by simp [h]
   generalize (keyOf l (ks.take i) [x0,x1,x2,x3,x4,x5,x6,x7,x8,x9]).map I=out at *
   generalize vk (fld l ks[i]) [x0,x1,x2,x3,x4,x5,x6,x7,x8,x9]=g at *
   rcases c with rfl|rfl <;> repeat' ((conv=>whnf);first|refine sC a ?_|(refine nv_ (.str ks[i]) (by first|exact m) ?_)|refine uc _ (v) ?_|refine uc _ (n) ?_|(exact ⟨(i+1,34),⟨h,Or.inr rfl⟩,(by dsimp only;omega),by (repeat' (first|(exact leI r)|(exact ug p)|exact wJ|refine And.intro ?_ ?_));done⟩)|(refine And.intro (by first|((simp only [List.length_cons,List.length_nil];omega);done)|fail) ?_)|refine aS ?_|refine nT_ ?_)
  ·have a: ¬(i:Int)<((ks.map T.str).length:Int):=by omega
   have j:i=ks.length:=by omega
   have e0:(keyOf l ks [x0,x1,x2,x3,x4,x5,x6,x7,x8,x9]).map I=(keyOf l (ks.take i) [x0,x1,x2,x3,x4,x5,x6,x7,x8,x9]).map I:=by rw [j,List.take_length]
   repeat' ((conv=>whnf);first|refine su a ?_|(exact ⟨q,c,by (repeat' (first|(exact ug e0)|exact wJ|refine And.intro ?_ ?_));done⟩)|refine aS ?_|fail)
 ·rintro q c
  repeat' ((conv=>whnf);first|refine rb1 ?_|refine aS ?_|exact trivial)
end Go.ST
end
noncomputable section
namespace Go.ST3
open Go Go.DL Go.Proofs
theorem mx:Tryz.prog.follows .mixedOrders=true:=by kernel_rfl
def b11:Code:=(Tryz.f11.body).getD .skip
theorem Jy:Tryz.f11.body=some b11:=by kernel_rfl
def FL:Code:=iQ [0] b11
def HZ:aV:=(rg [oo 6 (.box 6 (tm 1)),oo 8 (.box 10 (tm 3)),oo 10 (.alloc [Z0,Z0,Z0,Z0,Z0,Z0,Z0,Z0,Z0,Z0]),oo 11 (.mov kF),oo 12 (.mov (.const .nil))])
theorem KM:bt Tryz.prog 84 [] FL=some HZ:=by kernel_rfl
theorem HX[Glb]{st:St}{Q:aG->St->Prop}(a:wpC Tryz.prog HZ st Q):bR Tryz.prog 84 FL st Q:=bR.low mx KM (by kernel_rfl) (by kernel_rfl) a
def FM:Code:=iQ [1,0] b11
def H0:aV:=(sr [fa 17 0 6,ld 18 17,oo 19 (.bin .eql (tm 18) (Kc 0))] (.cond (tm 19) (sr [lA 20 10 8,mv 21 2,o0 (.store 10 (tm 10) (tm 20)),oo 11 (.mov kT),mv 12 21] .ret) .skip))
theorem KN:bt Tryz.prog 84 [] FM=some H0:=by kernel_rfl
theorem HY[Glb]{st:St}{Q:aG->St->Prop}(a:wpC Tryz.prog H0 st Q):bR Tryz.prog 84 FM st Q:=bR.low mx KN (by kernel_rfl) (by kernel_rfl) a
def FN:Code:=iQ [1,1,0] b11
def H3:aV:=(rg [oo 22 (.build [.nilfn,.nilfn,.nilfn,.nilfn,.nilfn,.nilfn,.nilfn] [(0,1,(.const .nilfn)),(1,1,(.const (.clos 52 []))),(2,1,(.const (.clos 53 []))),(3,1,(.const (.clos 54 []))),(4,1,(.const (.clos 55 []))),(5,1,(.const (.clos 56 []))),(6,1,(.const (.clos 57 [])))]),oo 13 (.alloc [.nilfn,.nilfn,.nilfn,.nilfn,.nilfn,.nilfn,.nilfn]),o0 (.store 7 (tm 13) (tm 22))])
theorem KO:bt Tryz.prog 84 [] FN=some H3:=by kernel_rfl
theorem KD[Glb]{st:St}{Q:aG->St->Prop}(a:wpC Tryz.prog H3 st Q):bR Tryz.prog 84 FN st Q:=bR.low mx KO (by kernel_rfl) (by kernel_rfl) a
def FO:Code:=iQ [1,1,1,0] b11
def H4:aV:=(rg [mv 24 0,fa 25 2 6,ld 26 25,lA 27 10 8,oo 28 (.call 58 [(tm 24),(tm 26),(tm 27)]),mv 23 28,oo 29 (.ext (tm 23) 0),oo 30 (.ext (tm 23) 1),mv 14 29,mv 15 30])
theorem KP:bt Tryz.prog 84 [] FO=some H4:=by kernel_rfl
theorem KE[Glb]{st:St}{Q:aG->St->Prop}(a:wpC Tryz.prog H4 st Q):bR Tryz.prog 84 FO st Q:=bR.low mx KP (by kernel_rfl) (by kernel_rfl) a
def FP:Code:=iQ [1,1,1,1,0] b11
def H5:aV:=(rg [mv 31 0,lA 32 6 6,mv 33 2,lA 34 10 8,mv 35 4,⟨some 36,.build [.nil,Z0,S0,.nil,S0,Z0,Z0,.nil,Z0,Z0,Z0,Z0,Z0,Z0,Z0,Z0,Z0,Z0,Z0,S0,.nil,Z0,Z0,(.bool false)] [(0,1,(tm 31)),(1,6,(tm 32)),(7,1,(tm 33)),(8,10,(tm 34)),(18,1,(tm 35))],none,[]⟩,oo 37 (.box 24 (tm 36)),mv 16 37])
theorem KQ:bt Tryz.prog 84 [] FP=some H5:=by kernel_rfl
theorem KF[Glb]{st:St}{Q:aG->St->Prop}(a:wpC Tryz.prog H5 st Q):bR Tryz.prog 84 FP st Q:=bR.low mx KQ (by kernel_rfl) (by kernel_rfl) a
def FQ:Code:=iQ [1,1,1,1,1,0] b11
def H6:aV:=(sr [mv 39 16,mv 40 16,mv 41 2,fa 42 1 6,ld 43 42,mv 44 14,oo 45 (.call 25 [(tm 41),(tm 43),(tm 44)]),mv 38 45,oo 46 (.ext (tm 38) 0),oo 47 (.ext (tm 38) 1),oo 48 (.nilck (tm 39)),fa 49 19 48,o0 (.store 4 (tm 49) (tm 46)),oo 50 (.nilck (tm 40)),fa 51 23 50,o0 (.store 1 (tm 51) (tm 47))] (sr [mv 52 16,oo 53 (.nilck (tm 52)),fa 54 23 53,ld 55 54,oo 56 (.not (tm 55))] (.cond (tm 56) (rg [mv 57 16,fa 58 1 6,ld 59 58,mv 60 14,⟨some 61,.build [S0,.nil,Z0,Z0] [(0,1,(tm 59)),(1,1,(tm 60))],none,[]⟩,oo 62 (.nilck (tm 57)),fa 63 19 62,o0 (.store 4 (tm 63) (tm 61))]) .skip)))
theorem KR:bt Tryz.prog 84 [] FQ=some H6:=by kernel_rfl
theorem KG[Glb]{st:St}{Q:aG->St->Prop}(a:wpC Tryz.prog H6 st Q):bR Tryz.prog 84 FQ st Q:=bR.low mx KR (by kernel_rfl) (by kernel_rfl) a
def xB:Code:=iQ [1,1,1,1,1,1,0,0] b11
theorem Kl:xB= .region 9 (uj xB) false:=by kernel_rfl
theorem AE[Glb]{st:St}{Q:aG->St->Prop}(b:cW Tryz.prog [⟨some 64,.offA 0 (.tmp 6),none,[]⟩,⟨some 65,.load 1 false (.tmp 64),none,[]⟩,⟨some 66,.idxA 7 1 (.tmp 13) (.tmp 65),none,[]⟩,⟨some 67,.load 1 false (.tmp 66),none,[]⟩,⟨some 68,.mov (.tmp 16),none,[]⟩] st fun a=>kQ Tryz.prog (ev a.sl (.tmp 67)) (List.map (ev a.sl) [(.tmp 68)]) (some 69) a fun c=>cW Tryz.prog [⟨some 70,.not (.tmp 69),none,[]⟩] c (Q .normal)):bR Tryz.prog 84 xB st Q:=by
 rw [Kl];exact bR.tZ (k1:=[0,1,2,3,4]) (k:=5) (k2:=[6]) (by kernel_rfl) (by kernel_rfl) (by kernel_rfl) (by kernel_rfl) (by kernel_rfl) (X:=.tmp 67) (az:= #[.tmp 68]) (ats:= #[105]) (d:=69) (by kernel_rfl) rfl rfl (by decide) b
def Cl:Code:=iQ [1,1,1,1,1,1,0,1] b11
def H7:aV:=(.cond (tm 70) (.seq (.region [lA 71 10 8,mv 72 16,oo 73 (.nilck (tm 72)),fa 74 7 73,ld 75 74,o0 (.store 10 (tm 10) (tm 71)),oo 11 (.mov kF),mv 12 75] [[],[],[],[],[],[4],[],[]]) .ret) .skip)
theorem KS:bt Tryz.prog 84 [] Cl=some H7:=by kernel_rfl
theorem KH[Glb]{st:St}{Q:aG->St->Prop}(a:wpC Tryz.prog H7 st Q):bR Tryz.prog 84 Cl st Q:=bR.low mx KS (by kernel_rfl) (by kernel_rfl) a
def Cm:Code:=iQ [1,1,1,1,1,1,1] b11
def H8:aV:=(.seq (.region [mv 76 16,oo 77 (.nilck (tm 76)),fa 78 8 77,lA 79 10 78,mv 80 16,oo 81 (.nilck (tm 80)),fa 82 7 81,ld 83 82,o0 (.store 10 (tm 10) (tm 79)),oo 11 (.mov kT),mv 12 83] [[],[],[],[],[],[],[],[],[7],[],[]]) .ret)
theorem KT:bt Tryz.prog 84 [] Cm=some H8:=by kernel_rfl
theorem KI[Glb]{st:St}{Q:aG->St->Prop}(a:wpC Tryz.prog H8 st Q):bR Tryz.prog 84 Cm st Q:=bR.low mx KT (by kernel_rfl) (by kernel_rfl) a
theorem k11:b11=(.seq FL (.seq FM (.seq FN (.seq FO (.seq FP (.seq FQ (.seq (.seq xB Cl) Cm))))))):=by kernel_rfl
end Go.ST3
end
section
namespace Go.ST
open Go Go.DL Go.MM Go.Proofs
open Go.TY hiding Fd
theorem WC.toM{P:Program}{f:FuncId}{us:List V}{d:Option Nat}{st:St}{K:St->Prop}(h:WC P f us d st K):WCM P f us d st K:=by
 refine ⟨h.1,fun N m S0 E a vs j b i hd=>(h.2 N m S0 E a vs j b i hd).mono ?_⟩;rintro e p ⟨v,rfl,n,st',c,g,k⟩;exact ⟨v,rfl,S0,n,st',Ext.refl _,c,g,k⟩
abbrev dL(l:List Fd)(s:RS)(st:List RE)(x0 x1 x2 x3 x4 x5 x6 x7 x8 x9 tick:Int)(e:RE)(is:Bool):List T:=
 [fds l,I s.kind,.str s.var,.slice 1 (s.key.map .str),.str s.field,I s.n,I s.m,esT st,I x0,I x1,I x2,I x3,I x4,I x5,I x6,I x7,I x8,I x9,I tick,.str e.var,.slice 1 (e.key.map I),I e.n,I e.at_,.bool is]
abbrev JN:List T:=[.nilfn,.clos 52 [],.clos 53 [],.clos 54 [],.clos 55 [],.clos 56 [],.clos 57 []]
abbrev z10:List T:=[I 0,I 0,I 0,I 0,I 0,I 0,I 0,I 0,I 0,I 0]
section
variable (l:List Fd)(s:RS)(st:List RE)(x0 x1 x2 x3 x4 x5 x6 x7 x8 x9 tick:Int)(e:RE)(is:Bool)
abbrev S0:Wk:={sl:=[(6,.ptr 6 0),(8,.ptr 8 0),(10,.ptr 10 0),(13,.ptr 13 0),(16,.ptr 37 0)],bx:=[(6,.d 6 (ur s)),(8,.d 10 [I x0,I x1,I x2,I x3,I x4,I x5,I x6,I x7,I x8,I x9]),(10,.d 10 z10),(13,.d 7 JN),(37,.d 24 (dL l s st x0 x1 x2 x3 x4 x5 x6 x7 x8 x9 tick e is))]}
abbrev S1(st':List RE)(y0 y1 y2 y3 y4 y5 y6 y7 y8 y9:Int)(e':RE)(pass:Bool):Wk:={sl:=[(8,.ptr 8 0),(10,.ptr 10 0),(16,.ptr 37 0),(70,.t (.bool (!pass)))],bx:=[(8,.d 10 [I x0,I x1,I x2,I x3,I x4,I x5,I x6,I x7,I x8,I x9]),(10,.d 10 z10),(37,.d 24 (dL l s st' y0 y1 y2 y3 y4 y5 y6 y7 y8 y9 tick e' is))]}
end
variable {l:List Fd}{s:RS}{st:List RE}{x0 x1 x2 x3 x4 x5 x6 x7 x8 x9 tick:Int}{e:RE}{is:Bool}
attribute [local irreducible] bR WCM YC
theorem ID(h:s.kind=3)(b:Bool)(a:b=(is&&decide (e.at_>=tick - s.n)))(q: -2^40<tick/\tick<2^40)(j: -2^40<s.n/\s.n<2^40):
  bR Tryz.prog 84 Go.ST3.xB (S0 l s st x0 x1 x2 x3 x4 x5 x6 x7 x8 x9 tick e is).mk' (fun p i=>p= .normal/\bU (S1 l s x0 x1 x2 x3 x4 x5 x6 x7 x8 x9 tick is st x0 x1 x2 x3 x4 x5 x6 x7 x8 x9 e b) i):=by
 obtain ⟨r,k,key,f,n,m⟩:=s;dsimp only at h j a;subst h;have g:IntKind.wrap .i64 (tick - n)=tick - n:=nW (by omega) (by omega);refine Go.ST3.AE ?_;cases is with
 |false=>
  subst a
  repeat' ((conv=>whnf);first|refine WC.toM (tW mixed Tryz.func54 Go.ST4.l54 rfl rfl (rs:=[.tmp 2]) rfl 3000 (nlZ rfl) ?_)|refine aS ?_|refine nT_ ?_)
  refine ⟨_,rfl,?_⟩
  repeat' ((conv=>whnf);first|(exact ⟨rfl,by (repeat' (first|exact wJ|refine And.intro ?_ ?_));done⟩)|fail)
 |true=>
  by_cases c:e.at_>=tick - n
  ·have d:e.at_>=IntKind.wrap .i64 (tick - n):=by rw [g];exact c
   obtain rfl:b=true:=by rw [a,decide_eq_true c];rfl
   repeat' ((conv=>whnf);first|refine WC.toM (tW mixed Tryz.func54 Go.ST4.l54 rfl rfl (rs:=[.tmp 2]) rfl 3000 (nlZ rfl) ?_)|refine sC d ?_|refine aS ?_|refine nT_ ?_)
   refine ⟨_,rfl,?_⟩
   repeat' ((conv=>whnf);first|(exact ⟨rfl,by (repeat' (first|exact wJ|refine And.intro ?_ ?_));done⟩)|fail)
  ·have d: ¬e.at_>=IntKind.wrap .i64 (tick - n):=by rw [g];exact c
   obtain rfl:b=false:=by rw [a,decide_eq_false c];rfl
   repeat' ((conv=>whnf);first|refine WC.toM (tW mixed Tryz.func54 Go.ST4.l54 rfl rfl (rs:=[.tmp 2]) rfl 3000 (nlZ rfl) ?_)|refine su d ?_|refine aS ?_|refine nT_ ?_)
   refine ⟨_,rfl,?_⟩
   repeat' ((conv=>whnf);first|(exact ⟨rfl,by (repeat' (first|exact wJ|refine And.intro ?_ ?_));done⟩)|fail)
end Go.ST
end
section
namespace Go.ST
open Go Go.DL Go.MM Go.Proofs
open Go.TY hiding Fd
variable {l:List Fd}{s:RS}{st st' o:List RE}{x0 x1 x2 x3 x4 x5 x6 x7 x8 x9 tick:Int}{e:RE}{is:Bool}
attribute [local irreducible] bR WCM YC
theorem JL(i:s.kind=2)(b:DCalls Tryz.prog 22 [esT st,.str s.var] (esT o))(h:DCalls Tryz.prog 139 [esT st,um ⟨e.var,e.key,e.n,tick⟩] (esT st'))(a:Bool)(d:a=(!is&&decide (100<=o.length))):
  bR Tryz.prog 84 Go.ST3.xB (S0 l s st x0 x1 x2 x3 x4 x5 x6 x7 x8 x9 tick e is).mk' (fun q k=>q= .normal/\bU (S1 l s x0 x1 x2 x3 x4 x5 x6 x7 x8 x9 tick is (if a then st else st') x0 x1 x2 x3 x4 x5 x6 x7 x8 x9 ⟨e.var,e.key,e.n,tick⟩ (!a)) k):=by
 obtain ⟨r,p,key,g,n,m⟩:=s;dsimp only at i b;subst i;have j:((o.map um).length:Int)=o.length:=by rw [List.length_map]
 refine Go.ST3.AE ?_;cases is with
 |true=>
  obtain rfl:a=false:=by rw [d];rfl
  repeat' ((conv=>whnf);first|refine WC.toM (tW mixed Tryz.func53 Go.ST4.l53 rfl rfl (rs:=[.tmp 2]) rfl 3000 (nlZ rfl) ?_)|refine aS ?_|refine nT_ ?_)
  repeat' ((conv=>whnf);first|refine tW mixed Tryz.func105 Go.ST4.vW rfl rfl (rs:=[.tmp 2]) rfl 3100 (nlZ rfl) ?_|refine aS ?_|refine nT_ ?_)
  repeat' ((conv=>whnf);first|refine uc _ (h) ?_|refine aS ?_|fail)
  refine ⟨_,rfl,?_⟩
  skip
  refine ⟨_,rfl,?_⟩
  repeat' ((conv=>whnf);first|(exact ⟨rfl,by (repeat' (first|exact wJ|refine And.intro ?_ ?_));done⟩)|fail)
 |false=>
  by_cases c:100<=o.length
  ·obtain rfl:a=true:=by rw [d,decide_eq_true c];rfl
   have f:((o.map um).length:Int)>=100:=by omega
   repeat' ((conv=>whnf);first|refine WC.toM (tW mixed Tryz.func53 Go.ST4.l53 rfl rfl (rs:=[.tmp 2]) rfl 3000 (nlZ rfl) ?_)|refine aS ?_|refine nT_ ?_)
   repeat' ((conv=>whnf);first|refine tW mixed Tryz.func105 Go.ST4.vW rfl rfl (rs:=[.tmp 2]) rfl 3100 (nlZ rfl) ?_|refine aS ?_|refine nT_ ?_)
   repeat' ((conv=>whnf);first|refine uc _ (b) ?_|refine sC f ?_|refine aS ?_|fail)
   refine ⟨_,rfl,?_⟩
   skip
   refine ⟨_,rfl,?_⟩
   repeat' ((conv=>whnf);first|(exact ⟨rfl,by (repeat' (first|exact wJ|refine And.intro ?_ ?_));done⟩)|fail)
  ·obtain rfl:a=false:=by rw [d,decide_eq_false c];rfl
   have f: ¬((o.map um).length:Int)>=100:=by omega
   repeat' ((conv=>whnf);first|refine WC.toM (tW mixed Tryz.func53 Go.ST4.l53 rfl rfl (rs:=[.tmp 2]) rfl 3000 (nlZ rfl) ?_)|refine aS ?_|refine nT_ ?_)
   repeat' ((conv=>whnf);first|refine tW mixed Tryz.func105 Go.ST4.vW rfl rfl (rs:=[.tmp 2]) rfl 3100 (nlZ rfl) ?_|refine aS ?_|refine nT_ ?_)
   repeat' ((conv=>whnf);first|refine uc _ (b) ?_|refine su f ?_|refine uc _ (h) ?_|refine aS ?_|refine nT_ ?_)
   refine ⟨_,rfl,?_⟩
   skip
   refine ⟨_,rfl,?_⟩
   repeat' ((conv=>whnf);first|(exact ⟨rfl,by (repeat' (first|exact wJ|refine And.intro ?_ ?_));done⟩)|fail)
end Go.ST
end
section
namespace Go.ST
open Go Go.DL Go.MM Go.Proofs
open Go.TY hiding Fd
variable {l:List Fd}{s:RS}{st st' o:List RE}{x0 x1 x2 x3 x4 x5 x6 x7 x8 x9 y0 y1 y2 y3 y4 y5 y6 y7 y8 y9 tick:Int}{e:RE}{is:Bool}
attribute [local irreducible] bR WCM YC
abbrev EZ(w:Nat)(n:Int):Int:=if ((2^w - 1:Nat):Int)<n then ((2^w - 1:Nat):Int) else n
theorem Dr(w:Nat)(n:Int):EZ w n=min n ((2^w - 1:Nat):Int):=by
 unfold EZ;split <;> omega
structure Wr (l:List Fd) (field:ByteArray) (h h':List Int) (n:Int):Prop where
 find:DCalls Tryz.prog 107 [fds l,.str field] (.tup [fdc l field,.bool (uA l field)])
 max:uA l field=true->DCalls Tryz.prog 141 [fdc l field] (I ((2^(fld l field).w - 1:Nat):Int))
 set:uA l field=true->DCalls Tryz.prog 140 [fdc l field,hd h,I (EZ (fld l field).w n)] (hd h')
 no:uA l field=false->h'=h
theorem F0{l:List Fd}(c:LOk l)(a:ByteArray){h:List Int}(d:HOk h){n:Int}(g:0<=n):Wr l a h (wrF l h a n) n:=by
 refine ⟨CJ l c a,fun b=>t97 _ (yp c b),fun b=>?_,fun b=>?_⟩
 ·have i:=Nat.two_pow_pos (fld l a).w;have f:=t98 _ (yp c b) h d (min n ((2^(fld l a).w - 1:Nat):Int)).toNat (by omega);unfold wrF;rw [if_pos b,Dr];rwa [Int.toNat_of_nonneg (by omega)] at f
 ·unfold wrF;rw [b];rfl
theorem IE(v:s.kind=1)(d:DCalls Tryz.prog 22 [esT st,.str s.var] (esT o))(N:Int)(z:(if (65535:Int)<IntKind.wrap .i64 (e.n+1) then 65535 else IntKind.wrap .i64 (e.n+1))=N)(q:DCalls Tryz.prog 139 [esT st,um ⟨e.var,e.key,N,tick⟩] (esT st'))(a:Bool)(j:a=(!is&&decide (100<=o.length)))
  (t:Wr l s.field [x0,x1,x2,x3,x4,x5,x6,x7,x8,x9] [y0,y1,y2,y3,y4,y5,y6,y7,y8,y9] N):
  bR Tryz.prog 84 Go.ST3.xB (S0 l s st x0 x1 x2 x3 x4 x5 x6 x7 x8 x9 tick e is).mk' (fun y u=>y= .normal/\((a=true/\bU (S1 l s x0 x1 x2 x3 x4 x5 x6 x7 x8 x9 tick is st x0 x1 x2 x3 x4 x5 x6 x7 x8 x9 ⟨e.var,e.key,N,tick⟩ false) u)\/(a=false/\bU (S1 l s x0 x1 x2 x3 x4 x5 x6 x7 x8 x9 tick is st' y0 y1 y2 y3 y4 y5 y6 y7 y8 y9 ⟨e.var,e.key,N,tick⟩ true) u))):=by
 obtain ⟨A,w,key,g,n,m⟩:=s;dsimp only at v d t;subst v;subst z;have x:((o.map um).length:Int)=o.length:=by rw [List.length_map]
 obtain ⟨i,r,p,f⟩:=t;refine Go.ST3.AE ?_
 by_cases c:a=true
 ·subst c;cases is with
  |true=>cases j
  |false=>
   have c:100<=o.length:=by
    by_cases c:100<=o.length
    ·exact c
    ·rw [decide_eq_false c] at j;cases j
   have h:((o.map um).length:Int)>=100:=by omega
   repeat' ((conv=>whnf);first|refine WC.toM (tW mixed Tryz.func52 Go.ST4.l52 rfl rfl (rs:=[.tmp 2]) rfl 3000 (nlZ rfl) ?_)|refine aS ?_|refine nT_ ?_)
   repeat' ((conv=>whnf);first|refine tW mixed Tryz.func105 Go.ST4.vW rfl rfl (rs:=[.tmp 2]) rfl 3100 (nlZ rfl) ?_|refine aS ?_|refine nT_ ?_)
   repeat' ((conv=>whnf);first|refine uc _ (d) ?_|refine sC h ?_|refine aS ?_|fail)
   refine ⟨_,rfl,?_⟩
   skip
   refine ⟨_,rfl,?_⟩
   repeat' ((conv=>whnf);first|(exact ⟨rfl,Or.inl ⟨rfl,by (repeat' (first|exact wJ|refine And.intro ?_ ?_));done⟩⟩)|fail)
 ·have c:a=false:=by simpa using c
  subst c;have k:(is=true)\/(is=false/\ ¬((o.map um).length:Int)>=100):=by
   cases is with
   |true=>exact Or.inl rfl
   |false=>
    refine Or.inr ⟨rfl,fun h=>?_⟩;rw [decide_eq_true (by omega)] at j;cases j
  cases b:uA l g with
  |true=>
   have r:=r b;have p:=p b;rw [b] at i;rcases k with rfl|⟨rfl,h⟩
   ·repeat' ((conv=>whnf);first|refine WC.toM (tW mixed Tryz.func52 Go.ST4.l52 rfl rfl (rs:=[.tmp 2]) rfl 3000 (nlZ rfl) ?_)|refine aS ?_|refine nT_ ?_)
    repeat' ((conv=>whnf);first|refine tW mixed Tryz.func105 Go.ST4.vW rfl rfl (rs:=[.tmp 2]) rfl 3100 (nlZ rfl) ?_|refine aS ?_|refine nT_ ?_)
    repeat' ((conv=>whnf);first|refine uc _ (q) ?_|refine aS ?_|fail)
    refine ⟨_,rfl,?_⟩
    repeat' ((conv=>whnf);first|refine tW mixed Tryz.func106 Go.ST4.zx rfl rfl (rs:=[]) rfl 3200 (nlZ rfl) ?_|refine aS ?_|refine nT_ ?_)
    repeat' ((conv=>whnf);first|refine uc _ (i) ?_|refine uc _ (r) ?_|refine uc _ (p) ?_|refine aS ?_|refine nT_ ?_)
    refine ⟨_,rfl,?_⟩
    skip
    refine ⟨_,rfl,?_⟩
    repeat' ((conv=>whnf);first|(exact ⟨rfl,Or.inr ⟨rfl,by (repeat' (first|exact wJ|refine And.intro ?_ ?_));done⟩⟩)|fail)
   ·repeat' ((conv=>whnf);first|refine WC.toM (tW mixed Tryz.func52 Go.ST4.l52 rfl rfl (rs:=[.tmp 2]) rfl 3000 (nlZ rfl) ?_)|refine aS ?_|refine nT_ ?_)
    repeat' ((conv=>whnf);first|refine tW mixed Tryz.func105 Go.ST4.vW rfl rfl (rs:=[.tmp 2]) rfl 3100 (nlZ rfl) ?_|refine aS ?_|refine nT_ ?_)
    repeat' ((conv=>whnf);first|refine uc _ (d) ?_|refine su h ?_|refine uc _ (q) ?_|refine aS ?_|refine nT_ ?_)
    refine ⟨_,rfl,?_⟩
    repeat' ((conv=>whnf);first|refine tW mixed Tryz.func106 Go.ST4.zx rfl rfl (rs:=[]) rfl 3200 (nlZ rfl) ?_|refine aS ?_|refine nT_ ?_)
    repeat' ((conv=>whnf);first|refine uc _ (i) ?_|refine uc _ (r) ?_|refine uc _ (p) ?_|refine aS ?_|refine nT_ ?_)
    refine ⟨_,rfl,?_⟩
    skip
    refine ⟨_,rfl,?_⟩
    repeat' ((conv=>whnf);first|(exact ⟨rfl,Or.inr ⟨rfl,by (repeat' (first|exact wJ|refine And.intro ?_ ?_));done⟩⟩)|fail)
  |false=>
   have f:=f b;cases f;rw [b] at i;rcases k with rfl|⟨rfl,h⟩
   ·repeat' ((conv=>whnf);first|refine WC.toM (tW mixed Tryz.func52 Go.ST4.l52 rfl rfl (rs:=[.tmp 2]) rfl 3000 (nlZ rfl) ?_)|refine aS ?_|refine nT_ ?_)
    repeat' ((conv=>whnf);first|refine tW mixed Tryz.func105 Go.ST4.vW rfl rfl (rs:=[.tmp 2]) rfl 3100 (nlZ rfl) ?_|refine aS ?_|refine nT_ ?_)
    repeat' ((conv=>whnf);first|refine uc _ (q) ?_|refine aS ?_|fail)
    refine ⟨_,rfl,?_⟩
    repeat' ((conv=>whnf);first|refine tW mixed Tryz.func106 Go.ST4.zx rfl rfl (rs:=[]) rfl 3200 (nlZ rfl) ?_|refine aS ?_|refine nT_ ?_)
    repeat' ((conv=>whnf);first|refine uc _ (i) ?_|refine aS ?_|fail)
    refine ⟨_,rfl,?_⟩
    skip
    refine ⟨_,rfl,?_⟩
    repeat' ((conv=>whnf);first|(exact ⟨rfl,Or.inr ⟨rfl,by (repeat' (first|exact wJ|refine And.intro ?_ ?_));done⟩⟩)|fail)
   ·repeat' ((conv=>whnf);first|refine WC.toM (tW mixed Tryz.func52 Go.ST4.l52 rfl rfl (rs:=[.tmp 2]) rfl 3000 (nlZ rfl) ?_)|refine aS ?_|refine nT_ ?_)
    repeat' ((conv=>whnf);first|refine tW mixed Tryz.func105 Go.ST4.vW rfl rfl (rs:=[.tmp 2]) rfl 3100 (nlZ rfl) ?_|refine aS ?_|refine nT_ ?_)
    repeat' ((conv=>whnf);first|refine uc _ (d) ?_|refine su h ?_|refine uc _ (q) ?_|refine aS ?_|refine nT_ ?_)
    refine ⟨_,rfl,?_⟩
    repeat' ((conv=>whnf);first|refine tW mixed Tryz.func106 Go.ST4.zx rfl rfl (rs:=[]) rfl 3200 (nlZ rfl) ?_|refine aS ?_|refine nT_ ?_)
    repeat' ((conv=>whnf);first|refine uc _ (i) ?_|refine aS ?_|fail)
    refine ⟨_,rfl,?_⟩
    skip
    refine ⟨_,rfl,?_⟩
    repeat' ((conv=>whnf);first|(exact ⟨rfl,Or.inr ⟨rfl,by (repeat' (first|exact wJ|refine And.intro ?_ ?_));done⟩⟩)|fail)
end Go.ST
end
section
namespace Go.ST
open Go Go.DL Go.MM Go.Proofs
open Go.TY hiding Fd
variable {l:List Fd}{s:RS}{st st' o:List RE}{x0 x1 x2 x3 x4 x5 x6 x7 x8 x9 tick:Int}{e:RE}{is:Bool}
attribute [local irreducible] bR WCM YC
abbrev W64(n:Int):Int:=IntKind.wrap .i64 n
abbrev vG(tick a m:Int):Int:=W64 ((if W64 (tick - a)>0 then W64 (tick - a) else 0).tdiv m)
abbrev HN(n m tick b a:Int):Int×Int:=if W64 (b+vG tick a m)>=n then (n,tick) else (W64 (b+vG tick a m),W64 (a+W64 (vG tick a m * m)))
theorem IF(y:s.kind=6)(z:s.m≠0)(t r h i:Int)(v:t=if is then e.n else s.n)(q:r=if is then e.at_ else tick)(f:HN s.n s.m tick t r=(h,i))(u:Int)(b:u=if h>0 then W64 (h - 1) else h)
  (g:DCalls Tryz.prog 22 [esT st,.str s.var] (esT o)) (p:DCalls Tryz.prog 139 [esT st,um ⟨e.var,e.key,u,i⟩] (esT st')) (d:Bool) (w:d=(!is&&decide (100<=o.length))):
  bR Tryz.prog 84 Go.ST3.xB (S0 l s st x0 x1 x2 x3 x4 x5 x6 x7 x8 x9 tick e is).mk' (fun C D=>C= .normal/\bU (S1 l s x0 x1 x2 x3 x4 x5 x6 x7 x8 x9 tick is (if d then st else st') x0 x1 x2 x3 x4 x5 x6 x7 x8 x9 ⟨e.var,e.key,u,i⟩ (!d&&decide (h>0))) D):=by
 obtain ⟨E,A,key,x,n,m⟩:=s;dsimp only at y g z v q f;subst y;have B:((o.map um).length:Int)=o.length:=by rw [List.length_map]
 refine Go.ST3.AE ?_;cases is with
 |true=>
  obtain rfl:d=false:=by rw [w];rfl
  obtain rfl:t=e.n:=v;obtain rfl:r=e.at_:=q
  by_cases k:W64 (e.n+vG tick e.at_ m)>=n
  ·have f:(n,tick)=(h,i):=by rw [<- f];exact (if_pos k).symm
   obtain ⟨rfl,rfl⟩:=Prod.mk.injEq .. ▸f
   by_cases a:n>0
   ·rw [if_pos a] at b;subst b;rw [decide_eq_true a]
    repeat' ((conv=>whnf);first|refine WC.toM (tW mixed Tryz.func57 Go.ST4.l57 rfl rfl (rs:=[.tmp 2]) rfl 3000 (nlZ rfl) ?_)|refine aD1 ?_|refine aS ?_|refine nT_ ?_)
    repeat' ((conv=>whnf);first|refine tW mixed Tryz.func105 Go.ST4.vW rfl rfl (rs:=[.tmp 2]) rfl 3100 (nlZ rfl) ?_|refine aS ?_|refine nT_ ?_)
    repeat' ((conv=>whnf);first|refine uc _ (p) ?_|refine aS ?_|fail)
    refine ⟨_,rfl,?_⟩
    skip
    refine ⟨_,rfl,?_⟩
    repeat' ((conv=>whnf);first|(exact ⟨rfl,by (repeat' (first|exact wJ|refine And.intro ?_ ?_));done⟩)|fail)
   ·rw [if_neg a] at b;subst b;rw [decide_eq_false a]
    repeat' ((conv=>whnf);first|refine WC.toM (tW mixed Tryz.func57 Go.ST4.l57 rfl rfl (rs:=[.tmp 2]) rfl 3000 (nlZ rfl) ?_)|refine aD1 ?_|refine aD0 ?_|refine aS ?_|refine nT_ ?_)
    repeat' ((conv=>whnf);first|refine tW mixed Tryz.func105 Go.ST4.vW rfl rfl (rs:=[.tmp 2]) rfl 3100 (nlZ rfl) ?_|refine aS ?_|refine nT_ ?_)
    repeat' ((conv=>whnf);first|refine uc _ (p) ?_|refine aS ?_|fail)
    refine ⟨_,rfl,?_⟩
    skip
    refine ⟨_,rfl,?_⟩
    repeat' ((conv=>whnf);first|(exact ⟨rfl,by (repeat' (first|exact wJ|refine And.intro ?_ ?_));done⟩)|fail)
  ·have f:(W64 (e.n+vG tick e.at_ m),W64 (e.at_+W64 (vG tick e.at_ m * m)))=(h,i):=by rw [<- f];exact (if_neg k).symm
   obtain ⟨rfl,rfl⟩:=Prod.mk.injEq .. ▸f
   by_cases a:W64 (e.n+vG tick e.at_ m)>0
   ·rw [if_pos a] at b;subst b;rw [decide_eq_true a]
    repeat' ((conv=>whnf);first|refine WC.toM (tW mixed Tryz.func57 Go.ST4.l57 rfl rfl (rs:=[.tmp 2]) rfl 3000 (nlZ rfl) ?_)|refine aD1 ?_|refine aD0 ?_|refine aS ?_|refine nT_ ?_)
    repeat' ((conv=>whnf);first|refine tW mixed Tryz.func105 Go.ST4.vW rfl rfl (rs:=[.tmp 2]) rfl 3100 (nlZ rfl) ?_|refine aS ?_|refine nT_ ?_)
    repeat' ((conv=>whnf);first|refine uc _ (p) ?_|refine aS ?_|fail)
    refine ⟨_,rfl,?_⟩
    skip
    refine ⟨_,rfl,?_⟩
    repeat' ((conv=>whnf);first|(exact ⟨rfl,by (repeat' (first|exact wJ|refine And.intro ?_ ?_));done⟩)|fail)
   ·rw [if_neg a] at b;subst b;rw [decide_eq_false a]
    repeat' ((conv=>whnf);first|refine WC.toM (tW mixed Tryz.func57 Go.ST4.l57 rfl rfl (rs:=[.tmp 2]) rfl 3000 (nlZ rfl) ?_)|refine aD0 ?_|refine aS ?_|refine nT_ ?_)
    repeat' ((conv=>whnf);first|refine tW mixed Tryz.func105 Go.ST4.vW rfl rfl (rs:=[.tmp 2]) rfl 3100 (nlZ rfl) ?_|refine aS ?_|refine nT_ ?_)
    repeat' ((conv=>whnf);first|refine uc _ (p) ?_|refine aS ?_|fail)
    refine ⟨_,rfl,?_⟩
    skip
    refine ⟨_,rfl,?_⟩
    repeat' ((conv=>whnf);first|(exact ⟨rfl,by (repeat' (first|exact wJ|refine And.intro ?_ ?_));done⟩)|fail)
 |false=>
  obtain rfl:n=t:=v.symm;obtain rfl:tick=r:=q.symm
  by_cases c:100<=o.length
  ·have j:((o.map um).length:Int)>=100:=by omega
   obtain rfl:d=true:=by rw [w,decide_eq_true c];rfl
   by_cases k:W64 (n+vG tick tick m)>=n
   ·have f:(n,tick)=(h,i):=by rw [<- f];exact (if_pos k).symm
    obtain ⟨rfl,rfl⟩:=Prod.mk.injEq .. ▸f
    by_cases a:n>0
    ·rw [if_pos a] at b;subst b;rw [decide_eq_true a]
     repeat' ((conv=>whnf);first|refine WC.toM (tW mixed Tryz.func57 Go.ST4.l57 rfl rfl (rs:=[.tmp 2]) rfl 3000 (nlZ rfl) ?_)|refine aD1 ?_|refine aS ?_|refine nT_ ?_)
     repeat' ((conv=>whnf);first|refine tW mixed Tryz.func105 Go.ST4.vW rfl rfl (rs:=[.tmp 2]) rfl 3100 (nlZ rfl) ?_|refine aS ?_|refine nT_ ?_)
     repeat' ((conv=>whnf);first|refine uc _ (g) ?_|refine sC j ?_|refine aS ?_|fail)
     refine ⟨_,rfl,?_⟩
     skip
     refine ⟨_,rfl,?_⟩
     repeat' ((conv=>whnf);first|(exact ⟨rfl,by (repeat' (first|exact wJ|refine And.intro ?_ ?_));done⟩)|fail)
    ·rw [if_neg a] at b;subst b;rw [decide_eq_false a]
     repeat' ((conv=>whnf);first|refine WC.toM (tW mixed Tryz.func57 Go.ST4.l57 rfl rfl (rs:=[.tmp 2]) rfl 3000 (nlZ rfl) ?_)|refine aD1 ?_|refine aD0 ?_|refine aS ?_|refine nT_ ?_)
     repeat' ((conv=>whnf);first|refine tW mixed Tryz.func105 Go.ST4.vW rfl rfl (rs:=[.tmp 2]) rfl 3100 (nlZ rfl) ?_|refine aS ?_|refine nT_ ?_)
     repeat' ((conv=>whnf);first|refine uc _ (g) ?_|refine sC j ?_|refine aS ?_|fail)
     refine ⟨_,rfl,?_⟩
     skip
     refine ⟨_,rfl,?_⟩
     repeat' ((conv=>whnf);first|(exact ⟨rfl,by (repeat' (first|exact wJ|refine And.intro ?_ ?_));done⟩)|fail)
   ·have f:(W64 (n+vG tick tick m),W64 (tick+W64 (vG tick tick m * m)))=(h,i):=by rw [<- f];exact (if_neg k).symm
    obtain ⟨rfl,rfl⟩:=Prod.mk.injEq .. ▸f
    by_cases a:W64 (n+vG tick tick m)>0
    ·rw [if_pos a] at b;subst b;rw [decide_eq_true a]
     repeat' ((conv=>whnf);first|refine WC.toM (tW mixed Tryz.func57 Go.ST4.l57 rfl rfl (rs:=[.tmp 2]) rfl 3000 (nlZ rfl) ?_)|refine aD1 ?_|refine aD0 ?_|refine aS ?_|refine nT_ ?_)
     repeat' ((conv=>whnf);first|refine tW mixed Tryz.func105 Go.ST4.vW rfl rfl (rs:=[.tmp 2]) rfl 3100 (nlZ rfl) ?_|refine aS ?_|refine nT_ ?_)
     repeat' ((conv=>whnf);first|refine uc _ (g) ?_|refine sC j ?_|refine aS ?_|fail)
     refine ⟨_,rfl,?_⟩
     skip
     refine ⟨_,rfl,?_⟩
     repeat' ((conv=>whnf);first|(exact ⟨rfl,by (repeat' (first|exact wJ|refine And.intro ?_ ?_));done⟩)|fail)
    ·rw [if_neg a] at b;subst b;rw [decide_eq_false a]
     repeat' ((conv=>whnf);first|refine WC.toM (tW mixed Tryz.func57 Go.ST4.l57 rfl rfl (rs:=[.tmp 2]) rfl 3000 (nlZ rfl) ?_)|refine aD0 ?_|refine aS ?_|refine nT_ ?_)
     repeat' ((conv=>whnf);first|refine tW mixed Tryz.func105 Go.ST4.vW rfl rfl (rs:=[.tmp 2]) rfl 3100 (nlZ rfl) ?_|refine aS ?_|refine nT_ ?_)
     repeat' ((conv=>whnf);first|refine uc _ (g) ?_|refine sC j ?_|refine aS ?_|fail)
     refine ⟨_,rfl,?_⟩
     skip
     refine ⟨_,rfl,?_⟩
     repeat' ((conv=>whnf);first|(exact ⟨rfl,by (repeat' (first|exact wJ|refine And.intro ?_ ?_));done⟩)|fail)
  ·have j: ¬((o.map um).length:Int)>=100:=by omega
   obtain rfl:d=false:=by rw [w,decide_eq_false c];rfl
   by_cases k:W64 (n+vG tick tick m)>=n
   ·have f:(n,tick)=(h,i):=by rw [<- f];exact (if_pos k).symm
    obtain ⟨rfl,rfl⟩:=Prod.mk.injEq .. ▸f
    by_cases a:n>0
    ·rw [if_pos a] at b;subst b;rw [decide_eq_true a]
     repeat' ((conv=>whnf);first|refine WC.toM (tW mixed Tryz.func57 Go.ST4.l57 rfl rfl (rs:=[.tmp 2]) rfl 3000 (nlZ rfl) ?_)|refine aD1 ?_|refine aS ?_|refine nT_ ?_)
     repeat' ((conv=>whnf);first|refine tW mixed Tryz.func105 Go.ST4.vW rfl rfl (rs:=[.tmp 2]) rfl 3100 (nlZ rfl) ?_|refine aS ?_|refine nT_ ?_)
     repeat' ((conv=>whnf);first|refine uc _ (g) ?_|refine su j ?_|refine uc _ (p) ?_|refine aS ?_|refine nT_ ?_)
     refine ⟨_,rfl,?_⟩
     skip
     refine ⟨_,rfl,?_⟩
     repeat' ((conv=>whnf);first|(exact ⟨rfl,by (repeat' (first|exact wJ|refine And.intro ?_ ?_));done⟩)|fail)
    ·rw [if_neg a] at b;subst b;rw [decide_eq_false a]
     repeat' ((conv=>whnf);first|refine WC.toM (tW mixed Tryz.func57 Go.ST4.l57 rfl rfl (rs:=[.tmp 2]) rfl 3000 (nlZ rfl) ?_)|refine aD1 ?_|refine aD0 ?_|refine aS ?_|refine nT_ ?_)
     repeat' ((conv=>whnf);first|refine tW mixed Tryz.func105 Go.ST4.vW rfl rfl (rs:=[.tmp 2]) rfl 3100 (nlZ rfl) ?_|refine aS ?_|refine nT_ ?_)
     repeat' ((conv=>whnf);first|refine uc _ (g) ?_|refine su j ?_|refine uc _ (p) ?_|refine aS ?_|refine nT_ ?_)
     refine ⟨_,rfl,?_⟩
     skip
     refine ⟨_,rfl,?_⟩
     repeat' ((conv=>whnf);first|(exact ⟨rfl,by (repeat' (first|exact wJ|refine And.intro ?_ ?_));done⟩)|fail)
   ·have f:(W64 (n+vG tick tick m),W64 (tick+W64 (vG tick tick m * m)))=(h,i):=by rw [<- f];exact (if_neg k).symm
    obtain ⟨rfl,rfl⟩:=Prod.mk.injEq .. ▸f
    by_cases a:W64 (n+vG tick tick m)>0
    ·rw [if_pos a] at b;subst b;rw [decide_eq_true a]
     repeat' ((conv=>whnf);first|refine WC.toM (tW mixed Tryz.func57 Go.ST4.l57 rfl rfl (rs:=[.tmp 2]) rfl 3000 (nlZ rfl) ?_)|refine aD1 ?_|refine aD0 ?_|refine aS ?_|refine nT_ ?_)
     repeat' ((conv=>whnf);first|refine tW mixed Tryz.func105 Go.ST4.vW rfl rfl (rs:=[.tmp 2]) rfl 3100 (nlZ rfl) ?_|refine aS ?_|refine nT_ ?_)
     repeat' ((conv=>whnf);first|refine uc _ (g) ?_|refine su j ?_|refine uc _ (p) ?_|refine aS ?_|refine nT_ ?_)
     refine ⟨_,rfl,?_⟩
     skip
     refine ⟨_,rfl,?_⟩
     repeat' ((conv=>whnf);first|(exact ⟨rfl,by (repeat' (first|exact wJ|refine And.intro ?_ ?_));done⟩)|fail)
    ·rw [if_neg a] at b;subst b;rw [decide_eq_false a]
     repeat' ((conv=>whnf);first|refine WC.toM (tW mixed Tryz.func57 Go.ST4.l57 rfl rfl (rs:=[.tmp 2]) rfl 3000 (nlZ rfl) ?_)|refine aD0 ?_|refine aS ?_|refine nT_ ?_)
     repeat' ((conv=>whnf);first|refine tW mixed Tryz.func105 Go.ST4.vW rfl rfl (rs:=[.tmp 2]) rfl 3100 (nlZ rfl) ?_|refine aS ?_|refine nT_ ?_)
     repeat' ((conv=>whnf);first|refine uc _ (g) ?_|refine su j ?_|refine uc _ (p) ?_|refine aS ?_|refine nT_ ?_)
     refine ⟨_,rfl,?_⟩
     skip
     refine ⟨_,rfl,?_⟩
     repeat' ((conv=>whnf);first|(exact ⟨rfl,by (repeat' (first|exact wJ|refine And.intro ?_ ?_));done⟩)|fail)
end Go.ST
end
section
namespace Go.ST5
open Go Go.DL Go.Proofs
noncomputable def c56:aV:=(sr [oo 1 (.box 1 (tm 0)),oo 2 (.mov kF)] (sr [ld 10 1,oo 11 (.nilck (tm 10)),fa 12 0 11,ld 13 12,ld 14 1,oo 15 (.nilck (tm 14)),fa 16 1 15,fa 17 3 16,ld 18 17,oo 19 (.call 107 [(tm 13),(tm 18)]),mv 9 19,oo 20 (.ext (tm 9) 0),oo 21 (.ext (tm 9) 1),⟨some 3,.alloc [S0,Z0,Z0],none,[]⟩,o0 (.store 3 (tm 3) (tm 20)),mv 4 21] (sr [lA 22 3 3,ld 23 1,oo 24 (.nilck (tm 23)),fa 25 8 24,lA 26 10 25,oo 27 (.call 108 [(tm 22),(tm 26)]),oo 5 (.alloc [Z0]),o0 (.store 1 (tm 5) (tm 27))] (sr [ld 28 1,oo 29 (.nilck (tm 28)),fa 30 7 29,ld 31 30,oo 32 (.mkfn 110 [(tm 1),(tm 5)]),oo 33 (.inl 109 [(tm 31),(tm 32)]),mv 6 33] (.seq (sr [mv 34 6,oo 35 (.bin .lss (tm 34) (Kc 0))] (.cond (tm 35) (sr [oo 2 (.mov kF)] .ret) .skip)) (.seq (sr [ld 36 1,oo 37 (.nilck (tm 36)),fa 38 1 37,fa 39 2 38,ld 40 39,ln 41 40,oo 42 (.mov (Kc 0))] (.block 0 (.loop (sr [oo 43 (.bin .lss (tm 42) (tm 41))] (.seq (.cond (tm 43) .skip (.exit 0)) (.seq (.block 1 (sr [mv 44 42,ix 45 1 40 42,ld 46 45,mv 7 44,mv 8 46] (rg [ld 47 1,mv 48 8,ld 49 1,oo 50 (.nilck (tm 49)),fa 51 7 50,ld 52 51,mv 53 6,ix 54 4 52 53,fa 55 1 54,ld 56 55,mv 57 7,ix 58 1 56 57,ld 59 58,oo 60 (.inl 106 [(tm 47),(tm 48),(tm 59)])]))) (rg [oo 61 (.bin .add (tm 42) (Kc 1)),mv 42 61]))))))) (sr [oo 2 (.mov kT)] .ret)))))))
theorem l56:(Tryz.f56.body.bind (bt Tryz.prog 62 [106,109]))=some c56:=by kernel_rfl
end Go.ST5
end
section
namespace Go.ST
open Go Go.DL Go.MM
open Go.TY hiding Fd
def NJ(n m N A t:Int):Int×Int:=if N+(if t>A then (t - A).tdiv m else 0)>=n then (n,t) else (N+(if t>A then (t - A).tdiv m else 0),A+(if t>A then (t - A).tdiv m else 0) * m)
theorem GM{n m N A t:Int}(_:1<=n)(p:1<=m)(_:0<=N)(_:0<=A)(i:A<=t): ∃q:Int,0<=q/\q * m<=t - A/\(m<=t - A->1<=q)/\t - A<(q+1) * m/\NJ n m N A t=(if N+q>=n then (n,t) else (N+q,A+q * m)):=by
 refine ⟨if t>A then (t - A).tdiv m else 0,?_,?_,?_,?_,rfl⟩
 all_goals
  by_cases h:t>A
  ·rw [if_pos h,Int.tdiv_eq_ediv_of_nonneg (by omega)];have d:=Int.ediv_nonneg (a:=t - A) (b:=m) (by omega) (by omega);have g:=Int.ediv_mul_le (t - A) (b:=m) (by omega);have c:=Int.lt_ediv_add_one_mul_self (t - A) (b:=m) (by omega)
   first
    |exact d
    |exact g
    |exact c
    |(intro k
      generalize (t - A) / m=q at *
      by_cases f:q<=0
      ·have:q=0:=by omega
       subst this;simp at c;omega
      ·omega)
  ·rw [if_neg h]
   first|omega|(simp;omega)
theorem CG{l:List Fd}{s:RS}{f:Option RE}{o:List RE}{h:List Int}{tick:Int}{e:RE}(a:(doR l s f o h tick).2.2=some e):e.var=s.var/\e.key=keyOf l s.key h:=by
 unfold doR at a
 repeat' split at a
 ·cases a
 ·unfold do1 at a;split at a;cases a;cases a;exact ⟨rfl,rfl⟩
 ·unfold do2 at a;split at a;cases a;cases a;exact ⟨rfl,rfl⟩
 ·unfold do3 at a;cases a
 ·unfold do4 at a;split at a;cases a;cases a;exact ⟨rfl,rfl⟩
 ·unfold do5 at a;split at a <;> cases a
 ·unfold do6 at a;split at a;cases a;split at a <;> (cases a;exact ⟨rfl,rfl⟩)
theorem CW{st:List RE}(b:uH st){e:RE}{v:ByteArray}{key:List Int}(h: ¬(e.var=v/\e.key=key)):uB (uK e st) v key=uB st v key:=by
 cases a:uB st v key with
 |some x=>
  obtain ⟨f,rfl,rfl⟩:=vP a;exact G2 (b.put e) ((vj b).2 (Or.inr ⟨f,fun d=>h ⟨(vF.1 d).1.symm,(vF.1 d).2.symm⟩⟩))
 |none=>
  rw [yB] at a ⊢;intro x c;rcases (vj b).1 c with rfl|⟨c,_⟩
  ·exact h
  ·exact a x c
theorem Gt{st:List RE}(a:uH st){e f:RE}(h:ux e f≠0):uK e (uK f st)=uK f (uK e st):=by
 refine uH.ext ((a.put f).put e) ((a.put e).put f) fun x=>?_
 rw [vj (a.put f),vj a,vj (a.put e),vj a];have d:ux f e≠0:=by have:=uv.s e f;omega
 constructor
 ·rintro (rfl|⟨rfl|b,c⟩)
  ·exact Or.inr ⟨Or.inl rfl,h⟩
  ·exact Or.inl rfl
  ·exact Or.inr ⟨Or.inr ⟨b.1,c⟩,b.2⟩
 ·rintro (rfl|⟨rfl|b,c⟩)
  ·exact Or.inr ⟨Or.inl rfl,d⟩
  ·exact Or.inl rfl
  ·exact Or.inr ⟨Or.inr ⟨b.1,c⟩,b.2⟩
def vT(l:List Fd)(st:List RE)(s:RS)(g:List Int)(t:RS)(h:List Int):Bool:=
 if s.kind=0\/t.kind=0\/s.var≠t.var then true
 else if s.kind=t.kind/\(s.kind=3\/s.kind=5) then true
 else if s.kind=4\/s.kind=5 then false
 else decide (keyOf l s.key g≠keyOf l t.key h)&&decide (uC st s.var<=98)
theorem D7{l:List Fd}{st:List RE}(m:uH st){s t:RS}{g h:List Int}{tick:Int}(C:s.kind≠0->t.kind≠0->s.var=t.var->(s.kind=4\/s.kind=5↔t.kind=4\/t.kind=5))
  (d:vT l st s g t h=true):we l t (cN (we l s st g tick).2.2 st) h tick=we l t st h tick:=by
 cases b:(we l s st g tick).2.2 with
 |none=>rfl
 |some e=>
  obtain ⟨ev,v⟩:=CG b;show we l t (uK e st) h tick=_
  by_cases a:t.kind=0
  ·unfold we doR;rw [if_pos a,if_pos a]
  have c:s.kind≠0:=fun w=>by
   unfold we doR at b;rw [if_pos w] at b;cases b
  by_cases k:s.var=t.var
  ·unfold vT at d;rw [if_neg (by simp [c,a,k])] at d
   by_cases n:s.kind=t.kind/\(s.kind=3\/s.kind=5)
   ·exfalso;unfold we doR at b;rcases n.2 with B|u
    ·rw [if_neg c,if_neg (by omega),if_neg (by omega),if_pos B] at b;cases b
    ·rw [if_neg c,if_neg (by omega),if_neg (by omega),if_neg (by omega),if_neg (by omega),if_pos u] at b;unfold do5 at b;split at b <;> cases b
   ·rw [if_neg n] at d
    by_cases f:s.kind=4\/s.kind=5
    ·rw [if_pos f] at d;cases d
    ·rw [if_neg f] at d;simp only [Bool.and_eq_true,decide_eq_true_eq] at d;obtain ⟨y,z⟩:=d;have A:uB (uK e st) t.var (keyOf l t.key h)=uB st t.var (keyOf l t.key h):=CW m (fun i=>y (v.symm.trans i.2));have p:(ofE st t.var).length<=98:=by rw [<- k];exact z
     have x:(ofE (uK e st) t.var).length<=99:=by
      rw [CA m,if_pos (ev.trans k),DY (show uH (ofE st t.var) from m.filter _)];split <;> omega
     have r: ∀(o:List RE),o.length<=99->uX (uB st t.var (keyOf l t.key h)) o=false:=fun o D=>by
      unfold uX;rw [show decide (100<=o.length)=false by simp;omega,Bool.and_false]
     unfold we;rw [A];unfold doR do1 do2 do6;have q: ¬(t.kind=4\/t.kind=5):=fun i=>f ((C c a k).2 i)
     rw [if_neg a,if_neg a,r _ x,r _ (by omega),if_neg (show ¬t.kind=4 by omega),if_neg (show ¬t.kind=5 by omega),if_neg (show ¬t.kind=4 by omega),if_neg (show ¬t.kind=5 by omega)]
  ·have j: ¬e.var=t.var:=fun i=>k (ev.symm.trans i)
   unfold we;rw [CW m (fun i=>j i.1),CA m,if_neg j]
theorem Iq{l:List Fd}{st:List RE}(u:uH st){s t:RS}{g h:List Int}{tick:Int}(w:s.kind≠0->t.kind≠0->s.var=t.var->(s.kind=4\/s.kind=5↔t.kind=4\/t.kind=5))(i:vT l st s g t h=true)(r:vT l st t h s g=true):
  (doE l s st g tick).h=(doE l s (doE l t st h tick).st g tick).h/\(doE l s st g tick).pass=(doE l s (doE l t st h tick).st g tick).pass/\
  (doE l t (doE l s st g tick).st h tick).h=(doE l t st h tick).h/\(doE l t (doE l s st g tick).st h tick).pass=(doE l t st h tick).pass/\
  (doE l t (doE l s st g tick).st h tick).st=(doE l s (doE l t st h tick).st g tick).st:=by
 have C:=D7 (tick:=tick) u w i;have E:=D7 (tick:=tick) u (fun a b c=>(w b a c.symm).symm) r;unfold doE;dsimp only;rw [C,E];refine ⟨rfl,rfl,rfl,rfl,?_⟩;cases d:(we l s st g tick).2.2 with
 |none=>rfl
 |some e=>
  cases p:(we l t st h tick).2.2 with
  |none=>rfl
  |some f=>
   refine Gt u fun k=>?_
   obtain ⟨x,B⟩:=CG d;obtain ⟨D,A⟩:=CG p;obtain ⟨z,G⟩:=vF.1 k;have q:(keyOf l s.key g=keyOf l t.key h):=by rw [<- B, <-A,G]
   have F:s.var=t.var:=by rw [<- x, <-D,z]
   unfold vT at i;have j:s.kind≠0:=fun k=>by
    unfold we doR at d;rw [if_pos k] at d;cases d
   have v:t.kind≠0:=fun k=>by
    unfold we doR at p;rw [if_pos k] at p;cases p
   rw [if_neg (by simp [j,v,F])] at i
   by_cases n:s.kind=t.kind/\(s.kind=3\/s.kind=5)
   ·unfold we doR at d;rcases n.2 with H|y
    ·rw [if_neg j,if_neg (by omega),if_neg (by omega),if_pos H] at d;cases d
    ·rw [if_neg j,if_neg (by omega),if_neg (by omega),if_neg (by omega),if_neg (by omega),if_pos y] at d;unfold do5 at d;split at d <;> cases d
   ·rw [if_neg n] at i
    by_cases m:s.kind=4\/s.kind=5
    ·rw [if_pos m] at i;cases i
    ·rw [if_neg m] at i;simp [q] at i
theorem E7{l:List Fd}{st:List RE}{s t:RS}{g h:List Int}(k:s.kind≠0->t.kind≠0->s.var=t.var->(s.kind=4\/s.kind=5↔t.kind=4\/t.kind=5)):vT l st s g t h=vT l st t h s g:=by
 by_cases j:s.kind=0
 ·unfold vT;rw [if_pos (Or.inl j),if_pos (Or.inr (Or.inl j))]
 by_cases i:t.kind=0
 ·unfold vT;rw [if_pos (Or.inr (Or.inl i)),if_pos (Or.inl i)]
 by_cases f:s.var=t.var
 case neg=>unfold vT;rw [if_pos (Or.inr (Or.inr f)),if_pos (Or.inr (Or.inr fun e=>f e.symm))]
 have k:=k j i f;have m: ¬(s.kind=0\/t.kind=0\/s.var≠t.var):=fun e=>e.elim j fun e=>e.elim i fun e=>e f
 have p: ¬(t.kind=0\/s.kind=0\/t.var≠s.var):=fun e=>e.elim i fun e=>e.elim j fun e=>e f.symm
 have r:vT l st s g t h=if s.kind=t.kind/\(s.kind=3\/s.kind=5) then true else if s.kind=4\/s.kind=5 then false else decide (keyOf l s.key g≠keyOf l t.key h)&&decide (uC st s.var<=98):=if_neg m
 have n:vT l st t h s g=if t.kind=s.kind/\(t.kind=3\/t.kind=5) then true else if t.kind=4\/t.kind=5 then false else decide (keyOf l t.key h≠keyOf l s.key g)&&decide (uC st t.var<=98):=if_neg p
 rw [r,n]
 by_cases c:s.kind=t.kind/\(s.kind=3\/s.kind=5)
 ·rw [if_pos c,if_pos ⟨c.1.symm,by rw [<- c.1];exact c.2⟩]
 ·have q: ¬(t.kind=s.kind/\(t.kind=3\/t.kind=5)):=fun d=>c ⟨d.1.symm,by rw [<- d.1];exact d.2⟩
  rw [if_neg c,if_neg q]
  by_cases d:s.kind=4\/s.kind=5
  ·rw [if_pos d,if_pos (k.1 d)]
  ·rw [if_neg d,if_neg fun e=>d (k.2 e),f]
   congr 1
   exact decide_eq_decide.2 ⟨fun a b=>a b.symm,fun a b=>a b.symm⟩
structure Dc (l:List Fd) (vars:List RV) (s:RS):Prop where
 k0:1<=s.kind
 k1:s.kind<=6
 keys: ∀k∈s.key,uA l k=true
 klen:s.key.length<=1000
 var: ∃v,varOf vars s.var=some v/\v.fam=vA s.kind/\v.ws=uO l s/\(s.kind=4->v.n=s.n/\v.m=s.m)/\(s.kind=6->v.n=s.n)
 k3:s.kind=3->0<=s.n/\s.n<=1073741824
 k4:s.kind=4->0<=s.n/\s.n<=65535/\s.n<=s.m/\s.m<=65535/\uA l s.field=true/\s.m<=((2^(fld l s.field).w - 1:Nat):Int)
 k5:s.kind=5->uA l s.field=true
 k6:s.kind=6->1<=s.n/\s.n<=65535/\1<=s.m/\s.m<=1073741824
theorem Hj{l:List Fd}(h:LOk l){k:ByteArray}(a:uA l k=true):FOk (MM.fld l k):=by
 unfold uA at a;obtain ⟨f,a⟩:=Option.isSome_iff_exists.1 a;rw [B7 a];exact h.find a
theorem DE{l:List Fd}{h:List Int}: ∀(a:List ByteArray),vI (keyOf l a h) (a.map fun k=>((fld l k).w:Int))=true
 |[]=>rfl
 |k::ks=>by
  have b:=EE (fld l k) h;show vI ((vk (fld l k) h:Int)::keyOf l ks h) (((fld l k).w:Int)::ks.map fun k=>((fld l k).w:Int))=true
  rw [vI,DE ks,Int.toNat_natCast];simp only [Bool.and_true,Bool.and_eq_true,decide_eq_true_eq];refine ⟨by omega,?_⟩
  have:((2^(fld l k).w:Nat):Int)=2^(fld l k).w:=by simp
  omega
theorem HQ{l:List Fd}{vars:List RV}{s:RS}{st:List RE}{h:List Int}{tick:Int}(A:LOk l)(m:uA l ⟨#[]⟩=false)(G:HOk h)(g:OkS vars st)(k:st.length<=1000000)(z:0<=tick)(C:tick<=1073741824)(f:Dc l vars s):B1 l s st h tick:=by
 refine ⟨A,m,G,g.inc,k,fun e j=>⟨(g.fit e j).n0,(g.fit e j).n1,(g.fit e j).a0,(g.fit e j).a1⟩,z,C,by have:=f.k0;omega,f.k1,f.keys,f.klen,f.k3,fun u=>?_,fun r=>⟨f.k5 r,fun e j D=>?_⟩,f.k6⟩
 ·obtain ⟨a,b,c,d, -, -⟩:=f.k4 u;exact ⟨a,b,c,d⟩
 ·obtain ⟨v,t,H,B, -⟩:=f.var;obtain ⟨w,q,F, -⟩:=(g.fit e j).ex;rw [D,t] at q;cases q;obtain ⟨n,y⟩:=BO.1 F;refine ⟨by rw [n,B];unfold uO;simp,fun x E=>?_⟩;obtain ⟨i,p,rfl⟩:=List.getElem_of_mem E;exact (y i e.key[i] (v.ws[i]'(by rw [<- n];exact p)) (ggZ p) (ggZ _)).1
theorem xA{l:List Fd}(c:LOk l){h:List Int}(a:HOk h){name:ByteArray}{n:Int}(_:0<=n):HOk (wrF l h name n):=by
 unfold wrF;cases b:uA l name with
 |false=>simpa using a
 |true=>
  rw [if_pos rfl]
  have:=Nat.two_pow_pos (fld l name).w
  exact a.set (Hj c b) (by omega)
theorem yL{l:List Fd}(a:LOk l): ∀{ks:List ByteArray} {vs:List Int} {h:List Int},HOk h->(∀ x∈vs,0<=x)->HOk (wT l ks vs h)
 |[],_,h,hh,_=>hh
 |_::_,[],h,hh,_=>hh
 |k::ks,v::vs,h,hh,hv=>show HOk (wT l ks vs (wrF l h k v)) from yL a (xA a hh (hv v (by simp))) fun x b=>hv x (by simp [b])
theorem Jj{l:List Fd}{vars:List RV}{s:RS}{st:List RE}{tick:Int}{key:List Int}(p:OkS vars st)(g:Dc l vars s)(f:s.kind=6)(P:0<=tick)(T:tick<=1073741824):
  0<=(xI s (uB st s.var key) key tick).n/\(xI s (uB st s.var key) key tick).n<=s.n/\0<=(xI s (uB st s.var key) key tick).at_/\(xI s (uB st s.var key) key tick).at_<=1073741824:=by
 obtain ⟨B,Z,H,m4⟩:=g.k6 f;have d: ∀(e:RE),0<=e.n->0<=e.at_->e.at_<=1073741824->e.n<=s.n->0<=(wh s e tick).n/\(wh s e tick).n<=s.n/\0<=(wh s e tick).at_/\(wh s e tick).at_<=1073741824:=by
  intro e e0 K U M
  by_cases i:tick>e.at_
  ·obtain ⟨q,q0,L,O,V,S⟩:=GM (n:=s.n) (m:=s.m) (N:=e.n) (A:=e.at_) (t:=tick) B H e0 K (by omega);have Y:(if tick>e.at_ then (tick - e.at_).tdiv s.m else 0)=q\/True:=Or.inr trivial;have C:=Int.ediv_nonneg (a:=tick - e.at_) (b:=s.m) (by omega) (by omega);have I:=Int.ediv_mul_le (tick - e.at_) (b:=s.m) (by omega);unfold wh;dsimp only;rw [if_pos i,Int.tdiv_eq_ediv_of_nonneg (by omega)];generalize (tick - e.at_) / s.m=k at *
   have D:=Int.mul_nonneg C (show (0:Int)<=s.m by omega);split <;> (dsimp only;omega)
  ·unfold wh;dsimp only;rw [if_neg i];split <;> (dsimp only;omega)
 unfold xI;cases y:uB st s.var key with
 |none=>exact d _ (by dsimp [Option.getD];omega) (by dsimp [Option.getD];omega) (by dsimp [Option.getD];omega) (by dsimp [Option.getD];omega)
 |some e=>
  obtain ⟨x,G,g3⟩:=vP y;have c:=p.fit e x;obtain ⟨v,r,E,Q,v4,z⟩:=g.var;obtain ⟨w,j,w2,X,W,F⟩:=c.ex;rw [G,r] at j;cases j;have u:v.fam=4:=by rw [E,f];decide
  have J:e.n<=s.n:=by
   have:=z f
   rcases F u with h|h <;> omega
  exact d e c.n0 c.a0 c.a1 J
theorem Js{l:List Fd}{vars:List RV}{s:RS}{st:List RE}{h:List Int}{tick:Int}(O:LOk l)(t:HOk h)(z:OkS vars st)(y:0<=tick)(J:tick<=1073741824)(H:Dc l vars s):
  OkS vars (doE l s st h tick).st/\HOk (doE l s st h tick).h/\wx (doE l s st h tick).st s.var=wx st s.var/\((doE l s st h tick).pass=false->(doE l s st h tick).h=h):=by
 obtain ⟨v,L,S,v3,v4,v5⟩:=H.var;have hk:=DE (l:=l) (h:=h) s.key;rw [show (s.key.map fun k=>((fld l k).w:Int))=v.ws from v3.symm] at hk;have put: ∀(n a:Int),0<=n->n<=65535->0<=a->a<=1073741824->(v.fam=2->n=0)->(v.fam=3->v.n<=n/\n<=v.m)->(v.fam=4->v.n=0\/n<=v.n)->uX (uB st s.var (keyOf l s.key h)) (ofE st s.var)=false->
   (v.fam=3-> ∀x∈st,x.var=s.var->ux x ⟨s.var,keyOf l s.key h,n,a⟩≠0->x.n≠n)->OkS vars (uK ⟨s.var,keyOf l s.key h,n,a⟩ st)/\wx (uK ⟨s.var,keyOf l s.key h,n,a⟩ st) s.var=wx st s.var:=by
  intro n a n0 n1 a0 a1 f2 f3 f4 d hun;refine ⟨z.put ⟨⟨v,L,hk,f2,f3,f4⟩,n0,n1,a0,a1⟩ ?_ ?_,Eg z.inc rfl⟩
  ·unfold uX at d;cases p:uB st s.var (keyOf l s.key h) with
   |some x=>exact Or.inl rfl
   |none=>
    rw [p] at d;right;simp at d;exact d
  ·rintro ⟨v',M,T⟩ x C f u;have e:some v'=some v:=M.symm.trans L;cases e;exact hun T x C f u
 have G: ∀e,uB st s.var (keyOf l s.key h)=some e->e∈st/\e.var=s.var/\e.key=keyOf l s.key h/\0<=e.n/\e.n<=65535/\(v.fam=2->e.n=0)/\(v.fam=3->v.n<=e.n/\e.n<=v.m):=by
  intro e p;obtain ⟨P,E,g3⟩:=vP p;have A:=z.fit e P;obtain ⟨w,M,T,w3,w4,w5⟩:=A.ex;rw [E,L] at M;cases M;exact ⟨P,E,g3,A.n0,A.n1,w3,w4⟩
 have c: ∀(b:Bool),OkS vars st/\HOk h/\wx st s.var=wx st s.var/\(b=false->h=h):=fun b=>⟨z,t,rfl,fun _=>rfl⟩
 have k0:=H.k0;have k1:=H.k1;unfold doE we doR;rw [if_neg (by omega)]
 by_cases Y:s.kind=1
 ·rw [if_pos Y];unfold do1;cases d:uX (uB st s.var (keyOf l s.key h)) (ofE st s.var) with
  |true=>exact c false
  |false=>
   have p:v.fam=1:=by rw [S,Y];decide
   have F:0<=((uB st s.var (keyOf l s.key h)).map (·.n)).getD 0:=by
    cases p:uB st s.var (keyOf l s.key h) with
    |none=>exact Int.le_refl _
    |some e=>exact (G e p).2.2.2.1
   generalize ((uB st s.var (keyOf l s.key h)).map (·.n)).getD 0=n at *
   obtain ⟨g,q⟩:=put (min (n+1) 65535) tick (by omega) (by omega) y J (by omega) (by omega) (by omega) d (by omega);exact ⟨g,xA O t (by omega),q,fun r=>by cases r⟩
 rw [if_neg Y]
 by_cases c2:s.kind=2
 ·rw [if_pos c2];unfold do2;cases d:uX (uB st s.var (keyOf l s.key h)) (ofE st s.var) with
  |true=>exact c false
  |false=>
   have W:v.fam=2:=by rw [S,c2];decide
   have F:((uB st s.var (keyOf l s.key h)).map (·.n)).getD 0=0:=by
    cases p:uB st s.var (keyOf l s.key h) with
    |none=>rfl
    |some e=>exact (G e p).2.2.2.2.2.1 W
   rw [F];obtain ⟨g,q⟩:=put 0 tick (by omega) (by omega) y J (by omega) (by omega) (by omega) d (by omega);exact ⟨g,t,q,fun r=>by cases r⟩
 rw [if_neg c2]
 by_cases c3:s.kind=3
 ·rw [if_pos c3];exact c _
 rw [if_neg c3]
 by_cases N:s.kind=4
 ·rw [if_pos N];unfold do4;have B:v.fam=3:=by rw [S,N];decide
  obtain ⟨e1,e2⟩:=v4 N;obtain ⟨m1,m2,m3,m4,m5,m6⟩:=H.k4 N;cases d:uX (uB st s.var (keyOf l s.key h)) (ofE st s.var) with
  |true=>exact c false
  |false=>
   rw [Bool.false_or];cases p:uB st s.var (keyOf l s.key h) with
   |some e=>
    obtain ⟨P,E,g3,g4,g5,g6,g7⟩:=G e p;rw [show ((some e).isNone&&decide (wA s (some e) (ofE st s.var)>s.m))=false from rfl];obtain ⟨g,q⟩:=put e.n tick g4 g5 y J (by omega) (fun _=>g7 B) (by omega) d (fun _ x C f u F=>by
     have X:ux x e≠0:=fun y=>u (by
      rw [vF] at y ⊢;exact ⟨y.1.trans E,y.2.trans g3⟩)
     obtain ⟨i,K,rfl⟩:=List.getElem_of_mem C;obtain ⟨j,hj,rfl⟩:=List.getElem_of_mem P;have Z:i≠j:=fun t=>X (by subst t;exact uv.refl _)
     have I:=List.pairwise_iff_getElem.1 z.tr;rcases Nat.lt_or_gt_of_ne Z with D|D
     ·exact I i j K hj D (f.trans E.symm) ⟨v,by rw [f];exact L,B⟩ F
     ·exact I j i hj K D (E.trans f.symm) ⟨v,by rw [E];exact L,B⟩ F.symm)
    exact ⟨g,xA O t g4,q,fun r=>by cases r⟩
   |none=>
    have vm:wA s none (ofE st s.var)=vz (ofE st s.var) (ofE st s.var).length s.n:=rfl
    by_cases U:wA s none (ofE st s.var)>s.m
    ·rw [show ((none:Option RE).isNone&&decide (wA s none (ofE st s.var)>s.m))=true by simp [U]];exact c false
    ·rw [show ((none:Option RE).isNone&&decide (wA s none (ofE st s.var)>s.m))=false by simp [U]];obtain ⟨q1,q2,q3⟩:=xL (ofE st s.var) (ofE st s.var).length s.n;have Q:=Ae (ofE st s.var) s.n;rw [<- vm] at q1 Q;generalize wA s none (ofE st s.var)=n at *
     rw [p] at put d;obtain ⟨g,q⟩:=put n tick (by omega) (by omega) y J (by omega) (by omega) (by omega) d (fun _ x C f u F=>by
      unfold uS at Q;rw [List.any_eq_false] at Q;exact Q x (List.mem_filter.2 ⟨C,by simpa using f⟩) (by simpa using F))
     exact ⟨g,xA O t (by omega),q,fun r=>by cases r⟩
 rw [if_neg N]
 by_cases c5:s.kind=5
 ·rw [if_pos c5];unfold do5;split
  ·rename_i e he;have U:=List.mem_of_find?_eq_some he;obtain ⟨V,hm2⟩:=List.mem_filter.1 U;have I:=(HQ (h:=h) (tick:=tick) O (s:=s) (st:=st) (vars:=vars))
   refine ⟨z,yL O t fun x C=>?_,rfl,fun r=>by cases r⟩;obtain ⟨w,M,T, -⟩:=(z.fit e V).ex;obtain ⟨q1,q2⟩:=BO.1 T;obtain ⟨i,K,rfl⟩:=List.getElem_of_mem C;exact (q2 i e.key[i] (w.ws[i]'(by rw [<- q1];exact K)) (ggZ K) (ggZ _)).1
  ·exact c false
 rw [if_neg c5];have c6:s.kind=6:=by omega
 unfold do6;have hf4:v.fam=4:=by rw [S,c6];decide
 obtain ⟨m1,m2,m3,m4⟩:=H.k6 c6;obtain ⟨t1,t2,t3,t4⟩:=Jj (key:=keyOf l s.key h) z H c6 y J;have hvn:=v5 c6;cases d:uX (uB st s.var (keyOf l s.key h)) (ofE st s.var) with
 |true=>exact c false
 |false=>
  generalize xI s (uB st s.var (keyOf l s.key h)) (keyOf l s.key h) tick=e at *
  by_cases I:e.n>0
  ·rw [if_pos I];obtain ⟨g,q⟩:=put (e.n - 1) e.at_ (by omega) (by omega) t3 t4 (by omega) (by omega) (by omega) d (by omega);exact ⟨g,t,q,fun r=>by cases r⟩
  ·rw [if_neg I];obtain ⟨g,q⟩:=put e.n e.at_ (by omega) (by omega) t3 t4 (by omega) (by omega) (by omega) d (by omega);exact ⟨g,t,q,fun _=>rfl⟩
end Go.ST
end
section
namespace Go.ST
open Go Go.DL Go.MM Go.Proofs
open Go.TY hiding Fd
theorem DCalls.Gn{P:Program}{f:FuncId}{ts:List T}{r:T}(h:DCalls P f ts r)(c:r.flat=true):rR P f ts r:=by
 refine ⟨h.1,fun w vs j g b=>(h.2 (dZ w) w vs (fun _ _ d=>d) j g b).mono ?_⟩;rintro e k ⟨v,rfl,a,i⟩;exact ⟨v,rfl,a,i.of_flat c⟩
theorem Ef(xs:List RE)(f:FuncId)(g d:T)(p:RE->Bool)(u:xs.length<2^60)(n: ∀(i:Nat) (h:i<xs.length),DCalls Tryz.prog f [.agg (uk xs[i]),g,d] (.bool (p xs[i]))):
  DCalls Tryz.prog 109 [esT xs,.clos f [g,d]] (I (wv p xs)):=by
 refine dl2 mixed [.tmp 4] [.int _ _] Tryz.func109 JO ?_
 skip
 refine tT (α:=Nat) (fun i=>{sl:=[(0,.t (esT xs)),(1,.t (.clos f [g,d])),(6,.t (esT xs)),(7,.t (I xs.length)),(8,.t (I i))],bx:=[]})
  (fun i=>i<=xs.length/\ ∀j (h:j<xs.length),j<i->p xs[j]=false) (fun i=>xs.length - i) 0 (by simp) ?_ ?_
 ·repeat' (first|(exact leI (by simp))|exact wJ|refine And.intro ?_ ?_)
 rintro i ⟨r,k⟩;rcases Nat.lt_or_ge i xs.length with h|h
 ·have c:=n i h;cases a:p xs[i] with
  |true=>
   rw [a] at c;rw [Bk h a k]
   repeat' ((conv=>whnf);first|exact trivial|(refine nv_ (.agg (uk xs[i])) (by first|exact uQ h) ?_)|refine uc _ (c) ?_|refine aD1 ?_|refine rix ?_|(refine And.intro (by first|exact uo _) ?_)|refine aS ?_|refine nT_ ?_)
  |false=>
   rw [a] at c
   repeat' ((conv=>whnf);first|(refine nv_ (.agg (uk xs[i])) (by first|exact uQ h) ?_)|refine uc _ (c) ?_|refine aD1 ?_|(refine And.intro (by first|exact uo _) ?_)|refine aS ?_|refine nT_ ?_)
   refine ⟨i+1,⟨h,fun j b q=>?_⟩,by omega,?_⟩
   ·rcases Nat.lt_or_ge j i with m|m
    ·exact k j b m
    ·obtain rfl:j=i:=by omega
     exact a
   ·repeat' (first|exact wJ|refine And.intro ?_ ?_)
 ·have:i=xs.length:=by omega
  subst this;rw [Bl fun j b=>k j b b]
  repeat' ((conv=>whnf);first|refine aD0 ?_|refine rix ?_|refine aS ?_|exact trivial)
structure H10 where
 x0:Int
 x1:Int
 x2:Int
 x3:Int
 x4:Int
 x5:Int
 x6:Int
 x7:Int
 x8:Int
 x9:Int
abbrev H10.ls(q:H10):List Int:=[q.x0,q.x1,q.x2,q.x3,q.x4,q.x5,q.x6,q.x7,q.x8,q.x9]
theorem Bf(l:List Fd)(k:ByteArray)(v:Int): ∀(a:List ByteArray) (b:List Int) (h:List Int),a.length=b.length->wT l (a++[k]) (b++[v]) h=wrF l (wT l a b h) k v
 |[],[],h,_=>rfl
 |x::a,y::b,h,e=>by
  show wT l (a++[k]) (b++[v]) (wrF l h x y)=_
  rw [Bf l k v a b _ (by simpa using e)];rfl
 |[],_::_,_,e=>by simp at e
 |_::_,[],_,e=>by simp at e
variable {l:List Fd}{s:RS}{st st' o:List RE}{x0 x1 x2 x3 x4 x5 x6 x7 x8 x9 y0 y1 y2 y3 y4 y5 y6 y7 y8 y9 tick:Int}{e:RE}{is:Bool}
theorem Jh(x:RE)(g:Int):DCalls Tryz.prog 110 [.agg (uk x),.cptr [.cptr (dL l s st x0 x1 x2 x3 x4 x5 x6 x7 x8 x9 tick e is) 0] 0,.cptr [I g] 0] (.bool (decide (x.var=s.var)&&decide (x.n=g))):=by
 refine dl2 mixed [.tmp 4] [.bool _] Tryz.func110 Go.ST4.MB ?_;have h:=eqS x.var s.var
 by_cases c:x.var=s.var
 ·rw [decide_eq_true c] at h ⊢
  by_cases a:x.n=g
  ·rw [decide_eq_true a]
   repeat' ((conv=>whnf);first|exact trivial|refine nb_ _ h ?_|refine sE a ?_|refine rb1 ?_|(refine And.intro (by first|exact uo _) ?_)|refine aS ?_|refine nT_ ?_)
  ·rw [decide_eq_false a]
   repeat' ((conv=>whnf);first|exact trivial|refine nb_ _ h ?_|refine sD a ?_|refine rb0 ?_|(refine And.intro (by first|exact uo _) ?_)|refine aS ?_|refine nT_ ?_)
 ·rw [decide_eq_false c] at h ⊢
  repeat' ((conv=>whnf);first|exact trivial|refine nb_ _ h ?_|refine rb0 ?_|(refine And.intro (by first|exact uo _) ?_)|refine aS ?_|refine nT_ ?_)
attribute [local irreducible] bR WCM YC
theorem JK(A:s.kind=5)(H:LOk l)(hlen:st.length<2^40)(W:s.key.length<2^40)(hh:HOk [x0,x1,x2,x3,x4,x5,x6,x7,x8,x9])(y:uA l s.field=true)
  (O: ∀x∈st,x.var=s.var->x.key.length=s.key.length/\ ∀v∈x.key,0<=v) (p:Option RE) (E:p=st.find? fun x=>decide (x.var=s.var)&&decide (x.n=(vk (fld l s.field) [x0,x1,x2,x3,x4,x5,x6,x7,x8,x9]:Int))):
  bR Tryz.prog 84 Go.ST3.xB (S0 l s st x0 x1 x2 x3 x4 x5 x6 x7 x8 x9 tick e is).mk' (fun ex s'=>ex= .normal/\((p=none/\bU (S1 l s x0 x1 x2 x3 x4 x5 x6 x7 x8 x9 tick is st x0 x1 x2 x3 x4 x5 x6 x7 x8 x9 e false) s')\/
   (∃ (x:RE) (q:H10),p=some x/\q.ls=wT l s.key x.key [x0,x1,x2,x3,x4,x5,x6,x7,x8,x9]/\bU (S1 l s x0 x1 x2 x3 x4 x5 x6 x7 x8 x9 tick is st q.x0 q.x1 q.x2 q.x3 q.x4 q.x5 q.x6 q.x7 q.x8 q.x9 e true) s'))):=by
 have qi:=Ef st 110 (.cptr [.cptr (dL l s st x0 x1 x2 x3 x4 x5 x6 x7 x8 x9 tick e is) 0] 0) (.cptr [I (vk (fld l s.field) [x0,x1,x2,x3,x4,x5,x6,x7,x8,x9])] 0) (fun x=>decide (x.var=s.var)&&decide (x.n=(vk (fld l s.field) [x0,x1,x2,x3,x4,x5,x6,x7,x8,x9]:Int))) (by omega) (fun i h=>Jh st[i] _);have Q:=CJ l H s.field;rw [y] at Q;have X:=t78 _ (yp H y) _ hh;obtain ⟨kk,g,key,a,n,m⟩:=s;dsimp only at A Q X qi O E W y;subst A;rcases AV (fun x=>decide (x.var=g)&&decide (x.n=(vk (fld l a) [x0,x1,x2,x3,x4,x5,x6,x7,x8,x9]:Int))) st with ⟨V,Z⟩|⟨k,A,V,N⟩
 ·rw [Z] at E;have G:=DCalls.Gn qi rfl;rw [V] at G;refine Go.ST3.AE ?_
  repeat' ((conv=>whnf);first|refine WC.toM (tW mixed Tryz.func56 Go.ST5.l56 rfl rfl (rs:=[.tmp 2]) rfl 3000 (nlZ rfl) ?_)|refine aS ?_|refine nT_ ?_)
  repeat' ((conv=>whnf);first|refine uc _ (Q) ?_|refine uc _ (X) ?_|refine tX rfl G ?_|refine aD1 ?_|refine aS ?_|refine nT_ ?_)
  refine ⟨_,rfl,?_⟩
  repeat' ((conv=>whnf);first|(exact ⟨rfl,Or.inl ⟨E,by (repeat' (first|exact wJ|refine And.intro ?_ ?_));done⟩⟩)|fail)
 ·rw [N] at E;have G:=DCalls.Gn qi rfl;rw [V] at G;have Y:st[k]∈st:=List.getElem_mem A;have hxv:st[k].var=g:=by
   have:=List.find?_some N
   rw [Bool.and_eq_true] at this;exact of_decide_eq_true this.1
  obtain ⟨S,aH⟩:=O st[k] Y hxv;have hgk:=uQ A;have P:=ggZ A;have hn:((st.map um).length:Int)=st.length:=by rw [List.length_map]
  have hm:((key.map T.str).length:Int)=key.length:=by rw [List.length_map]
  have yw: ¬(k:Int)<0:=by omega
  have hgx:((uk st[k])[1]?.getD .nil)= .slice 1 (st[k].key.map I):=rfl;have NO:(T.agg (uk st[k])).cells[1]?.getD .nil= .slice 1 (st[k].key.map I):=rfl;have hk2:(k:Int)<((st.map um).length:Int):=by omega
  generalize hxx:st[k]=x at *
  obtain ⟨xv,b,xn,xa⟩:=x;dsimp only at S aH;have hxl:((b.map I).length:Int)=key.length:=by rw [List.length_map];omega
  refine Go.ST3.AE ?_
  repeat' ((conv=>whnf);first|refine WC.toM (tW mixed Tryz.func56 Go.ST5.l56 rfl rfl (rs:=[.tmp 2]) rfl 3000 (nlZ rfl) ?_)|refine aS ?_|refine nT_ ?_)
  repeat' ((conv=>whnf);first|refine uc _ (Q) ?_|refine uc _ (X) ?_|refine tX rfl G ?_|refine aD0 ?_|refine aS ?_|refine nT_ ?_)
  refine tx 0 (α:=Nat×H10) (β:=H10) (fun q=>{sl:=[(1,.ptr 3001 0),(6,.t (I k)),(40,.t (.slice 1 (key.map .str))),(41,.t (I key.length)),(42,.t (I q.1))],bx:=[(8,.d 10 [I x0,I x1,I x2,I x3,I x4,I x5,I x6,I x7,I x8,I x9]),(10,.d 10 z10),(3001,.v [.ptr 37 0]),(37,.d 24 (dL l ⟨5,g,key,a,n,m⟩ st q.2.x0 q.2.x1 q.2.x2 q.2.x3 q.2.x4 q.2.x5 q.2.x6 q.2.x7 q.2.x8 q.2.x9 tick e is))],gh:=[(0,[(8,.ptr 8 0),(10,.ptr 10 0),(16,.ptr 37 0)])],off:=3000})
   (fun q=>q.1<=key.length/\q.2.ls=wT l (key.take q.1) (b.take q.1) [x0,x1,x2,x3,x4,x5,x6,x7,x8,x9]) (fun q=>key.length - q.1)
   (fun q=>{sl:=[],bx:=[(8,.d 10 [I x0,I x1,I x2,I x3,I x4,I x5,I x6,I x7,I x8,I x9]),(10,.d 10 z10),(37,.d 24 (dL l ⟨5,g,key,a,n,m⟩ st q.x0 q.x1 q.x2 q.x3 q.x4 q.x5 q.x6 q.x7 q.x8 q.x9 tick e is))],gh:=[(0,[(8,.ptr 8 0),(10,.ptr 10 0),(16,.ptr 37 0)])],off:=3000})
   (fun q=>q.ls=wT l key b [x0,x1,x2,x3,x4,x5,x6,x7,x8,x9]) (0,⟨x0,x1,x2,x3,x4,x5,x6,x7,x8,x9⟩) ⟨Nat.zero_le _,rfl⟩ ?_ ?_ ?_
  ·repeat' (first|(exact leI hm.symm)|exact wJ|refine And.intro ?_ ?_)
  ·rintro ⟨i,q⟩ ⟨hi,z⟩;dsimp only at hi z;rcases Nat.lt_or_ge i key.length with h|h
   ·have c:(i:Int)<(key.length:Int):=by omega
    have J:((i+1:Nat):Int)=IntKind.wrap .i64 ((i:Int)+1):=by rw [nW] <;> omega
    have u:i<b.length:=by omega
    have B:HOk q.ls:=by rw [z];exact yL H hh fun v hv=>aH v (List.mem_of_mem_take hv)
    have D:0<=b[i]:=aH _ (List.getElem_mem u);have hW:=F0 H key[i] B D;have w:wT l (key.take (i+1)) (b.take (i+1)) [x0,x1,x2,x3,x4,x5,x6,x7,x8,x9]=wrF l q.ls key[i] b[i]:=by
     rw [List.take_succ_eq_append_getElem h,List.take_succ_eq_append_getElem u,Bf _ _ _ _ _ _ (by rw [List.length_take,List.length_take];omega),z]
    have K:(key.map T.str)[((i:Int)).toNat]?.getD .nil= .str key[i]:=by simp [h]
    have L:(b.map I)[((i:Int)).toNat]?.getD .nil=I b[i]:=by simp [u]
    obtain ⟨y0,y1,y2,y3,y4,y5,y6,y7,y8,y9,hy⟩:=ten (xA H B (name:=key[i]) D);rw [hy] at hW w;obtain ⟨f,j,r,U⟩:=hW;have F:0<=(i:Int)/\(i:Int)<((b.map I).length:Int):=by omega
    have C:0<=(k:Int)/\(k:Int)<((st.map um).length:Int):=by omega
    generalize key[i]=nm at *
    generalize b[i]=vl at *
    obtain ⟨z0,z1,z2,z3,z4,z5,z6,z7,z8,z9⟩:=q;cases M:uA l nm with
    |true=>
     rw [M] at f;have j:=j M;have r:=r M
     repeat' ((conv=>whnf);first|refine sC c ?_|(refine nv_ (.str nm) (by first|exact K) ?_)|(refine nv_ (.slice 1 (b.map I)) (by first|(simp [P,um,uk,T.cells];done)|fail) ?_)|(refine nv_ (I vl) (by first|exact L) ?_)|refine tW mixed Tryz.func106 Go.ST4.zx rfl rfl (rs:=[]) rfl 3200 (nlZ rfl) ?_|(refine And.intro (by first|exact F|exact C|((simp [P,um,uk,T.cells]);done)|fail) ?_)|refine aS ?_|refine nT_ ?_)
     repeat' ((conv=>whnf);first|refine uc _ (f) ?_|refine uc _ (j) ?_|refine uc _ (r) ?_|refine aS ?_|refine nT_ ?_)
     refine ⟨_,rfl,?_⟩
     repeat' ((conv=>whnf);first|(exact ⟨(i+1,⟨y0,y1,y2,y3,y4,y5,y6,y7,y8,y9⟩),⟨h,w.symm⟩,(by dsimp only;omega),by (repeat' (first|(exact leI J)|exact wJ|refine And.intro ?_ ?_));done⟩)|fail)
    |false=>
     rw [M] at f;have U:=U M;cases U
     repeat' ((conv=>whnf);first|refine sC c ?_|(refine nv_ (.str nm) (by first|exact K) ?_)|(refine nv_ (.slice 1 (b.map I)) (by first|(simp [P,um,uk,T.cells];done)|fail) ?_)|(refine nv_ (I vl) (by first|exact L) ?_)|refine tW mixed Tryz.func106 Go.ST4.zx rfl rfl (rs:=[]) rfl 3200 (nlZ rfl) ?_|(refine And.intro (by first|exact F|exact C|((simp [P,um,uk,T.cells]);done)|fail) ?_)|refine aS ?_|refine nT_ ?_)
     repeat' ((conv=>whnf);first|refine uc _ (f) ?_|refine aS ?_|fail)
     refine ⟨_,rfl,?_⟩
     repeat' ((conv=>whnf);first|(exact ⟨(i+1,⟨_,_,_,_,_,_,_,_,_,_⟩),⟨h,w.symm⟩,(by dsimp only;omega),by (repeat' (first|(exact leI J)|exact wJ|refine And.intro ?_ ?_));done⟩)|fail)
   ·have c: ¬(i:Int)<(key.length:Int):=by omega
    have hq2:q.ls=wT l key b [x0,x1,x2,x3,x4,x5,x6,x7,x8,x9]:=by rw [z,List.take_of_length_le h,List.take_of_length_le (by omega)]
    repeat' ((conv=>whnf);first|refine su c ?_|(exact ⟨q,hq2,by (repeat' (first|exact wJ|refine And.intro ?_ ?_));done⟩)|refine aS ?_|fail)
  ·rintro q z
   skip
   refine ⟨_,rfl,?_⟩
   repeat' ((conv=>whnf);first|(exact ⟨rfl,Or.inr ⟨_,q,E,z,by (repeat' (first|exact wJ|refine And.intro ?_ ?_));done⟩⟩)|fail)
end Go.ST
end
section
namespace Go.ST
open Go Go.DL Go.MM Go.Proofs
open Go.TY hiding Fd
def esU(ns:List Int):List (T×T):=ns.map fun n=>(I n,T.bool true)
def zC(n:Int):List Int->List Int
 |[]=>[n]
 |x::xs=>if x=n then n::xs else x::zC n xs
theorem Ez(a b:Int):eqL (I a).cells (I b).cells=decide (a=b):=by
 show ((a==b)&&true)=_
 rw [Bool.and_true]
 by_cases h:a=b <;> simp [h]
theorem Gl(n:Int): ∀ns:List Int,bC (I n) (.bool true) (esU ns)=esU (zC n ns)
 |[]=>rfl
 |x::xs=>by
  have a:=Gl n xs;show cond (eqL (I n).cells (I x).cells) _ _=esU (zC n (x::xs))
  rw [Ez];unfold zC
  by_cases h:x=n
  ·rw [decide_eq_true h.symm,if_pos h];rfl
  ·rw [decide_eq_false (fun e=>h e.symm),if_neg h,cond_false];show (I x,T.bool true)::bC (I n) (.bool true) (esU xs)=_
   rw [a];rfl
theorem DU{n m:Int}: ∀{ns:List Int},m∈zC n ns↔m=n\/m∈ns
 |[]=>by simp [zC]
 |x::xs=>by
  unfold zC
  by_cases h:x=n
  ·rw [if_pos h];subst h;simp
  ·rw [if_neg h,List.mem_cons,DU (ns:=xs),List.mem_cons];constructor
   ·rintro (a|a|a) <;> simp [a]
   ·rintro (a|a|a) <;> simp [a]
theorem EI(n:Int): ∀ns:List Int,oB (.bool false) false (eA (I n).cells (esU ns))= .bool (decide (n∈ns))
 |[]=>by simp;rfl
 |x::xs=>by
  have a:=EI n xs;show oB (.bool false) false (cond (eqL (I n).cells (I x).cells) (some (T.bool true)) (eA (I n).cells (esU xs)))=_
  rw [Ez]
  by_cases h:n=x
  ·rw [decide_eq_true h,cond_true,decide_eq_true (by simp [h])];rfl
  ·rw [decide_eq_false h,cond_false,a]
   congr 1
   simp [h]
def xw(o:List RE):List Int:=o.foldl (fun ns e=>zC e.n ns) []
theorem C1{m:Int}: ∀{o:List RE} {ns:List Int},m∈o.foldl (fun ns e=>zC e.n ns) ns↔m∈ns\/uS o m=true
 |[],ns=>by simp [uS]
 |e::o,ns=>by
  rw [List.foldl_cons,C1 (o:=o),DU];unfold uS;rw [List.any_cons,Bool.or_eq_true,decide_eq_true_eq];constructor
  ·rintro ((h|h)|h)
   ·exact Or.inr (Or.inl h.symm)
   ·exact Or.inl h
   ·exact Or.inr (Or.inr h)
  ·rintro (h|h|h)
   ·exact Or.inl (Or.inr h)
   ·exact Or.inl (Or.inl h.symm)
   ·exact Or.inr h
theorem FC(o:List RE)(m:Int):decide (m∈xw o)=uS o m:=by
 have:=C1 (m:=m) (o:=o) (ns:=[])
 unfold xw;cases h:uS o m with
 |true=>exact decide_eq_true (this.2 (Or.inr h))
 |false=>
  refine decide_eq_false fun b=>?_
  rcases this.1 b with a|a
  ·cases a
  ·rw [h] at a;cases a
theorem FB(o:List RE){i:Nat}(h:i<o.length):xw (o.take (i+1))=zC o[i].n (xw (o.take i)):=by
 unfold xw;rw [List.take_succ_eq_append_getElem h,List.foldl_append];rfl
theorem Fx{ks:List Nat}{bx:Nat->Option BX}{c:Bool}{b:List Sh}{d a:List (T×T)}(h:d=a):LeB ks bx (.m c b d none) (some (.m c b a none)):=by rw [h];exact .same _
variable {l:List Fd}{s:RS}{st st' o:List RE}{x0 x1 x2 x3 x4 x5 x6 x7 x8 x9 y0 y1 y2 y3 y4 y5 y6 y7 y8 y9 tick:Int}{e:RE}{is:Bool}
attribute [local irreducible] bR WCM YC
theorem Ek(Z:s.kind=4)(hol:o.length<2^40)(hs:0<=s.n/\s.n<=65535)(u:DCalls Tryz.prog 22 [esT st,.str s.var] (esT o))(N:Int)(E:N=if is then e.n else vz o o.length s.n)
  (K:DCalls Tryz.prog 139 [esT st,um ⟨e.var,e.key,N,tick⟩] (esT st')) (g:Bool) (J:g=(!is&&decide (100<=o.length))) (p:Bool) (G:p=(!is&&decide (N>s.m)))
  (X:Wr l s.field [x0,x1,x2,x3,x4,x5,x6,x7,x8,x9] [y0,y1,y2,y3,y4,y5,y6,y7,y8,y9] N):
  bR Tryz.prog 84 Go.ST3.xB (S0 l s st x0 x1 x2 x3 x4 x5 x6 x7 x8 x9 tick e is).mk' (fun ex Y=>ex= .normal/\(((g||p)=true/\bU (S1 l s x0 x1 x2 x3 x4 x5 x6 x7 x8 x9 tick is st x0 x1 x2 x3 x4 x5 x6 x7 x8 x9 ⟨e.var,e.key,N,tick⟩ false) Y)\/((g||p)=false/\bU (S1 l s x0 x1 x2 x3 x4 x5 x6 x7 x8 x9 tick is st' y0 y1 y2 y3 y4 y5 y6 y7 y8 y9 ⟨e.var,e.key,N,tick⟩ true) Y))):=by
 obtain ⟨kk,f,key,a,n,m⟩:=s;dsimp only at Z u X hs E G;subst Z;have S:((o.map um).length:Int)=o.length:=by rw [List.length_map]
 obtain ⟨r,C,z,k⟩:=X;refine Go.ST3.AE ?_;cases is with
 |true=>
  obtain rfl:g=false:=by rw [J];rfl
  obtain rfl:p=false:=by rw [G];rfl
  obtain rfl:N=e.n:=E;cases b:uA l a with
  |true=>
   have C:=C b;have z:=z b;rw [b] at r
   repeat' ((conv=>whnf);first|refine WC.toM (tW mixed Tryz.func55 Go.ST4.l55 rfl rfl (rs:=[.tmp 2]) rfl 3000 (nlZ rfl) ?_)|refine aS ?_|refine nT_ ?_)
   repeat' ((conv=>whnf);first|refine tW mixed Tryz.func105 Go.ST4.vW rfl rfl (rs:=[.tmp 2]) rfl 3100 (nlZ rfl) ?_|refine aS ?_|refine nT_ ?_)
   repeat' ((conv=>whnf);first|refine uc _ (K) ?_|refine aS ?_|fail)
   refine ⟨_,rfl,?_⟩
   repeat' ((conv=>whnf);first|refine tW mixed Tryz.func106 Go.ST4.zx rfl rfl (rs:=[]) rfl 3200 (nlZ rfl) ?_|refine aS ?_|refine nT_ ?_)
   repeat' ((conv=>whnf);first|refine uc _ (r) ?_|refine uc _ (C) ?_|refine uc _ (z) ?_|refine aS ?_|refine nT_ ?_)
   refine ⟨_,rfl,?_⟩
   skip
   refine ⟨_,rfl,?_⟩
   repeat' ((conv=>whnf);first|(exact ⟨rfl,Or.inr ⟨rfl,by (repeat' (first|exact wJ|refine And.intro ?_ ?_));done⟩⟩)|fail)
  |false=>
   have k:=k b;cases k;rw [b] at r
   repeat' ((conv=>whnf);first|refine WC.toM (tW mixed Tryz.func55 Go.ST4.l55 rfl rfl (rs:=[.tmp 2]) rfl 3000 (nlZ rfl) ?_)|refine aS ?_|refine nT_ ?_)
   repeat' ((conv=>whnf);first|refine tW mixed Tryz.func105 Go.ST4.vW rfl rfl (rs:=[.tmp 2]) rfl 3100 (nlZ rfl) ?_|refine aS ?_|refine nT_ ?_)
   repeat' ((conv=>whnf);first|refine uc _ (K) ?_|refine aS ?_|fail)
   refine ⟨_,rfl,?_⟩
   repeat' ((conv=>whnf);first|refine tW mixed Tryz.func106 Go.ST4.zx rfl rfl (rs:=[]) rfl 3200 (nlZ rfl) ?_|refine aS ?_|refine nT_ ?_)
   repeat' ((conv=>whnf);first|refine uc _ (r) ?_|refine aS ?_|fail)
   refine ⟨_,rfl,?_⟩
   skip
   refine ⟨_,rfl,?_⟩
   repeat' ((conv=>whnf);first|(exact ⟨rfl,Or.inr ⟨rfl,by (repeat' (first|exact wJ|refine And.intro ?_ ?_));done⟩⟩)|fail)
 |false=>
  have E:N=vz o o.length n:=E;have qf:(uA l a=true/\DCalls Tryz.prog 107 [fds l,.str a] (.tup [fdc l a,.bool true])/\DCalls Tryz.prog 141 [fdc l a] (I ((2^(fld l a).w - 1:Nat):Int))/\DCalls Tryz.prog 140 [fdc l a,hd [x0,x1,x2,x3,x4,x5,x6,x7,x8,x9],I (EZ (fld l a).w N)] (hd [y0,y1,y2,y3,y4,y5,y6,y7,y8,y9]))\/
    (DCalls Tryz.prog 107 [fds l,.str a] (.tup [fdc l a,.bool false])/\[y0,y1,y2,y3,y4,y5,y6,y7,y8,y9]=[x0,x1,x2,x3,x4,x5,x6,x7,x8,x9]):=by
   cases b:uA l a with
   |true=>rw [b] at r;exact Or.inl ⟨rfl,r,C b,z b⟩
   |false=>rw [b] at r;exact Or.inr ⟨r,k b⟩
  have Kr:(N>m/\p=true)\/(¬ N>m/\p=false):=by
   by_cases c:N>m
   ·exact Or.inl ⟨c,by rw [G,decide_eq_true c];rfl⟩
   ·exact Or.inr ⟨c,by rw [G,decide_eq_false c];rfl⟩
  have JC:(((o.map um).length:Int)>=100/\g=true)\/(¬ ((o.map um).length:Int)>=100/\g=false):=by
   by_cases c:100<=o.length
   ·exact Or.inl ⟨by omega,by rw [J,decide_eq_true c];rfl⟩
   ·exact Or.inr ⟨by omega,by rw [J,decide_eq_false c];rfl⟩
  have W:=Ae o n;rw [<- E] at W;clear r C z k G J
  repeat' ((conv=>whnf);first|refine WC.toM (tW mixed Tryz.func55 Go.ST4.l55 rfl rfl (rs:=[.tmp 2]) rfl 3000 (nlZ rfl) ?_)|refine aS ?_|refine nT_ ?_)
  repeat' ((conv=>whnf);first|refine uc _ (u) ?_)
  refine tx 0 (α:=Nat) (β:=Unit) (fun i=>{sl:=[(0,.ptr 37 0),(3,.mp 3019),(29,.t (esT o)),(30,.t (I o.length)),(31,.t (I i))],bx:=[(8,.d 10 [I x0,I x1,I x2,I x3,I x4,I x5,I x6,I x7,I x8,I x9]),(10,.d 10 z10),(3019,.m false [.int .i64] (esU (xw (o.take i))) none),(37,.d 24 (dL l ⟨4,f,key,a,n,m⟩ st x0 x1 x2 x3 x4 x5 x6 x7 x8 x9 tick ⟨e.var,e.key,e.n,tick⟩ false))],gh:=[(0,[(8,.ptr 8 0),(10,.ptr 10 0),(16,.ptr 37 0)])],off:=3000})
   (fun i=>i<=o.length) (fun i=>o.length - i)
   (fun _=>{sl:=[(0,.ptr 37 0),(3,.mp 3019)],bx:=[(8,.d 10 [I x0,I x1,I x2,I x3,I x4,I x5,I x6,I x7,I x8,I x9]),(10,.d 10 z10),(3019,.m false [.int .i64] (esU (xw o)) none),(37,.d 24 (dL l ⟨4,f,key,a,n,m⟩ st x0 x1 x2 x3 x4 x5 x6 x7 x8 x9 tick ⟨e.var,e.key,e.n,tick⟩ false))],gh:=[(0,[(8,.ptr 8 0),(10,.ptr 10 0),(16,.ptr 37 0)])],off:=3000}) (fun _=>True) 0 (Nat.zero_le _) ?_ ?_ ?_
  ·repeat' (first|(exact leI S.symm)|(exact Fx rfl)|exact wJ|refine And.intro ?_ ?_)
  ·rintro i hi;rcases Nat.lt_or_ge i o.length with h|h
   ·have B:(i:Int)<(o.length:Int):=by omega
    have V:((i+1:Nat):Int)=IntKind.wrap .i64 ((i:Int)+1):=by rw [nW] <;> omega
    have hg:=uQ h;have T:esU (xw (o.take (i+1)))=bC (I o[i].n) (.bool true) (esU (xw (o.take i))):=by rw [Gl,FB o h]
    have U:0<=(i:Int)/\(i:Int)<((o.map um).length:Int):=by omega
    have P:(o.map um)[((i:Int)).toNat]?.getD .nil= .agg (uk o[i]):=by rw [Int.toNat_natCast];exact hg
    generalize o[i]=x at *
    have v:aR false [.int .i64] (I x.n):=⟨rfl,rfl,trivial⟩
    repeat' ((conv=>whnf);first|refine sC B ?_|(refine nv_ (.agg (uk x)) (by first|exact P) ?_)|(exact ⟨i+1,h,(by omega),by (repeat' (first|(exact leI V)|(exact Fx T)|exact wJ|refine And.intro ?_ ?_));done⟩)|(refine And.intro (by first|exact U|exact uo _|exact v) ?_)|refine aS ?_|refine nT_ ?_)
   ·have B: ¬(i:Int)<(o.length:Int):=by omega
    have e0:esU (xw o)=esU (xw (o.take i)):=by rw [List.take_of_length_le h]
    repeat' ((conv=>whnf);first|refine su B ?_|(exact ⟨(),trivial,by (repeat' (first|(exact Fx e0)|exact wJ|refine And.intro ?_ ?_));done⟩)|refine aS ?_|fail)
  ·rintro - -
   repeat' ((conv=>whnf);first|refine aS ?_|refine nT_ ?_)
   refine tx 2 (α:=Nat) (β:=Unit) (fun j=>{sl:=[(0,.ptr 37 0),(3,.mp 3019)],bx:=[(8,.d 10 [I x0,I x1,I x2,I x3,I x4,I x5,I x6,I x7,I x8,I x9]),(10,.d 10 z10),(3019,.m false [.int .i64] (esU (xw o)) none),(37,.d 24 (dL l ⟨4,f,key,a,n,m⟩ st x0 x1 x2 x3 x4 x5 x6 x7 x8 x9 tick ⟨e.var,e.key,n+(j:Int),tick⟩ false))],gh:=[(0,[(8,.ptr 8 0),(10,.ptr 10 0),(16,.ptr 37 0)])],off:=3000})
    (fun j=>j<=o.length/\vz o (o.length - j) (n+j)=N) (fun j=>o.length - j)
    (fun _=>{sl:=[(0,.ptr 37 0)],bx:=[(8,.d 10 [I x0,I x1,I x2,I x3,I x4,I x5,I x6,I x7,I x8,I x9]),(10,.d 10 z10),(37,.d 24 (dL l ⟨4,f,key,a,n,m⟩ st x0 x1 x2 x3 x4 x5 x6 x7 x8 x9 tick ⟨e.var,e.key,N,tick⟩ false))],gh:=[(0,[(8,.ptr 8 0),(10,.ptr 10 0),(16,.ptr 37 0)])],off:=3000}) (fun _=>True) 0 ⟨Nat.zero_le _,by rw [E];simp⟩ ?_ ?_ ?_
   ·have h0:(dL l ⟨4,f,key,a,n,m⟩ st x0 x1 x2 x3 x4 x5 x6 x7 x8 x9 tick ⟨e.var,e.key,n+((0:Nat):Int),tick⟩ false)=(dL l ⟨4,f,key,a,n,m⟩ st x0 x1 x2 x3 x4 x5 x6 x7 x8 x9 tick ⟨e.var,e.key,n,tick⟩ false):=by rw [show n+((0:Nat):Int)=n by omega]
    repeat' (first|(exact ui h0)|exact wJ|refine And.intro ?_ ?_)
   ·rintro j ⟨hj,y⟩;have H:oB (.bool false) false (eA (I (n+(j:Int))).cells (esU (xw o)))= .bool (uS o (n+j)):=by rw [EI,FC]
    have v:aR false [.int .i64] (I (n+(j:Int))):=⟨rfl,rfl,trivial⟩
    cases D:uS o (n+j) with
    |true=>
     rw [D] at H;have O:j<o.length:=by
      rcases Nat.lt_or_ge j o.length with h|h
      ·exact h
      ·rw [show o.length - j=0 by omega] at y
       have:n+(j:Int)=N:=y
       rw [this,W] at D;cases D
     have Dg:vz o (o.length - (j+1)) (n+((j+1:Nat):Int))=N:=by
      rw [<- y,show o.length - j=(o.length - (j+1))+1 by omega]
      conv=>rhs;unfold vz
      rw [if_pos D,show n+((j+1:Nat):Int)=n+j+1 by omega]
     have M:n+((j+1:Nat):Int)=IntKind.wrap .i64 (n+(j:Int)+1):=by rw [nW (by omega) (by omega)];omega
     have A:(dL l ⟨4,f,key,a,n,m⟩ st x0 x1 x2 x3 x4 x5 x6 x7 x8 x9 tick ⟨e.var,e.key,n+((j+1:Nat):Int),tick⟩ false)=(dL l ⟨4,f,key,a,n,m⟩ st x0 x1 x2 x3 x4 x5 x6 x7 x8 x9 tick ⟨e.var,e.key,IntKind.wrap .i64 (n+(j:Int)+1),tick⟩ false):=by rw [M]
     repeat' ((conv=>whnf);first|(refine nv_ (.bool true) (by first|exact H) ?_)|(exact ⟨j+1,⟨O,Dg⟩,(by omega),by (repeat' (first|(exact ui A)|exact wJ|refine And.intro ?_ ?_));done⟩)|(refine And.intro (by first|exact v) ?_)|refine aS ?_|refine nT_ ?_)
    |false=>
     rw [D] at H;have Q:N=n+(j:Int):=by
      rw [<- y];cases hq:o.length - j with
      |zero=>rfl
      |succ q=>unfold vz;rw [if_neg (by rw [D];simp)]
     have A:(dL l ⟨4,f,key,a,n,m⟩ st x0 x1 x2 x3 x4 x5 x6 x7 x8 x9 tick ⟨e.var,e.key,N,tick⟩ false)=(dL l ⟨4,f,key,a,n,m⟩ st x0 x1 x2 x3 x4 x5 x6 x7 x8 x9 tick ⟨e.var,e.key,n+(j:Int),tick⟩ false):=by rw [Q]
     repeat' ((conv=>whnf);first|(refine nv_ (.bool false) (by first|exact H) ?_)|(exact ⟨(),trivial,by (repeat' (first|(exact ui A)|exact wJ|refine And.intro ?_ ?_));done⟩)|(refine And.intro (by first|exact v) ?_)|refine aS ?_|refine nT_ ?_)
   ·rintro - -;rcases Kr with ⟨F,rfl⟩|⟨F,rfl⟩
    ·repeat' ((conv=>whnf);first|refine sC F ?_|refine aS ?_|refine nT_ ?_)
     refine ⟨_,rfl,?_⟩
     repeat' ((conv=>whnf);first|(exact ⟨rfl,Or.inl ⟨Bool.or_true _,by (repeat' (first|exact wJ|refine And.intro ?_ ?_));done⟩⟩)|fail)
    ·rcases JC with ⟨L,rfl⟩|⟨L,rfl⟩
     ·repeat' ((conv=>whnf);first|refine su F ?_|refine tW mixed Tryz.func105 Go.ST4.vW rfl rfl (rs:=[.tmp 2]) rfl 3100 (nlZ rfl) ?_|refine aS ?_|refine nT_ ?_)
      repeat' ((conv=>whnf);first|refine uc _ (u) ?_|refine sC L ?_|refine aS ?_|fail)
      refine ⟨_,rfl,?_⟩
      skip
      refine ⟨_,rfl,?_⟩
      repeat' ((conv=>whnf);first|(exact ⟨rfl,Or.inl ⟨rfl,by (repeat' (first|exact wJ|refine And.intro ?_ ?_));done⟩⟩)|fail)
     ·rcases qf with ⟨-,r,C,z⟩|⟨r,k⟩
      ·repeat' ((conv=>whnf);first|refine su F ?_|refine tW mixed Tryz.func105 Go.ST4.vW rfl rfl (rs:=[.tmp 2]) rfl 3100 (nlZ rfl) ?_|refine aS ?_|refine nT_ ?_)
       repeat' ((conv=>whnf);first|refine uc _ (u) ?_|refine su L ?_|refine uc _ (K) ?_|refine aS ?_|refine nT_ ?_)
       refine ⟨_,rfl,?_⟩
       repeat' ((conv=>whnf);first|refine tW mixed Tryz.func106 Go.ST4.zx rfl rfl (rs:=[]) rfl 3200 (nlZ rfl) ?_|refine aS ?_|refine nT_ ?_)
       repeat' ((conv=>whnf);first|refine uc _ (r) ?_|refine uc _ (C) ?_|refine uc _ (z) ?_|refine aS ?_|refine nT_ ?_)
       refine ⟨_,rfl,?_⟩
       skip
       refine ⟨_,rfl,?_⟩
       repeat' ((conv=>whnf);first|(exact ⟨rfl,Or.inr ⟨rfl,by (repeat' (first|exact wJ|refine And.intro ?_ ?_));done⟩⟩)|fail)
      ·cases k
       repeat' ((conv=>whnf);first|refine su F ?_|refine tW mixed Tryz.func105 Go.ST4.vW rfl rfl (rs:=[.tmp 2]) rfl 3100 (nlZ rfl) ?_|refine aS ?_|refine nT_ ?_)
       repeat' ((conv=>whnf);first|refine uc _ (u) ?_|refine su L ?_|refine uc _ (K) ?_|refine aS ?_|refine nT_ ?_)
       refine ⟨_,rfl,?_⟩
       repeat' ((conv=>whnf);first|refine tW mixed Tryz.func106 Go.ST4.zx rfl rfl (rs:=[]) rfl 3200 (nlZ rfl) ?_|refine aS ?_|refine nT_ ?_)
       repeat' ((conv=>whnf);first|refine uc _ (r) ?_|refine aS ?_|fail)
       refine ⟨_,rfl,?_⟩
       skip
       refine ⟨_,rfl,?_⟩
       repeat' ((conv=>whnf);first|(exact ⟨rfl,Or.inr ⟨rfl,by (repeat' (first|exact wJ|refine And.intro ?_ ?_));done⟩⟩)|fail)
end Go.ST
end
section
namespace Go.ST
open Go Go.DL Go.MM Go.Proofs
open Go.TY hiding Fd
variable {l:List Fd}{s:RS}{st st':List RE}{x0 x1 x2 x3 x4 x5 x6 x7 x8 x9 y0 y1 y2 y3 y4 y5 y6 y7 y8 y9 tick:Int}{e e':RE}{is pass:Bool}
attribute [local irreducible] bR WCM YC
theorem Jw{a:St}(c:bU (S1 l s x0 x1 x2 x3 x4 x5 x6 x7 x8 x9 tick is st' y0 y1 y2 y3 y4 y5 y6 y7 y8 y9 e' pass) a)(r:List T)
  (b:r=[hd (if pass then [y0,y1,y2,y3,y4,y5,y6,y7,y8,y9] else [x0,x1,x2,x3,x4,x5,x6,x7,x8,x9]),.bool pass,esT st']):
  bR Tryz.prog 84 Go.ST3.Cl a (fun e s=>match e with
   |.normal=>bR Tryz.prog 84 Go.ST3.Cm s (sR Tryz.prog [.cell 10 27,.tmp 11,.tmp 12] r)
   |.exit id=>sR Tryz.prog [.cell 10 27,.tmp 11,.tmp 12] r (.exit id) s
   |.ret=>sR Tryz.prog [.cell 10 27,.tmp 11,.tmp 12] r .ret s):=by
 subst b;refine bR.bU c (Go.ST3.KH ?_);cases pass with
 |false=>
  repeat' ((conv=>whnf);first|refine aS ?_|refine nT_ ?_)
  refine ⟨?_,fun _ _=>trivial⟩
  repeat' ((conv=>whnf);first|refine rb0 ?_|refine aS ?_|exact trivial)
 |true=>
  skip
  refine Go.ST3.KI ?_
  repeat' ((conv=>whnf);first|refine aS ?_|refine nT_ ?_)
  refine ⟨?_,fun _ _=>trivial⟩
  repeat' ((conv=>whnf);first|refine rb1 ?_|refine aS ?_|exact trivial)
theorem KX(c:LOk l){h:List Int}(v:HOk h)(F: ∀k∈s.key,uA l k=true)(B:s.key.length<=1000)(C:uH st)(a:st.length<2^40)(b: ∀x∈st,kOk x)(p:s.kind≠0)
  (f:Option RE) (A:f=uB st s.var (keyOf l s.key h)) (r:List T)
  (y: ∀(x0 x1 x2 x3 x4 x5 x6 x7 x8 x9:Int),h=[x0,x1,x2,x3,x4,x5,x6,x7,x8,x9]-> ∃(st':List RE) (y0 y1 y2 y3 y4 y5 y6 y7 y8 y9:Int) (e':RE) (pass:Bool),
   bR Tryz.prog 84 Go.ST3.xB (S0 l s st x0 x1 x2 x3 x4 x5 x6 x7 x8 x9 tick (f.getD ⟨s.var,keyOf l s.key h,0,0⟩) f.isSome).mk' (fun t w=>t= .normal/\bU (S1 l s x0 x1 x2 x3 x4 x5 x6 x7 x8 x9 tick f.isSome st' y0 y1 y2 y3 y4 y5 y6 y7 y8 y9 e' pass) w)/\
   r=[hd (if pass then [y0,y1,y2,y3,y4,y5,y6,y7,y8,y9] else [x0,x1,x2,x3,x4,x5,x6,x7,x8,x9]),.bool pass,esT st']):
  DCalls Tryz.prog 11 [fds l,vu s,esT st,hd h,I tick] (lg r):=by
 refine sV Tryz.func11 Go.ST3.Jy rfl (r:=r) (nlZ rfl) ?_;rw [show Tryz.f11.ntmps=84 from rfl,show Tryz.f11.results.toList=[.cell 10 27,.tmp 11,.tmp 12] from rfl,Go.ST3.k11];have H:=FY l c s.key F (by omega) h v;have G:(keyOf l s.key h).length<2^60:=by unfold keyOf;rw [List.length_map];omega
 have d:=J4 st C a b s.var (keyOf l s.key h) G;rw [<- A] at d;obtain ⟨x0,x1,x2,x3,x4,x5,x6,x7,x8,x9,rfl⟩:=ten v;obtain ⟨st',y0,y1,y2,y3,y4,y5,y6,y7,y8,y9,e',pass,q,z⟩:=y x0 x1 x2 x3 x4 x5 x6 x7 x8 x9 rfl;have u: ∀i:St,bU (S0 l s st x0 x1 x2 x3 x4 x5 x6 x7 x8 x9 tick (f.getD ⟨s.var,keyOf l s.key [x0,x1,x2,x3,x4,x5,x6,x7,x8,x9],0,0⟩) f.isSome) i->bR Tryz.prog 84 (.seq (.seq Go.ST3.xB Go.ST3.Cl) Go.ST3.Cm) i (sR Tryz.prog [.cell 10 27,.tmp 11,.tmp 12] r):=by
  intro i E;refine bR.bU E (bR.seq (bR.seq (bR.mono q ?_)));rintro t w ⟨rfl,g⟩;exact Jw g r z
 clear q y;generalize keyOf l s.key [x0,x1,x2,x3,x4,x5,x6,x7,x8,x9]=ky at *
 obtain ⟨J,D,key,j,n,m⟩:=s;dsimp only at *
 refine bR.seq (Go.ST3.HX ?_)
 repeat' ((conv=>whnf);first|refine aS ?_|fail)
 refine bR.seq (Go.ST3.HY ?_)
 repeat' ((conv=>whnf);first|refine sD p ?_|refine aS ?_|refine nT_ ?_)
 refine bR.seq (Go.ST3.KD ?_)
 repeat' ((conv=>whnf);first|refine aS ?_|fail)
 refine bR.seq (Go.ST3.KE ?_)
 repeat' ((conv=>whnf);first|refine uc _ (H) ?_|refine aS ?_|refine nT_ ?_)
 refine bR.seq (Go.ST3.KF ?_)
 repeat' ((conv=>whnf);first|refine aS ?_|fail)
 refine bR.seq (Go.ST3.KG ?_);cases f with
 |none=>
  repeat' ((conv=>whnf);first|refine uc _ (d) ?_|refine aS ?_|refine nT_ ?_)
  refine u _ ?_
  repeat' (first|exact wJ|refine And.intro ?_ ?_)
 |some x=>
  repeat' ((conv=>whnf);first|refine uc _ (d) ?_|refine aS ?_|refine nT_ ?_)
  refine u _ ?_
  repeat' (first|exact wJ|refine And.intro ?_ ?_)
end Go.ST
end
section
namespace Go.ST
open Go Go.DL Go.MM Go.Proofs
open Go.TY hiding Fd
attribute [local irreducible] bR WCM YC
abbrev dnT(d:Dn):T:=.tup [hd d.h,.bool d.pass,esT d.st]
theorem xO{α:Type}(f:Option α):f.isNone= !f.isSome:=by cases f <;> rfl
theorem Ib{l:List Fd}{s:RS}{st:List RE}{h:List Int}{tick:Int}(f:HOk h)(a:s.kind=0):DCalls Tryz.prog 11 [fds l,vu s,esT st,hd h,I tick] (dnT (doE l s st h tick)):=by
 have c:doE l s st h tick=⟨h,true,st⟩:=by unfold doE we doR;rw [if_pos a];rfl
 rw [c];refine sV Tryz.func11 Go.ST3.Jy rfl (r:=[hd h,.bool true,esT st]) (nlZ rfl) ?_;rw [show Tryz.f11.ntmps=84 from rfl,show Tryz.f11.results.toList=[.cell 10 27,.tmp 11,.tmp 12] from rfl,Go.ST3.k11];obtain ⟨x0,x1,x2,x3,x4,x5,x6,x7,x8,x9,rfl⟩:=ten f;obtain ⟨g,d,key,b,n,m⟩:=s;dsimp only at a;refine bR.seq (Go.ST3.HX ?_)
 repeat' ((conv=>whnf);first|refine aS ?_|fail)
 refine bR.seq (Go.ST3.HY ?_)
 repeat' ((conv=>whnf);first|refine sE a ?_|refine aS ?_|refine nT_ ?_)
 refine ⟨?_,fun _ _=>trivial⟩
 repeat' ((conv=>whnf);first|refine rb1 ?_|refine aS ?_|exact trivial)
theorem Jk(s:RS)(v:ByteArray)(d:List Int){tick b a:Int}(_:1<=s.n/\s.n<=65535)(w:1<=s.m/\s.m<=1073741824)(z:0<=tick/\tick<=1073741824)(t:0<=b/\b<=65535)(A:0<=a/\a<=1073741824):
  HN s.n s.m tick b a=((wh s ⟨v,d,b,a⟩ tick).n,(wh s ⟨v,d,b,a⟩ tick).at_):=by
 obtain ⟨m,i⟩: ∃m,m=s.m:=⟨_,rfl⟩
 have q:W64 (tick - a)=tick - a:=nW (by omega) (by omega);have g:vG tick a s.m=if tick>a then (tick - a).tdiv s.m else 0:=by
  unfold vG;rw [q]
  by_cases c:tick>a
  ·rw [if_pos (show tick - a>0 by omega),if_pos c];have f:0<=(tick - a).tdiv s.m:=Int.tdiv_nonneg (by omega) (by omega);have p:(tick - a).tdiv s.m<=tick - a:=Int.tdiv_le_self _ (by omega);exact nW (by omega) (by omega)
  ·rw [if_neg (show ¬tick - a>0 by omega),if_neg c,Int.zero_tdiv];exact nW (by omega) (by omega)
 have x:0<=vG tick a s.m/\vG tick a s.m<=1073741824/\vG tick a s.m * s.m<=1073741824/\0<=vG tick a s.m * s.m:=by
  rw [g];split
  ·have f:0<=(tick - a).tdiv s.m:=Int.tdiv_nonneg (by omega) (by omega);have p:(tick - a).tdiv s.m<=tick - a:=Int.tdiv_le_self _ (by omega);have y:(tick - a).tdiv s.m * s.m<=tick - a:=by
    rw [Int.tdiv_eq_ediv_of_nonneg (by omega)];exact Int.ediv_mul_le _ (by omega)
   have u:0<=(tick - a).tdiv s.m * s.m:=Int.mul_nonneg f (by omega);omega
  ·simp
 unfold HN;generalize vG tick a s.m=k at *
 have j:W64 (b+k)=b+k:=nW (by omega) (by omega);have h:W64 (k * s.m)=k * s.m:=nW (by omega) (by omega);have r:W64 (a+k * s.m)=a+k * s.m:=nW (by omega) (by omega);unfold wh;dsimp only;rw [j,h,r, <-g];split <;> rfl
theorem J3{l:List Fd}{s:RS}{st:List RE}{h:List Int}{tick:Int}(p:B1 l s st h tick)(M: ∀x∈st,kOk x):DCalls Tryz.prog 11 [fds l,vu s,esT st,hd h,I tick] (dnT (doE l s st h tick)):=by
 by_cases u:s.kind=0
 ·exact Ib p.hok u
 obtain ⟨f,X⟩: ∃f,f=uB st s.var (keyOf l s.key h):=⟨_,rfl⟩
 obtain ⟨o,N⟩: ∃o,o=ofE st s.var:=⟨_,rfl⟩
 obtain ⟨e,H⟩: ∃e,e=f.getD ⟨s.var,keyOf l s.key h,0,0⟩:=⟨_,rfl⟩
 have O:=p.len;have hol:o.length<=1000000:=by rw [N];exact Nat.le_trans (List.length_filter_le _ _) O
 have Ha:(keyOf l s.key h).length<=1000:=by unfold keyOf;rw [List.length_map];exact p.klen
 have y:=J6 st s.var (by omega);rw [show ofE st s.var=o from N.symm] at y;have hev:e.var=s.var/\e.key=keyOf l s.key h/\0<=e.n/\e.n<=65535/\0<=e.at_/\e.at_<=1073741824:=by
  cases f with
  |none=>rw [H];exact ⟨rfl,rfl,Int.le_refl 0,(by show (0:Int)<=65535;omega),Int.le_refl 0,(by show (0:Int)<=1073741824;omega)⟩
  |some x=>
   rw [H];obtain ⟨t,d,B⟩:=vP X.symm;exact ⟨d,B,p.num x t⟩
 obtain ⟨he1,he2,he3,he4,he5,he6⟩:=hev;have fc: ∀n a,DCalls Tryz.prog 139 [esT st,um ⟨e.var,e.key,n,a⟩] (esT (uK ⟨s.var,keyOf l s.key h,n,a⟩ st)):=fun n a=>by
  rw [he1,he2];exact K1 st p.inc (by omega) M ⟨s.var,keyOf l s.key h,n,a⟩ (show (keyOf l s.key h).length<2^60 by omega)
 have w:doE l s st h tick=⟨(doR l s f o h tick).1,(doR l s f o h tick).2.1,cN (doR l s f o h tick).2.2 st⟩:=by unfold doE we;rw [<- X, <-N]
 have V:(f.map (·.n)).getD 0=e.n:=by rw [H];cases f <;> rfl
 have Y:uX f o=(!f.isSome&&decide (100<=o.length)):=by unfold uX;rw [xO]
 have ht0:=p.t0;have ht1:=p.t1;refine KX p.lok p.hok p.keys p.klen p.inc (by omega) M u f X [hd (doE l s st h tick).h,.bool (doE l s st h tick).pass,esT (doE l s st h tick).st] ?_;intro x0 x1 x2 x3 x4 x5 x6 x7 x8 x9 v;rw [<- H];have hk:=p.k0;have hk':=p.k1;have Fm:s.kind=1\/s.kind=2\/s.kind=3\/s.kind=4\/s.kind=5\/s.kind=6:=by omega
 rcases Fm with t|d|B|Q|h5|h6
 ·have Z:(if (65535:Int)<IntKind.wrap .i64 (e.n+1) then 65535 else IntKind.wrap .i64 (e.n+1))=min (e.n+1) 65535:=by rw [nW (by omega) (by omega)];split <;> omega
  obtain ⟨y0,y1,y2,y3,y4,y5,y6,y7,y8,y9,D⟩:=ten (xA p.lok p.hok (name:=s.field) (n:=min (e.n+1) 65535) (by omega));have E:=F0 p.lok s.field p.hok (n:=min (e.n+1) 65535) (by omega);rw [D,v] at E;have i:=IE (x0:=x0) (x1:=x1) (x2:=x2) (x3:=x3) (x4:=x4) (x5:=x5) (x6:=x6) (x7:=x7) (x8:=x8) (x9:=x9) (tick:=tick) (is:=f.isSome) t y _ Z (fc _ tick) (uX f o) Y E;have g:doR l s f o h tick=do1 l s f o h tick (keyOf l s.key h):=by unfold doR;rw [if_neg u,if_pos t]
  cases b:uX f o with
  |true=>
   have j:doE l s st h tick=⟨h,false,st⟩:=by rw [w,g];unfold do1;rw [b];rfl
   rw [j];rw [b] at i;refine ⟨st,x0,x1,x2,x3,x4,x5,x6,x7,x8,x9,⟨e.var,e.key,min (e.n+1) 65535,tick⟩,false,i.mono ?_,?_⟩
   ·rintro T P ⟨t,d⟩;rcases d with ⟨-,d⟩|⟨d, -⟩
    ·exact ⟨t,d⟩
    ·cases d
   ·rw [v];rfl
  |false=>
   have j:doE l s st h tick=⟨wrF l h s.field (min (e.n+1) 65535),true,uK ⟨s.var,keyOf l s.key h,min (e.n+1) 65535,tick⟩ st⟩:=by rw [w,g];unfold do1;rw [b,V];rfl
   rw [j];rw [b] at i;refine ⟨uK ⟨s.var,keyOf l s.key h,min (e.n+1) 65535,tick⟩ st,y0,y1,y2,y3,y4,y5,y6,y7,y8,y9,⟨e.var,e.key,min (e.n+1) 65535,tick⟩,true,i.mono ?_,?_⟩
   ·rintro T P ⟨t,d⟩;rcases d with ⟨d, -⟩|⟨-,d⟩
    ·cases d
    ·exact ⟨t,d⟩
   ·dsimp only;rw [D];rfl
 ·have g:doR l s f o h tick=do2 s f o h tick (keyOf l s.key h):=by unfold doR;rw [if_neg u,if_neg (by omega),if_pos d]
  have i:=JL (x0:=x0) (x1:=x1) (x2:=x2) (x3:=x3) (x4:=x4) (x5:=x5) (x6:=x6) (x7:=x7) (x8:=x8) (x9:=x9) (l:=l) (tick:=tick) (is:=f.isSome) d y (fc e.n tick) (uX f o) Y;cases b:uX f o with
  |true=>
   have j:doE l s st h tick=⟨h,false,st⟩:=by rw [w,g];unfold do2;rw [b];rfl
   rw [j];rw [b] at i;exact ⟨st,x0,x1,x2,x3,x4,x5,x6,x7,x8,x9,⟨e.var,e.key,e.n,tick⟩,false,i,by rw [v];rfl⟩
  |false=>
   have j:doE l s st h tick=⟨h,true,uK ⟨s.var,keyOf l s.key h,e.n,tick⟩ st⟩:=by rw [w,g];unfold do2;rw [b,V];rfl
   rw [j];rw [b] at i;exact ⟨uK ⟨s.var,keyOf l s.key h,e.n,tick⟩ st,x0,x1,x2,x3,x4,x5,x6,x7,x8,x9,⟨e.var,e.key,e.n,tick⟩,true,i,by rw [v];rfl⟩
 ·have g:doR l s f o h tick=do3 s f h tick:=by unfold doR;rw [if_neg u,if_neg (by omega),if_neg (by omega),if_pos B]
  obtain ⟨K,F⟩:=p.k3 B;have i:=ID (x0:=x0) (x1:=x1) (x2:=x2) (x3:=x3) (x4:=x4) (x5:=x5) (x6:=x6) (x7:=x7) (x8:=x8) (x9:=x9) (l:=l) (st:=st) (tick:=tick) (e:=e) (is:=f.isSome) B _ rfl ⟨by omega,by omega⟩ ⟨by omega,by omega⟩;have j:doE l s st h tick=⟨h,f.isSome&&decide (e.at_>=tick - s.n),st⟩:=by
   rw [w,g];unfold do3;cases f with
   |none=>rfl
   |some x=>
    have:e=x:=H
    subst this;rfl
  rw [j];refine ⟨st,x0,x1,x2,x3,x4,x5,x6,x7,x8,x9,e,_,i,?_⟩;rw [v];dsimp only;rw [ite_self]
 ·have g:doR l s f o h tick=do4 l s f o h tick (keyOf l s.key h):=by unfold doR;rw [if_neg u,if_neg (by omega),if_neg (by omega),if_neg (by omega),if_pos Q]
  obtain ⟨K,F,b3,b4⟩:=p.k4 Q;have Z:wA s f o=if f.isSome then e.n else vz o o.length s.n:=by
   rw [H];cases f <;> rfl
  have S:0<=wA s f o:=by
   rw [Z];split
   ·exact he3
   ·have:=(xL o o.length s.n).1;omega
  obtain ⟨y0,y1,y2,y3,y4,y5,y6,y7,y8,y9,D⟩:=ten (xA p.lok p.hok (name:=s.field) S);have E:=F0 p.lok s.field p.hok S;rw [D,v] at E;have i:=Ek (x0:=x0) (x1:=x1) (x2:=x2) (x3:=x3) (x4:=x4) (x5:=x5) (x6:=x6) (x7:=x7) (x8:=x8) (x9:=x9) (l:=l) (tick:=tick) (is:=f.isSome) Q (by omega) ⟨K,F⟩ y _ Z (fc _ tick) (uX f o) Y (f.isNone&&decide (wA s f o>s.m)) (by rw [xO]) E;cases b:(uX f o||(f.isNone&&decide (wA s f o>s.m))) with
  |true=>
   have j:doE l s st h tick=⟨h,false,st⟩:=by rw [w,g];unfold do4;rw [b];rfl
   rw [j];rw [b] at i;refine ⟨st,x0,x1,x2,x3,x4,x5,x6,x7,x8,x9,⟨e.var,e.key,wA s f o,tick⟩,false,i.mono ?_,?_⟩
   ·rintro T P ⟨t,d⟩;rcases d with ⟨-,d⟩|⟨d, -⟩
    ·exact ⟨t,d⟩
    ·cases d
   ·rw [v];rfl
  |false=>
   have j:doE l s st h tick=⟨wrF l h s.field (wA s f o),true,uK ⟨s.var,keyOf l s.key h,wA s f o,tick⟩ st⟩:=by rw [w,g];unfold do4;rw [b];rfl
   rw [j];rw [b] at i;refine ⟨uK ⟨s.var,keyOf l s.key h,wA s f o,tick⟩ st,y0,y1,y2,y3,y4,y5,y6,y7,y8,y9,⟨e.var,e.key,wA s f o,tick⟩,true,i.mono ?_,?_⟩
   ·rintro T P ⟨t,d⟩;rcases d with ⟨d, -⟩|⟨-,d⟩
    ·cases d
    ·exact ⟨t,d⟩
   ·dsimp only;rw [D];rfl
 ·have g:doR l s f o h tick=do5 l s o h:=by unfold doR;rw [if_neg u,if_neg (by omega),if_neg (by omega),if_neg (by omega),if_neg (by omega),if_pos h5]
  obtain ⟨K,F⟩:=p.k5 h5;have W:=p.hok;rw [v] at W;have hfd:(o.find? fun x=>decide (x.n=(vk (fld l s.field) h:Int)))=st.find? fun x=>decide (x.var=s.var)&&decide (x.n=(vk (fld l s.field) [x0,x1,x2,x3,x4,x5,x6,x7,x8,x9]:Int)):=by
   rw [N,v];unfold ofE;rw [List.find?_filter]
   congr 1
   funext a
   simp
  have i:=JK (x0:=x0) (x1:=x1) (x2:=x2) (x3:=x3) (x4:=x4) (x5:=x5) (x6:=x6) (x7:=x7) (x8:=x8) (x9:=x9) (l:=l) (tick:=tick) (e:=e) (is:=f.isSome) h5 p.lok (by omega) (by have:=p.klen;omega) W K (fun x v hv=>F x v hv) _ hfd;cases b:(o.find? fun x=>decide (x.n=(vk (fld l s.field) h:Int))) with
  |none=>
   have j:doE l s st h tick=⟨h,false,st⟩:=by rw [w,g];unfold do5;rw [b];rfl
   rw [j];rw [b] at i;refine ⟨st,x0,x1,x2,x3,x4,x5,x6,x7,x8,x9,e,false,i.mono ?_,?_⟩
   ·rintro T P ⟨t,d⟩;rcases d with ⟨-,d⟩|⟨x,q,d, -⟩
    ·exact ⟨t,d⟩
    ·cases d
   ·rw [v];rfl
  |some x=>
   have j:doE l s st h tick=⟨wT l s.key x.key h,true,st⟩:=by rw [w,g];unfold do5;rw [b];rfl
   rw [j];rw [b] at i;have U:x∈st/\x.var=s.var:=by
    have t:=List.mem_of_find?_eq_some b;rw [N] at t;have d:=List.mem_filter.1 t;exact ⟨d.1,of_decide_eq_true d.2⟩
   obtain ⟨y0,y1,y2,y3,y4,y5,y6,y7,y8,y9,D⟩:=ten (yL p.lok (ks:=s.key) p.hok (F x U.1 U.2).2);refine ⟨st,y0,y1,y2,y3,y4,y5,y6,y7,y8,y9,e,true,i.mono ?_,?_⟩
   ·rintro T P ⟨t,d⟩;rcases d with ⟨d, -⟩|⟨x',q,d,B,Q⟩
    ·cases d
    ·cases d;rw [<- v,D] at B;obtain ⟨z0,z1,z2,z3,z4,z5,z6,z7,z8,z9⟩:=q;simp only [H10.ls,List.cons.injEq,and_true] at B;obtain ⟨rfl,rfl,rfl,rfl,rfl,rfl,rfl,rfl,rfl,rfl⟩:=B;exact ⟨t,Q⟩
   ·dsimp only;rw [D];rfl
 ·have g:doR l s f o h tick=do6 s f o h tick (keyOf l s.key h):=by unfold doR;rw [if_neg u,if_neg (by omega),if_neg (by omega),if_neg (by omega),if_neg (by omega),if_neg (by omega)]
  obtain ⟨K,F,b3,b4⟩:=p.k6 h6;obtain ⟨J,A⟩: ∃J,J=if f.isSome then e.n else s.n:=⟨_,rfl⟩
  obtain ⟨z,C⟩: ∃z,z=if f.isSome then e.at_ else tick:=⟨_,rfl⟩
  have Mj:0<=J/\J<=65535:=by rw [A];split <;> omega
  have Mi:0<=z/\z<=1073741824:=by rw [C];split <;> omega
  have G:xI s f (keyOf l s.key h) tick=wh s ⟨s.var,keyOf l s.key h,J,z⟩ tick:=by
   unfold xI;cases f with
   |none=>rw [A,C];rfl
   |some x=>
    have hex:e=x:=H;obtain ⟨g1,g2,g3⟩:=vP X.symm;rw [A,C];show wh s x tick=wh s ⟨s.var,keyOf l s.key h,e.n,e.at_⟩ tick
    rw [hex, <-g2, <-g3]
  have E:=Jk s s.var (keyOf l s.key h) ⟨K,F⟩ ⟨b3,b4⟩ ⟨ht0,ht1⟩ Mj Mi;obtain ⟨r,L⟩: ∃r,r=wh s ⟨s.var,keyOf l s.key h,J,z⟩ tick:=⟨_,rfl⟩
  rw [<- L] at G E;have htb:0<=r.n/\r.n<=65535 * 65536:=by
   rw [L];have u:0<=(if tick>z then (tick - z).tdiv s.m else 0):=by
    split
    ·exact Int.tdiv_nonneg (by omega) (by omega)
    ·exact Int.le_refl 0
   unfold wh;dsimp only;generalize (if tick>z then (tick - z).tdiv s.m else 0)=k at *
   split
   ·exact ⟨by dsimp only;omega,by dsimp only;omega⟩
   ·exact ⟨by dsimp only;omega,by dsimp only;omega⟩
  have i:=IF (x0:=x0) (x1:=x1) (x2:=x2) (x3:=x3) (x4:=x4) (x5:=x5) (x6:=x6) (x7:=x7) (x8:=x8) (x9:=x9) (l:=l) (tick:=tick) (is:=f.isSome) h6 (by omega) J z r.n r.at_ A C E (if r.n>0 then r.n - 1 else r.n) (by
   split
   ·exact (nW (by omega) (by omega)).symm
   ·rfl) y (fc _ _) (uX f o) Y
  cases b:uX f o with
  |true=>
   have j:doE l s st h tick=⟨h,false,st⟩:=by rw [w,g];unfold do6;rw [b];rfl
   rw [j];rw [b] at i;exact ⟨st,x0,x1,x2,x3,x4,x5,x6,x7,x8,x9,_,false,i,by rw [v];rfl⟩
  |false=>
   rw [b] at i
   by_cases c:r.n>0
   ·have j:doE l s st h tick=⟨h,true,uK ⟨s.var,keyOf l s.key h,r.n - 1,r.at_⟩ st⟩:=by rw [w,g];unfold do6;rw [G,b,if_neg (by simp),if_pos c];rfl
    rw [j];rw [if_pos c,decide_eq_true c] at i;exact ⟨uK ⟨s.var,keyOf l s.key h,r.n - 1,r.at_⟩ st,x0,x1,x2,x3,x4,x5,x6,x7,x8,x9,⟨e.var,e.key,r.n - 1,r.at_⟩,true,i,by rw [v];rfl⟩
   ·have j:doE l s st h tick=⟨h,false,uK ⟨s.var,keyOf l s.key h,r.n,r.at_⟩ st⟩:=by rw [w,g];unfold do6;rw [G,b,if_neg (by simp),if_neg c];rfl
    rw [j];rw [if_neg c,decide_eq_false c] at i;exact ⟨uK ⟨s.var,keyOf l s.key h,r.n,r.at_⟩ st,x0,x1,x2,x3,x4,x5,x6,x7,x8,x9,⟨e.var,e.key,r.n,r.at_⟩,false,i,by rw [v];rfl⟩
end Go.ST
end
section
end
section
end
section
end
section
end
section
end
section
end
section
namespace Go.MM
open Go Go.DL Go.Proofs
def Cw:ByteArray:=⟨#[100,115,116]⟩
def BU:ByteArray:=⟨#[115,114,99]⟩
def Dh:ByteArray:=⟨#[107,105,110,100]⟩
end Go.MM
end
section
end
section
end
section
end
section
end
section
end
section
end
section
end
section
end
section
end
section
namespace Go.TY
open Go Go.DL Go.MM
def G4(l:List Fd):RP->Int
 |.mk k f n m _=>if uq f e0 then 0 else match findF l f with
   |none=>4
   |some F=>if (if k=5 then m else n)>((2^F.w - 1:Nat):Int)\/(k=4/\m>F.w) then 1 else 0
def Fg(l:List Fd)(r:RP):Int:=uT ((xg r).map (G4 l))
def Jx(l:List Fd)(f:ByteArray)(n:Int):Int:=match findF l f with
 |none=>4
 |some F=>if n>((2^F.w - 1:Nat):Int) then 1 else 0
def Ff(l:List Fd):RO->Int
 |.mk k p f n _=>if k=1 then Fg l p else if k=2 then Jx l f n else 0
def xH(l:List Fd)(r:RO):Int:=if vQ r≠0 then vQ r else uT ((wO r).map (Ff l))
theorem Hw{f:ByteArray}(h:uq f e0=true):f=e0:=by
 unfold uq at h;have h:f.data.toList=[]:=by simpa using h
 exact ByteArray.ext (Array.ext' h)
theorem za{f:ByteArray}(h:vh f=true):uq f e0=false:=by
 cases e:uq f e0 with
 |false=>rfl
 |true=>
  rw [Hw e] at h
  have:vh e0=false:=by decide+kernel
  rw [this] at h;cases h
theorem Iw{l:List Fd}{k:Int}{f:ByteArray}{n m:Int}{a:List RP}(h:okP k f n m=true):G4 l (.mk k f n m a)=yS l (.mk k f n m a):=by
 simp only [G4,yS];unfold okP at h
 by_cases b:k=1\/k=2
 ·rw [if_pos b] at h;unfold Am at h;simp only [Bool.and_eq_true] at h;rw [if_pos h.1.1,if_neg (by omega)]
 rw [if_neg b] at h
 by_cases g:k=3
 ·subst g;simp only [if_true,Bool.and_eq_true] at h;rw [za h.1.1];cases findF l f <;> simp
 rw [if_neg g] at h
 by_cases j:k=4
 ·subst j;simp only [if_true,Bool.and_eq_true] at h;rw [za h.1.1.1];cases findF l f <;> simp
 rw [if_neg j] at h
 by_cases d:k=5
 ·subst d;simp only [if_true,Bool.and_eq_true] at h;rw [za h.1.1.1];cases findF l f <;> simp
 rw [if_neg d] at h
 by_cases c:k=6\/k=7\/k=8
 ·rw [if_pos c] at h;unfold Am at h;simp only [Bool.and_eq_true] at h;rw [if_pos h.1.1,if_neg (by omega)]
 rw [if_neg c] at h
 by_cases i:k=9
 ·subst i;simp only [if_true,Bool.and_eq_true] at h;rw [if_pos h.1.1.1,if_neg (by omega)]
 ·rw [if_neg i] at h;cases h
mutual
theorem AI: ∀r:RP,vV r=true-> ∀x∈xg r,vV x=true
 |.mk k f n m a,h,x,b=>by
  rw [xg] at b;rcases List.mem_cons.1 b with rfl|b
  ·exact h
  ·simp only [vV,Bool.and_eq_true] at h;exact zK a h.2 x b
theorem zK: ∀l:List RP,vK l=true-> ∀x∈wo l,vV x=true
 |[],_,x,a=>by simp [wo] at a
 |r::rs,h,x,a=>by
  simp only [vK,Bool.and_eq_true] at h;rw [wo] at a;rcases List.mem_append.1 a with a|a
  ·exact AI r h.1 x a
  ·exact zK rs h.2 x a
end
mutual
theorem AH: ∀r:RO,vU r=true-> ∀x∈wO r,vU x=true
 |.mk k p f n a,h,x,b=>by
  rw [wO] at b;rcases List.mem_cons.1 b with rfl|b
  ·exact h
  ·simp only [vU,Bool.and_eq_true] at h;exact zJ a h.2 x b
theorem zJ: ∀l:List RO,vJ l=true-> ∀x∈vD l,vU x=true
 |[],_,x,a=>by simp [vD] at a
 |r::rs,h,x,a=>by
  simp only [vJ,Bool.and_eq_true] at h;rw [vD] at a;rcases List.mem_append.1 a with a|a
  ·exact AH r h.1 x a
  ·exact zJ rs h.2 x a
end
theorem G5{l:List Fd}{r:RP}(h:vV r=true):Fg l r=fitAll l r:=by
 unfold Fg fitAll
 congr 1
 refine List.map_congr_left fun x b=>?_
 have:=AI r h x b
 obtain ⟨k,f,n,m,a⟩:=x;simp only [vV,Bool.and_eq_true] at this;exact Iw this.1.1
theorem Iy{e:Int}{b:Bool}(h:B8 e b=0):e=0/\b=true:=by
 unfold B8 at h
 by_cases a:e=0
 ·rw [if_pos a] at h;cases b with
  |true=>exact ⟨a,rfl⟩
  |false=>simp at h
 ·rw [if_neg a] at h;exact absurd h a
theorem G3{l:List Fd}{r:RO}(h:vU r=true):Ff l r=xD l r:=by
 obtain ⟨k,p,f,n,a⟩:=r;simp only [Ff,xD]
 by_cases b:k=1
 ·subst b;simp only [vU,okO,if_true,Bool.and_eq_true] at h;simp only [if_true];exact G5 h.1.1.1
 ·rw [if_neg b,if_neg b];rfl
theorem IT(l:List Fd)(r:RO):xH l r=FE l r:=by
 unfold xH FE
 by_cases h:vQ r≠0
 ·rw [if_pos h,if_pos h]
 ·rw [if_neg h,if_neg h];have a:=(Iy (Decidable.not_not.1 h)).2
  congr 1
  exact List.map_congr_left fun x b=>G3 (AH r a x b)
end Go.TY
end
section
end
section
end
section
namespace Go.TY
open Go Go.DL Go.MM Go.Proofs
theorem uR{a b:ByteArray}:uq a b=true↔a=b:=by
 constructor
 ·intro h;unfold uq at h;exact ByteArray.ext (Array.ext' (by simpa using h))
 ·intro h;subst h;unfold uq;simp
end Go.TY
end
section
end
section
namespace Go.TY
open Go Go.DL Go.MM Go.Proofs
def Br(n:Int):Bool:=decide (0<=n)&&decide (n<=1073741824)
end Go.TY
end
