/- Joined by program: parts of a data level over the model, of the program's functions over it, and of the statement's proof. -/
import Derived.Test.YtnfonfjleonbdaaGreatGd
import Derived.Test.YtnfonfjleonbdaaGreatGc
import Derived.WalkKit
import Derived.Lib.Walk
import Derived.Lib.SliceRun
import Derived.Laws.NewBlocks
import Derived.Laws.Externs
import Derived.Shelf.RegionOpenPlain
import Derived.Test.YtnfonfjleonbdaaGreatProg
import Derived.KernelRfl
import Derived.Shelf.Lays8
import Derived.LoopN
import Derived.Shelf.SlLaysF0
import Derived.Shelf.SlGeneric
set_option maxRecDepth 100000
set_option maxHeartbeats 8000000
section
namespace Go.ST
open Go Go.DL Go.MM Go.Proofs
open Go.TY hiding Fd
def Ao(s:ByteArray)(n:Int):List (ByteArray×Int)->List (ByteArray×Int)
 |[]=>[(s,n)]
 |x::xs=>if x.1=s then (s,n)::xs else x::Ao s n xs
def zd(m:List (ByteArray×Int))(s:ByteArray):Int:=((m.find? fun p=>decide (p.1=s)).map (·.2)).getD 0
def esC(m:List (ByteArray×Int)):List (T×T):=m.map fun p=>(T.str p.1,I p.2)
theorem Jd(a b:ByteArray):(a==b)=decide (a=b):=by
 obtain ⟨a⟩:=a;obtain ⟨b⟩:=b
 by_cases h:a=b
 ·subst h;rw [decide_eq_true rfl];show (a==a)=true
  simp
 ·rw [decide_eq_false (fun e=>h (ByteArray.mk.inj e))];show (a==b)=false
  exact beq_false_of_ne h
theorem HI(a b:ByteArray):eqL (T.str a).cells (T.str b).cells=decide (a=b):=by
 show ((a==b)&&true)=_
 rw [Bool.and_true,Jd]
theorem Gb(s:ByteArray)(n:Int): ∀m:List (ByteArray×Int),bC (.str s) (I n) (esC m)=esC (Ao s n m)
 |[]=>rfl
 |x::xs=>by
  have ih:=Gb s n xs;show cond (eqL (T.str s).cells (T.str x.1).cells) _ _=esC (Ao s n (x::xs))
  rw [HI];unfold Ao
  by_cases h:x.1=s
  ·rw [decide_eq_true h.symm,if_pos h];rfl
  ·rw [decide_eq_false (fun e=>h e.symm),if_neg h,cond_false];show (T.str x.1,I x.2)::bC (.str s) (I n) (esC xs)=_
   rw [ih];rfl
theorem JG(s:ByteArray)(m:List (ByteArray×Int)):oB (I 0) false (eA (T.str s).cells (esC m))=I (zd m s):=by
 have key:eA (T.str s).cells (esC m)=((m.find? fun p=>decide (p.1=s)).map (·.2)).map I:=by
  induction m with
  |nil=>rfl
  |cons x xs ih=>
   show cond (eqL (T.str s).cells (T.str x.1).cells) (some (I x.2)) (eA (T.str s).cells (esC xs))=_
   rw [HI,ih,List.find?_cons]
   by_cases h:x.1=s
   ·rw [decide_eq_true h.symm,decide_eq_true h];rfl
   ·rw [decide_eq_false (fun e=>h e.symm),decide_eq_false h];rfl
 rw [key];unfold zd;cases (m.find? fun p=>decide (p.1=s)) <;> rfl
theorem F8(s t:ByteArray)(n:Int)(m:List (ByteArray×Int)):zd (Ao s n m) t=if s=t then n else zd m t:=by
 unfold zd
 induction m with
 |nil=>unfold Ao;by_cases h:s=t <;> simp [h]
 |cons x xs ih=>
  unfold Ao
  by_cases hx:x.1=s
  ·rw [if_pos hx,List.find?_cons,List.find?_cons]
   by_cases h:s=t
   ·simp [h]
   ·rw [decide_eq_false h,decide_eq_false (fun e=>h (hx.symm.trans e)),if_neg h]
  ·rw [if_neg hx,List.find?_cons,List.find?_cons]
   by_cases h:x.1=t
   ·rw [decide_eq_true h]
    have: ¬s=t:=fun e=>hx (h.trans e.symm)
    rw [if_neg this]
   ·rw [decide_eq_false h];exact ih
def AK(st:List RE):List (ByteArray×Int):=st.foldl (fun m e=>Ao e.var (zd m e.var+1) m) []
theorem CS{st:List RE}{i:Nat}(h:i<st.length):AK (st.take (i+1))=Ao st[i].var (zd (AK (st.take i)) st[i].var+1) (AK (st.take i)):=by
 unfold AK;rw [List.take_succ_eq_append_getElem h,List.foldl_append];rfl
theorem CR(st:List RE)(v:ByteArray): ∀i,i<=st.length->zd (AK (st.take i)) v=uD (st.take i) v:=by
 intro i
 induction i with
 |zero=>intro _;rfl
 |succ i ih=>
  intro h;rw [CS h,F8,Bu h]
  by_cases hv:st[i].var=v
  ·subst hv;rw [if_pos rfl,if_pos rfl,ih (by omega)];rfl
  ·rw [if_neg hv,if_neg hv,ih (by omega)];rfl
theorem JF{ks:List Nat}{bx:Nat->Option BX}{ag:Bool}{sh:List Sh}{es es':List (T×T)}(h:es=es'):LeB ks bx (.m ag sh es none) (some (.m ag sh es' none)):=by rw [h];exact .same _
theorem I4(vars:List RV)(hvl:vars.length<2^60)(hv: ∀v∈vars,VOk v)(st:List RE)(hl:st.length<2^60)(hk: ∀e∈st,kOk e):DCalls Tryz.prog 23 [vsT vars,esT st] (I (zn vars st)):=by
 refine dl2 mixed [.tmp 4] [I _] Tryz.func23 l23 ?_
 skip
 refine tT (α:=Nat) (fun i=>{sl:=[(0,.t (vsT vars)),(1,.t (esT st)),(5,.mp 9),(10,.t (esT st)),(11,.t (I st.length)),(12,.t (I i))],bx:=[(9,.m false [.str] (esC (AK (st.take i))) none)]})
  (fun i=>i<=st.length/\zQ vars (st.take i) (st.drop i)=zn vars st) (fun i=>st.length - i) 0 ⟨by omega,rfl⟩ ?_ ?_
 ·repeat' (first|(exact leI (by simp))|exact wJ|refine And.intro ?_ ?_)
 rintro i ⟨hi,hc⟩;rcases Nat.lt_or_ge i st.length with h|h
 ·have hlt:(i:Int)<(st.length:Int):=by omega
  rw [CL h] at hc;have hV:=GB vars st[i] hvl;have hkE:=hk st[i] (List.getElem_mem h);have wP:=Cb h;have hck:zm vars (st.take i) st[i]=match varOf vars st[i].var with
   |none=>4
   |some v=>if xt v st[i] (st.take i)=false then 1 else if yC (st.take i) st[i]=true then 10 else if 100<=uD (st.take i) st[i].var then 2 else 0:=rfl
  rcases DO vars st[i].var with ⟨hix,hvo⟩|⟨k,hkl,hix,hvo⟩
  ·rw [hix] at hV;rw [hvo] at hck;dsimp only at hck;rw [hck,if_neg (by decide)] at hc;rw [<- hc]
   repeat' ((conv=>whnf);first|exact trivial|refine sC hlt ?_|(refine nv_ (.agg (uk st[i])) (by first|exact uN h) ?_)|refine uc _ (hV) ?_|refine aD1 ?_|refine rix ?_|(refine And.intro (by first|exact uo _) ?_)|refine aS ?_|refine nT_ ?_)
  ·rw [hix] at hV;rw [hvo] at hck;dsimp only at hck;have hF:=JZ vars[k] (hv _ (List.getElem_mem hkl)) st[i] hkE (st.take i) (by rw [List.length_take];omega);have yq: ¬((k:Nat):Int)<0:=by omega
   cases hf:xt vars[k] st[i] (st.take i) with
   |false=>
    rw [hf] at hF;rw [if_pos hf] at hck;rw [hck,if_neg (by decide)] at hc;rw [<- hc]
    repeat' ((conv=>whnf);first|exact trivial|refine sC hlt ?_|(refine nv_ (.agg (uk st[i])) (by first|exact uN h) ?_)|refine uc _ (hV) ?_|refine su yq ?_|(refine nv_ (.agg (uK vars[k])) (by first|exact xA hkl) ?_)|(refine nv_ (esT (st.take i)) (by first|exact ye) ?_)|refine uc _ (hF) ?_|refine rix ?_|(refine And.intro (by first|exact uo _) ?_)|refine aS ?_|refine nT_ ?_)
   |true=>
    rw [hf] at hF;rw [if_neg (show ¬xt vars[k] st[i] (st.take i)=false by simp [hf])] at hck;have hlk:=JG st[i].var (AK (st.take i));rw [CR st _ i hi] at hlk;have hcl:=za (st:=st.take i) (v:=st[i].var);rw [List.length_take] at hcl;have hpt:=Gb st[i].var (((uD (st.take i) st[i].var:Nat):Int)+1) (AK (st.take i));have hnx:=CS h;rw [CR st _ i hi] at hnx;rw [<- hnx] at hpt;have ew1:IntKind.wrap .i64 (((uD (st.take i) st[i].var:Nat):Int)+1)=((uD (st.take i) st[i].var:Nat):Int)+1:=by rw [nW] <;> omega
    rw [<- ew1] at hpt
    by_cases c0:0<i
    ·have hi0:(i:Int)>0:=by omega
     have hp:i - 1<st.length:=by omega
     have ew:IntKind.wrap .i64 ((i:Int) - 1)=((i - 1:Nat):Int):=by rw [nW] <;> omega
     have hC:=xH (st[i - 1]'hp) st[i] (hk _ (List.getElem_mem hp)) hkE;have hr:=uv.r (st[i - 1]'hp) st[i];rw [decide_eq_true c0,Bool.true_and] at wP;generalize hce:uz (st[i - 1]'hp) st[i]=c at *
     by_cases c1:c= -1
     ·rw [show decide (c≠ -1)=false by simp [c1]] at wP;have hge: ¬c>=0:=by omega
      rw [if_neg (by simp [wP])] at hck
      by_cases c2:100<=uD (st.take i) st[i].var
      ·rw [if_pos c2] at hck;rw [hck,if_neg (by decide)] at hc;have yS:((uD (st.take i) st[i].var:Nat):Int)>=100:=by omega
       rw [<- hc]
       repeat' ((conv=>whnf);first|exact trivial|refine sC hlt ?_|refine sC hi0 ?_|(refine nv_ (.agg (uk st[i])) (by first|exact uN h) ?_)|(refine nv_ (.agg (uk (st[i - 1]'hp))) (by first|((rw [ew];exact uN hp);done)|fail) ?_)|refine uc _ (hV) ?_|refine su yq ?_|(refine nv_ (.agg (uK vars[k])) (by first|exact xA hkl) ?_)|(refine nv_ (esT (st.take i)) (by first|exact ye) ?_)|refine uc _ (hF) ?_|refine uc _ (hC) ?_|refine su hge ?_|(refine nv_ (I (uD (st.take i) st[i].var:Nat)) (by first|exact hlk) ?_)|refine sC yS ?_|refine rix ?_|(refine And.intro (by first|exact uo _|exact ⟨rfl,trivial,trivial⟩|exact ⟨rfl,rfl,trivial⟩|exact ⟨rfl,trivial⟩|(omega;done)|((rw [ew];omega);done)|fail) ?_)|refine aS ?_|refine nT_ ?_)
      ·rw [if_neg c2] at hck;rw [hck,if_pos rfl] at hc;have yS: ¬((uD (st.take i) st[i].var:Nat):Int)>=100:=by omega
       repeat' ((conv=>whnf);first|refine sC hlt ?_|refine sC hi0 ?_|(refine nv_ (.agg (uk st[i])) (by first|exact uN h) ?_)|(refine nv_ (.agg (uk (st[i - 1]'hp))) (by first|((rw [ew];exact uN hp);done)|fail) ?_)|refine uc _ (hV) ?_|refine su yq ?_|(refine nv_ (.agg (uK vars[k])) (by first|exact xA hkl) ?_)|(refine nv_ (esT (st.take i)) (by first|exact ye) ?_)|refine uc _ (hF) ?_|refine uc _ (hC) ?_|refine su hge ?_|(refine nv_ (I (uD (st.take i) st[i].var:Nat)) (by first|exact hlk) ?_)|refine su yS ?_|(refine And.intro (by first|exact uo _|exact ⟨rfl,trivial,trivial⟩|exact ⟨rfl,rfl,trivial⟩|exact ⟨rfl,trivial⟩|(omega;done)|((rw [ew];omega);done)|fail) ?_)|refine aS ?_|refine nT_ ?_)
       exact ⟨i+1,⟨h,hc⟩,by omega,by repeat' (first|(exact JF hpt.symm)|exact wJ|refine And.intro ?_ ?_)⟩
     ·rw [show decide (c≠ -1)=true by simp [c1]] at wP;have hge:c>=0:=by omega
      rw [if_pos wP] at hck;rw [hck,if_neg (by decide)] at hc;rw [<- hc]
      repeat' ((conv=>whnf);first|exact trivial|refine sC hlt ?_|refine sC hi0 ?_|(refine nv_ (.agg (uk st[i])) (by first|exact uN h) ?_)|(refine nv_ (.agg (uk (st[i - 1]'hp))) (by first|((rw [ew];exact uN hp);done)|fail) ?_)|refine uc _ (hV) ?_|refine su yq ?_|(refine nv_ (.agg (uK vars[k])) (by first|exact xA hkl) ?_)|(refine nv_ (esT (st.take i)) (by first|exact ye) ?_)|refine uc _ (hF) ?_|refine uc _ (hC) ?_|refine sC hge ?_|refine rix ?_|(refine And.intro (by first|exact uo _|(omega;done)|((rw [ew];omega);done)|fail) ?_)|refine aS ?_|refine nT_ ?_)
    ·have hi0: ¬(i:Int)>0:=by omega
     rw [decide_eq_false c0,Bool.false_and] at wP;rw [if_neg (by simp [wP])] at hck;have c2: ¬100<=uD (st.take i) st[i].var:=by omega
     rw [if_neg c2] at hck;rw [hck,if_pos rfl] at hc;have yS: ¬((uD (st.take i) st[i].var:Nat):Int)>=100:=by omega
     repeat' ((conv=>whnf);first|refine sC hlt ?_|refine su hi0 ?_|(refine nv_ (.agg (uk st[i])) (by first|exact uN h) ?_)|refine uc _ (hV) ?_|refine su yq ?_|(refine nv_ (.agg (uK vars[k])) (by first|exact xA hkl) ?_)|(refine nv_ (esT (st.take i)) (by first|exact ye) ?_)|refine uc _ (hF) ?_|(refine nv_ (I (uD (st.take i) st[i].var:Nat)) (by first|exact hlk) ?_)|refine su yS ?_|(refine And.intro (by first|exact uo _|exact ⟨rfl,trivial,trivial⟩|exact ⟨rfl,rfl,trivial⟩|exact ⟨rfl,trivial⟩) ?_)|refine aS ?_|refine nT_ ?_)
     exact ⟨i+1,⟨h,hc⟩,by omega,by repeat' (first|(exact JF hpt.symm)|exact wJ|refine And.intro ?_ ?_)⟩
 ·have hlt: ¬(i:Int)<(st.length:Int):=by omega
  obtain rfl:i=st.length:=by omega
  rw [<- hc,List.drop_length]
  repeat' ((conv=>whnf);first|refine su hlt ?_|refine rix ?_|refine aS ?_|exact trivial)
theorem JI{i j:Nat}(h:i+j<2^61):IntKind.wrap .i64 ((IntKind.wrap .u64 (IntKind.wrap .i64 ((i:Int)+(j:Int)))).fdiv (2^(min (1:Int).toNat (IntKind.bits .u64))))=(((i+j) / 2:Nat):Int):=by
 rw [nW (n:=(i:Int)+j) (by omega) (by omega)];have u1: ∀n:Int,0<=n->n<18446744073709551616->IntKind.wrap .u64 n=n:=fun n h0 h1=>by
  unfold IntKind.wrap;simp [IntKind.bits,IntKind.signed];omega
 rw [u1 ((i:Int)+j) (by omega) (by omega)];have e2:((i:Int)+(j:Int)).fdiv (2^(min (1:Int).toNat (IntKind.bits .u64)))=(((i+j) / 2:Nat):Int):=by
  show ((i:Int)+(j:Int)).fdiv 2=_
  rw [Int.fdiv_eq_ediv_of_nonneg _ (by omega)];omega
 rw [e2,nW (by omega) (by omega)]
def isE(st:List RE)(e:RE):Bool:=(uB st e.var e.key).isSome
theorem Iq{st:List RE}(hs:uP st){e:RE}(h:uO st e<st.length):isE st e=decide (uz st[uO st e] e=0):=by
 unfold isE;rw [yh hs,ggZ h];dsimp only
 by_cases h0:uz st[uO st e] e=0 <;> simp [h0]
theorem EB{st:List RE}(hs:uP st){e:RE}(h: ¬uO st e<st.length):isE st e=false:=by
 unfold isE;rw [yh hs,List.getElem?_eq_none (by omega)];rfl
theorem HC(st:List RE)(hs:uP st)(hl:st.length<2^40)(hk: ∀x∈st,kOk x)(e:RE)(he:kOk e):
  DCalls Tryz.prog 118 [esT st,um e,.clos 29 []] (.tup [I (uO st e),.bool (isE st e)]):=by
 refine dl2 mixed [.tmp 6,.tmp 7] [I _,.bool _] Tryz.func118 Mw ?_;have G3:=Bj st e
 repeat' ((conv=>whnf);first|(refine And.intro (by first|exact uo _) ?_)|fail)
 refine tT (α:=Nat×Nat) (fun p=>{sl:=[(0,.t (esT st)),(2,.t (.clos 29 [])),(4,.ptr 4 0),(8,.t (I st.length)),(9,.t (I p.1)),(10,.t (I p.2))],bx:=[(4,.d 4 (uk e))]})
  (fun p=>p.1<=uO st e/\uO st e<=p.2/\p.2<=st.length) (fun p=>p.2 - p.1) (0,st.length) ⟨Nat.zero_le _,G3,Nat.le_refl _⟩ ?_ ?_
 ·repeat' (first|(exact leI (by simp))|exact wJ|refine And.intro ?_ ?_)
 rintro ⟨i,j⟩ ⟨h1,h2,h3⟩;dsimp only at h1 h2 h3;rcases Nat.lt_or_ge i j with hij|hij
 ·have hlt:(i:Int)<(j:Int):=by omega
  have e1:=JI (i:=i) (j:=j) (by omega);have h4:(i+j) / 2<st.length:=by omega
  have hC:=xH st[(i+j) / 2] e (hk _ (List.getElem_mem h4)) he;have hp:=CB hs (e:=e) h4;have hr:=uv.r st[(i+j) / 2] e;generalize uz st[(i+j) / 2] e=c at *
  by_cases hc:c= -1
  ·have hc0:c<0:=by omega
   have hq:=hp.1 hc
   repeat' ((conv=>whnf);first|refine sC hlt ?_|(refine nv_ (.agg (uk st[(i+j) / 2])) (by first|((dsimp only;rw [e1,Int.toNat_natCast];exact uN h4);done)|fail) ?_)|refine uc _ (hC) ?_|refine sC hc0 ?_|(refine And.intro (by first|exact uo _|((dsimp only;rw [e1];simp;omega);done)|fail) ?_)|refine aS ?_|refine nT_ ?_)
   exact ⟨((i+j) / 2+1,j),⟨hq,h2,h3⟩,by dsimp only;omega,by repeat' (first|(exact leI (by dsimp only;rw [e1,nW] <;> omega))|exact wJ|refine And.intro ?_ ?_)⟩
  ·have hc0: ¬c<0:=by omega
   have hq:uO st e<=(i+j) / 2:=Nat.le_of_not_lt fun h=>hc (hp.2 h)
   repeat' ((conv=>whnf);first|refine sC hlt ?_|(refine nv_ (.agg (uk st[(i+j) / 2])) (by first|((dsimp only;rw [e1,Int.toNat_natCast];exact uN h4);done)|fail) ?_)|refine uc _ (hC) ?_|refine su hc0 ?_|(refine And.intro (by first|exact uo _|((dsimp only;rw [e1];simp;omega);done)|fail) ?_)|refine aS ?_|refine nT_ ?_)
   exact ⟨(i,(i+j) / 2),⟨h1,hq,by dsimp only;omega⟩,by dsimp only;omega,by repeat' (first|(exact leI e1.symm)|exact wJ|refine And.intro ?_ ?_)⟩
 ·have hlt: ¬(i:Int)<(j:Int):=by omega
  obtain rfl:i=uO st e:=by omega
  rcases Nat.lt_or_ge (uO st e) st.length with h4|h4
  ·have vV:((uO st e:Nat):Int)<(st.length:Int):=by omega
   have hC:=xH st[uO st e] e (hk _ (List.getElem_mem h4)) he;rw [Iq hs h4];generalize uz st[uO st e] e=c at *
   by_cases hc:c=0
   ·rw [decide_eq_true hc]
    repeat' ((conv=>whnf);first|exact trivial|refine su hlt ?_|refine sC vV ?_|(refine nv_ (.agg (uk st[uO st e])) (by first|exact uN h4) ?_)|refine uc _ (hC) ?_|refine sE hc ?_|refine rb1 ?_|refine rix ?_|(refine And.intro (by first|exact uo _) ?_)|refine aS ?_|refine nT_ ?_)
   ·rw [decide_eq_false hc]
    repeat' ((conv=>whnf);first|exact trivial|refine su hlt ?_|refine sC vV ?_|(refine nv_ (.agg (uk st[uO st e])) (by first|exact uN h4) ?_)|refine uc _ (hC) ?_|refine sD hc ?_|refine rb0 ?_|refine rix ?_|(refine And.intro (by first|exact uo _) ?_)|refine aS ?_|refine nT_ ?_)
  ·have vV: ¬((uO st e:Nat):Int)<(st.length:Int):=by omega
   rw [EB hs (by omega)]
   repeat' ((conv=>whnf);first|refine su hlt ?_|refine su vV ?_|refine rb0 ?_|refine rix ?_|refine aS ?_|exact trivial)
theorem EP(st:List RE)(hs:uP st)(hl:st.length<2^40)(hk: ∀x∈st,kOk x)(e:RE)(he:kOk e):
  DCalls Tryz.prog 76 [esT st,um e,.clos 29 []] (.tup [I (uO st e),.bool (isE st e)]):=by
 refine dl2 mixed [.tmp 6,.tmp 7] [I _,.bool _] Tryz.func76 l76 ?_;have h:=HC st hs hl hk e he
 repeat' ((conv=>whnf);first|refine uc _ (h) ?_|refine rbx ?_|refine rix ?_|(refine And.intro (by first|exact uo _) ?_)|exact trivial)
abbrev zE:T:=.agg [.str ⟨#[]⟩,.nil,I 0,I 0]
def GW(o:Option RE):T:=match o with
 |some e=>.tup [um e,.bool true]
 |none=>.tup [zE,.bool false]
theorem JT(st:List RE)(hs:uP st)(hl:st.length<2^40)(hk: ∀x∈st,kOk x)(v:ByteArray)(key:List Int)(he:key.length<2^60):
  DCalls Tryz.prog 25 [esT st,.str v,.slice 1 (key.map I)] (GW (uB st v key)):=by
 have h:=EP st hs hl hk ⟨v,key,0,0⟩ he;have hp:=yh hs ⟨v,key,0,0⟩;dsimp only at hp;have hi:isE st ⟨v,key,0,0⟩=(uB st v key).isSome:=rfl;rw [hi] at h;cases hf:uB st v key with
 |none=>
  rw [hf] at h;refine dl2 mixed [.cell 6 64,.tmp 7] [zE,.bool false] Tryz.func25 l25 ?_
  repeat' ((conv=>whnf);first|refine uc _ (h) ?_|refine rb0 ?_|refine aS ?_|exact trivial)
 |some x=>
  rw [hf] at h hp;have hlt:uO st ⟨v,key,0,0⟩<st.length:=by
   rcases Nat.lt_or_ge (uO st ⟨v,key,0,0⟩) st.length with h4|h4
   ·exact h4
   ·rw [List.getElem?_eq_none h4] at hp;cases hp
  rw [ggZ hlt] at hp;dsimp only at hp;have hx:st[uO st ⟨v,key,0,0⟩]=x:=by
   split at hp
   ·exact (Option.some.inj hp).symm
   ·cases hp
  have hg:=uN hlt;rw [hx] at hg;refine dl2 mixed [.cell 6 64,.tmp 7] [um x,.bool true] Tryz.func25 l25 ?_;generalize uO st ⟨v,key,0,0⟩=p at *
  repeat' ((conv=>whnf);first|exact trivial|refine uc _ (h) ?_|(refine nv_ (.agg (uk x)) (by first|exact hg) ?_)|refine rb1 ?_|(refine And.intro (by first|exact uo _|((simp;omega);done)|fail) ?_)|refine aS ?_|refine nT_ ?_)
theorem JK(st:List RE)(hl:st.length<2^60)(hk: ∀x∈st,kOk x)(v:ByteArray)(key:List Int)(he:key.length<2^60):
  DCalls Tryz.prog 26 [esT st,.str v,.slice 1 (key.map I)] (GW (uB st v key)):=by
 have hn:((st.map um).length:Int)=st.length:=by rw [List.length_map]
 have go: ∀r,wpC Tryz.prog c26 (gA [esT st,.str v,.slice 1 (key.map I)]) (nX (dj Tryz.prog) [.cell 6 64,.tmp 7] r)->DCalls Tryz.prog 26 [esT st,.str v,.slice 1 (key.map I)] (lg r):=fun r hw=>
  oi (rs:=[.cell 6 64,.tmp 7]) mixed Tryz.func26 l26 rfl rfl rfl (r:=r) (nlZ rfl) hw
 have pre: ∀r,(uB st v key=none->r=[zE,.bool false])->(∀ x,uB st v key=some x->r=[um x,.bool true])->wpC Tryz.prog c26 (gA [esT st,.str v,.slice 1 (key.map I)]) (nX (dj Tryz.prog) [.cell 6 64,.tmp 7] r):=fun r r0 r1=>by
  skip
  refine tT (α:=Nat) (fun i=>{sl:=[(0,.t (esT st)),(1,.t (.str v)),(2,.t (.slice 1 (key.map I))),(6,.ptr 6 0),(8,.t (I i))],bx:=[(6,.d 4 [.str ⟨#[]⟩,.nil,I 0,I 0])]})
   (fun i=>i<=st.length/\uB st v key=uB (st.drop i) v key) (fun i=>st.length - i) 0 ⟨by omega,rfl⟩ ?_ ?_
  ·repeat' (first|exact wJ|refine And.intro ?_ ?_)
  rintro i ⟨hi,hf⟩;rcases Nat.lt_or_ge i st.length with h|h
  ·have hlt:(i:Int)<((st.map um).length:Int):=by omega
   have h0:=eqS st[i].var v;have hK:=Ck st[i].key key (hk _ (List.getElem_mem h)) he;have hd:uB (st.drop i) v key=if st[i].var=v/\st[i].key=key then some st[i] else uB (st.drop (i+1)) v key:=by
    rw [List.drop_eq_getElem_cons h];unfold uB;rw [List.find?_cons]
    by_cases a:st[i].var=v <;> by_cases b:st[i].key=key <;> simp [a,b]
   have hz:=xF (a:=st[i].key) (b:=key);have hg:=uN h;have hgk:(uk st[i])[1]?.getD .nil= .slice 1 (st[i].key.map I):=rfl
   by_cases c1:st[i].var=v
   ·rw [decide_eq_true c1] at h0
    by_cases c2:st[i].key=key
    ·rw [hf,hd,if_pos ⟨c1,c2⟩] at r1;obtain rfl:=r1 _ rfl;have hz:=hz.2 c2;rw [hz] at hK
     repeat' ((conv=>whnf);first|exact trivial|refine sC hlt ?_|(refine nv_ (.agg (uk st[i])) (by first|exact uN h) ?_)|refine nb_ _ h0 ?_|refine uc _ (hK) ?_|refine aE1 ?_|refine rb1 ?_|(refine And.intro (by first|exact uo _) ?_)|refine aS ?_|refine nT_ ?_)
    ·rw [hd,if_neg (fun hh=>c2 hh.2)] at hf;have hz':vf st[i].key key≠0:=fun e=>c2 (hz.1 e)
     generalize vf st[i].key key=c at *
     repeat' ((conv=>whnf);first|refine sC hlt ?_|(refine nv_ (.agg (uk st[i])) (by first|exact uN h) ?_)|refine nb_ _ h0 ?_|refine uc _ (hK) ?_|refine sD hz' ?_|refine aS ?_|refine nT_ ?_)
     exact ⟨i+1,⟨h,hf⟩,by omega,by repeat' (first|exact wJ|refine And.intro ?_ ?_)⟩
   ·rw [decide_eq_false c1] at h0;rw [hd,if_neg (fun hh=>c1 hh.1)] at hf
    repeat' ((conv=>whnf);first|refine sC hlt ?_|(refine nv_ (.agg (uk st[i])) (by first|exact uN h) ?_)|refine nb_ _ h0 ?_|refine aS ?_|refine nT_ ?_)
    exact ⟨i+1,⟨h,hf⟩,by omega,by repeat' (first|exact wJ|refine And.intro ?_ ?_)⟩
  ·have hlt: ¬(i:Int)<((st.map um).length:Int):=by omega
   rw [List.drop_eq_nil_of_le h] at hf;obtain rfl:=r0 hf
   repeat' ((conv=>whnf);first|refine su hlt ?_|refine rb0 ?_|refine aS ?_|exact trivial)
 cases hf:uB st v key with
 |none=>exact go [zE,.bool false] (pre [zE,.bool false] (fun _=>rfl) (fun x hx=>by rw [hf] at hx;cases hx))
 |some x=>exact go [um x,.bool true] (pre [um x,.bool true] (fun h=>by rw [hf] at h;cases h) (fun y hy=>by rw [hf] at hy;cases hy;rfl))
theorem Ar(e:RE): ∀(st:List RE) (d:Bool),(uF e d st).length<=st.length+1
 |[],d=>by unfold uF;split <;> simp
 |x::xs,true=>by
  have:=Ar e xs true
  have h:(uF e true xs).length<=xs.length:=by
   clear this
   induction xs with
   |nil=>simp [uF]
   |cons y ys ih=>unfold uF;simp only [Bool.true_eq_false,and_false,if_false,List.nil_append,Bool.true_or,List.length_append,List.length_cons];split <;> simp <;> omega
  unfold uF;simp only [Bool.true_eq_false,and_false,if_false,List.nil_append,Bool.true_or,List.length_append,List.length_cons];split <;> simp <;> omega
 |x::xs,false=>by
  have h1:=Ar e xs false;have h:(uF e true xs).length<=xs.length:=by
   clear h1
   induction xs with
   |nil=>simp [uF]
   |cons y ys ih=>unfold uF;simp only [Bool.true_eq_false,and_false,if_false,List.nil_append,Bool.true_or,List.length_append,List.length_cons];split <;> simp <;> omega
  unfold uF;rw [List.length_append,List.length_append,List.length_cons]
  by_cases hc:uz x e= -1
  ·rw [if_neg (by simp [hc]),if_pos (by omega),show (false||decide (uz x e≠ -1))=false by simp [hc]];simp;omega
  ·rw [if_pos ⟨hc,rfl⟩,show (false||decide (uz x e≠ -1))=true by simp [hc]];split <;> simp <;> omega
theorem Co(o:List RE)(y:RE):(o++[y]).map um=o.map um++[um y]:=by rw [List.map_append];rfl
theorem Ej(e x:RE)(xs:List RE)(d:Bool):uF e d (x::xs)=(if uz x e≠ -1/\d=false then [e] else [])++((if uz x e≠0 then [x] else [])++uF e (d||decide (uz x e≠ -1)) xs):=rfl
theorem Ha{st:List RE}{v:ByteArray}{i:Nat}(h:i<st.length):ofE (st.take (i+1)) v=ofE (st.take i) v++if st[i].var=v then [st[i]] else []:=by
 unfold ofE;rw [List.take_succ_eq_append_getElem h,List.filter_append]
 by_cases hv:st[i].var=v <;> simp [hv]
theorem Nq(st:List RE)(v:ByteArray)(hl:st.length<2^40):DCalls Tryz.prog 31 [esT st,.str v] (esT (ofE st v)):=by
 refine dl2 mixed [.tmp 4] [.slice 4 _] Tryz.func31 l31 ?_;have hn:((st.map um).length:Int)=st.length:=by rw [List.length_map]
 skip
 refine tT (α:=Nat) (fun i=>{sl:=[(0,.t (esT st)),(1,.t (.str v)),(5,.own 26 64 4 ((ofE (st.take i) v).map um)),(6,.t (I i))],bx:=[]})
  (fun i=>i<=st.length) (fun i=>st.length - i) 0 (by simp) ?_ ?_
 ·repeat' (first|exact wJ|refine And.intro ?_ ?_)
 rintro i hi;rcases Nat.lt_or_ge i st.length with h|h
 ·have hlt:(i:Int)<((st.map um).length:Int):=by omega
  have h0:=eqS st[i].var v;have hs:=Ha (v:=v) h;have hle:(ofE (st.take i) v).length<=i:=by
   have:=za (st:=st.take i) (v:=v)
   unfold uD at this;rw [List.length_take] at this;omega
  by_cases hb:st[i].var=v
  ·rw [decide_eq_true hb] at h0;rw [if_pos hb] at hs
   repeat' ((conv=>whnf);first|refine sC hlt ?_|(refine nv_ (.agg (uk st[i])) (by first|exact uN h) ?_)|refine nb_ _ h0 ?_|(refine And.intro (by first|exact uo _|((simp only [List.length_map];omega);done)|fail) ?_)|refine aS ?_|refine nT_ ?_)
   exact ⟨i+1,h,by omega,by repeat' (first|(exact ug (by rw [hs];exact Co _ _))|exact wJ|refine And.intro ?_ ?_)⟩
  ·rw [decide_eq_false hb] at h0;rw [if_neg hb,List.append_nil] at hs
   repeat' ((conv=>whnf);first|refine sC hlt ?_|(refine nv_ (.agg (uk st[i])) (by first|exact uN h) ?_)|refine nb_ _ h0 ?_|refine aS ?_|refine nT_ ?_)
   exact ⟨i+1,h,by omega,by repeat' (first|(exact ug (by rw [hs]))|exact wJ|refine And.intro ?_ ?_)⟩
 ·have hlt: ¬(i:Int)<((st.map um).length:Int):=by omega
  obtain rfl:i=st.length:=by omega
  rw [List.take_length]
  repeat' ((conv=>whnf);first|refine su hlt ?_|refine aS ?_|exact trivial)
theorem C9{st:List RE}{v:ByteArray}{i:Nat}(h:i<st.length):uR (st.take (i+1)) v=uR (st.take i) v++if st[i].var=v then [] else [st[i]]:=by
 unfold uR;rw [List.take_succ_eq_append_getElem h,List.filter_append]
 by_cases hv:st[i].var=v <;> simp [hv]
theorem C2(st:List RE)(v:ByteArray)(hl:st.length<2^40):DCalls Tryz.prog 16 [esT st,.str v] (esT (uR st v)):=by
 refine dl2 mixed [.tmp 4] [.slice 4 _] Tryz.func16 l16 ?_;have hn:((st.map um).length:Int)=st.length:=by rw [List.length_map]
 skip
 refine tT (α:=Nat) (fun i=>{sl:=[(0,.t (esT st)),(1,.t (.str v)),(5,.own 26 64 4 ((uR (st.take i) v).map um)),(6,.t (I i))],bx:=[]})
  (fun i=>i<=st.length) (fun i=>st.length - i) 0 (by simp) ?_ ?_
 ·repeat' (first|exact wJ|refine And.intro ?_ ?_)
 rintro i hi;rcases Nat.lt_or_ge i st.length with h|h
 ·have hlt:(i:Int)<((st.map um).length:Int):=by omega
  have h0:(!(st[i].var.toList==v.toList))= !decide (st[i].var=v):=by rw [eqS]
  have hs:=C9 (v:=v) h;have hle:(uR (st.take i) v).length<=i:=by
   have:(uR (st.take i) v).length<=(st.take i).length:=List.length_filter_le _ _
   rw [List.length_take] at this;omega
  by_cases hb:st[i].var=v
  ·rw [decide_eq_true hb] at h0;rw [if_pos hb,List.append_nil] at hs
   repeat' ((conv=>whnf);first|refine sC hlt ?_|(refine nv_ (.agg (uk st[i])) (by first|exact uN h) ?_)|refine nb_ _ h0 ?_|refine aS ?_|refine nT_ ?_)
   exact ⟨i+1,h,by omega,by repeat' (first|(exact ug (by rw [hs]))|exact wJ|refine And.intro ?_ ?_)⟩
  ·rw [decide_eq_false hb] at h0;rw [if_neg hb] at hs
   repeat' ((conv=>whnf);first|refine sC hlt ?_|(refine nv_ (.agg (uk st[i])) (by first|exact uN h) ?_)|refine nb_ _ h0 ?_|(refine And.intro (by first|exact uo _|((simp only [List.length_map];omega);done)|fail) ?_)|refine aS ?_|refine nT_ ?_)
   exact ⟨i+1,h,by omega,by repeat' (first|(exact ug (by rw [hs];exact Co _ _))|exact wJ|refine And.intro ?_ ?_)⟩
 ·have hlt: ¬(i:Int)<((st.map um).length:Int):=by omega
  obtain rfl:i=st.length:=by omega
  rw [List.take_length]
  repeat' ((conv=>whnf);first|refine su hlt ?_|refine aS ?_|exact trivial)
theorem KH(st:List RE)(hl:st.length<2^30)(hk: ∀x∈st,kOk x)(e:RE)(he:kOk e):DCalls Tryz.prog 62 [esT st,um e] (esT (uF e false st)):=by
 refine dl2 mixed [.tmp 4] [.slice 4 _] Tryz.func62 l62 ?_;have hn:((st.map um).length:Int)=st.length:=by rw [List.length_map]
 have hpl:=Ar e st false
 repeat' ((conv=>whnf);first|(refine And.intro (by first|exact uo _) ?_)|fail)
 refine tx 0 (α:=Nat×Bool×Nat×List RE) (β:=Bool×Nat×List RE) (fun p=>{sl:=[(0,.t (esT st)),(3,.ptr 3 0),(5,.own p.2.2.1 64 4 (p.2.2.2.map um)),(6,.t (.bool p.2.1)),(7,.t (I p.1))],bx:=[(3,.d 4 (uk e))]})
  (fun p=>p.1<=st.length/\(p.2.2.1=30\/p.2.2.1=39)/\p.2.2.2++uF e p.2.1 (st.drop p.1)=uF e false st) (fun p=>st.length - p.1)
  (fun q=>{sl:=[(3,.ptr 3 0),(5,.own q.2.1 64 4 (q.2.2.map um)),(6,.t (.bool q.1))],bx:=[(3,.d 4 (uk e))]}) (fun q=>(q.2.1=30\/q.2.1=39)/\q.2.2++uF e q.1 []=uF e false st) (0,false,30,[]) ⟨by simp,Or.inl rfl,rfl⟩ ?_ ?_ ?_
 ·repeat' (first|exact wJ|refine And.intro ?_ ?_)
 ·rintro ⟨i,d,r,out⟩ ⟨hi,hr,uJ⟩;dsimp only at hi hr uJ;have hol:out.length<=st.length+1:=by
   have:=congrArg List.length uJ
   rw [List.length_append] at this;omega
  rcases Nat.lt_or_ge i st.length with h|h
  ·have hlt:(i:Int)<((st.map um).length:Int):=by omega
   rw [List.drop_eq_getElem_cons h,Ej] at uJ;have hC:=C1 st[i] e (hk _ (List.getElem_mem h)) he;have hg:=uN h;obtain ⟨x,hx⟩: ∃x,st[i]=x:=⟨_,rfl⟩
   rw [hx] at uJ hC hg;have hcr:=uv.r x e;generalize uz x e=c at *
   clear hpl
   repeat' ((conv=>whnf);first|refine sC hlt ?_|refine aS ?_|fail)
   refine tV (β:=Unit) (fun _=>{sl:=[(0,.t (esT st)),(3,.ptr 3 0),(5,.own r 64 4 (out.map um)),(6,.t (.bool d)),(7,.t (I i)),(8,.t (I c))],bx:=[(3,.d 4 (uk e))]}) (fun _=>True) ?_ ?_
   ·repeat' ((conv=>whnf);first|(refine nv_ (.agg (uk x)) (by first|exact hg) ?_)|refine uc _ (hC) ?_|(exact ⟨(),trivial,by (repeat' (first|exact wJ|refine And.intro ?_ ?_));done⟩)|(refine And.intro (by first|exact uo _) ?_)|refine aS ?_|refine nT_ ?_)
   rintro _ _
   skip
   refine tV (β:=Bool×Nat×List RE) (fun p=>{sl:=[(0,.t (esT st)),(3,.ptr 3 0),(5,.own p.2.1 64 4 (p.2.2.map um)),(6,.t (.bool p.1)),(7,.t (I i)),(8,.t (I c))],bx:=[(3,.d 4 (uk e))]})
    (fun p=>(p.2.1=30\/p.2.1=39)/\p.2.2.length<=st.length+2/\p.2.2++((if c≠0 then [x] else [])++uF e p.1 (st.drop (i+1)))=uF e false st) ?_ ?_
   ·by_cases c1:c>=0
    ·have hd:decide (c≠ -1)=true:=by simp;omega
     rw [hd,Bool.or_true] at uJ;cases d with
     |false=>
      rw [if_pos ⟨by omega,rfl⟩, <-List.append_assoc] at uJ;have inv:(30=30\/30=39)/\(out++[e]).length<=st.length+2/\(out++[e])++((if c≠0 then [x] else [])++uF e true (st.drop (i+1)))=uF e false st:=⟨Or.inl rfl,by rw [List.length_append,List.length_cons,List.length_nil];omega,uJ⟩
      clear uJ;rcases hr with rfl|rfl <;> repeat' ((conv=>whnf);first|refine sC c1 ?_|(exact ⟨(true,30,out++[e]),inv,by (repeat' (first|(exact ug (Co out e))|exact wJ|refine And.intro ?_ ?_));done⟩)|refine aS ?_|fail)
     |true=>
      rw [if_neg (by simp),List.nil_append] at uJ;have inv: ∀r,(r=30\/r=39)->(r=30\/r=39)/\out.length<=st.length+2/\out++((if c≠0 then [x] else [])++uF e true (st.drop (i+1)))=uF e false st:=fun r hr=>⟨hr,by omega,uJ⟩
      clear uJ;rcases hr with rfl|rfl
      ·repeat' ((conv=>whnf);first|refine sC c1 ?_|(exact ⟨(true,30,out),inv 30 (Or.inl rfl),by (repeat' (first|exact wJ|refine And.intro ?_ ?_));done⟩)|refine aS ?_|fail)
      ·repeat' ((conv=>whnf);first|refine sC c1 ?_|(exact ⟨(true,39,out),inv 39 (Or.inr rfl),by (repeat' (first|exact wJ|refine And.intro ?_ ?_));done⟩)|refine aS ?_|fail)
    ·have hd:decide (c≠ -1)=false:=by simp;omega
     rw [hd,Bool.or_false,if_neg (fun hh=>hh.1 (by omega)),List.nil_append] at uJ;have inv: ∀r,(r=30\/r=39)->(r=30\/r=39)/\out.length<=st.length+2/\out++((if c≠0 then [x] else [])++uF e d (st.drop (i+1)))=uF e false st:=fun r hr=>⟨hr,by omega,uJ⟩
     clear uJ;rcases hr with rfl|rfl
     ·repeat' ((conv=>whnf);first|refine su c1 ?_|(exact ⟨(d,30,out),inv 30 (Or.inl rfl),by (repeat' (first|exact wJ|refine And.intro ?_ ?_));done⟩)|refine aS ?_|fail)
     ·repeat' ((conv=>whnf);first|refine su c1 ?_|(exact ⟨(d,39,out),inv 39 (Or.inr rfl),by (repeat' (first|exact wJ|refine And.intro ?_ ?_));done⟩)|refine aS ?_|fail)
   clear hr uJ hol;rintro ⟨d,r,out⟩ ⟨hr,hol,i1⟩;dsimp only at hr hol i1;have hmu:st.length - (i+1)<st.length - i:=by omega
   by_cases c2:c=0
   ·rw [if_neg (by omega),List.nil_append] at i1;rcases hr with rfl|rfl
    ·have inv:i+1<=st.length/\(30=30\/30=39)/\out++uF e d (st.drop (i+1))=uF e false st:=⟨h,Or.inl rfl,i1⟩
     clear i1
     repeat' ((conv=>whnf);first|refine sF c2 ?_|(exact ⟨(i+1,d,30,out),inv,hmu,by (repeat' (first|exact wJ|refine And.intro ?_ ?_));done⟩)|refine aS ?_|fail)
    ·have inv:i+1<=st.length/\(39=30\/39=39)/\out++uF e d (st.drop (i+1))=uF e false st:=⟨h,Or.inr rfl,i1⟩
     clear i1
     repeat' ((conv=>whnf);first|refine sF c2 ?_|(exact ⟨(i+1,d,39,out),inv,hmu,by (repeat' (first|exact wJ|refine And.intro ?_ ?_));done⟩)|refine aS ?_|fail)
   ·rw [if_pos c2, <-List.append_assoc] at i1;have inv:i+1<=st.length/\(39=30\/39=39)/\(out++[x])++uF e d (st.drop (i+1))=uF e false st:=⟨h,Or.inr rfl,i1⟩
    clear i1;rcases hr with rfl|rfl <;> repeat' ((conv=>whnf);first|refine sG c2 ?_|(refine nv_ (.agg (uk x)) (by first|exact hg) ?_)|(exact ⟨(i+1,d,39,out++[x]),inv,hmu,by (repeat' (first|(exact ug (Co out x))|exact wJ|refine And.intro ?_ ?_));done⟩)|(refine And.intro (by first|exact uo _|((simp only [List.length_map];omega);done)|fail) ?_)|refine aS ?_|refine nT_ ?_)
  ·have hlt: ¬(i:Int)<((st.map um).length:Int):=by omega
   rw [List.drop_eq_nil_of_le h] at uJ
   repeat' ((conv=>whnf);first|refine su hlt ?_|(exact ⟨(d,r,out),⟨hr,uJ⟩,by (repeat' (first|exact wJ|refine And.intro ?_ ?_));done⟩)|refine aS ?_|fail)
 ·rintro ⟨d,r,out⟩ ⟨hr,uJ⟩;dsimp only at hr uJ;have hol:out.length<=st.length+1:=by
   have:=congrArg List.length uJ
   rw [List.length_append] at this;omega
  rw [<- uJ];cases d with
  |false=>
   have e1:uF e false []=[e]:=rfl;rw [e1,Co];rcases hr with rfl|rfl <;> repeat' ((conv=>whnf);first|refine aS ?_|exact trivial)
  |true=>
   have e1:uF e true []=[]:=rfl;rw [e1,List.append_nil];rcases hr with rfl|rfl <;> repeat' ((conv=>whnf);first|refine aS ?_|exact trivial)
end Go.ST
end
section
namespace Go.ST
open Go Go.DL Go.MM Go.Proofs
abbrev zeV:Value:=.agg #[.string ByteArray.empty,.slice none 0 0,.int .i64 0,.int .i64 0]
theorem yB:(Tryz.prog.info? 64).map (fun i=>(i.zero,i.size,i.bytes))=some (some zeV,4,56):=by kernel_rfl
theorem u9:Tryz.prog.underlying 25=some (.slice 64):=by kernel_rfl
abbrev uy(k:Nat):Array Value:=Builtin.zeroCells zeV.cells k
theorem C3(w:World)(ty:TypeId)(base:Option Addr)(n c:Nat)(olds:List Value)(hold:(Builtin.firstCells 4 n (.slice base n c)).run Tryz.prog w.drew= .ok olds.toArray w.drew)(b off m cap:Nat)(news:List Value)(hl:news.length=m * 4)
  (hc: ∀j u,news[j]? =some u->w.cell? ⟨b,off+j,none⟩=some u) (h1: ∀u∈news,u.oneCell'=true) (hg:c<n+m) (iI:(n+m) * 56<=140737488355328):
  (Builtin.append_ #[25,25] ty #[.slice base n c,.slice (some ⟨b,off,none⟩) m cap]).run Tryz.prog w=
   .ok (.slice (some ⟨w.heap.size,0,none⟩) (n+m) (grownCap w (n+m) c 64)) (w.drew.alloc (.cells ((olds++news).toArray++uy (grownCap w (n+m) c 64 - (n+m))) 64)):=by
 obtain ⟨i0,hi,hz0,hz1,hz2⟩:=info_parts yB;have tO:Src Tryz.prog i0.size 25 (.slice (some ⟨b,off,none⟩) m cap) m news w:=by
  rw [hz1];exact Src.ofSlice w u9 ⟨b,off,none⟩ m cap news hl (fun j u hj=>by rw [Addr.add_lit];exact hc j u hj) h1
 exact run_append_grow_src w 25 25 ty 64 i0 zeV u9 hi hz0 base n c olds (by rw [hz1];exact hold) _ m news tO hg (by omega) (by rw [hz2];exact growslice_fits hg iI)
theorem nil_eq(w:World)(a:Option Addr)(n c n' c':Nat):(binOp .eql 25 (.slice a n c) (.slice none n' c')).run Tryz.prog w= .ok (.bool a.isNone) w:=Lib.run_eql_slice_nil w _ _ a n c n' c' u9
theorem Es(b off n cap:Nat)(news:List Value)(w:World)(hn:0<n)(hl:news.length=n * 4)(iI:n * 56<=140737488355328)(hc: ∀j u,news[j]? =some u->w.cell? ⟨b,off+j,none⟩=some u)(h1: ∀u∈news,u.oneCell'=true):
  Calls Tryz.prog 114 #[.slice (some ⟨b,off,none⟩) n cap] w fun e w'=> ∃G,n<=G/\G<=maxLen/\e= .returned (.slice (some ⟨w.heap.size+1,0,none⟩) n G)/\
   w'=((w.alloc (.cells #[] 64)).drew.alloc (.cells (news.toArray++uy (G - n)) 64)):=by
 have q22:=nil_eq;have u22: ∀w,Sem.run Tryz.prog (underlying 25) w= .ok (TypeDesc.slice 64) w:=run_underlying u9;have mx:=mixed;have aJ:=fun ty=>C3 (w.alloc (.cells #[] 64)) ty (some ⟨w.heap.size,0,none⟩) 0 0 [] (run_firstCells_some (P:=Tryz.prog) (w.alloc (.cells #[] 64)).drew 4 0 ⟨w.heap.size,0,none⟩ 0 0 [] rfl (fun j v hj=>by simp at hj)) b off n cap news hl (fun j u hj=>Lib.cell?_alloc_some _ (hc j u hj)) h1 (by omega) (by omega)
 simp only [Nat.zero_add,List.nil_append] at aJ;have hge:=grownCap_ge (w.alloc (.cells #[] 64)) n 0 64;have hle:=grownCap_le_maxLen (w.alloc (.cells #[] 64)) n 0 64 (by unfold maxLen;omega);generalize grownCap (w.alloc (.cells #[] 64)) n 0 64=G at *
 have hsz:(w.alloc (.cells #[] 64)).heap.size=w.heap.size+1:=Array.size_push _;rw [hsz] at aJ
 go_enter Tryz.func114,Tryz.ntmps114
 go_wp2_with (at_builtin;refine Lib.wpList_append_run _ rfl _ _ _ _ rfl _ _ rfl rfl _ _ (aJ _) ?_)
 go_ret
 exact ⟨G,hge,hle,rfl,rfl⟩
theorem Dq(a:Option Addr)(cap:Nat)(w:World):Calls Tryz.prog 114 #[.slice a 0 cap] w fun e w'=> ∃b,e= .returned (.slice b 0 0)/\(w'=w\/w'=w.alloc (.cells #[] 64)):=by
 have q22:=nil_eq;have u22: ∀w,Sem.run Tryz.prog (underlying 25) w= .ok (TypeDesc.slice 64) w:=run_underlying u9;have mx:=mixed;obtain ⟨i0,hi,hz0,hz1,hz2⟩:=info_parts yB;cases a with
 |none=>
  go_enter Tryz.func114,Tryz.ntmps114
  go_wp2
  go_ret
  exact ⟨_,rfl,Or.inl rfl⟩
 |some a=>
  have aJ:=fun ty=>run_append_room_src (P:=Tryz.prog) (w.alloc (.cells #[] 64)) 25 25 ty 64 i0 u9 hi w.heap.size 0 0 0 (.slice (some a) 0 cap) 0 [] (Src.ofSlice (P:=Tryz.prog) (size:=i0.size) (w.alloc (.cells #[] 64)) u9 a 0 cap [] (by simp) (fun j u hj=>by simp at hj) (by simp)) (by omega) (fun j hj=>by simp at hj) (fun j hj=>by simp at hj)
  go_enter Tryz.func114,Tryz.ntmps114
  go_wp2_with (at_builtin;refine Lib.wpList_append_run _ rfl _ _ _ _ rfl _ _ rfl rfl _ _ (aJ _) ?_)
  go_ret
  exact ⟨_,rfl,Or.inr rfl⟩
theorem zN{P:Program}{ops:Array Oper}{o:Oper}{a:Act}{w:World}{K:Act->World->Prop}{Q:Exit->Act->World->Prop}{E:Prop}
  (hg:o.guard=none) (d x:Operand) (dT sT:TypeId) (hop:o.op=Op.call {callee:=Callee.builtin Builtin.copy,args:= #[d,x],argTypes:= #[dT,sT]})
  (v u:Value) (hd:a.eval d=v) (hx:a.eval x=u) {v':Value} {w':World} (hr:(Builtin.copy_ #[dT,sT] o.type #[v,u]).run P w= .ok v' w') (hK:K (a.put o.dst v') w'):
  if Region.wanted o (yielded ops a.tmps)=true then Oper.wp P o a w K Q else E:=by
 have hw:Region.wanted o (yielded ops a.tmps)=true:=by simp [Region.wanted,hg]
 rw [if_pos hw];unfold Oper.wp;simp [execOp,hop,resolve,invoke,builtin,hd,hx,hr,Result.andThen];exact hK
theorem vK(b:Nat)(vs:List Value)(o:Nat)(w:World)(h: ∀j,j<vs.length->(w.cell? ⟨b,o+j,none⟩).isSome=true)(k:Nat)(hk:(w.cell? ⟨b,k,none⟩).isSome=true):((w.setCells b o vs).cell? ⟨b,k,none⟩).isSome=true:=by
 by_cases hin:o<=k/\k<o+vs.length
 ·have:=World.cell?_setCells_in b vs o w h (k - o) (by omega)
  rw [show o+(k - o)=k by omega] at this;rw [this];rfl
 ·rw [World.cell?_setCells_out b vs o w ⟨b,k,none⟩ (fun _ _=>by show k<o\/o+vs.length<=k;omega)];exact hk
theorem szE:(Tryz.prog.info? 64).map (·.size)=some 4:=by
 obtain ⟨i0,hi,hz0,hz1,hz2⟩:=info_parts yB;rw [hi];simp [hz1]
theorem I0(w:World):(Go.sizeOf 64).run Tryz.prog w= .ok 4 w:=by
 obtain ⟨i0,hi,hz0,hz1,hz2⟩:=info_parts yB;simp [Go.sizeOf,typeInfo,hi,hz1]
theorem F6(b off n c i vb voff vc:Nat)(cs vs:List Value)(w:World)(hi:i<n)(bp:n+1<=c)(LY:c<=9223372036854775807)(hvb:vb≠b)
  (hcl:cs.length=n * 4) (hvl:vs.length=4)
  (hcs: ∀j v,cs[j]? =some v->w.cell? ⟨b,off+j,none⟩=some v) (hsp: ∀j,j<(n+1) * 4->(w.cell? ⟨b,off+j,none⟩).isSome=true) (hfz: ∀j,j<(n+1) * 4->w.frozen? ⟨b,off+j,none⟩=false)
  (hvs: ∀j v,vs[j]? =some v->w.cell? ⟨vb,voff+j,none⟩=some v) (h1c: ∀v∈cs,v.oneCell'=true) (h1v: ∀v∈vs,v.oneCell'=true)
  (tA tB:TypeId) (kA kB:Nat) (hsa:w.shape? vb=some (tA,kA)) (hsb:w.shape? b=some (tB,kB)) (hkB:kB≠0) (hfa:w.frozen? ⟨vb,voff,none⟩=false) (hfe:w.frozen? ⟨vb,kA,none⟩=false):
  Calls Tryz.prog 176 #[.slice (some ⟨b,off,none⟩) n c,.int .i64 i,.slice (some ⟨vb,voff,none⟩) 1 vc] w fun e w'=>
   e= .returned (.slice (some ⟨b,off,none⟩) (n+1) c)/\w'=(w.drew.setCells b (off+(i+1) * 4) (cs.drop (i * 4))).setCells b (off+i * 4) vs:=by
 have u24: ∀w,Sem.run Tryz.prog (underlying 25) w= .ok (TypeDesc.slice 64) w:=run_underlying u9;have mx:=mixed;have hz2: ¬((i:Int)=(n:Int)):=by omega
 have hsz:=szE;have hov: ∀lb cb,(callFunc 192 #[.slice (some ⟨vb,voff,none⟩) 1 vc,.slice (some ⟨b,off+(i+1) * 4,none⟩) lb cb]).run Tryz.prog w= .ok (.value (.bool false)) w:=fun lb cb=>by
  rw [run_callFunc_extern Tryz.func192 (by kernel_rfl) (by kernel_rfl) (by kernel_rfl) (e:=Extern.SlicesOverlaps.overlaps #[25,25] #[4]) (by kernel_rfl),
   Lib.run_overlaps_apart w 25 4 64 u9 4 I0 ⟨vb,voff,none⟩ ⟨b,off+(i+1) * 4,none⟩ 1 vc lb cb hvb tA tB kA kB hsa hsb hkB hfa hfe]
  rfl
 have hdl:(cs.drop (i * 4)).length=(n - i) * 4:=by rw [List.length_drop,hcl];omega
 have Jp: ∀ty dc sc,(Builtin.copy_ #[25,25] ty #[.slice (some ⟨b,off+(i+1) * 4,none⟩) (n - i) dc,.slice (some ⟨b,off+i * 4,none⟩) (n+1 - i) sc]).run Tryz.prog w.drew= .ok (goInt (Nat.min (n+1 - i) (n - i))) (w.drew.setCells b (off+(i+1) * 4) (cs.drop (i * 4))):=fun ty dc sc=>
  sO w.drew _ _ ty 64 4 b (off+(i+1) * 4) (n - i) dc ⟨b,off+i * 4,none⟩ (n+1 - i) sc (cs.drop (i * 4)) u9 hsz (by rw [hdl];simp only [Nat.min_def];split <;> omega)
   (fun j v hj=>by rw [Addr.add_lit,Nat.add_assoc];exact hcs (i * 4+j) v (by rwa [List.getElem?_drop] at hj))
   (fun j hj=>by rw [Nat.add_assoc];exact hsp _ (by omega)) (fun j hj=>by rw [Nat.add_assoc];exact hfz _ (by omega)) (fun v hv=>h1c v (List.mem_of_mem_drop hv))
 obtain ⟨W1,hW1⟩: ∃W1,W1=w.drew.setCells b (off+(i+1) * 4) (cs.drop (i * 4)):=⟨_,rfl⟩
 have Mg: ∀k,k<(n+1) * 4->(W1.cell? ⟨b,off+k,none⟩).isSome=true:=fun k hk=>by
  rw [hW1];exact vK b _ _ _ (fun j hj=>by rw [Nat.add_assoc];exact hsp _ (by omega)) _ (hsp k hk)
 have LZ: ∀(W:World),(∀ x,W.cell? x=W1.cell? x)->(∀ x,W.frozen? x=W1.frozen? x)-> ∀ty dc,(Builtin.copy_ #[25,25] ty #[.slice (some ⟨b,off+i * 4,none⟩) (n+1 - i) dc,.slice (some ⟨vb,voff,none⟩) 1 vc]).run Tryz.prog W= .ok (goInt (Nat.min 1 (n+1 - i))) (W.setCells b (off+i * 4) vs):=fun W hWc hWf ty dc=>
  sO W _ _ ty 64 4 b (off+i * 4) (n+1 - i) dc ⟨vb,voff,none⟩ 1 vc vs u9 hsz (by rw [hvl];simp only [Nat.min_def];split <;> omega)
   (fun j v hj=>by
    rw [Addr.add_lit,hWc,hW1,World.cell?_setCells_out b _ _ _ _ (fun h _=>absurd h hvb)];exact hvs j v hj)
   (fun j hj=>by rw [hWc,Nat.add_assoc];exact Mg _ (by omega)) (fun j hj=>by rw [hWf,hW1,World.frozen?_setCells,Nat.add_assoc];exact hfz _ (by omega)) h1v
 rw [<- hW1] at Jp;have hw1:IntKind.i64.wrap ((i:Int)+1)=(i:Int)+1:=by rw [IntKind.wrap_i64];omega
 have hw2:IntKind.i64.wrap ((n:Int)+1)=(n:Int)+1:=by rw [IntKind.wrap_i64];omega
 have hb1:(0:Int)<=(i:Int)+1:=by omega
 have hin:i<=n:=by omega
 have htn:((i:Int)+1).toNat=i+1:=by omega
 have NJ:((n:Int)+1).toNat=n+1:=by omega
 have hb2: ¬(c=i+1):=by omega
 have hb3:(i:Int)<=(n:Int)+1:=by omega
 have hb4: ¬(c=i):=by omega
 go_enter Tryz.func176,Tryz.ntmps176
 go_wp2_with (simp only [hov])
 go_region_law_o (refine zN rfl _ _ 25 25 rfl _ _ (by simp [Act.eval,Act.put]) (by simp [Act.eval,Act.put]) (Jp _ _ _) ?_)
 go_wp2_with (at_builtin;refine wpList_copy_run' _ rfl _ _ 25 25 rfl _ _ rfl rfl (LZ _ (fun _=>rfl) (fun _=>rfl) _ _) ?_)
 go_ret
 first|exact ⟨rfl,rfl⟩|exact ⟨rfl,by rw [hW1]⟩
theorem G6(b off n c vb voff vc:Nat)(vs:List Value)(w:World)(bp:n+1<=c)(LY:c<=9223372036854775807)
  (hvl:vs.length=4) (hsp: ∀j,j<4->(w.cell? ⟨b,off+n * 4+j,none⟩).isSome=true) (hfz: ∀j,j<4->w.frozen? ⟨b,off+n * 4+j,none⟩=false)
  (hvs: ∀j v,vs[j]? =some v->w.cell? ⟨vb,voff+j,none⟩=some v) (h1v: ∀v∈vs,v.oneCell'=true):
  Calls Tryz.prog 176 #[.slice (some ⟨b,off,none⟩) n c,.int .i64 n,.slice (some ⟨vb,voff,none⟩) 1 vc] w fun e w'=>
   e= .returned (.slice (some ⟨b,off,none⟩) (n+1) c)/\w'=w.setCells b (off+n * 4) vs:=by
 have u24: ∀w,Sem.run Tryz.prog (underlying 25) w= .ok (TypeDesc.slice 64) w:=run_underlying u9;have mx:=mixed;obtain ⟨i0,hi,hz0,hz1,hz2⟩:=info_parts yB;have tO:Src Tryz.prog i0.size 25 (.slice (some ⟨vb,voff,none⟩) 1 vc) 1 vs w:=by
  rw [hz1];exact Src.ofSlice w u9 ⟨vb,voff,none⟩ 1 vc vs (by omega) (fun j u hj=>by rw [Addr.add_lit];exact hvs j u hj) h1v
 have aJ:=fun ty=>run_append_room_src w 25 25 ty 64 i0 u9 hi b off n c _ 1 vs tO bp (by rw [hvl,hz1];exact hsp) (by rw [hvl,hz1];exact hfz)
 rw [hz1] at aJ
 go_enter Tryz.func176,Tryz.ntmps176
 go_wp2_with (at_builtin;refine Lib.wpList_append_run _ rfl _ _ _ _ rfl _ _ rfl rfl _ _ (aJ _) ?_)
 go_ret
 exact ⟨rfl,rfl⟩
theorem CV(base:Option Addr)(n c vb voff vc:Nat)(cs vs:List Value)(w:World)(bp:c<n+1)(iI:(n+1) * 56<=140737488355328)
  (hvl:vs.length=4) (hold:(Builtin.firstCells 4 n (.slice base n c)).run Tryz.prog w.drew= .ok cs.toArray w.drew)
  (hvs: ∀j v,vs[j]? =some v->w.cell? ⟨vb,voff+j,none⟩=some v) (h1v: ∀v∈vs,v.oneCell'=true):
  Calls Tryz.prog 176 #[.slice base n c,.int .i64 n,.slice (some ⟨vb,voff,none⟩) 1 vc] w fun e w'=>
   e= .returned (.slice (some ⟨w.heap.size,0,none⟩) (n+1) (grownCap w (n+1) c 64))/\
   w'=w.drew.alloc (.cells ((cs++vs).toArray++uy (grownCap w (n+1) c 64 - (n+1))) 64):=by
 have u24: ∀w,Sem.run Tryz.prog (underlying 25) w= .ok (TypeDesc.slice 64) w:=run_underlying u9;have mx:=mixed;have aJ:=fun ty=>C3 w ty base n c cs hold vb voff 1 vc vs (by omega) hvs h1v bp iI
 go_enter Tryz.func176,Tryz.ntmps176
 cases base with
 |none=>
  go_wp2_with (at_builtin;refine Lib.wpList_append_run _ rfl _ _ _ _ rfl _ _ rfl rfl _ _ (aJ _) ?_)
  all_goals (go_ret;exact ⟨rfl,rfl⟩)
 |some a=>
  obtain ⟨ab,ao,asp⟩:=a
  go_wp2_with (at_builtin;refine Lib.wpList_append_run _ rfl _ _ _ _ rfl _ _ rfl rfl _ _ (aJ _) ?_)
  all_goals (go_ret;exact ⟨rfl,rfl⟩)
theorem G5(b off n c i vb voff vc:Nat)(cs vs:List Value)(w:World)(hi:i<n)(hnc:n<=c)(bp:c<n+1)(iI:(n+1) * 56<=140737488355328)
  (hcl:cs.length=n * 4) (hvl:vs.length=4)
  (hcs: ∀j v,cs[j]? =some v->w.cell? ⟨b,off+j,none⟩=some v)
  (hvs: ∀j v,vs[j]? =some v->w.cell? ⟨vb,voff+j,none⟩=some v) (h1c: ∀v∈cs,v.oneCell'=true) (h1v: ∀v∈vs,v.oneCell'=true):
  Calls Tryz.prog 176 #[.slice (some ⟨b,off,none⟩) n c,.int .i64 i,.slice (some ⟨vb,voff,none⟩) 1 vc] w fun e w'=>
   e= .returned (.slice (some ⟨w.heap.size,0,none⟩) (n+1) (grownCap w (n+1) c 64))/\
   w'=(((w.alloc (.cells ((cs.take (i * 4)).toArray++uy (n+1 - i)++uy (grownCap w (n+1) c 64 - (n+1))) 64)).drew.setCells w.heap.size (i * 4) vs).drew).setCells w.heap.size ((i+1) * 4) (cs.drop (i * 4)):=by
 have u24: ∀w,Sem.run Tryz.prog (underlying 25) w= .ok (TypeDesc.slice 64) w:=run_underlying u9;have mx:=mixed;obtain ⟨i0,hi0,hz0,hzs,hzb⟩:=info_parts yB;have hz2: ¬((i:Int)=(n:Int)):=by omega
 have hz3:(c:Int)<(n:Int)+1:=by omega
 have hsz:=szE;have hbw:b<w.heap.size:=block_lt_of_cell (hcs 0 _ (ggZ (by omega)));have hvw:vb<w.heap.size:=block_lt_of_cell (hvs 0 _ (ggZ (by omega)));have hkk:(n:Int)+1 - (i:Int)=((n+1 - i:Nat):Int):=by omega
 have hik:i+(n+1 - i)=n+1:=by omega
 have hold:(Builtin.firstCells i0.size i (.slice (some ⟨b,off,none⟩) i c)).run Tryz.prog w.drew= .ok (cs.take (i * 4)).toArray w.drew:=by
  rw [hzs];exact run_firstCells_some w.drew 4 i ⟨b,off,none⟩ i c (cs.take (i * 4)) (by rw [List.length_take];omega) (fun j v hj=>by
   rw [Addr.add_lit];rw [List.getElem?_take] at hj;split at hj
   ·exact hcs j v hj
   ·cases hj)
 have undI:Tryz.prog.underlying 3=some (.int .i64):=by kernel_rfl
 have hrz: ∀ty,(Builtin.append_ #[25,3] ty #[.slice (some ⟨b,off,none⟩) i c,.int .i64 ((n:Int)+1 - (i:Int))]).run Tryz.prog w=
   .ok (.slice (some ⟨w.heap.size,0,none⟩) (n+1) (grownCap w (n+1) c 64)) (w.drew.alloc (.cells ((cs.take (i * 4)).toArray++uy (n+1 - i)++uy (grownCap w (n+1) c 64 - (n+1))) 64)):=fun ty=>by
  have h:=Lib.run_append_grow_zeros w 25 3 ty 64 i0 _ .i64 .i64 u9 undI hi0 hz0 (some ⟨b,off,none⟩) i c (cs.take (i * 4)) hold (n+1 - i) (by omega) (by omega) (by omega) (by omega) (by rw [hzb];omega) (by rw [hzb,hik];exact growslice_fits bp iI);rw [hik] at h;rw [hkk];exact h
 obtain ⟨G,hG⟩: ∃G,G=grownCap w (n+1) c 64:=⟨_,rfl⟩
 obtain ⟨ROW,BM⟩: ∃ROW:Array Value,ROW=(cs.take (i * 4)).toArray++uy (n+1 - i)++uy (G - (n+1)):=⟨_,rfl⟩
 rw [<- hG] at hrz ⊢;rw [<- BM] at hrz ⊢;have hzl: ∀k,(uy k).size=k * 4:=fun k=>by simp [uy,Builtin.zeroCells,Value.cells]
 have hRl:(n+1) * 4<=ROW.size:=by
  rw [BM,Array.size_append,Array.size_append,hzl,hzl,List.size_toArray,List.length_take];omega
 obtain ⟨W1,hW1⟩: ∃W1,W1=w.drew.alloc (.cells ROW 64):=⟨_,rfl⟩
 rw [<- hW1] at hrz;have hN: ∀j,j<(n+1) * 4->(W1.cell? ⟨w.heap.size,j,none⟩).isSome=true:=fun j hj=>by
  rw [hW1,World.cell?_alloc_at (w:=w.drew) ROW _ w.heap.size j rfl,Array.getElem?_eq_getElem (by omega)];rfl
 have hNf: ∀j,W1.frozen? ⟨w.heap.size,j,none⟩=false:=fun j=>by rw [hW1];exact World.frozen?_alloc_at (w:=w.drew) ROW _ w.heap.size j rfl
 have hOb: ∀j v,w.cell? ⟨b,j,none⟩=some v->W1.cell? ⟨b,j,none⟩=some v:=fun j v h=>by rw [hW1,World.cell?_alloc_past (w:=w.drew) _ b j hbw];exact h
 have hOv: ∀j v,w.cell? ⟨vb,j,none⟩=some v->W1.cell? ⟨vb,j,none⟩=some v:=fun j v h=>by rw [hW1,World.cell?_alloc_past (w:=w.drew) _ vb j hvw];exact h
 have L0: ∀(W:World),(∀ x,W.cell? x=W1.cell? x)->(∀ x,W.frozen? x=W1.frozen? x)-> ∀ty dc,(Builtin.copy_ #[25,25] ty #[.slice (some ⟨w.heap.size,i * 4,none⟩) (n+1 - i) dc,.slice (some ⟨vb,voff,none⟩) 1 vc]).run Tryz.prog W= .ok (goInt (Nat.min 1 (n+1 - i))) (W.setCells w.heap.size (i * 4) vs):=fun W hWc hWf ty dc=>
  sO W _ _ ty 64 4 w.heap.size (i * 4) (n+1 - i) dc ⟨vb,voff,none⟩ 1 vc vs u9 hsz (by rw [hvl];simp only [Nat.min_def];split <;> omega)
   (fun j v hj=>by rw [Addr.add_lit,hWc];exact hOv _ v (hvs j v hj))
   (fun j hj=>by rw [hWc];exact hN _ (by omega)) (fun j hj=>by rw [hWf];exact hNf _) h1v
 have hGn:n+1<=G:=by rw [hG];exact grownCap_ge w _ _ _
 have NB:G<=9223372036854775807:=by
  have:=grownCap_le_maxLen w (n+1) c 64 (by unfold maxLen;omega)
  rw [<- hG] at this;unfold maxLen at this;omega
 have hGi: ¬(G=i):=by omega
 have NC: ¬(G=i+1):=by omega
 have hci: ¬(c=i):=by omega
 have hbN:b≠w.heap.size:=by omega
 have hdl:(cs.drop (i * 4)).length=(n - i) * 4:=by rw [List.length_drop,hcl];omega
 have Jq: ∀(W:World),(∀ x,W.cell? x=(W1.setCells w.heap.size (i * 4) vs).cell? x)->(∀ x,W.frozen? x=(W1.setCells w.heap.size (i * 4) vs).frozen? x)-> ∀ty dc sc,(Builtin.copy_ #[25,25] ty #[.slice (some ⟨w.heap.size,(i+1) * 4,none⟩) (n - i) dc,.slice (some ⟨b,off+i * 4,none⟩) (n - i) sc]).run Tryz.prog W= .ok (goInt (Nat.min (n - i) (n - i))) (W.setCells w.heap.size ((i+1) * 4) (cs.drop (i * 4))):=fun W hWc hWf ty dc sc=>
  sO W _ _ ty 64 4 w.heap.size ((i+1) * 4) (n - i) dc ⟨b,off+i * 4,none⟩ (n - i) sc (cs.drop (i * 4)) u9 hsz (by rw [hdl];simp only [Nat.min_def];split <;> omega)
   (fun j v hj=>by
    rw [Addr.add_lit,hWc,World.cell?_setCells_out _ _ _ _ _ (fun h _=>absurd h hbN),Nat.add_assoc];exact hOb _ v (hcs (i * 4+j) v (by rwa [List.getElem?_drop] at hj)))
   (fun j hj=>by rw [hWc];exact vK _ _ _ _ (fun t ht=>hN _ (by omega)) _ (hN _ (by omega)))
   (fun j hj=>by rw [hWf,World.frozen?_setCells];exact hNf _) (fun v hv=>h1c v (List.mem_of_mem_drop hv))
 subst hW1;have hE1: ∀x,((w.alloc (.cells ROW 64)).drew).cell? x=(w.drew.alloc (.cells ROW 64)).cell? x:=fun x=>rfl
 have hE2: ∀x,((w.alloc (.cells ROW 64)).drew).frozen? x=(w.drew.alloc (.cells ROW 64)).frozen? x:=fun x=>rfl
 have hF1: ∀x,(((w.alloc (.cells ROW 64)).drew.setCells w.heap.size (i * 4) vs).drew).cell? x=((w.drew.alloc (.cells ROW 64)).setCells w.heap.size (i * 4) vs).cell? x:=fun x=>rfl
 have hF2: ∀x,(((w.alloc (.cells ROW 64)).drew.setCells w.heap.size (i * 4) vs).drew).frozen? x=((w.drew.alloc (.cells ROW 64)).setCells w.heap.size (i * 4) vs).frozen? x:=fun x=>rfl
 have hw1:IntKind.i64.wrap ((i:Int)+1)=(i:Int)+1:=by rw [IntKind.wrap_i64];omega
 have hw2:IntKind.i64.wrap ((n:Int)+1)=(n:Int)+1:=by rw [IntKind.wrap_i64];omega
 have hw3:IntKind.i64.wrap ((n:Int)+1 - (i:Int))=(n:Int)+1 - (i:Int):=by rw [IntKind.wrap_i64];omega
 have hb1:(0:Int)<=(i:Int)+1:=by omega
 have hin:i<=n:=by omega
 have htn:((i:Int)+1).toNat=i+1:=by omega
 have hb3:(i:Int)<=(n:Int):=by omega
 clear hkk hik hold BM hG hRl
 go_enter Tryz.func176,Tryz.ntmps176
 go_wp2_with (first
  |(at_builtin;refine Lib.wpList_append_run _ rfl _ _ _ _ rfl _ _ rfl rfl _ _ (hrz _) ?_)
  |(at_builtin;refine wpList_copy_run' _ rfl _ _ 25 25 rfl _ _ rfl rfl (L0 _ hE1 hE2 _ _) ?_)
  |(at_builtin;refine wpList_copy_run' _ rfl _ _ 25 25 rfl _ _ rfl rfl (Jq _ (fun _=>rfl) (fun _=>rfl) _ _ _) ?_))
 go_region_law_o (refine zN rfl _ _ 25 25 rfl (.slice (some ⟨w.heap.size,(i+1) * 4,none⟩) (n - i) (G - (i+1))) (.slice (some ⟨b,off+i * 4,none⟩) (n - i) (c - i)) (by simp [Act.eval,Act.put]) (by simp [Act.eval,Act.put]) (Jq _ hF1 hF2 3 (G - (i+1)) (c - i)) ?_)
 go_wp2
 go_ret
 exact ⟨rfl,rfl⟩
theorem ve{B:Nat}{a:World}(b:Nat)(hb:B<=b): ∀(vs:List Value) (o:Nat) (w:World),DL.Below B a w->DL.Below B a (w.setCells b o vs)
 |[],_,_,h=>h
 |v::r,o,_,h=>ve b hb r (o+1) _ ⟨h.toBelow.setCell (p:=⟨b,o,none⟩) hb v,h.dr⟩
theorem AI{w:World}{r i n:Nat}{cs vs:List Value}(hcl:cs.length=n * 4)(hvl:vs.length=4)(hi:i<=n)(h1: ∀(j:Nat) (v:Value),j<i * 4->cs[j]? =some v->w.cell? ⟨r,j,none⟩=some v)(h2: ∀(j:Nat) (v:Value),vs[j]? =some v->w.cell? ⟨r,i * 4+j,none⟩=some v)
  (h3: ∀(j:Nat) (v:Value),(cs.drop (i * 4))[j]? =some v->w.cell? ⟨r,(i+1) * 4+j,none⟩=some v): ∀(j:Nat) (u:Value),(cs.take (i * 4)++(vs++cs.drop (i * 4)))[j]? =some u->w.cell? ⟨r,j,none⟩=some u:=by
 intro j u hu;have htl:(cs.take (i * 4)).length=i * 4:=by rw [List.length_take];omega
 by_cases c1:j<i * 4
 ·rw [List.getElem?_append_left (by omega),List.getElem?_take_of_lt c1] at hu;exact h1 j u c1 hu
 ·rw [List.getElem?_append_right (by omega),htl] at hu
  by_cases c2:j - i * 4<4
  ·rw [List.getElem?_append_left (by omega)] at hu
   have:=h2 _ u hu
   rwa [show i * 4+(j - i * 4)=j by omega] at this
  ·rw [List.getElem?_append_right (by omega),hvl] at hu
   have:=h3 _ u hu
   rwa [show (i+1) * 4+(j - i * 4 - 4)=j by omega] at this
theorem Ip{W:World}{base g n G i vb:Nat}{cur:Array Value}{cs vs:List Value}(hg:W.heap[g]? =some (.cells cur 64 (0,0)))(dU:cur.size=G * 4)(hcs: ∀(j:Nat) (v:Value),cs[j]? =some v->cur[j]? =some v)(hcl:cs.length=n * 4)
  (hv:W.heap[vb]? =some (.cells vs.toArray 64 (0,0))) (hvl:vs.length=4) (hne:vb≠g) (hn:0<n) (hnG:n<=G) (hG:G<=9223372036854775807) (hi:i<=n) (iI:(n+1) * 56<=140737488355328)
  (h1c: ∀v∈cs,v.oneCell'=true) (h1v: ∀v∈vs,v.oneCell'=true) (hbg:base<=g) (hbW:base<=W.heap.size):
  Calls Tryz.prog 176 #[.slice (some ⟨g,0,none⟩) n G,.int .i64 i,.slice (some ⟨vb,0,none⟩) 1 1] W fun e w'=> ∃r c,e= .returned (.slice (some ⟨r,0,none⟩) (n+1) c)/\n+1<=c/\base<=r/\r<w'.heap.size/\DL.Below base W w'/\
   ∀(j:Nat) (u:Value),(cs.take (i * 4)++(vs++cs.drop (i * 4)))[j]? =some u->w'.cell? ⟨r,j,none⟩=some u:=by
 have cg: ∀j,W.cell? ⟨g,j,none⟩=cur[j]? :=fun j=>cell_of_row _ _ _ _ _ _ hg
 have cv: ∀j,W.cell? ⟨vb,j,none⟩=vs[j]? :=fun j=>by rw [cell_of_row _ _ _ _ _ _ hv];simp
 have fg: ∀j,W.frozen? ⟨g,j,none⟩=false:=fun j=>by unfold World.frozen?;simp [hg]
 have fv: ∀j,W.frozen? ⟨vb,j,none⟩=false:=fun j=>by unfold World.frozen?;simp [hv]
 have hgl:g<W.heap.size:=(Array.getElem?_eq_some_iff.1 hg).1;have GZ: ∀j v,cs[j]? =some v->W.cell? ⟨g,0+j,none⟩=some v:=fun j v h=>by rw [Nat.zero_add,cg];exact hcs j v h
 have Fm: ∀j v,vs[j]? =some v->W.cell? ⟨vb,0+j,none⟩=some v:=fun j v h=>by rw [Nat.zero_add,cv];exact h
 have sg:W.shape? g=some (64,G * 4):=by unfold World.shape?;simp [hg,dU]
 have sv:W.shape? vb=some (64,4):=by unfold World.shape?;simp [hv,hvl]
 have someG: ∀j,j<G * 4->(W.cell? ⟨g,j,none⟩).isSome=true:=fun j hj=>by rw [cg,Array.getElem?_eq_getElem (by omega)];rfl
 have szS: ∀(w:World) b o (vs:List Value),(w.setCells b o vs).heap.size=w.heap.size:=by
  intro w b o vs
  induction vs generalizing w o with
  |nil=>rfl
  |cons v r ih=>rw [World.setCells,ih];simp [World.setCell]
 rcases Nat.lt_or_ge i n with hin|hin
 ·rcases Nat.lt_or_ge n G with hr|hr
  ·refine (F6 g 0 n G i vb 0 1 cs vs W hin hr hG hne hcl hvl GZ (fun j hj=>by rw [Nat.zero_add];exact someG j (by omega)) (fun j _=>by rw [Nat.zero_add];exact fg j) Fm h1c h1v _ _ _ _ sv sg (by omega) (fv 0) (fv 4)).mono ?_;rintro e w' ⟨rfl,rfl⟩;simp only [Nat.zero_add];refine ⟨g,G,rfl,hr,hbg,by rw [szS,szS];exact hgl,ve g hbg _ _ _ (ve g hbg _ _ _ (DL.Below.refl _ _).drew),?_⟩;have hdl:(cs.drop (i * 4)).length=(n - i) * 4:=by rw [List.length_drop,hcl];omega
   have s1: ∀k,k<G * 4->((W.drew.setCells g ((i+1) * 4) (cs.drop (i * 4))).cell? ⟨g,k,none⟩).isSome=true:=fun k hk=>vK g (cs.drop (i * 4)) ((i+1) * 4) W.drew (fun j hj=>someG ((i+1) * 4+j) (by omega)) k (someG k hk)
   refine AI hcl hvl hi (fun j v hj hv=>?_) (fun j v hv=>?_) (fun j v hv=>?_)
   ·rw [World.cell?_setCells_out _ _ _ _ _ (fun _ _=>by left;show j<i * 4;omega),World.cell?_setCells_out _ _ _ _ _ (fun _ _=>by left;show j<(i+1) * 4;omega)];show W.cell? _=_
    rw [cg];exact hcs j v hv
   ·have hj:=(gsZ hv).1
    have:=World.cell?_setCells_in g vs (i * 4) _ (fun k hk=>s1 _ (by omega)) j hj
    rw [this, <-hv,ggZ hj]
   ·have hj:=(gsZ hv).1;rw [World.cell?_setCells_out _ _ _ _ _ (fun _ _=>by right;show i * 4+vs.length<=(i+1) * 4+j;omega)]
    have:=World.cell?_setCells_in g (cs.drop (i * 4)) ((i+1) * 4) W.drew (fun k hk=>someG _ (by omega)) j hj
    rw [this, <-hv,ggZ hj]
  ·refine (G5 g 0 n G i vb 0 1 cs vs W hin hnG (by omega) iI hcl hvl GZ Fm h1c h1v).mono ?_;rintro e w' ⟨rfl,rfl⟩;have hge:=grownCap_ge W (n+1) G 64;generalize grownCap W (n+1) G 64=C at *
   have hzl: ∀k,(uy k).size=k * 4:=fun k=>by simp [uy,Builtin.zeroCells,Value.cells]
   obtain ⟨ROW,BM⟩: ∃ROW:Array Value,ROW=(cs.take (i * 4)).toArray++uy (n+1 - i)++uy (C - (n+1)):=⟨_,rfl⟩
   rw [<- BM];have hRl:(n+1) * 4<=ROW.size:=by
    rw [BM,Array.size_append,Array.size_append,hzl,hzl,List.size_toArray,List.length_take];omega
   have hR1: ∀j v,j<i * 4->cs[j]? =some v->ROW[j]? =some v:=fun j v hj hv=>by
    rw [BM,Array.getElem?_append_left (by rw [Array.size_append,hzl,List.size_toArray,List.length_take];omega),Array.getElem?_append_left (by rw [List.size_toArray,List.length_take];omega),List.getElem?_toArray,List.getElem?_take_of_lt hj];exact hv
   have hsz:(W.alloc (.cells ROW 64)).heap.size=W.heap.size+1:=Array.size_push _;have hN: ∀j,(W.alloc (.cells ROW 64)).drew.cell? ⟨W.heap.size,j,none⟩=ROW[j]? :=fun j=>World.cell?_alloc_at ROW _ W.heap.size j rfl
   have hNs: ∀j,j<(n+1) * 4->((W.alloc (.cells ROW 64)).drew.cell? ⟨W.heap.size,j,none⟩).isSome=true:=fun j hj=>by rw [hN,Array.getElem?_eq_getElem (by omega)];rfl
   refine ⟨W.heap.size,C,rfl,hge,hbW,?_,ve _ hbW _ _ _ (ve _ hbW _ _ _ (((DL.Below.refl _ _).alloc hbW _).drew)).drew,?_⟩
   ·rw [szS];show _<(World.setCells _ _ _ _).heap.size
    rw [szS];show _<(W.alloc _).heap.size
    rw [hsz];omega
   have hdl:(cs.drop (i * 4)).length=(n - i) * 4:=by rw [List.length_drop,hcl];omega
   obtain ⟨W2,hW2⟩: ∃W2,W2=(W.alloc (.cells ROW 64)).drew.setCells W.heap.size (i * 4) vs:=⟨_,rfl⟩
   rw [<- hW2];have s1: ∀k,k<(n+1) * 4->(W2.drew.cell? ⟨W.heap.size,k,none⟩).isSome=true:=fun k hk=>by
    show (W2.cell? _).isSome=true
    rw [hW2];exact vK W.heap.size vs (i * 4) _ (fun j hj=>hNs (i * 4+j) (by omega)) k (hNs k hk)
   refine AI hcl hvl hi (fun j v hj hv=>?_) (fun j v hv=>?_) (fun j v hv=>?_)
   ·rw [World.cell?_setCells_out _ _ _ _ _ (fun _ _=>by left;show j<(i+1) * 4;omega)];show W2.cell? _=_
    rw [hW2,World.cell?_setCells_out _ _ _ _ _ (fun _ _=>by left;show j<i * 4;omega),hN];exact hR1 j v hj hv
   ·have hj:=(gsZ hv).1;rw [World.cell?_setCells_out _ _ _ _ _ (fun _ _=>by left;show i * 4+j<(i+1) * 4;omega)];show W2.cell? _=_
    rw [hW2]
    have:=World.cell?_setCells_in W.heap.size vs (i * 4) _ (fun k hk=>hNs _ (by omega)) j hj
    rw [this, <-hv,ggZ hj]
   ·have hj:=(gsZ hv).1
    have:=World.cell?_setCells_in W.heap.size (cs.drop (i * 4)) ((i+1) * 4) W2.drew (fun k hk=>s1 _ (by omega)) j hj
    rw [this, <-hv,ggZ hj]
 ·obtain rfl:i=n:=by omega
  have ht:cs.take (i * 4)=cs:=List.take_of_length_le (by omega);have hd:cs.drop (i * 4)=[]:=List.drop_eq_nil_of_le (by omega);rcases Nat.lt_or_ge i G with hr|hr
  ·refine (G6 g 0 i G vb 0 1 vs W hr hG hvl (fun j hj=>by rw [Nat.zero_add];exact someG _ (by omega)) (fun j _=>fg _) Fm h1v).mono ?_;rintro e w' ⟨rfl,rfl⟩;simp only [Nat.zero_add];refine ⟨g,G,rfl,hr,hbg,by rw [szS];exact hgl,ve g hbg _ _ _ (DL.Below.refl _ _),?_⟩;refine AI hcl hvl hi (fun j v hj hv=>?_) (fun j v hv=>?_) (fun j v hv=>?_)
   ·rw [World.cell?_setCells_out _ _ _ _ _ (fun _ _=>by left;show j<i * 4;omega),cg];exact hcs j v hv
   ·have hj:=(gsZ hv).1
    have:=World.cell?_setCells_in g vs (i * 4) W (fun k hk=>someG _ (by omega)) j hj
    rw [this, <-hv,ggZ hj]
   ·rw [hd] at hv;simp at hv
  ·have hold:(Builtin.firstCells 4 i (.slice (some ⟨g,0,none⟩) i G)).run Tryz.prog W.drew= .ok cs.toArray W.drew:=
    run_firstCells_some W.drew 4 i ⟨g,0,none⟩ i G cs hcl (fun j v hj=>by rw [Addr.add_lit];exact GZ j v hj)
   refine (CV (some ⟨g,0,none⟩) i G vb 0 1 cs vs W (by omega) iI hvl hold Fm h1v).mono ?_;rintro e w' ⟨rfl,rfl⟩;have hge:=grownCap_ge W (i+1) G 64;generalize grownCap W (i+1) G 64=C at *
   refine ⟨W.heap.size,C,rfl,hge,hbW,?_,(DL.Below.refl _ _).drew.alloc hbW _,?_⟩
   ·show _<(W.drew.alloc _).heap.size
    have:(W.drew.alloc (.cells ((cs++vs).toArray++uy (C - (i+1))) 64)).heap.size=W.heap.size+1:=Array.size_push _
    rw [this];omega
   ·intro j u hu;rw [ht,hd,List.append_nil] at hu;rw [World.cell?_alloc_at (w:=W.drew) _ _ W.heap.size j rfl,Array.getElem?_append_left (by rw [List.size_toArray];exact (gsZ hu).1),List.getElem?_toArray];exact hu
theorem II(v0:Value)(c0 c1 c2 c3:Value)(hc: ∀x∈[c0,c1,c2,c3],x.oneCell'=true)(b off n cap:Nat)(news:List Value)(w:World)(p:Nat)(hn:0<n)(hp:p<=n)(hl:news.length=n * 4)(iI:(n+1) * 56<=140737488355328)
  (hv0:v0= .slice (some ⟨b,off,none⟩) n cap) (cj: ∀j u,news[j]? =some u->w.cell? ⟨b,off+j,none⟩=some u) (h1: ∀u∈news,u.oneCell'=true)
  (wT:Calls Tryz.prog 76 #[v0,.agg #[c0,c1,c2,c3],.func (.func 29) #[] #[]] (w.alloc (.cells #[c0,c1,c2,c3] 64)) fun e w'=>e= .returned (.tuple #[.int .i64 p,.bool false])/\DL.Below (w.heap.size+1) (w.alloc (.cells #[c0,c1,c2,c3] 64)) w'):
  Calls Tryz.prog 139 #[v0,.agg #[c0,c1,c2,c3]] w fun e w'=> ∃r c,e= .returned (.slice (some ⟨r,0,none⟩) (n+1) c)/\n+1<=c/\w.heap.size<=r/\r<w'.heap.size/\DL.Below w.heap.size w w'/\
   ∀(j:Nat) (u:Value),(news.take (p * 4)++([c0,c1,c2,c3]++news.drop (p * 4)))[j]? =some u->w'.cell? ⟨r,j,none⟩=some u:=by
 have mx:=mixed;have q22:=nil_eq;have u22: ∀w,Sem.run Tryz.prog (underlying 25) w= .ok (TypeDesc.slice 64) w:=run_underlying u9;subst hv0;have hbw:b<w.heap.size:=block_lt_of_cell (cj 0 _ (ggZ (by omega)));have xK: ∀w1,DL.Below (w.heap.size+1) (w.alloc (.cells #[c0,c1,c2,c3] 64)) w1-> ∀j u,news[j]? =some u->w1.cell? ⟨b,off+j,none⟩=some u:=fun w1 h j u hu=>by
  rw [h.toBelow.cell (p:=⟨b,off+j,none⟩) (by show b<w.heap.size+1;omega)];exact Lib.cell?_alloc_some _ (cj j u hu)
 have qd: ∀w1 w2 G,DL.Below (w.heap.size+1) (w.alloc (.cells #[c0,c1,c2,c3] 64)) w1->w2=(w1.alloc (.cells #[] 64)).drew.alloc (.cells (news.toArray++uy (G - n)) 64)->
   w2.cell? ⟨w.heap.size,0,none⟩=some c0/\w2.cell? ⟨w.heap.size,1,none⟩=some c1/\w2.cell? ⟨w.heap.size,2,none⟩=some c2/\w2.cell? ⟨w.heap.size,3,none⟩=some c3/\DL.Below w.heap.size w w2/\w.heap.size<w1.heap.size/\w2.heap.size=w1.heap.size+2/\w2.heap[w1.heap.size+1]? =some (.cells (news.toArray++uy (G - n)) 64 (0,0)):=by
  intro w1 w2 G hb he;have hs0:(w.alloc (.cells #[c0,c1,c2,c3] 64)).heap.size=w.heap.size+1:=Array.size_push _;have hs1:w.heap.size<w1.heap.size:=by have:=hb.toBelow.size;omega
  have hsa:(w1.alloc (.cells #[] 64)).heap.size=w1.heap.size+1:=Array.size_push _;have hs2:w2.heap.size=w1.heap.size+2:=by
   rw [he]
   have:((w1.alloc (.cells #[] 64)).drew.alloc (.cells (news.toArray++uy (G - n)) 64)).heap.size=(w1.alloc (.cells #[] 64)).heap.size+1:=Array.size_push _
   rw [this,hsa]
  have wy: ∀(j:Nat) (u:Value), #[c0,c1,c2,c3][j]? =some u->w2.cell? ⟨w.heap.size,j,none⟩=some u:=fun j u hu=>by
   rw [he];refine Lib.cell?_alloc_some _ ?_;show (w1.alloc (.cells #[] 64)).cell? _=_
   refine Lib.cell?_alloc_some _ ?_;rw [hb.toBelow.cell (p:=⟨w.heap.size,j,none⟩) (by show w.heap.size<w.heap.size+1;omega),World.cell?_alloc_at _ _ w.heap.size j rfl];exact hu
  refine ⟨wy 0 c0 rfl,wy 1 c1 rfl,wy 2 c2 rfl,wy 3 c3 rfl,?_,hs1,hs2,?_⟩
  ·rw [he];exact (((((DL.Below.refl _ w).alloc (Nat.le_refl _) _).trans (hb.mono (Nat.le_succ _))).alloc (by omega) _).drew).alloc (by show w.heap.size<=(w1.alloc _).heap.size;rw [hsa];omega) _
  ·rw [he];show (((w1.alloc (.cells #[] 64)).heap.push (.cells (news.toArray++uy (G - n)) 64)))[w1.heap.size+1]? =_
   rw [<- hsa];exact Array.getElem?_push_size
 have hzl: ∀k,(uy k).size=k * 4:=fun k=>by simp [uy,Builtin.zeroCells,Value.cells]
 have G0: ∀w1 w2 G,n<=G->G<=maxLen->DL.Below (w.heap.size+1) (w.alloc (.cells #[c0,c1,c2,c3] 64)) w1->w2=(w1.alloc (.cells #[] 64)).drew.alloc (.cells (news.toArray++uy (G - n)) 64)->
   Calls Tryz.prog 176 #[.slice (some ⟨w1.heap.size+1,0,none⟩) n G,.int .i64 p,.slice (some ⟨w2.heap.size,0,none⟩) 1 1] (w2.alloc (.cells #[c0,c1,c2,c3] 64)) fun e w'=> ∃r c,e= .returned (.slice (some ⟨r,0,none⟩) (n+1) c)/\n+1<=c/\w.heap.size<=r/\r<w'.heap.size/\DL.Below w.heap.size w w'/\
    ∀(j:Nat) (u:Value),(news.take (p * 4)++([c0,c1,c2,c3]++news.drop (p * 4)))[j]? =some u->w'.cell? ⟨r,j,none⟩=some u:=by
  intro w1 w2 G hG1 hG2 hb he;obtain ⟨-, -, -, -,hB,hs1,hs2,mI⟩:=qd w1 w2 G hb he;have Kh:(w2.alloc (.cells #[c0,c1,c2,c3] 64)).heap[w1.heap.size+1]? =some (.cells (news.toArray++uy (G - n)) 64 (0,0)):=by
   rw [DL.Below.heap_alloc _ _ _ (by omega)];exact mI
  have hvb:(w2.alloc (.cells #[c0,c1,c2,c3] 64)).heap[w2.heap.size]? =some (.cells [c0,c1,c2,c3].toArray 64 (0,0)):=Array.getElem?_push_size;have hsv:(w2.alloc (.cells #[c0,c1,c2,c3] 64)).heap.size=w2.heap.size+1:=Array.size_push _;refine (Ip (base:=w.heap.size) Kh (by rw [Array.size_append,hzl,List.size_toArray,hl];omega) (fun j v hv=>by rw [Array.getElem?_append_left (by rw [List.size_toArray];exact (gsZ hv).1),List.getElem?_toArray];exact hv) hl hvb rfl (by omega) hn hG1 (by unfold maxLen at hG2;omega) hp iI h1 hc (by omega) (by omega)).mono ?_;rintro e w' ⟨r,c,rfl,q1,q2,q3,q4,q5⟩;exact ⟨r,c,rfl,q1,q2,q3,(hB.alloc (by omega) _).trans q4,q5⟩
 go_enter Tryz.func139,Tryz.ntmps139
 go_wp2_with (first
  |(go_at_call 76;refine wT.mono ?_;rintro e w1 ⟨rfl,hb1⟩)
  |(go_at_call 114;refine (Es b off n cap news w1 hn hl (by omega) (xK w1 hb1) h1).mono ?_;rintro e w2 ⟨G,hG1,hG2,rfl,hw2⟩;obtain ⟨k0,k1,k2,k3, -⟩:=qd w1 w2 G hb1 hw2;have A2:Aside (w2=(w1.alloc (.cells #[] 64)).drew.alloc (.cells (news.toArray++uy (G - n)) 64)):=hw2;clear hw2)
  |(go_at_call 176;refine (G0 w1 w2 G hG1 hG2 hb1 A2.out).mono ?_;rintro e w3 ⟨r,c,rfl,q⟩))
 go_ret
 exact ⟨r,c,rfl,q⟩
theorem IJ(c0 c1 c2 c3:Value)(hc: ∀x∈[c0,c1,c2,c3],x.oneCell'=true)(a:Option Addr)(cap:Nat)(w:World)
  (wT:Calls Tryz.prog 76 #[.slice a 0 cap,.agg #[c0,c1,c2,c3],.func (.func 29) #[] #[]] (w.alloc (.cells #[c0,c1,c2,c3] 64)) fun e w'=>e= .returned (.tuple #[.int .i64 0,.bool false])/\DL.Below (w.heap.size+1) (w.alloc (.cells #[c0,c1,c2,c3] 64)) w'):
  Calls Tryz.prog 139 #[.slice a 0 cap,.agg #[c0,c1,c2,c3]] w fun e w'=> ∃r c,e= .returned (.slice (some ⟨r,0,none⟩) 1 c)/\1<=c/\w.heap.size<=r/\r<w'.heap.size/\DL.Below w.heap.size w w'/\
   ∀(j:Nat) (u:Value),[c0,c1,c2,c3][j]? =some u->w'.cell? ⟨r,j,none⟩=some u:=by
 have mx:=mixed;have q22:=nil_eq;have u22: ∀w,Sem.run Tryz.prog (underlying 25) w= .ok (TypeDesc.slice 64) w:=run_underlying u9;have qd: ∀w1 w2:World,DL.Below (w.heap.size+1) (w.alloc (.cells #[c0,c1,c2,c3] 64)) w1->(w2=w1\/w2=w1.alloc (.cells #[] 64))->
   w2.cell? ⟨w.heap.size,0,none⟩=some c0/\w2.cell? ⟨w.heap.size,1,none⟩=some c1/\w2.cell? ⟨w.heap.size,2,none⟩=some c2/\w2.cell? ⟨w.heap.size,3,none⟩=some c3/\DL.Below w.heap.size w w2:=by
  intro w1 w2 hb he;have hs0:(w.alloc (.cells #[c0,c1,c2,c3] 64)).heap.size=w.heap.size+1:=Array.size_push _;have hs1:w.heap.size<w1.heap.size:=by have:=hb.toBelow.size;omega
  have xK: ∀(j:Nat) (u:Value), #[c0,c1,c2,c3][j]? =some u->w1.cell? ⟨w.heap.size,j,none⟩=some u:=fun j u hu=>by
   rw [hb.toBelow.cell (p:=⟨w.heap.size,j,none⟩) (by show w.heap.size<w.heap.size+1;omega),World.cell?_alloc_at _ _ w.heap.size j rfl];exact hu
  have hB1:DL.Below w.heap.size w w1:=((DL.Below.refl _ w).alloc (Nat.le_refl _) _).trans (hb.mono (Nat.le_succ _));rcases he with rfl|rfl
  ·exact ⟨xK 0 c0 rfl,xK 1 c1 rfl,xK 2 c2 rfl,xK 3 c3 rfl,hB1⟩
  ·have wy: ∀(j:Nat) (u:Value), #[c0,c1,c2,c3][j]? =some u->(w1.alloc (.cells #[] 64)).cell? ⟨w.heap.size,j,none⟩=some u:=fun j u hu=>Lib.cell?_alloc_some _ (xK j u hu)
   exact ⟨wy 0 c0 rfl,wy 1 c1 rfl,wy 2 c2 rfl,wy 3 c3 rfl,hB1.alloc (by omega) _⟩
 have G0: ∀(w2:World) (base:Option Addr),DL.Below w.heap.size w w2->
   Calls Tryz.prog 176 #[.slice base 0 0,.int .i64 0,.slice (some ⟨w2.heap.size,0,none⟩) 1 1] (w2.alloc (.cells #[c0,c1,c2,c3] 64)) fun e w'=> ∃r c,e= .returned (.slice (some ⟨r,0,none⟩) 1 c)/\1<=c/\w.heap.size<=r/\r<w'.heap.size/\DL.Below w.heap.size w w'/\
    ∀(j:Nat) (u:Value),[c0,c1,c2,c3][j]? =some u->w'.cell? ⟨r,j,none⟩=some u:=by
  intro w2 base hB;have hle:w.heap.size<=w2.heap.size:=hB.toBelow.size;have hsv:(w2.alloc (.cells #[c0,c1,c2,c3] 64)).heap.size=w2.heap.size+1:=Array.size_push _;have hold:(Builtin.firstCells 4 0 (.slice base 0 0)).run Tryz.prog (w2.alloc (.cells #[c0,c1,c2,c3] 64)).drew= .ok ([]:List Value).toArray (w2.alloc (.cells #[c0,c1,c2,c3] 64)).drew:=by
   cases base with
   |none=>exact run_firstCells_none _ 4 0 0 0
   |some a=>exact run_firstCells_some _ 4 0 a 0 0 [] rfl (fun j v hj=>by simp at hj)
  refine (CV base 0 0 w2.heap.size 0 1 [] [c0,c1,c2,c3] _ (by omega) (by omega) rfl hold (fun j v hv=>by rw [Nat.zero_add,World.cell?_alloc_at _ _ w2.heap.size j rfl, <-hv];simp) hc).mono ?_;rintro e w' ⟨rfl,rfl⟩;have hge:=grownCap_ge (w2.alloc (.cells #[c0,c1,c2,c3] 64)) (0+1) 0 64;generalize grownCap (w2.alloc (.cells #[c0,c1,c2,c3] 64)) (0+1) 0 64=C at *
  refine ⟨_,C,rfl,hge,by omega,?_,(((hB.alloc (by omega) _).drew).alloc (by show w.heap.size<=(w2.alloc _).heap.size;omega) _),?_⟩
  ·show _<(((w2.alloc (.cells #[c0,c1,c2,c3] 64)).drew).alloc _).heap.size
   have:(((w2.alloc (.cells #[c0,c1,c2,c3] 64)).drew).alloc (.cells (([]++[c0,c1,c2,c3]).toArray++uy (C - (0+1))) 64)).heap.size=(w2.alloc (.cells #[c0,c1,c2,c3] 64)).heap.size+1:=Array.size_push _
   rw [this];omega
  ·intro j u hu;rw [World.cell?_alloc_at (w:=(w2.alloc (.cells #[c0,c1,c2,c3] 64)).drew) _ _ (w2.alloc (.cells #[c0,c1,c2,c3] 64)).heap.size j rfl,Array.getElem?_append_left (by rw [List.size_toArray];exact (gsZ hu).1),List.getElem?_toArray];exact hu
 go_enter Tryz.func139,Tryz.ntmps139
 go_wp2_with (first
  |(go_at_call 76;refine wT.mono ?_;rintro e w1 ⟨rfl,hb1⟩)
  |(go_at_call 114;refine (Dq a cap w1).mono ?_;rintro e w2 ⟨bs,rfl,hw2⟩;obtain ⟨k0,k1,k2,k3,hB2⟩:=qd w1 w2 hb1 hw2;have A2:Aside (DL.Below w.heap.size w w2):=hB2;clear hw2 hB2)
  |(go_at_call 176;refine (G0 w2 bs A2.out).mono ?_;rintro e w3 ⟨r,c,rfl,q⟩))
 go_ret
 exact ⟨r,c,rfl,q⟩
theorem size_setCells(b:Nat)(vs:List Value): ∀(w:World) (o:Nat),(w.setCells b o vs).heap.size=w.heap.size:=by
 induction vs with
 |nil=>intro w o;rfl
 |cons v r ih=>intro w o;rw [World.setCells,ih];simp [World.setCell]
theorem Av(W:World)(g o:Nat)(v:Value)(h1:v.oneCell'=true)(hs:(W.cell? ⟨g,o,none⟩).isSome=true)(hf:W.frozen? ⟨g,o,none⟩=false):(store ⟨g,o,none⟩ v).run Tryz.prog W= .ok () (W.setCell ⟨g,o,none⟩ v):=by
 obtain ⟨u,hu⟩:=Option.isSome_iff_exists.1 hs;rw [run_store Tryz.prog W _ v _ h1];simp [hu,hf]
theorem JR(c0 c1 c2 c3:Value)(hc: ∀x∈[c0,c1,c2,c3],x.oneCell'=true)(W:World)(g p n:Nat)(news:List Value)(hp:p<n)(hl:news.length=n * 4)(hk: ∀(j:Nat) (u:Value),news[j]? =some u->W.cell? ⟨g,j,none⟩=some u)(hf: ∀j,W.frozen? ⟨g,j,none⟩=false):
  ∃Wa Wb Wc Wd:World,(store ⟨g,p * 4,none⟩ c0).run Tryz.prog W= .ok () Wa/\(store ⟨g,p * 4+1,none⟩ c1).run Tryz.prog Wa= .ok () Wb/\(store ⟨g,p * 4+2,none⟩ c2).run Tryz.prog Wb= .ok () Wc/\(store ⟨g,p * 4+3,none⟩ c3).run Tryz.prog Wc= .ok () Wd/\
   Wd=W.setCells g (p * 4) [c0,c1,c2,c3]/\ ∀(j:Nat) (u:Value),(news.take (p * 4)++([c0,c1,c2,c3]++news.drop ((p+1) * 4)))[j]? =some u->Wd.cell? ⟨g,j,none⟩=some u:=by
 have gX: ∀j,j<n * 4->(W.cell? ⟨g,j,none⟩).isSome=true:=fun j hj=>by rw [hk j _ (ggZ (by omega))];rfl
 have keep: ∀(V:World) (a:Addr) (v:Value) (j:Nat),(V.cell? ⟨g,j,none⟩).isSome=true->((V.setCell a v).cell? ⟨g,j,none⟩).isSome=true:=fun V a v j h=>by
  obtain ⟨u,hu⟩:=Option.isSome_iff_exists.1 h
  by_cases e:a=⟨g,j,none⟩
  ·subst e;rw [World.cell?_setCell_same _ _ _ hu];rfl
  ·rw [World.cell?_setCell_other _ _ _ _ e];exact h
 refine ⟨_,_,_,_,Av W g (p * 4) c0 (hc _ (by simp)) (gX _ (by omega)) (hf _),Av _ g (p * 4+1) c1 (hc _ (by simp)) (keep _ _ _ _ (gX _ (by omega))) (by rw [World.frozen?_setCell];exact hf _),
  Av _ g (p * 4+2) c2 (hc _ (by simp)) (keep _ _ _ _ (keep _ _ _ _ (gX _ (by omega)))) (by rw [World.frozen?_setCell,World.frozen?_setCell];exact hf _),Av _ g (p * 4+3) c3 (hc _ (by simp)) (keep _ _ _ _ (keep _ _ _ _ (keep _ _ _ _ (gX _ (by omega))))) (by rw [World.frozen?_setCell,World.frozen?_setCell,World.frozen?_setCell];exact hf _),rfl,?_⟩
 show ∀(j:Nat) (u:Value),_->(W.setCells g (p * 4) [c0,c1,c2,c3]).cell? _=_
 intro j u hu;have htl:(news.take (p * 4)).length=p * 4:=by rw [List.length_take];omega
 by_cases a1:j<p * 4
 ·rw [List.getElem?_append_left (by omega),List.getElem?_take_of_lt a1] at hu;rw [World.cell?_setCells_out _ _ _ _ _ (fun _ _=>by left;exact a1)];exact hk j u hu
 ·rw [List.getElem?_append_right (by omega),htl] at hu
  by_cases a2:j - p * 4<4
  ·rw [List.getElem?_append_left (by simpa using a2)] at hu
   have:=World.cell?_setCells_in g [c0,c1,c2,c3] (p * 4) W (fun k hk=>gX _ (by simp at hk;omega)) (j - p * 4) (by simpa using a2)
   rw [show p * 4+(j - p * 4)=j by omega] at this;rw [this, <-hu,ggZ (by simpa using a2)]
  ·rw [List.getElem?_append_right (by simp;omega),List.getElem?_drop] at hu;rw [World.cell?_setCells_out _ _ _ _ _ (fun _ _=>by right;show p * 4+4<=j;omega)];refine hk j u ?_;rw [<- hu]
   congr 1
   simp;omega
theorem IK(v0:Value)(c0 c1 c2 c3:Value)(hc: ∀x∈[c0,c1,c2,c3],x.oneCell'=true)(b off n cap:Nat)(news:List Value)(w:World)(p:Nat)(hp:p<n)(hl:news.length=n * 4)(iI:n * 56<=140737488355328)
  (hv0:v0= .slice (some ⟨b,off,none⟩) n cap) (cj: ∀j u,news[j]? =some u->w.cell? ⟨b,off+j,none⟩=some u) (h1: ∀u∈news,u.oneCell'=true)
  (wT:Calls Tryz.prog 76 #[v0,.agg #[c0,c1,c2,c3],.func (.func 29) #[] #[]] (w.alloc (.cells #[c0,c1,c2,c3] 64)) fun e w'=>e= .returned (.tuple #[.int .i64 p,.bool true])/\DL.Below (w.heap.size+1) (w.alloc (.cells #[c0,c1,c2,c3] 64)) w'):
  Calls Tryz.prog 139 #[v0,.agg #[c0,c1,c2,c3]] w fun e w'=> ∃r c,e= .returned (.slice (some ⟨r,0,none⟩) n c)/\n<=c/\w.heap.size<=r/\r<w'.heap.size/\DL.Below w.heap.size w w'/\
   ∀(j:Nat) (u:Value),(news.take (p * 4)++([c0,c1,c2,c3]++news.drop ((p+1) * 4)))[j]? =some u->w'.cell? ⟨r,j,none⟩=some u:=by
 have mx:=mixed;have q22:=nil_eq;have u22: ∀w,Sem.run Tryz.prog (underlying 25) w= .ok (TypeDesc.slice 64) w:=run_underlying u9;subst hv0;have hbw:b<w.heap.size:=block_lt_of_cell (cj 0 _ (ggZ (by omega)));have xK: ∀w1,DL.Below (w.heap.size+1) (w.alloc (.cells #[c0,c1,c2,c3] 64)) w1-> ∀j u,news[j]? =some u->w1.cell? ⟨b,off+j,none⟩=some u:=fun w1 h j u hu=>by
  rw [h.toBelow.cell (p:=⟨b,off+j,none⟩) (by show b<w.heap.size+1;omega)];exact Lib.cell?_alloc_some _ (cj j u hu)
 have hzl: ∀k,(uy k).size=k * 4:=fun k=>by simp [uy,Builtin.zeroCells,Value.cells]
 have qd: ∀w1 w2 G,n<=G->DL.Below (w.heap.size+1) (w.alloc (.cells #[c0,c1,c2,c3] 64)) w1->w2=(w1.alloc (.cells #[] 64)).drew.alloc (.cells (news.toArray++uy (G - n)) 64)->
   w2.cell? ⟨w.heap.size,0,none⟩=some c0/\w2.cell? ⟨w.heap.size,1,none⟩=some c1/\w2.cell? ⟨w.heap.size,2,none⟩=some c2/\w2.cell? ⟨w.heap.size,3,none⟩=some c3/\DL.Below w.heap.size w w2/\w.heap.size<w1.heap.size/\w2.heap.size=w1.heap.size+2/\(∀ j,w2.frozen? ⟨w1.heap.size+1,j,none⟩=false)/\
   (∀ (j:Nat) (u:Value),news[j]? =some u->w2.cell? ⟨w1.heap.size+1,j,none⟩=some u):=by
  intro w1 w2 G hG hb he;have hs0:(w.alloc (.cells #[c0,c1,c2,c3] 64)).heap.size=w.heap.size+1:=Array.size_push _;have hs1:w.heap.size<w1.heap.size:=by have:=hb.toBelow.size;omega
  have hsa:(w1.alloc (.cells #[] 64)).heap.size=w1.heap.size+1:=Array.size_push _;have hs2:w2.heap.size=w1.heap.size+2:=by
   rw [he]
   have:((w1.alloc (.cells #[] 64)).drew.alloc (.cells (news.toArray++uy (G - n)) 64)).heap.size=(w1.alloc (.cells #[] 64)).heap.size+1:=Array.size_push _
   rw [this,hsa]
  have wy: ∀(j:Nat) (u:Value), #[c0,c1,c2,c3][j]? =some u->w2.cell? ⟨w.heap.size,j,none⟩=some u:=fun j u hu=>by
   rw [he];refine Lib.cell?_alloc_some _ ?_;show (w1.alloc (.cells #[] 64)).cell? _=_
   refine Lib.cell?_alloc_some _ ?_;rw [hb.toBelow.cell (p:=⟨w.heap.size,j,none⟩) (by show w.heap.size<w.heap.size+1;omega),World.cell?_alloc_at _ _ w.heap.size j rfl];exact hu
  refine ⟨wy 0 c0 rfl,wy 1 c1 rfl,wy 2 c2 rfl,wy 3 c3 rfl,?_,hs1,hs2,fun j=>?_,fun j u hu=>?_⟩
  ·rw [he];exact (((((DL.Below.refl _ w).alloc (Nat.le_refl _) _).trans (hb.mono (Nat.le_succ _))).alloc (by omega) _).drew).alloc (by show w.heap.size<=(w1.alloc _).heap.size;rw [hsa];omega) _
  ·rw [he, <-hsa];exact World.frozen?_alloc_at (w:=(w1.alloc (.cells #[] 64)).drew) _ _ _ j rfl
  ·rw [he, <-hsa,World.cell?_alloc_at (w:=(w1.alloc (.cells #[] 64)).drew) _ _ (w1.alloc (.cells #[] 64)).heap.size j rfl,Array.getElem?_append_left (by rw [List.size_toArray];exact (gsZ hu).1),List.getElem?_toArray];exact hu
 go_enter Tryz.func139,Tryz.ntmps139
 go_wp2_with (first
  |(go_at_call 76;refine wT.mono ?_;rintro e w1 ⟨rfl,hb1⟩)
  |(go_at_call 114;refine (Es b off n cap news w1 (by omega) hl (by omega) (xK w1 hb1) h1).mono ?_;rintro e w2 ⟨G,hG1,hG2,rfl,hw2⟩;obtain ⟨k0,k1,k2,k3,kB,kS,kT,kf,kc⟩:=qd w1 w2 G hG1 hb1 hw2;have AB:Aside (DL.Below w.heap.size w w2/\w.heap.size<w1.heap.size/\w2.heap.size=w1.heap.size+2):=⟨kB,kS,kT⟩;clear kB kS kT;have A2:Aside (w2=(w1.alloc (.cells #[] 64)).drew.alloc (.cells (news.toArray++uy (G - n)) 64)):=hw2;clear hw2;obtain ⟨Wa,Wb,Wc,Wd,s0,s1,s2,s3,eD,kD⟩:=JR c0 c1 c2 c3 hc w2 (w1.heap.size+1) p n news hp hl kc kf;have AD:Aside (Wd=w2.setCells (w1.heap.size+1) (p * 4) [c0,c1,c2,c3]):=eD;clear eD kf kc))
 go_ret
 obtain ⟨kB,kS,kT⟩:=AB.out;refine ⟨w1.heap.size+1,G,rfl,hG1,by omega,?_,?_,kD⟩
 ·rw [AD.out,size_setCells];omega
 ·rw [AD.out];exact ve _ (by omega) _ _ _ kB
structure Al {α β:Type} (R:α->β->Prop) (xs:List α) (ts:List β):Prop where
 len:xs.length=ts.length
 at_: ∀(i:Nat) (x:α) (t:β),xs[i]? =some x->ts[i]? =some t->R x t
section
variable {α β:Type}{R:α->β->Prop}{xs ys:List α}{ts us:List β}
theorem Al.take(h:Al R xs ts)(k:Nat):Al R (xs.take k) (ts.take k):=⟨by rw [List.length_take,List.length_take,h.len],fun i x t hx ht=>by
 rw [List.getElem?_take] at hx ht;split at hx
 ·rename_i hk;rw [if_pos hk] at ht;exact h.at_ i x t hx ht
 ·cases hx⟩
theorem Al.drop(h:Al R xs ts)(k:Nat):Al R (xs.drop k) (ts.drop k):=⟨by rw [List.length_drop,List.length_drop,h.len],fun i x t hx ht=>by
 rw [List.getElem?_drop] at hx ht;exact h.at_ _ x t hx ht⟩
theorem Al.append(h:Al R xs ts)(k:Al R ys us):Al R (xs++ys) (ts++us):=⟨by rw [List.length_append,List.length_append,h.len,k.len],fun i x t hx ht=>by
 by_cases hi:i<xs.length
 ·rw [List.getElem?_append_left hi] at hx;rw [List.getElem?_append_left (by rw [<- h.len];exact hi)] at ht;exact h.at_ i x t hx ht
 ·rw [List.getElem?_append_right (by omega)] at hx;rw [List.getElem?_append_right (by rw [<- h.len];omega), <-h.len] at ht;exact k.at_ _ x t hx ht⟩
end
theorem yz(st:List RE):(st.map um).flatMap T.cells=st.flatMap uk:=by
 induction st with
 |nil=>rfl
 |cons x xs ih=>rw [List.map_cons,List.flatMap_cons,List.flatMap_cons,ih];rfl
theorem vo(st:List RE):(st.flatMap uk).length=st.length * 4:=by
 induction st with
 |nil=>rfl
 |cons x xs ih=>rw [List.flatMap_cons,List.length_append,ih,List.length_cons];show 4+_=_;omega
theorem zZ(st:List RE)(k:Nat):(st.take k).flatMap uk=(st.flatMap uk).take (k * 4):=by
 induction st generalizing k with
 |nil=>simp
 |cons x xs ih=>
  cases k with
  |zero=>simp
  |succ k=>
   rw [List.take_succ_cons,List.flatMap_cons,List.flatMap_cons,ih,show (k+1) * 4=(uk x).length+k * 4 by show _=4+k * 4;omega,List.take_append,List.take_of_length_le (l:=uk x) (Nat.le_add_right _ _),Nat.add_sub_cancel_left]
theorem zY(st:List RE)(k:Nat):(st.drop k).flatMap uk=(st.flatMap uk).drop (k * 4):=by
 induction st generalizing k with
 |nil=>simp
 |cons x xs ih=>
  cases k with
  |zero=>simp
  |succ k=>
   rw [List.drop_succ_cons,List.flatMap_cons,ih,show (k+1) * 4=(uk x).length+k * 4 by show _=4+k * 4;omega,List.drop_append];simp
theorem DT(st:List RE): ∀t∈st.flatMap uk,t.one=true:=fun t ht=>by
 obtain ⟨e,_,h⟩:=List.mem_flatMap.1 ht;simp only [uk,List.mem_cons,List.not_mem_nil,or_false] at h;rcases h with rfl|rfl|rfl|rfl <;> rfl
theorem JP{S:ar}{w:World}{r n c:Nat}{L:List Value}{st:List RE}(hn:st.length=n)(hc:n<=c)(hL:Al (fun x t=>Rep S w x t) L (st.flatMap uk))(cj: ∀(j:Nat) (u:Value),L[j]? =some u->w.cell? ⟨r,j,none⟩=some u)(hS: ∀o,S r o):
  Rep S w (.slice (some ⟨r,0,none⟩) n c) (esT st):=by
 refine Rep.slice (some ⟨r,0,none⟩) r 0 n c 4 (st.map um) (fun i=>L[i]?.getD undef) (by rw [List.length_map,hn]) hc (fun x hx=>?_) (fun t ht=>?_) (fun _=>rfl) (fun i hi=>?_) (fun i t ht=>?_)
 ·obtain ⟨e,_,rfl⟩:=List.mem_map.1 hx;rfl
 ·rw [yz] at ht;exact DT st t ht
 ·rw [yz, <-hL.len] at hi;rw [Nat.zero_add,cj i L[i] (ggZ hi),ggZ hi];exact ⟨rfl,hS i⟩
 ·rw [yz] at ht;have hi:=(gsZ ht).1;rw [<- hL.len] at hi;show Rep S w (L[i]?.getD undef) t
  rw [ggZ hi];exact hL.at_ i _ t (ggZ hi) ht
theorem KO(st:List RE)(hs:uP st)(hl:st.length<2^40)(hk: ∀x∈st,kOk x)(e:RE)(he:kOk e):DCalls Tryz.prog 139 [esT st,um e] (esT (uS e st)):=by
 refine ⟨eb Tryz.func139 rfl rfl,fun S w vs hS hG hlen aq=>?_⟩;obtain ⟨v0,v1,rfl⟩: ∃v0 v1,vs=[v0,v1]:=by
  match vs,hlen with
  |[a,b],_=>exact ⟨a,b,rfl⟩
 have r0:=aq 0 v0 _ rfl rfl;have r1:=aq 1 v1 _ rfl rfl;obtain ⟨c0,c1,c2,c3,rfl⟩: ∃c0 c1 c2 c3,v1= .agg #[c0,c1,c2,c3]:=by
  cases r1 with
  |agg cs ts hs h1 h=>
   have hs:cs.size=4:=hs;refine ⟨cs[0],cs[1],cs[2],cs[3],?_⟩
   congr 1
   apply Array.ext
   ·simp [hs]
   ·intro i h1 h2
    match i,h1 with
    |0,_|1,_|2,_|3,_=>rfl
    |i+4,h1=>omega
 have hcs:Al (fun x t=>Rep S w x t) [c0,c1,c2,c3] (uk e):=by
  cases r1 with
  |agg cs ts hs h1 h=>exact ⟨rfl,fun i x t hx ht=>h i x t (by rw [<- hx];simp) ht⟩
 have hc1: ∀x∈[c0,c1,c2,c3],x.oneCell'=true:=fun x hx=>by
  obtain ⟨i,hi,rfl⟩:=List.getElem_of_mem hx;have hi':i<(uk e).length:=hi;exact (hcs.at_ i _ _ (ggZ hi) (ggZ hi')).one (DT [e] _ (by simp [List.getElem_mem]))
 have hsz:(w.alloc (.cells #[c0,c1,c2,c3] 64)).heap.size=w.heap.size+1:=Array.size_push _;have hB1:DL.Below w.heap.size w (w.alloc (.cells #[c0,c1,c2,c3] 64)):=(DL.Below.refl _ w).alloc (Nat.le_refl _) _;have up: ∀{x:Value} {t:T},Rep S w x t->Rep S (w.alloc (.cells #[c0,c1,c2,c3] 64)) x t:=fun h=>h.mono (fun _ _ hs=>hs) (fun b o hs=>aC.dC hB1 (hS b o hs))
 have hpl:=(EP st hs hl hk e he).2 S (w.alloc (.cells #[c0,c1,c2,c3] 64)) [v0,.agg #[c0,c1,c2,c3],.func (.func 29) #[] #[]] (fun b o h=>by rw [hsz];have:=hS b o h;omega) (hG.up (fun _ _ h=>h) hB1) rfl (fun i v t hv ht=>by
  match i,hv,ht with
  |0,hv,ht=>cases hv;cases ht;exact up r0
  |1,hv,ht=>cases hv;cases ht;exact up r1
  |2,hv,ht=>cases hv;cases ht;exact .clos _ #[] [] rfl (fun i x t hx=>by simp at hx)
  |i+3,hv,_=>simp at hv)
 have wT:Calls Tryz.prog 76 #[v0,.agg #[c0,c1,c2,c3],.func (.func 29) #[] #[]] (w.alloc (.cells #[c0,c1,c2,c3] 64)) fun en w'=>en= .returned (.tuple #[.int .i64 (uO st e:Nat),.bool (isE st e)])/\DL.Below (w.heap.size+1) (w.alloc (.cells #[c0,c1,c2,c3] 64)) w':=by
  refine hpl.mono ?_;rintro en w' ⟨v,rfl,hb,hr⟩;rw [hsz] at hb;refine ⟨congrArg _ ?_,hb⟩;cases hr with
  |tup cs ts hs h=>
   have hs:cs.size=2:=hs;have e0:=h 0 cs[0] _ (Array.getElem?_eq_getElem (by omega)) rfl;have e1:=h 1 cs[1] _ (Array.getElem?_eq_getElem (by omega)) rfl;have e0:=e0.aA;have e1:=e1.aP
   congr 1
   apply Array.ext
   ·simp [hs]
   ·intro i h1 h2
    match i,h1 with
    |0,_=>exact e0
    |1,_=>exact e1
    |i+2,h1=>omega
 have G3:=Bj st e;have fin: ∀(w':World) (r n c:Nat) (news:List Value) (k:Nat),Al (fun x t=>Rep S w x t) news (st.flatMap uk)->(st.take (uO st e)++e::st.drop k).length=n->n<=c->w.heap.size<=r->r<w'.heap.size->DL.Below w.heap.size w w'->
   uS e st=st.take (uO st e)++e::st.drop k->(∀ (j:Nat) (u:Value),(news.take (uO st e * 4)++([c0,c1,c2,c3]++news.drop (k * 4)))[j]? =some u->w'.cell? ⟨r,j,none⟩=some u)->
   ∃v,Ending.returned (.slice (some ⟨r,0,none⟩) n c)= .returned v/\DL.Below w.heap.size w w'/\Rep (fun b o=>S b o\/(w.heap.size<=b/\b<w'.heap.size)) w' v (esT (uS e st)):=by
  intro w' r n c news k hA hn hc hr hr2 hb fc cj;refine ⟨_,rfl,hb,?_⟩;rw [fc];have hup: ∀{x:Value} {t:T},Rep S w x t->Rep (fun b o=>S b o\/(w.heap.size<=b/\b<w'.heap.size)) w' x t:=fun h=>h.mono (fun _ _ hs=>Or.inl hs) (fun b o hs=>aC.dC hb (hS b o hs))
  refine JP (L:=news.take (uO st e * 4)++([c0,c1,c2,c3]++news.drop (k * 4))) hn hc ?_ cj (fun o=>Or.inr ⟨hr,hr2⟩);rw [List.flatMap_append,List.flatMap_cons,zZ,zY];have hA':Al (fun x t=>Rep (fun b o=>S b o\/(w.heap.size<=b/\b<w'.heap.size)) w' x t) news (st.flatMap uk):=⟨hA.len,fun i x t hx ht=>hup (hA.at_ i x t hx ht)⟩
  have rZ:Al (fun x t=>Rep (fun b o=>S b o\/(w.heap.size<=b/\b<w'.heap.size)) w' x t) [c0,c1,c2,c3] (uk e):=⟨hcs.len,fun i x t hx ht=>hup (hcs.at_ i x t hx ht)⟩
  exact (hA'.take _).append (rZ.append (hA'.drop _))
 have fc:=DU hs e;have Ma:(uB st e.var e.key).isSome=isE st e:=rfl;rw [Ma] at fc
 by_cases h0:st=[]
 ·subst h0;obtain ⟨a,cap,rfl⟩: ∃a cap,v0= .slice a 0 cap:=by
   cases r0 with
   |slice a b o len cap n xs g hl hc hu h1 ha hg h=>
    have:len=0:=by simpa using hl.symm
    subst this;exact ⟨a,cap,rfl⟩
  have hp0:uO [] e=0:=rfl;have hi0:isE [] e=false:=rfl;rw [hi0] at wT;refine (IJ c0 c1 c2 c3 hc1 a cap w wT).mono ?_;rintro en w' ⟨r,c,rfl,q1,q2,q3,q4,q5⟩;exact fin w' r 1 c [] 0 ⟨rfl,fun i x t hx=>by simp at hx⟩ rfl q1 q2 q3 q4 rfl (fun j u hu=>q5 j u (by simpa using hu))
 ·have hn:0<st.length:=List.length_pos_iff.2 h0;obtain ⟨b,off,cap,news,hv0,hnl,F3,hA⟩: ∃b off cap news,v0= .slice (some ⟨b,off,none⟩) st.length cap/\news.length=st.length * 4/\(∀ (j:Nat) (u:Value),news[j]? =some u->w.cell? ⟨b,off+j,none⟩=some u)/\Al (fun x t=>Rep S w x t) news (st.flatMap uk):=by
   cases r0 with
   |slice a b o len cap n xs g hl hc hu h1 ha hg h=>
    rw [yz] at ha hg h;have hle:len=st.length:=by simpa using hl.symm
    subst hle;have hfl:=vo st;rw [ha (by omega)];refine ⟨b,o,cap,(List.range (st.length * 4)).map g,rfl,by simp,fun j u hu=>?_,by simp [hfl],fun i x t hx ht=>?_⟩
    ·obtain ⟨k,hk,rfl⟩:=List.getElem?_map .. ▸hu |> Option.map_eq_some_iff.1
     have hj:j<st.length * 4:=by
      have:=(gsZ hk).1
      simpa using this
     have:k=j:=by rw [List.getElem?_range hj] at hk;exact (Option.some.inj hk).symm
     subst this;exact (hg k (by omega)).1
    ·obtain ⟨k,hk,rfl⟩:=List.getElem?_map .. ▸hx |> Option.map_eq_some_iff.1
     have hj:i<st.length * 4:=by
      have:=(gsZ hk).1
      simpa using this
     have:k=i:=by rw [List.getElem?_range hj] at hk;exact (Option.some.inj hk).symm
     subst this;exact h k t ht
  have h1n: ∀u∈news,u.oneCell'=true:=fun u hu=>by
   obtain ⟨i,hi,rfl⟩:=List.getElem_of_mem hu;have hi':i<(st.flatMap uk).length:=by rw [<- hA.len];exact hi
   exact (hA.at_ i _ _ (ggZ hi) (ggZ hi')).one (DT st _ (List.getElem_mem hi'))
  cases hi:isE st e with
  |false=>
   rw [hi] at wT fc;refine (II v0 c0 c1 c2 c3 hc1 b off st.length cap news w (uO st e) hn G3 hnl (by omega) hv0 F3 h1n wT).mono ?_;rintro en w' ⟨r,c,rfl,q1,q2,q3,q4,q5⟩;exact fin w' r (st.length+1) c news (uO st e) hA (by rw [List.length_append,List.length_take,List.length_cons,List.length_drop];omega) q1 q2 q3 q4 fc q5
  |true=>
   rw [hi] at wT fc;have hlt:uO st e<st.length:=by
    rcases Nat.lt_or_ge (uO st e) st.length with h|h
    ·exact h
    ·rw [EB hs (by omega)] at hi;cases hi
   refine (IK v0 c0 c1 c2 c3 hc1 b off st.length cap news w (uO st e) hlt hnl (by omega) hv0 F3 h1n wT).mono ?_;rintro en w' ⟨r,c,rfl,q1,q2,q3,q4,q5⟩;exact fin w' r st.length c news (uO st e+1) hA (by rw [List.length_append,List.length_take,List.length_cons,List.length_drop];omega) q1 q2 q3 q4 fc q5
end Go.ST
end
noncomputable section
namespace Go.ST0
open Go Go.DL Go.Proofs
def c71:aV:=(sr [oo 3 (.box 1 (tm 1)),oo 4 (.mov (.const .nil))] (sr [mv 5 0,oo 6 (.call 114 [tm 5]),oo 7 (.mkfn 115 [tm 3]),oo 8 (.call 113 [(tm 6),(tm 7)]),mv 4 8] .ret))
theorem l71:(Tryz.f71.body.bind (bt Tryz.prog 9 []))=some c71:=by kernel_rfl
def GK:aV:=(sr [oo 4 (.mov (.const .nil))] (sr [mv 8 0,mv 9 1,oo 10 (.call 109 [(tm 8),(tm 9)]),mv 5 10] (.seq (sr [mv 11 5,oo 12 (.bin .eql (tm 11) (.const (.int .i64 (-1))))] (.cond (tm 12) (sr [mv 13 0,mv 4 13] .ret) .skip)) (.seq (sr [mv 14 5,oo 15 (.bin .add (tm 14) (Kc 1)),mv 6 15] (.block 0 (.loop (.seq (sr [mv 16 6,mv 17 0,ln 18 17,oo 19 (.bin .lss (tm 16) (tm 18))] (.cond (tm 19) .skip (.exit 0))) (.seq (.block 1 (sr [mv 22 0,mv 23 6,ix 24 4 22 23,lA 25 4 24,⟨some 7,.alloc [S0,.nil,Z0,Z0],none,[]⟩,o0 (.store 4 (tm 7) (tm 25))] (sr [mv 26 1,lA 27 4 7,oo 28 (.bY (tm 26) [tm 27]),oo 29 (.not (tm 28))] (.cond (tm 29) (sr [mv 30 0,mv 31 5,lA 32 4 7,ix 33 4 30 31,o0 (.store 4 (tm 33) (tm 32))] (rg [mv 34 5,oo 35 (.bin .add (tm 34) (Kc 1)),mv 5 35])) .skip)))) (rg [mv 20 6,oo 21 (.bin .add (tm 20) (Kc 1)),mv 6 21])))))) (sr [mv 36 0,mv 37 5,oo 38 (.slice 4 (tm 36) (some (tm 37)) none),⟨none,.clr 4 [S0,.nil,Z0,Z0] (tm 38),none,[]⟩] (sr [mv 39 0,mv 40 5,oo 41 (.slice 4 (tm 39) none (some (tm 40))),mv 4 41] .ret))))))
theorem G7:(Tryz.f113.body.bind (bt Tryz.prog 42 []))=some GK:=by kernel_rfl
end Go.ST0
end
section
namespace Go.ST
open Go Go.DL Go.MM Go.Proofs
open Go.TY hiding Fd
theorem Ht:DCalls Tryz.prog 114 [esT []] (esT []):=by
 refine ⟨eb Tryz.func114 rfl rfl,fun S w vs hS hG hlen aq=>?_⟩;obtain ⟨v0,rfl⟩: ∃v0,vs=[v0]:=by
  match vs,hlen with
  |[a],_=>exact ⟨a,rfl⟩
 have r0:=aq 0 v0 _ rfl rfl;obtain ⟨a,cap,rfl⟩: ∃a cap,v0= .slice a 0 cap:=by
  cases r0 with
  |slice a b o len cap n xs g hl hc hu h1 ha hg h=>
   have:len=0:=by simpa using hl.symm
   subst this;exact ⟨a,cap,rfl⟩
 refine (Dq a cap w).mono ?_;rintro e w' ⟨b,rfl,hw⟩;refine ⟨_,rfl,?_,?_⟩
 ·rcases hw with rfl|rfl
  ·exact DL.Below.refl _ _
  ·exact (DL.Below.refl _ _).alloc (Nat.le_refl _) _
 ·exact Rep.slice b 0 0 0 0 4 [] (fun _=>undef) rfl (Nat.le_refl _) (by simp) (by simp) (by simp) (fun i hi=>by simp at hi) (fun i t ht=>by simp at ht)
theorem C7(x:RE)(f:FuncId)(c:T)(b:Bool)(hf:DCalls Tryz.prog f [um x,c] (.bool b)):DCalls Tryz.prog 115 [um x,.cptr [.clos f [c]] 0] (.bool !b):=by
 refine dl2 mixed [.tmp 3] [.bool _] Tryz.func115 Mt ?_
 repeat' ((conv=>whnf);first|exact trivial|refine uc _ (hf) ?_|refine rbx ?_|(refine And.intro (by first|exact uo _) ?_)|refine aS ?_|refine nT_ ?_)
theorem AJ(st:List RE):chunk 4 st.length (st.flatMap uk)=st.map um:=by
 induction st with
 |nil=>rfl
 |cons x xs ih=>
  rw [List.flatMap_cons,List.length_cons,List.map_cons];show DL.elemOf 4 (List.take 4 (uk x++xs.flatMap uk))::chunk 4 xs.length (List.drop 4 (uk x++xs.flatMap uk))=_
  rw [show List.drop 4 (uk x++xs.flatMap uk)=xs.flatMap uk from rfl,ih];rfl
theorem CM: ∀(n:Nat) (a b:List T),n * 4<=a.length->chunk 4 n (a++b)=chunk 4 n a:=by
 intro n
 induction n with
 |zero=>intro a b _;rfl
 |succ n ih=>
  intro a b h;show DL.elemOf 4 ((a++b).take 4)::chunk 4 n ((a++b).drop 4)=DL.elemOf 4 (a.take 4)::chunk 4 n (a.drop 4)
  rw [List.take_append_of_le_length (by omega),List.drop_append_of_le_length (by omega),ih _ _ (by rw [List.length_drop];omega)]
theorem Ib(st:List RE)(k:Nat)(hk:k<=st.length):chunk 4 k (st.flatMap uk)=(st.take k).map um:=by
 have h:=CM;have e:st.flatMap uk=(st.take k).flatMap uk++(st.drop k).flatMap uk:=by rw [<- List.flatMap_append,List.take_append_drop]
 have hl:(st.take k).length=k:=by rw [List.length_take];omega
 rw [e,h k _ _ (by rw [vo,hl];omega)]
 have:=AJ (st.take k)
 rwa [hl] at this
theorem EW{L:List RE}{j:Nat}(h:j<L.length):((L.flatMap uk).drop (j * 4)).take 4=uk L[j]:=by
 rw [<- zY,List.drop_eq_getElem_cons h];rfl
theorem Hg{L:List RE}{i:Nat}(h:i<L.length)(e:RE):aN (L.flatMap uk) (i * 4) 4 (uk e)=(L.set i e).flatMap uk:=by
 unfold aN;rw [<- zZ,show i * 4+4=(i+1) * 4 by omega, <-zY,List.set_eq_take_append_cons_drop,if_pos h,List.flatMap_append,List.flatMap_cons]
theorem IA{ks:List Nat}{bx:Nat->Option BX}{n off a b size:Nat}(h:a=b):LeV ks bx (.view n off a size) (.view n off b size):=by rw [h];exact .same _
theorem Nh{ks:List Nat}{bx:Nat->Option BX}{n m:Nat}{ts us:List T}(h1:n=m)(h:ts=us):LeB ks bx (.d n ts) (some (.d m us)):=by rw [h,h1];exact .same _
theorem Jf{L:List RE}{i n:Nat}(hi:i<=n)(hL:L.length=n):aN (L.flatMap uk) (i * 4) ((n - i) * 4) (List.replicate (n - i) [T.str ⟨#[]⟩,.nil,I 0,I 0]).flatten=(L.take i).flatMap uk++(List.replicate (n - i) [T.str ⟨#[]⟩,.nil,I 0,I 0]).flatten:=by
 unfold aN;rw [<- zZ,List.drop_eq_nil_of_le (by rw [vo,hL];omega),List.append_nil]
theorem Fo{α:Type}{p:α->Bool}{xs:List α}{i:Nat}(h:we p xs=i): ∀j (hj:j<xs.length),j<i->p xs[j]=false:=by
 unfold we at h;cases hf:xs.findIdx? p with
 |none=>rw [hf] at h;dsimp only at h;omega
 |some k=>
  rw [hf] at h;obtain ⟨h1,h2,h3⟩:=List.findIdx?_eq_some_iff_getElem.1 hf;dsimp only at h;intro j hj hji
  have:=h3 j (by omega)
  simpa using this
theorem Hy(st:List RE)(hl:st.length<2^40)(f:FuncId)(c:T)(p:RE->Bool)(hf: ∀x∈st,DCalls Tryz.prog f [um x,c] (.bool (p x))):
  DCalls Tryz.prog 71 [esT st,.clos f [c]] (esT (st.filter p)):=by
 have hix:=BH st 115 (.cptr [.clos f [c]] 0) (fun x=> !p x) (by omega) fun i h=>C7 st[i] f c (p st[i]) (hf _ (List.getElem_mem h))
 rcases st with _|⟨x0,st0⟩
 ·refine dl2 mixed [.tmp 4] [.slice 4 _] Tryz.func71 ST0.l71 ?_;have hD:DCalls Tryz.prog 113 [esT [],.clos 115 [.cptr [.clos f [c]] 0]] (esT []):=by
   refine dl2 mixed [.tmp 4] [.slice 4 _] Tryz.func113 ST0.G7 ?_;have e:we (fun x=> !p x) ([]:List RE)= -1:=rfl;rw [e] at hix
   repeat' ((conv=>whnf);first|refine uc _ (hix) ?_|refine aE1 ?_|refine aS ?_|exact trivial)
  repeat' ((conv=>whnf);first|refine uc _ (Ht) ?_|refine uc _ (hD) ?_|refine aS ?_|exact trivial)
 generalize hst:x0::st0=st at *
 have aH:0<st.length:=by rw [<- hst];simp
 have hfl:0<((st.map um).flatMap T.cells).length:=by rw [yz,vo];omega
 refine dl2 mixed [.tmp 4] [.slice 4 _] Tryz.func71 l71 ?_
 repeat' ((conv=>whnf);first|refine aS ?_|fail)
 refine tW mixed Tryz.func114 Ms rfl rfl (rs:=[.tmp 2]) rfl 500 (nlZ rfl) ?_;have hap:4=4/\0<(st.map um).length/\(st.map um).length * 56<=140737488355328:=⟨rfl,by rw [List.length_map];exact aH,by rw [List.length_map];omega⟩
 repeat' ((conv=>whnf);first|(refine And.intro (by first|exact hfl|exact hap) ?_)|refine aS ?_|fail)
 refine ⟨_,rfl,?_⟩
 skip
 refine tW mixed Tryz.func113 G7 rfl rfl (rs:=[.tmp 4]) rfl 700 (nlZ rfl) ?_;have Fi: ∀(bx:Nat->Option BX),bx 507=some (.d ((st.map um).length * 4) ((st.map um).flatMap T.cells))->conv bx (.view 507 0 (st.map um).length 4)=some (esT st,[507]):=fun bx hb=>by
  have:conv bx (.view 507 0 (st.map um).length 4)=(match bx 507 with|some (.d m ts)=>cond (Nat.blt 0 4&&Nat.ble (0+(st.map um).length * 4) m) (some (T.slice 4 (chunk 4 (st.map um).length (ts.drop 0)),[507])) none|_=>none):=rfl
  rw [this,hb];simp only;have h1:Nat.ble (0+(st.map um).length * 4) ((st.map um).length * 4)=true:=Nat.ble_eq_true_of_le (by omega);rw [h1,List.drop_zero,yz,List.length_map,AJ];rfl
 have hcv: ∀(bx:Nat->Option BX) (L:List RE) (k:Nat),bx 507=some (.d (st.length * 4) (L.flatMap uk))->L.length=st.length->k<=L.length->conv bx (.view 507 0 k 4)=some (esT (L.take k),[507]):=fun bx L k hb hL hk=>by
  have:conv bx (.view 507 0 k 4)=(match bx 507 with|some (.d m ts)=>cond (Nat.blt 0 4&&Nat.ble (0+k * 4) m) (some (T.slice 4 (chunk 4 k (ts.drop 0)),[507])) none|_=>none):=rfl
  rw [this,hb];simp only;have h1:Nat.ble (0+k * 4) (st.length * 4)=true:=Nat.ble_eq_true_of_le (by omega);rw [h1,List.drop_zero,Ib L k hk];rfl
 conv=>whnf
 split
 ·rename_i ts heq;have e:=heq.symm.trans (sU (Fi _ rfl) rfl);cases e
 rotate_left
 ·rename_i heq;have e:=heq.symm.trans (sU (Fi _ rfl) rfl);cases e
 rename_i ts r0 rs heq;have e:=heq.symm.trans (sU (Fi _ rfl) rfl);cases e;refine ⟨_,hix,rfl,?_⟩;clear heq;rcases AR (fun x=> !p x) st with ⟨hx,hno⟩|⟨k,hk,hx,hfd⟩
 ·have L8:st.filter p=st:=by
   rw [List.filter_eq_self];intro x hx
   have:=List.find?_eq_none.1 hno x hx
   simpa using this
  rw [L8];have hE:we (fun x=> !p x) st= -1:=hx
  repeat' ((conv=>whnf);first|refine sE hE ?_|refine aS ?_|fail)
  refine ⟨_,rfl,?_⟩
  skip
  refine ⟨?_,trivial⟩;have hr0: ∀bx:Nat->Option BX,bx 507=some (.d ((st.map um).length * 4) ((st.map um).flatMap T.cells))->Option.map (fun x=>x.1) (og bx (.view 507 0 (st.map um).length 4))=some (esT st):=fun bx hb=>congrArg (Option.map Prod.fst) (Fi bx hb)
  refine hr0 _ ?_;rfl
 ·have hkp:p st[k]=false:=by simpa using List.find?_some hfd
  have LX:(st.take (k+1)).filter p=st.take k:=by
   rw [List.take_succ_eq_append_getElem hk,List.filter_append];have h1:(st.take k).filter p=st.take k:=by
    rw [List.filter_eq_self];intro x hxm;obtain ⟨j,hj,rfl⟩:=List.getElem_of_mem hxm;rw [List.length_take] at hj;rw [List.getElem_take]
    have:=Fo hx j (by omega) (by omega)
    simpa using this
   rw [h1];simp [hkp]
  have hE:we (fun x=> !p x) st≠ -1:=by rw [hx];omega
  have hA:((k:Nat):Int)=we (fun x=> !p x) st:=hx.symm;have hB:((k+1:Nat):Int)=IntKind.wrap .i64 (we (fun x=> !p x) st+1):=by rw [hx,nW] <;> omega
  have hLm:st.length=(st.map um).length:=by rw [List.length_map]
  have hLn:st.length * 4=(st.map um).length * 4:=by rw [List.length_map]
  have hcl: ∀x∈st,DCalls Tryz.prog 115 [um x,.cptr [.clos f [c]] 0] (.bool !(p x)):=fun x hx=>C7 x f c (p x) (hf x hx)
  repeat' ((conv=>whnf);first|refine sD hE ?_|refine aS ?_|fail)
  refine tx 0 (α:=Nat×Nat×List RE) (β:=Nat×List RE) (fun q=>{sl:=[(0,.view 507 0 st.length 4),(1,.fn 115 [.ptr 3 0]),(5,.t (I q.1)),(6,.t (I ((q.2.1+1:Nat):Int)))],bx:=[(3,.d 1 [.clos f [c]]),(507,.d (st.length * 4) (q.2.2.flatMap uk))],gh:=[],off:=700})
   (fun q=>q.1<q.2.1+1/\q.2.1+1<=st.length/\q.2.2.length=st.length/\q.2.2.take q.1=(st.take (q.2.1+1)).filter p/\q.2.2.drop (q.2.1+1)=st.drop (q.2.1+1)) (fun q=>st.length - q.2.1)
   (fun q=>{sl:=[(0,.view 507 0 st.length 4),(5,.t (I q.1))],bx:=[(507,.d (st.length * 4) (q.2.flatMap uk))],gh:=[],off:=700}) (fun q=>q.1<st.length/\q.2.length=st.length/\q.2.take q.1=st.filter p) (k,k,st) ⟨Nat.lt_succ_self k,hk,rfl,LX.symm,rfl⟩ ?_ ?_ ?_
  ·repeat' (first|(exact leI hA)|(exact leI hB)|(exact IA hLm)|(exact Nh hLn (yz st).symm)|exact wJ|refine And.intro ?_ ?_)
  ·rintro ⟨i,j',L⟩ ⟨q1,q2,q3,q4,q5⟩;dsimp only at q1 q2 q3 q4 q5;rcases Nat.lt_or_ge (j'+1) st.length with hj|hj
   ·have hlt:((j'+1:Nat):Int)<(st.length:Int):=by omega
    have hjL:j'+1<L.length:=by omega
    have hxL:L[j'+1]=st[j'+1]:=by
     have e:L[j'+1]? =st[j'+1]? :=by have:=congrArg List.head? q5;simpa [List.head?_drop] using this
     rw [ggZ hjL,ggZ hj] at e;exact Option.some.inj e
    have gU:T.agg (((L.flatMap uk).drop (0+((j'+1:Nat):Int).toNat * 4)).take 4)= .agg (uk st[j'+1]):=by
     rw [Int.toNat_natCast,Nat.zero_add,EW hjL,hxL]
    have cP:=hcl st[j'+1] (List.getElem_mem hj);have hff:(st.take (j'+1+1)).filter p=L.take i++(if p st[j'+1] then [st[j'+1]] else []):=by
     rw [List.take_succ_eq_append_getElem hj,List.filter_append,q4];cases h:p st[j'+1] <;> simp [h]
    have De:L.drop (j'+1+1)=st.drop (j'+1+1):=by
     rw [List.drop_eq_getElem_cons hjL,List.drop_eq_getElem_cons hj] at q5;exact (List.cons.inj q5).2
    have hJ:((j'+1+1:Nat):Int)=IntKind.wrap .i64 (((j'+1:Nat):Int)+1):=by rw [nW] <;> omega
    have hI:((i+1:Nat):Int)=IntKind.wrap .i64 ((i:Int)+1):=by rw [nW] <;> omega
    generalize hxx:st[j'+1]=x at *
    cases hp:p x with
    |false=>
     rw [hp] at hff cP
     repeat' ((conv=>whnf);first|refine sC hlt ?_|(refine nv_ (.agg (uk x)) (by first|exact gU) ?_)|refine ⟨_,cP,rfl,?_⟩|(refine And.intro (by first|exact uo _|((simp;omega);done)|fail) ?_)|refine aS ?_|fail)
     exact ⟨(i,j'+1,L),⟨by dsimp only;omega,hj,q3,by rw [hff];simp,De⟩,by dsimp only;omega,by repeat' (first|(exact leI hJ)|exact wJ|refine And.intro ?_ ?_)⟩
    |true=>
     rw [hp] at hff cP;have hi:i<L.length:=by omega
     have tN:=Hg hi x;have Ki:(L.set i x).flatMap uk=aN (L.flatMap uk) (0+((i:Nat):Int).toNat * 4) 4 (uk x):=by rw [Int.toNat_natCast,Nat.zero_add,tN]
     have Mh:(aN [T.str ⟨#[]⟩,.nil,I 0,I 0] 0 4 (uk x)).length=4/\0+((i:Nat):Int).toNat * 4+4<=st.length * 4:=⟨rfl,by rw [Int.toNat_natCast];omega⟩
     repeat' ((conv=>whnf);first|refine sC hlt ?_|(refine nv_ (.agg (uk x)) (by first|exact gU) ?_)|refine ⟨_,cP,rfl,?_⟩|(refine And.intro (by first|exact uo _|exact Mh|((simp;omega);done)|fail) ?_)|refine aS ?_|fail)
     refine ⟨(i+1,j'+1,L.set i x),⟨by dsimp only;omega,hj,by simpa using q3,?_,?_⟩,by dsimp only;omega,by repeat' (first|(exact leI hJ)|(exact leI hI)|(exact ui Ki)|exact wJ|refine And.intro ?_ ?_)⟩
     ·rw [hff,List.take_set,List.take_succ_eq_append_getElem hi,List.set_append_right _ _ (by simp;omega)];simp [List.length_take,Nat.min_eq_left (Nat.le_of_lt hi)]
     ·show (L.set i x).drop (j'+1+1)=_
      rw [List.drop_set_of_lt (by omega)];exact De
   ·have hlt: ¬((j'+1:Nat):Int)<(st.length:Int):=by omega
    have hj2:j'+1=st.length:=by omega
    rw [hj2,List.take_length] at q4
    repeat' ((conv=>whnf);first|refine su hlt ?_|refine aS ?_|fail)
    exact ⟨(i,L),⟨by dsimp only;omega,q3,q4⟩,by repeat' (first|exact wJ|refine And.intro ?_ ?_)⟩
  ·rintro ⟨i,L⟩ ⟨q1,q3,q4⟩;dsimp only at q1 q3 q4;have hz:aN (L.flatMap uk) (0+((i:Nat):Int).toNat * 4) ((((st.length:Nat):Int).toNat - ((i:Nat):Int).toNat) * 4) (List.replicate (((st.length:Nat):Int).toNat - ((i:Nat):Int).toNat) [T.str ⟨#[]⟩,.nil,I 0,I 0]).flatten=(L.take i).flatMap uk++(List.replicate (st.length - i) [T.str ⟨#[]⟩,.nil,I 0,I 0]).flatten:=by
    rw [Int.toNat_natCast,Int.toNat_natCast,Nat.zero_add];exact Jf (by omega) q3
   have hr1: ∀bx:Nat->Option BX,bx 507=some (.d (st.length * 4) (aN (L.flatMap uk) (0+((i:Nat):Int).toNat * 4) ((((st.length:Nat):Int).toNat - ((i:Nat):Int).toNat) * 4) (List.replicate (((st.length:Nat):Int).toNat - ((i:Nat):Int).toNat) [T.str ⟨#[]⟩,.nil,I 0,I 0]).flatten))->Option.map (fun x=>x.1) (og bx (.view 507 0 i 4))=some (esT (st.filter p)):=fun bx hb=>by
    have h0:og bx (.view 507 0 i 4)=(match bx 507 with|some (.d m ts)=>cond (Nat.blt 0 4&&Nat.ble (0+i * 4) m) (some (T.slice 4 (chunk 4 i (ts.drop 0)),[507])) none|_=>none):=rfl;rw [h0,hb];simp only;have h1:Nat.ble (0+i * 4) (st.length * 4)=true:=Nat.ble_eq_true_of_le (by omega);have hl2:(L.take i).length=i:=by rw [List.length_take];omega
    have h2:=AJ (L.take i);rw [hl2] at h2;rw [h1,List.drop_zero,hz,CM i _ _ (by rw [vo,hl2];omega),h2,q4];rfl
   refine And.intro (by dsimp only;simp only [Int.toNat_natCast];omega) ?_
   conv=>whnf
   refine And.intro (by dsimp only;omega) ?_
   conv=>whnf
   refine And.intro (by dsimp only;omega) ?_
   conv=>whnf
   refine ⟨_,rfl,?_⟩
   conv=>whnf
   refine And.intro ?_ trivial;refine hr1 _ ?_;rfl
end Go.ST
end
section
namespace Go.ST1
open Go Go.DL Go.Proofs
noncomputable def c22:aV:=(.seq (.cut (rg [oo 3 (.box 1 (tm 1)),oo 4 (.mov (.const .nil))])) (sr [mv 5 0,oo 6 (.mkfn 72 [tm 3]),oo 7 (.call 71 [(tm 5),(tm 6)]),mv 4 7] .ret))
theorem l22:(Tryz.f22.body.bind (bt Tryz.prog 8 [6000000]))=some c22:=by kernel_rfl
end Go.ST1
end
section
namespace Go.ST
open Go Go.DL Go.MM Go.Proofs
open Go.TY hiding Fd
theorem KM(x:RE)(v:ByteArray):DCalls Tryz.prog 72 [um x,.cptr [.str v] 0] (.bool (decide (x.var=v))):=by
 refine dl2 mixed [.tmp 3] [.bool _] Tryz.func72 l72 ?_;have h:=eqS x.var v
 repeat' ((conv=>whnf);first|exact trivial|refine nb_ _ h ?_|refine rbx ?_|(refine And.intro (by first|exact uo _) ?_)|refine aS ?_|refine nT_ ?_)
theorem Nx(st:List RE)(v:ByteArray)(hl:st.length<2^40):DCalls Tryz.prog 22 [esT st,.str v] (esT (ofE st v)):=by
 refine dl2 mixed [.tmp 4] [.slice 4 _] Tryz.func22 Go.ST1.l22 ?_;have h:=Hy st hl 72 (.cptr [.str v] 0) (fun e=>decide (e.var=v)) fun x _=>KM x v
 refine tV (β:=Unit) (fun _=>{sl:=[(0,.t (esT st)),(3,.t (.cptr [.str v] 0))],bx:=[]}) (fun _=>True) ?_ ?_
 ·repeat' ((conv=>whnf);first|(exact ⟨(),trivial,by (repeat' (first|(exact LeV.conv _ _ _ rfl (fun n _ hk=>absurd (show n∈([]:List Nat) from hk) (by simp)))|exact wJ|refine And.intro ?_ ?_));done⟩)|refine aS ?_|fail)
 rintro _ _
 repeat' ((conv=>whnf);first|refine uc _ (h) ?_|refine aS ?_|exact trivial)
end Go.ST
end
section
namespace Go.Proofs
open Go.Shelf
def Tryz.Cc:Go.Shelf.Ren:=⟨fun|4=>119|n=>n,fun|22=>25|25=>64|3=>3|4=>4|9=>9|20=>20|0=>0|n=>n,fun|n=>n⟩
theorem Tryz.Bx:Go.Proofs.Lays8.n4 Tryz.prog Tryz.Cc:={
 mixed:=by kernel_rfl
 f4:=⟨Tryz.f119.name,by decide,Tryz.func119.trans (congrArg some (by kernel_rfl))⟩
 t0:=Tryz.underlying0
 a0:=Tryz.isAgg0
 z0:=Tryz.sizeOf0
 v0:=Tryz.zeroValue0
 t3:=Tryz.underlying3
 a3:=Tryz.isAgg3
 z3:=Tryz.sizeOf3
 v3:=Tryz.zeroValue3
 t4:=Tryz.underlying4
 a4:=Tryz.isAgg4
 z4:=Tryz.sizeOf4
 v4:=Tryz.zeroValue4
 t9:=Tryz.underlying9
 a9:=Tryz.isAgg9
 z9:=Tryz.sizeOf9
 v9:=Tryz.zeroValue9
 t20:=Tryz.underlying20
 a20:=Tryz.isAgg20
 z20:=Tryz.sizeOf20
 v20:=Tryz.zeroValue20
 t22:=Tryz.underlying25
 a22:=Tryz.isAgg25
 z22:=Tryz.sizeOf25
 v22:=Tryz.zeroValue25 }
end Go.Proofs
end
section
namespace Go.ST
open Go Go.DL Go.MM Go.Proofs Go.Shelf Go.RowKit
theorem I2(w:World)(p:Option Addr)(n c:Nat)(news:List Value)(hl:news.length=n * 4)(hp:p=none->n=0)(hc: ∀a,p=some a-> ∀(j:Nat) (u:Value),news[j]? =some u->w.cell? (a.add j)=some u)(h1: ∀u∈news,u.oneCell'=true):
  Src Tryz.prog 4 25 (.slice p n c) n news w:=by
 cases p with
 |none=>
  have:=hp rfl
  subst this
  have:news=[]:=List.eq_nil_of_length_eq_zero (by omega)
  subst this;exact Src.ofNil w u9 c
 |some a=>exact Src.ofSlice w u9 a n c news hl (hc a rfl) h1
theorem Ka(w:World):Calls Tryz.prog 119 #[.slice none 0 0,.int .i64 0] w fun e w'=>e= .returned (.slice none 0 0)/\w'=w:=
 Any8.slices_Grow_room Tryz.Bx none 0 0 0 w (Nat.le_refl _) (by omega) (by omega) (by omega)
theorem Kb(w:World)(n:Nat)(m:Int)(hm:m=n)(h:0<n)(hb:n<2^40):Calls Tryz.prog 119 #[.slice none 0 0,.int .i64 m] w fun e w'=> ∃G,n<=G/\e= .returned (.slice (some ⟨w.heap.size,0,none⟩) 0 G)/\w'=w.drew.alloc (.cells (uy n++uy (G - n)) 64):=by
 subst hm;obtain ⟨i0,hi,hz0,hz1,hz2⟩:=info_parts yB;refine (Any8.slices_Grow_grow Tryz.Bx i0 zeV hi hz0 (by omega) none 0 0 n [] w (Nat.le_refl _) (by omega) (by rw [hz2];omega) (by omega) (by simp) (fun _=>rfl) (fun a h=>by cases h)).mono ?_;rintro e w' ⟨rfl,rfl⟩;refine ⟨_,Nat.le_trans (Nat.le_of_eq (Nat.zero_add n).symm) (grownCap_ge _ _ _ _),rfl,?_⟩;simp;rfl
theorem C4(w:World)(ty:TypeId)(g n G m:Nat)(x:Value)(news:List Value)(hs:Src Tryz.prog 4 25 x m news w)(bp:n+m<=G)(hc: ∀j,j<G * 4->(w.cell? ⟨g,j,none⟩).isSome=true)(hf: ∀j,w.frozen? ⟨g,j,none⟩=false):
  (Builtin.append_ #[25,25] ty #[.slice (some ⟨g,0,none⟩) n G,x]).run Tryz.prog w= .ok (.slice (some ⟨g,0,none⟩) (n+m) G) (w.setCells g (n * 4) news):=by
 obtain ⟨i0,hi,hz0,hz1,hz2⟩:=info_parts yB
 have:=run_append_room_src (P:=Tryz.prog) w 25 25 ty 64 i0 u9 hi g 0 n G x m news (by rw [hz1];exact hs) bp (fun j hj=>by rw [hz1];exact hc _ (by have:=hs.newsLen;omega)) (fun j _=>hf _)
 rw [hz1,Nat.zero_add] at this;exact this
theorem Ig(W:World)(vb cap na ca nb cb:Nat)(pa pb:Option Addr)(A B:List Value)(k0:W.cell? ⟨vb,0,none⟩=some (.slice pa na ca))(k1:W.cell? ⟨vb,1,none⟩=some (.slice pb nb cb))(hna:na<2^30)(hnb:nb<2^30)
  (sA: ∀w',DL.Below W.heap.size W w'->Src Tryz.prog 4 25 (.slice pa na ca) na A w') (sB: ∀w',DL.Below W.heap.size W w'->Src Tryz.prog 4 25 (.slice pb nb cb) nb B w') (h0:0<na+nb):
  Calls Tryz.prog 77 #[.slice (some ⟨vb,0,none⟩) 2 cap] W fun e w'=> ∃G,na+nb<=G/\e= .returned (.slice (some ⟨W.heap.size,0,none⟩) (na+nb) G)/\
   w'=((W.drew.alloc (.cells (uy (na+nb)++uy (G - (na+nb))) 64)).setCells W.heap.size 0 A).setCells W.heap.size (na * 4) B:=by
 have q22:=nil_eq;have u22: ∀w,Sem.run Tryz.prog (underlying 25) w= .ok (TypeDesc.slice 64) w:=run_underlying u9;have mx:=mixed;have w1:wrap64 (na:Int)=na:=by unfold wrap64;omega
 have w2:wrap64 ((na:Int)+nb)=((na+nb:Nat):Int):=by unfold wrap64;omega
 have n1: ¬((na:Int)<0):=by omega
 have n2: ¬(((na+nb:Nat):Int)<0):=by omega
 have NI:W.drew.heap.size=W.heap.size:=rfl;have hB1: ∀G,DL.Below W.heap.size W (W.drew.alloc (.cells (uy (na+nb)++uy (G - (na+nb))) 64)):=fun G=>((DL.Below.refl _ _).drew).alloc (Nat.le_refl _) _
 have hbv:vb<W.heap.size:=block_lt_of_cell k0;have hk0: ∀w',DL.Below W.heap.size W w'->w'.cell? ⟨vb,0,none⟩=some (.slice pa na ca):=fun w' h=>by rw [h.toBelow.cell (p:=⟨vb,0,none⟩) hbv];exact k0
 have hk1: ∀w',DL.Below W.heap.size W w'->w'.cell? ⟨vb,1,none⟩=some (.slice pb nb cb):=fun w' h=>by rw [h.toBelow.cell (p:=⟨vb,1,none⟩) hbv];exact k1
 have hzl: ∀k,(uy k).size=k * 4:=fun k=>by simp [uy,Builtin.zeroCells,Value.cells]
 have c1: ∀G,na+nb<=G-> ∀j,j<G * 4->((W.drew.alloc (.cells (uy (na+nb)++uy (G - (na+nb))) 64)).cell? ⟨W.heap.size,j,none⟩).isSome=true:=fun G hG j hj=>by
  rw [World.cell?_alloc_at (w:=W.drew) _ _ W.heap.size j rfl,Array.getElem?_eq_getElem (by rw [Array.size_append,hzl,hzl];omega)];rfl
 have f1: ∀G j,(W.drew.alloc (.cells (uy (na+nb)++uy (G - (na+nb))) 64)).frozen? ⟨W.heap.size,j,none⟩=false:=fun G j=>World.frozen?_alloc_at (w:=W.drew) _ _ W.heap.size j rfl
 go_enter Tryz.func77,Tryz.ntmps77
 go_wp2
 refine wp_loop_rounds 3 ?_;rw [rounds_succ]
 go_wp2
 rw [rounds_succ]
 go_wp2
 rw [rounds_succ]
 go_wp2_with (go_at_call 119;refine (Kb W (na+nb) _ (by omega) h0 (by omega)).mono ?_;rintro e w' ⟨G,hG,rfl,hw'⟩;have AW:Aside (w'=W.drew.alloc (.cells (uy (na+nb)++uy (G - (na+nb))) 64)):=hw';clear hw')
 have hw':=AW.out;have hB:=hB1 G;have hC:=c1 G hG;have hF:=f1 G;rw [<- hw'] at hB hC hF;have hC2: ∀j,j<G * 4->((w'.setCells W.heap.size 0 A).cell? ⟨W.heap.size,j,none⟩).isSome=true:=fun j hj=>by
  have hAl:=(sA W (DL.Below.refl _ _)).newsLen;exact vK _ A 0 w' (fun t ht=>by rw [Nat.zero_add];exact hC t (by omega)) j (hC j hj)
 have hB2:DL.Below W.heap.size W (w'.setCells W.heap.size 0 A):=ve _ (Nat.le_refl _) _ _ _ hB;have r1:=fun ty=>C4 w' ty W.heap.size 0 G na (.slice pa na ca) A (sA w' hB) (by omega) hC hF
 have r2:=fun ty=>C4 (w'.setCells W.heap.size 0 A) ty W.heap.size na G nb (.slice pb nb cb) B (sB _ hB2) (by omega) hC2 (fun j=>by rw [World.frozen?_setCells];exact hF j)
 have q0:=hk0 w' hB;have q1:=hk1 _ hB2;simp only [Nat.zero_add,Nat.zero_mul] at r1;clear hw' hB hB2 hC hC2 hF hB1 c1 f1 hk0 hk1 sA sB k0 k1;obtain ⟨W2,hW2⟩: ∃W2,W2=w'.setCells W.heap.size 0 A:=⟨_,rfl⟩
 rw [<- hW2] at r1 r2 q1;have A2:Aside (W2=w'.setCells W.heap.size 0 A):=hW2;clear hW2;refine wp_loop_rounds 3 ?_;rw [rounds_succ]
 go_wp2_with (at_builtin;refine Lib.wpList_append_run _ rfl _ _ _ _ rfl _ _ rfl rfl _ _ (r1 _) ?_)
 rw [rounds_succ]
 go_wp2_with (at_builtin;refine Lib.wpList_append_run _ rfl _ _ _ _ rfl _ _ rfl rfl _ _ (r2 _) ?_)
 rw [rounds_succ]
 go_wp2
 go_ret
 exact ⟨G,hG,rfl,by rw [A2.out,AW.out]⟩
theorem D5(w:World)(ty:TypeId)(x:Value)(hs:Src Tryz.prog 4 25 x 0 [] w):(Builtin.append_ #[25,25] ty #[.slice none 0 0,x]).run Tryz.prog w= .ok (.slice none 0 0) w:=by
 obtain ⟨i0,hi,hz0,hz1,hz2⟩:=info_parts yB;have h4:=hs.cells;have h5:=hs.cellsD;rcases hs.kind with ⟨e',hk⟩|hk <;> simp [Builtin.append_,run_underlying u9,sizeOf,typeInfo,hi,hz1,hs.len,h4]
theorem Ie(W:World)(vb cap ca cb:Nat)(pa pb:Option Addr)(k0:W.cell? ⟨vb,0,none⟩=some (.slice pa 0 ca))(k1:W.cell? ⟨vb,1,none⟩=some (.slice pb 0 cb))
  (sA:Src Tryz.prog 4 25 (.slice pa 0 ca) 0 [] W) (sB:Src Tryz.prog 4 25 (.slice pb 0 cb) 0 [] W):
  Calls Tryz.prog 77 #[.slice (some ⟨vb,0,none⟩) 2 cap] W fun e w'=>e= .returned (.slice none 0 0)/\w'=W:=by
 have q22:=nil_eq;have u22: ∀w,Sem.run Tryz.prog (underlying 25) w= .ok (TypeDesc.slice 64) w:=run_underlying u9;have mx:=mixed;have r1:=fun ty=>D5 W ty _ sA
 have r2:=fun ty=>D5 W ty _ sB
 go_enter Tryz.func77,Tryz.ntmps77
 go_wp2
 refine wp_loop_rounds 3 ?_;rw [rounds_succ]
 go_wp2
 rw [rounds_succ]
 go_wp2
 rw [rounds_succ]
 go_wp2_with (go_at_call 119;refine (Ka W).mono ?_;rintro e w' ⟨rfl,rfl⟩)
 refine wp_loop_rounds 3 ?_;rw [rounds_succ]
 go_wp2_with (at_builtin;refine Lib.wpList_append_run _ rfl _ _ _ _ rfl _ _ rfl rfl _ _ (r1 _) ?_)
 rw [rounds_succ]
 go_wp2_with (at_builtin;refine Lib.wpList_append_run _ rfl _ _ _ _ rfl _ _ rfl rfl _ _ (r2 _) ?_)
 rw [rounds_succ]
 go_wp2
 go_ret
 exact ⟨rfl,rfl⟩
end Go.ST
end
section
namespace Go.ST
open Go Go.DL Go.MM Go.Proofs
theorem yo(b:Nat)(e:TypeId)(s:Nat×Nat): ∀(vs:List Value) (o:Nat) (w:World) (c:Array Value),w.heap[b]? =some (.cells c e s)-> ∃c',(w.setCells b o vs).heap[b]? =some (.cells c' e s)/\c'.size=c.size
 |[],_,_,c,h=>⟨c,h,rfl⟩
 |v::vs,o,w,c,h=>by
  have h1:(w.setCell ⟨b,o,none⟩ v).heap[b]? =some (.cells (c.setIfInBounds o v) e s):=by
   unfold World.setCell;simp [Array.getElem?_modify,h]
  obtain ⟨c',g1,g2⟩:=yo b e s vs (o+1) _ _ h1;exact ⟨c',g1,by rw [g2,Array.size_setIfInBounds]⟩
theorem Gu{S:ar}{w:World}{v:Value}{L:List RE}(h:Rep S w v (esT L)): ∃(a:Option Addr) (cap:Nat) (news:List Value),v= .slice a L.length cap/\news.length=L.length * 4/\(a=none->L.length=0)/\
  (∀ ad,a=some ad-> ∀(j:Nat) (u:Value),news[j]? =some u->w.cell? (ad.add j)=some u)/\Al (fun x t=>Rep S w x t) news (L.flatMap uk):=by
 cases h with
 |slice a b o len cap n xs g hl hc hu h1 ha hg h=>
  rw [yz] at *
  have hlen:len=L.length:=by rw [<- hl,List.length_map]
  subst hlen;refine ⟨a,cap,(List.range (L.length * 4)).map g,rfl,by simp,fun hn=>?_,fun ad had j u hj=>?_,⟨by rw [vo];simp,fun i x t hx ht=>?_⟩⟩
  ·rcases Nat.eq_zero_or_pos L.length with h0|h0
   ·exact h0
   ·have:=ha (by rw [vo];omega)
    rw [hn] at this;cases this
  ·have hj':=(gsZ hj).1;rw [List.length_map,List.length_range] at hj'
   have:=ha (by rw [vo];omega)
   rw [had] at this;cases this;rw [List.getElem?_map,List.getElem?_range hj'] at hj;cases hj;rw [Addr.add_lit];exact (hg j (by rw [vo];exact hj')).1
  ·have hi:=(gsZ hx).1;rw [List.length_map,List.length_range] at hi;rw [List.getElem?_map,List.getElem?_range hi] at hx;cases hx;exact h i t ht
theorem FV(a b:List RE)(ha:a.length<2^30)(hb:b.length<2^30){st:St}{r d:Nat}{K:St->Prop}(hq:st.bx (d+st.off)=none)(qj:a++b=[]->K (st.set (some d) (.t .nil)))
  (hk:0<(a++b).length->K ({st with bx:=upd st.bx (d+st.off) (some (.d ((a++b).length * 4) ((a++b).flatMap uk)))}.set (some d) (.view (d+st.off) 0 (a++b).length 4))):
  WC Tryz.prog 77 [.own r 25 1 [esT a,esT b]] (some d) st K:=by
 refine ⟨eb Tryz.func77 rfl rfl,fun N w0 S0 E t vs h hlen hv hd=>?_⟩;have hsz:vs.size=1:=hlen;have hvs:vs= #[vs[0]]:=by
  apply Array.ext
  ·simp [hsz]
  ·intro i h1 h2
   match i,h1 with
   |0,_=>rfl
   |i+1,h1=>omega
 have ho:=(hv 0 vs[0] _ (by simp [hsz]) rfl).eY;generalize vs[0]=v0 at *
 subst hvs;obtain ⟨cells,k1,k2,k3⟩:=ho.ex;rcases k1.2 with ⟨rfl,hn⟩|⟨g,cap,cur,rfl,hbg,hg,cT,hm,hs,htk⟩
 ·cases hn
 have hcl:cells.length=2:=k2;obtain ⟨va,vb,rfl⟩: ∃va vb,cells=[va,vb]:=by
  match cells,hcl with
  |[x,y],_=>exact ⟨x,y,rfl⟩
 obtain ⟨pa,ca,A,rfl,hA1,hA2,hA3,hA4⟩:=Gu (k3 0 va (esT a) rfl rfl);obtain ⟨pb,cb,B,rfl,hB1,hB2,hB3,hB4⟩:=Gu (k3 1 vb (esT b) rfl rfl);have hc0:E.w.cell? ⟨g,0,none⟩=some (.slice pa a.length ca):=by
  rw [cell_of_row _ _ _ _ _ _ hg]
  have:=congrArg (fun l:List Value=>l[0]?) htk
  simpa using this
 have hc1:E.w.cell? ⟨g,1,none⟩=some (.slice pb b.length cb):=by
  rw [cell_of_row _ _ _ _ _ _ hg]
  have:=congrArg (fun l:List Value=>l[1]?) htk
  simpa using this
 have one: ∀{l:List Value} {L:List RE},Al (fun x t=>Rep E.S E.w x t) l (L.flatMap uk)-> ∀u∈l,u.oneCell'=true:=fun {l L} h u hu=>by
  obtain ⟨i,hi,rfl⟩:=List.getElem_of_mem hu;have hi':i<(L.flatMap uk).length:=by rw [<- h.len];exact hi
  exact (h.at_ i _ _ (ggZ hi) (ggZ hi')).one (DT L _ (List.getElem_mem hi'))
 have src: ∀{l:List Value} {L:List RE} {p:Option Addr} {c:Nat},l.length=L.length * 4->(p=none->L.length=0)->(∀ ad,p=some ad-> ∀(j:Nat) (u:Value),l[j]? =some u->E.w.cell? (ad.add j)=some u)->Al (fun x t=>Rep E.S E.w x t) l (L.flatMap uk)-> ∀w',DL.Below E.w.heap.size E.w w'->
   Src Tryz.prog 4 25 (.slice p L.length c) L.length l w':=fun h1 h2 h3 h4 w' hb=>I2 w' _ _ _ _ h1 h2 (fun ad had j u hj=>by
  have:=h3 ad had j u hj
  have hlt:(ad.add j).block<E.w.heap.size:=block_lt_of_cell this;rw [hb.toBelow.cell hlt];exact this) (one h4)
 rcases Nat.eq_zero_or_pos (a++b).length with h0|h0
 ·rw [List.length_append] at h0;have ha0:a=[]:=List.eq_nil_of_length_eq_zero (by omega);have hb0:b=[]:=List.eq_nil_of_length_eq_zero (by omega);subst ha0;subst hb0;have hA0:A=[]:=List.eq_nil_of_length_eq_zero hA1;have hB0:B=[]:=List.eq_nil_of_length_eq_zero hB1;have s1:=src hA1 hA2 hA3 hA4 (c:=ca) E.w (DL.Below.refl _ _);have s2:=src hB1 hB2 hB3 hB4 (c:=cb) E.w (DL.Below.refl _ _);rw [hA0] at s1;rw [hB0] at s2;refine (Ie E.w g cap ca cb pa pb hc0 hc1 s1 s2).mono ?_;rintro e w' ⟨rfl,rfl⟩;exact ⟨_,rfl,E,_,rfl,qj rfl,eZ h hd (.t _ _ .nil)⟩
 have hk:=hk h0;rw [List.length_append] at h0;refine (Ig E.w g cap a.length ca b.length cb pa pb A B hc0 hc1 ha hb (src hA1 hA2 hA3 hA4) (src hB1 hB2 hB3 hB4) h0).mono ?_;rintro e w' ⟨G,hG,rfl,hw'⟩;have hzl: ∀k,(uy k).size=k * 4:=fun k=>by simp [uy,Builtin.zeroCells,Value.cells]
 have hBl:DL.Below E.w.heap.size E.w w':=by
  rw [hw'];exact ve _ (Nat.le_refl _) _ _ _ (ve _ (Nat.le_refl _) _ _ _ (((DL.Below.refl _ _).drew).alloc (Nat.le_refl _) _))
 obtain ⟨cur1,Fh,L5⟩: ∃cur',w'.heap[E.w.heap.size]? =some (.cells cur' 64 (0,0))/\cur'.size=G * 4:=by
  obtain ⟨c1,g1,z1⟩:=yo E.w.heap.size 64 (0,0) A 0 (E.w.drew.alloc (.cells (uy (a.length+b.length)++uy (G - (a.length+b.length))) 64)) _ (heap_alloc_new E.w.drew _);obtain ⟨c2,g2,z2⟩:=yo E.w.heap.size 64 (0,0) B (a.length * 4) _ _ g1;rw [hw'];exact ⟨c2,g2,by rw [z2,z1,Array.size_append,hzl,hzl, <-Nat.add_mul];congr 1;omega⟩
 have cj: ∀(j:Nat) (u:Value),(A++B)[j]? =some u->cur1[j]? =some u:=fun j u hu=>by
  have c1: ∀j,j<G * 4->((E.w.drew.alloc (.cells (uy (a.length+b.length)++uy (G - (a.length+b.length))) 64)).cell? ⟨E.w.heap.size,j,none⟩).isSome=true:=fun j hj=>by
   rw [World.cell?_alloc_at (w:=E.w.drew) _ _ E.w.heap.size j rfl,Array.getElem?_eq_getElem (by rw [Array.size_append,hzl,hzl];omega)];rfl
  rw [<- cell_of_row _ _ _ _ _ _ Fh,hw'];have hj:=(gsZ hu).1;rw [List.length_append] at hj
  by_cases hjA:j<A.length
  ·rw [List.getElem?_append_left hjA] at hu;rw [World.cell?_setCells_out _ _ _ _ _ (fun _ _=>by left;show j<a.length * 4;omega)]
   have:=World.cell?_setCells_in E.w.heap.size A 0 (E.w.drew.alloc (.cells (uy (a.length+b.length)++uy (G - (a.length+b.length))) 64)) (fun k hk=>c1 _ (by omega)) j hjA
   rw [Nat.zero_add] at this;rw [this, <-hu,ggZ hjA]
  ·rw [List.getElem?_append_right (by omega)] at hu
   have:=World.cell?_setCells_in E.w.heap.size B (a.length * 4) ((E.w.drew.alloc (.cells (uy (a.length+b.length)++uy (G - (a.length+b.length))) 64)).setCells E.w.heap.size 0 A) (fun k hk=>vK _ A 0 _ (fun t ht=>by rw [Nat.zero_add];exact c1 t (by omega)) _ (c1 _ (by omega))) (j - A.length) (by omega)
   rw [show a.length * 4+(j - A.length)=j by omega] at this;rw [this, <-hu,ggZ (by omega)]
 have h':SR N w0 S0 {E with w:=w' } st t:=h.world hBl E.S (fun b o=>⟨.inl,fun hh=>hh.elim id fun k=>k.1⟩);have klt: ∀m,E.live m=true->E.κ m<E.w.heap.size:=fun m hm=>lV (a:=⟨t,[]⟩) h hm
 have hAB:Al (fun x t=>Rep E.S E.w x t) (A++B) ((a++b).flatMap uk):=by rw [List.flatMap_append];exact hA4.append hB4
 have HK:(A++B).length=(a++b).length * 4:=by rw [hAB.len,vo]
 have hgl:E.w.heap.size<w'.heap.size:=(Array.getElem?_eq_some_iff.1 Fh).1;have h2:=h'.pK (q:=d+st.off) (g:=E.w.heap.size) hq (fun m hm=>by have:=klt m hm;show E.κ m≠_;omega) (fun r' hr=>by have:=(h.rows r' _ hr).2.1;omega)
  (bx:=.d ((a++b).length * 4) ((a++b).flatMap uk)) ⟨by show E.B<=E.w.heap.size;rw [h.base];exact h.below.size,fun o hs=>absurd (h.lt _ o hs) (by omega),_,Fh,.cells cur1 64 _ <| .d _ _ (vo _) (by rw [L5,List.length_append];exact Nat.mul_le_mul_right _ hG) fun i x u hx ht=>by
   have hi:i<(A++B).length:=by rw [hAB.len];exact (gsZ ht).1
   have hx':=cj i _ (ggZ hi);rw [hx] at hx';have hR:=hAB.at_ i x u (by rw [ggZ hi];exact hx'.symm) ht;exact ⟨hR.mono (fun _ _ hs=>hs) (fun b o hs=>aC.dC hBl (h.lt b o hs)),DT _ _ (List.mem_of_getElem? ht)⟩⟩
 refine ⟨_,rfl,_,_,rfl,hk,eZ h2 hd ?_⟩
 have:=VR.view (E:={E with w:=w',κ:=upd E.κ (d+st.off) E.w.heap.size,live:=upd E.live (d+st.off) true }) (d+st.off) 0 (a++b).length 4 G (by show upd E.live _ true _=true;exact aj _ _ _) (by rw [List.length_append];exact hG)
 have hκ:upd E.κ (d+st.off) E.w.heap.size (d+st.off)=E.w.heap.size:=aj _ _ _;simp only [hκ,List.length_append] at this;rw [List.length_append];exact this
end Go.ST
end
section
namespace Go.Proofs
open Go.Shelf
def Tryz.CA:Go.Shelf.Ren:=⟨fun|6=>78|15=>121|14=>120|28=>154|29=>155|20=>146|21=>147|22=>148|23=>149|24=>150|25=>151|26=>152|27=>153|46=>177|47=>178|48=>179|49=>180|50=>181|57=>194|n=>n,fun|22=>25|24=>64|25=>73|3=>3|39=>163|0=>0|53=>198|55=>183|4=>4|46=>192|45=>191|50=>124|5=>5|9=>9|66=>220|70=>219|76=>233|77=>234|n=>n,fun|n=>n⟩
theorem Tryz.Fp:Go.Proofs.SlLaysF0.n6 Tryz.prog Tryz.CA:={
 mixed:=by kernel_rfl
 f6:=⟨Tryz.f78.name,by decide,Tryz.func78.trans (congrArg some (by kernel_rfl))⟩
 f14:=⟨Tryz.f120.name,by decide,Tryz.func120.trans (congrArg some (by kernel_rfl))⟩
 f15:=Tryz.func121.trans (congrArg some (by kernel_rfl))
 f20:=⟨Tryz.f146.name,by decide,Tryz.func146.trans (congrArg some (by kernel_rfl))⟩
 f21:=⟨Tryz.f147.name,by decide,Tryz.func147.trans (congrArg some (by kernel_rfl))⟩
 f22:=⟨Tryz.f148.name,by decide,Tryz.func148.trans (congrArg some (by kernel_rfl))⟩
 f23:=⟨Tryz.f149.name,by decide,Tryz.func149.trans (congrArg some (by kernel_rfl))⟩
 f24:=⟨Tryz.f150.name,by decide,Tryz.func150.trans (congrArg some (by kernel_rfl))⟩
 f25:=⟨Tryz.f151.name,by decide,Tryz.func151.trans (congrArg some (by kernel_rfl))⟩
 f26:=⟨Tryz.f152.name,by decide,Tryz.func152.trans (congrArg some (by kernel_rfl))⟩
 f27:=⟨Tryz.f153.name,by decide,Tryz.func153.trans (congrArg some (by kernel_rfl))⟩
 f28:=Tryz.func154.trans (congrArg some (by kernel_rfl))
 f29:=Tryz.func155.trans (congrArg some (by kernel_rfl))
 f46:=⟨Tryz.f177.name,by decide,Tryz.func177.trans (congrArg some (by kernel_rfl))⟩
 f47:=Tryz.func178.trans (congrArg some (by kernel_rfl))
 f48:=Tryz.func179.trans (congrArg some (by kernel_rfl))
 f49:=⟨Tryz.f180.name,by decide,Tryz.func180.trans (congrArg some (by kernel_rfl))⟩
 f50:=⟨Tryz.f181.name,by decide,Tryz.func181.trans (congrArg some (by kernel_rfl))⟩
 f57:=⟨Tryz.f194.name,by decide,Tryz.func194.trans (congrArg some (by kernel_rfl))⟩
 t0:=Tryz.underlying0
 a0:=Tryz.isAgg0
 z0:=Tryz.sizeOf0
 v0:=Tryz.zeroValue0
 t3:=Tryz.underlying3
 a3:=Tryz.isAgg3
 z3:=Tryz.sizeOf3
 v3:=Tryz.zeroValue3
 t4:=Tryz.underlying4
 a4:=Tryz.isAgg4
 z4:=Tryz.sizeOf4
 v4:=Tryz.zeroValue4
 t5:=Tryz.underlying5
 a5:=Tryz.isAgg5
 z5:=Tryz.sizeOf5
 v5:=Tryz.zeroValue5
 t9:=Tryz.underlying9
 a9:=Tryz.isAgg9
 z9:=Tryz.sizeOf9
 v9:=Tryz.zeroValue9
 t22:=Tryz.underlying25
 a22:=Tryz.isAgg25
 z22:=Tryz.sizeOf25
 v22:=Tryz.zeroValue25
 t25:=Tryz.underlying73
 a25:=Tryz.isAgg73
 z25:=Tryz.sizeOf73
 v25:=Tryz.zeroValue73
 t39:=Tryz.underlying163
 a39:=Tryz.isAgg163
 z39:=Tryz.sizeOf163
 v39:=Tryz.zeroValue163
 t45:=Tryz.underlying191
 a45:=Tryz.isAgg191
 z45:=Tryz.sizeOf191
 v45:=Tryz.zeroValue191
 t46:=Tryz.underlying192
 a46:=Tryz.isAgg192
 z46:=Tryz.sizeOf192
 v46:=Tryz.zeroValue192
 t50:=Tryz.underlying124
 a50:=Tryz.isAgg124
 z50:=Tryz.sizeOf124
 v50:=Tryz.zeroValue124
 t53:=Tryz.underlying198
 a53:=Tryz.isAgg198
 z53:=Tryz.sizeOf198
 v53:=Tryz.zeroValue198
 t55:=Tryz.underlying183
 a55:=Tryz.isAgg183
 z55:=Tryz.sizeOf183
 v55:=Tryz.zeroValue183
 t66:=Tryz.underlying220
 a66:=Tryz.isAgg220
 z66:=Tryz.sizeOf220
 v66:=Tryz.zeroValue220
 t70:=Tryz.underlying219
 a70:=Tryz.isAgg219
 z70:=Tryz.sizeOf219
 v70:=Tryz.zeroValue219
 t76:=Tryz.underlying233
 a76:=Tryz.isAgg233
 z76:=Tryz.sizeOf233
 v76:=Tryz.zeroValue233
 t77:=Tryz.underlying234
 a77:=Tryz.isAgg234
 z77:=Tryz.sizeOf234
 v77:=Tryz.zeroValue234 }
end Go.Proofs
end
section
namespace Go.ST2
open Go Go.DL Go.Proofs
noncomputable def c27:aV:=(sr [oo 4 (.mov (.const .nil)),oo 5 (.mov (Kc 0))] (sr [mv 8 0,mv 9 1,oo 10 (.buildS 25 1 2 [.nil] [(0,(tm 8)),(1,(tm 9))]),oo 11 (.inl 77 [tm 10]),mv 6 11] (sr [mv 12 6,oo 13 (.inl 78 [(tm 12),(.const (.clos 29 []))])] (.seq (sr [mv 14 6,ln 15 14,oo 16 (.mov (Kc 0))] (.block 0 (.loop (sr [oo 17 (.bin .lss (tm 16) (tm 15))] (.seq (.cond (tm 17) .skip (.exit 0)) (.seq (.block 1 (sr [mv 18 16,mv 7 18] (sr [mv 19 7,oo 20 (.bin .gtr (tm 19) (Kc 0)),mv 21 20,mT 22 6 21,mT 23 7 21,oT 24 21 (.bin .sub (tm 23) (Kc 1)),oT 25 21 (.idxL 4 (tm 22) (tm 24)),oT 26 21 (.load 4 true (tm 25)),mT 27 6 21,mT 28 7 21,oT 29 21 (.idxL 4 (tm 27) (tm 28)),oT 30 21 (.load 4 true (tm 29)),oT 31 21 (.call 29 [(tm 26),(tm 30)]),oT 32 21 (.bin .eql (tm 31) (Kc 0)),oo 33 (.pick (tm 21) (tm 32) kF)] (.cond (tm 33) (sr [oo 4 (.mov (.const .nil)),oo 5 (.mov (Kc 10))] .ret) .skip)))) (rg [oo 34 (.bin .add (tm 16) (Kc 1)),mv 16 34]))))))) (sr [mv 35 6,mv 4 35,oo 5 (.mov (Kc 0))] .ret)))))
theorem l27:(Tryz.f27.body.bind (bt Tryz.prog 36 [77,78]))=some c27:=by kernel_rfl
end Go.ST2
end
section
namespace Go.ST
open Go Go.DL Go.MM Go.Proofs
theorem Gw:lY Tryz.prog 78 4:=
 lY.of Tryz.Fp 4 (fun w=>Tryz.isAgg64 w) (fun w=>Tryz.sizeOf64 w) (eb Tryz.func78 rfl rfl)
theorem Ec{P:Program}{f:FuncId}{k:Nat}{u:V}{d:Option Nat}{st:St}{K:St->Prop}(hs:lY P f k)(hk:K (st.set d (.t (.tup [])))):WC P f [.t .nil,u] d st K:=by
 refine ⟨hs.callable,fun N w0 S0 E a vs h hlen hv hd=>?_⟩;have hsz:vs.size=2:=hlen;have hv0:=(hv 0 vs[0] _ (by simp [hsz]) rfl).ax;have hvs:vs= #[vs[0],vs[1]]:=by
  apply Array.ext
  ·simp [hsz]
  ·intro i h1 h2
   match i,h1 with
   |0,_=>rfl
   |1,_=>rfl
   |i+2,h1=>omega
 have hsl:vs[0]= .slice none 0 0:=by
  generalize vs[0]=v at hv0;cases hv0;rfl
 have cP:=hs.none_ none 0 vs[1] E.w;rw [<- hsl, <-hvs] at cP;refine cP.mono ?_;rintro e' w' ⟨rfl,rfl⟩;exact ⟨_,rfl,_,_,rfl,hk,eZ h hd (.t _ _ (.tup #[] [] rfl fun i x t hx=>by simp at hx))⟩
def unI:T->Int
 |.int _ i=>i
 |_=>0
def unE:T->RE
 |.agg [.str v,.slice _ ks,.int _ n,.int _ t]=>⟨v,ks.map unI,n,t⟩
 |_=>⟨⟨#[]⟩,[],0,0⟩
theorem Bn(e:RE):unE (um e)=e:=by
 obtain ⟨v,k,n,t⟩:=e;show RE.mk v ((k.map I).map unI) n t=_
 rw [List.map_map,show unI ∘ I=id from rfl,List.map_id]
def cfE(x y:T):Int:=uz (unE x) (unE y)
theorem xj(a b:RE):cfE (um a) (um b)=uz a b:=by unfold cfE;rw [Bn,Bn]
theorem Gh{zs:List RE}{ys:List T}(h:ys.Perm (zs.map um)): ∃us:List RE,us.Perm zs/\ys=us.map um:=by
 refine ⟨ys.map unE,?_,?_⟩
 ·have:=h.map unE
  rw [List.map_map] at this;rwa [show unE ∘ um=id from funext Bn,List.map_id] at this
 ·rw [List.map_map]
  have:ys.map (um ∘ unE)=ys.map id:=List.map_congr_left fun y hy=>by
   obtain ⟨z,_,rfl⟩:=List.mem_map.1 (h.mem_iff.1 hy);show um (unE (um z))=um z
   rw [Bn]
  rw [this,List.map_id]
theorem Fx{l:List RE}(h: ∃(i:Nat) (hi:i+1<l.length),uz l[i] l[i+1]≠ -1):xc l=false:=by
 cases ho:xc l with
 |false=>rfl
 |true=>
  obtain ⟨i,hi,hne⟩:=h;exact absurd (List.pairwise_iff_getElem.1 (xW.1 ho) i (i+1) (by omega) hi (by omega)) hne
theorem Gf{l:List RE}(h: ∀(i:Nat) (hi:i+1<l.length),uz l[i] l[i+1]= -1):xc l=true:=by
 induction l with
 |nil=>rfl
 |cons a r ih=>
  cases r with
  |nil=>rfl
  |cons b r=>
   show (decide (uz a b= -1)&&xc (b::r))=true
   rw [Bool.and_eq_true];exact ⟨decide_eq_true (h 0 (by simp)),ih fun i hi=>h (i+1) (by simpa using hi)⟩
theorem Gj{cs vs:List T}{n:Nat}(h:cs.length=n):aN cs 0 n vs=vs:=by
 unfold aN;rw [List.take_zero,List.nil_append,List.drop_eq_nil_of_le (by omega),List.append_nil]
def Nr:Option (List RE)->T
 |some zs=>.tup [esT zs,I 0]
 |none=>.tup [.nil,I 10]
theorem HM(a b:List RE)(ha:a.length<2^30)(hb:b.length<2^30)(hka: ∀x∈a,kOk x)(hkb: ∀x∈b,kOk x)(r:T)(e:Int)
  (hr: ∀zs:List RE,zs.Perm (a++b)->(zs.Pairwise fun x y=>uz y x≠ -1)->(xc zs=true->r=esT zs/\e=0)/\(xc zs=false->r= .nil/\e=10)):DCalls Tryz.prog 27 [esT a,esT b] (.tup [r,I e]):=by
 refine dl2 mixed [.tmp 4,.tmp 5] [r,I e] Tryz.func27 Go.ST2.l27 ?_;have Js: ∀x∈a++b,kOk x:=fun x hx=>(List.mem_append.1 hx).elim (hka x) (hkb x)
 have hlen:(a++b).length<2^31:=by rw [List.length_append];omega
 repeat' ((conv=>whnf);first|refine FV a b ha hb rfl (fun h0=>?_) (fun h0=>?_)|refine aS ?_|fail)
 ·have:=hr [] (by rw [h0]) List.Pairwise.nil
  obtain ⟨rfl,rfl⟩:=this.1 rfl
  repeat' ((conv=>whnf);first|refine Ec Gw ?_)
  refine tx 0 (α:=Unit) (β:=Unit) (fun _=>{sl:=[(6,.t .nil),(15,.t (I 0)),(16,.t (I 0))],bx:=[]}) (fun _=>True) (fun _=>0) (fun _=>{sl:=[(6,.t (esT []))],bx:=[]}) (fun _=>True) () trivial ?_ ?_ ?_
  ·repeat' (first|exact wJ|refine And.intro ?_ ?_)
  ·rintro - -
   repeat' ((conv=>whnf);first|(exact ⟨(),trivial,by (repeat' (first|(exact LeV.empty 4)|exact wJ|refine And.intro ?_ ?_));done⟩)|refine aD0 ?_|refine aS ?_|fail)
  ·rintro - -
   repeat' ((conv=>whnf);first|refine rix ?_|refine aS ?_|exact trivial)
 ·have hfl:=vo (a++b);have hch:chunk 4 (a++b).length (((a++b).flatMap uk).drop 0)=(a++b).map um:=by rw [List.drop_zero];exact AJ _
  have hk1: ∀x∈(a++b).map um, ∃e:RE,x=um e/\kOk e:=fun x hx=>by
   obtain ⟨e,he,rfl⟩:=List.mem_map.1 hx;exact ⟨e,rfl,Js e he⟩
  repeat' ((conv=>whnf);first|refine tU (n:=11) (off:=0) (len:=(a++b).length) (k:=4) (m:=(a++b).length * 4) (ts:=(a++b).flatMap uk) Gw rfl (by omega) (by decide) (by omega) (.inl rfl) (eb Tryz.func29 rfl rfl) cfE ?_ ?_ ?_ ?_ (fun ys hy hps=>?_)|fail)
  ·rw [hch];intro x hx y hy;obtain ⟨e,rfl,he⟩:=hk1 x hx;obtain ⟨f,rfl,hf⟩:=hk1 y hy;rw [xj];exact xH e f he hf
  ·rw [hch];intro x hx;obtain ⟨e,rfl,he⟩:=hk1 x hx;rw [xj,uv.refl];decide
  ·rw [hch];intro x hx y hy z hz;obtain ⟨e,rfl, -⟩:=hk1 x hx;obtain ⟨f,rfl, -⟩:=hk1 y hy;obtain ⟨g,rfl, -⟩:=hk1 z hz;rw [xj,xj,xj];intro h1 h2
   have:=uv.t e f g (by have:=uv.r e f;omega) (by have:=uv.r f g;omega)
   omega
  ·rw [hch];intro x hx y hy z hz;obtain ⟨e,rfl, -⟩:=hk1 x hx;obtain ⟨f,rfl, -⟩:=hk1 y hy;obtain ⟨g,rfl, -⟩:=hk1 z hz;rw [xj,xj,xj];intro h1 h2 h3;have r1:=uv.r e f;have r2:=uv.r f g;have r3:=uv.r e g;have s1:=uv.s e f;have s2:=uv.s f g;rcases r1 with r1|r1|r1
   ·omega
   ·have:=uv.z e f r1 g;omega
   ·rcases r2 with r2|r2|r2
    ·omega
    ·have:=uv.z' r2 e;omega
    ·have:=uv.t g f e (by omega) (by omega)
     have:=uv.s e g
     omega
  ·rw [hch] at hy;obtain ⟨zs,hp,rfl⟩:=Gh hy;have hpw:zs.Pairwise fun x y=>uz y x≠ -1:=by
    refine (List.pairwise_map.1 hps).imp fun {x y} h=>?_
    rw [xj] at h;omega
   obtain ⟨hrt,hrf⟩:=hr zs hp hpw;have hzl:zs.length=(a++b).length:=hp.length_eq;have hzk: ∀x∈zs,kOk x:=fun x hx=>Js x (hp.mem_iff.1 hx)
   have fc:zs.flatMap uk=aN ((a++b).flatMap uk) 0 ((a++b).length * 4) ((zs.map um).flatMap T.cells):=by rw [Gj (vo _),yz]
   clear hr hch hk1 hps hy;generalize (a++b).length=n at *
   generalize (a++b).flatMap uk=cs at *
   have hr0: ∀bx:Nat->Option BX,bx 11=some (.d (n * 4) (aN cs 0 (n * 4) ((zs.map um).flatMap T.cells)))->conv bx (.view 11 0 n 4)=some (esT zs,[11]):=fun bx hb=>by
    have:conv bx (.view 11 0 n 4)=(match bx 11 with|some (.d m ts)=>cond (Nat.blt 0 4&&Nat.ble (0+n * 4) m) (some (T.slice 4 (chunk 4 n (ts.drop 0)),[11])) none|_=>none):=rfl
    rw [this,hb, <-fc];simp only;have h1:Nat.ble (0+n * 4) (n * 4)=true:=Nat.ble_eq_true_of_le (by omega);rw [h1,List.drop_zero, <-hzl,AJ zs];rfl
   have Jv:((zs.map um).length:Int)=(n:Int):=by rw [List.length_map,hzl]
   refine tx 0 (α:=Nat) (β:=Unit) (fun i=>{sl:=[(6,.t (esT zs)),(15,.t (I n)),(16,.t (I i))],bx:=[]})
    (fun i=>i<=n/\ ∀j (h:j+1<zs.length),j+1<i->uz zs[j] zs[j+1]= -1) (fun i=>n - i)
    (fun _=>{sl:=[(6,.t (esT zs))],bx:=[]}) (fun _=>xc zs=true) 0 ⟨Nat.zero_le _,fun j _ h=>by omega⟩ ?_ ?_ ?_
   ·repeat' (first|(exact LeV.conv _ _ _ (hr0 _ rfl) (fun n _ hk=>absurd (show n∈([]:List Nat) from hk) (by simp)))|exact wJ|refine And.intro ?_ ?_)
   ·rintro i ⟨hi,hinv⟩;rcases Nat.lt_or_ge i n with h|h
    ·have hlt:(i:Int)<(n:Int):=by omega
     have hnx:((i+1:Nat):Int)=IntKind.wrap .i64 ((i:Int)+1):=by rw [nW] <;> omega
     cases i with
     |zero=>
      repeat' ((conv=>whnf);first|refine sC hlt ?_|(exact ⟨1,⟨h,fun j _ hj=>by omega⟩,(by omega),by (repeat' (first|(exact leI hnx)|exact wJ|refine And.intro ?_ ?_));done⟩)|refine aN0 ?_|refine aS ?_|fail)
     |succ j=>
      have hgt:((j+1:Nat):Int)>0:=by omega
      have hj0:j<zs.length:=by omega
      have hj1:j+1<zs.length:=by omega
      have hw:IntKind.wrap .i64 (((j+1:Nat):Int) - 1)=(j:Int):=by rw [nW] <;> omega
      have hg0:(zs.map um)[(IntKind.wrap .i64 (((j+1:Nat):Int) - 1)).toNat]?.getD .nil= .agg (uk zs[j]):=by
       rw [hw,Int.toNat_natCast,uN hj0]
      have hg1:(zs.map um)[((j+1:Nat):Int).toNat]?.getD .nil= .agg (uk zs[j+1]):=by
       rw [Int.toNat_natCast,uN hj1]
      have hb0:0<=IntKind.wrap .i64 (((j+1:Nat):Int) - 1)/\IntKind.wrap .i64 (((j+1:Nat):Int) - 1)<((zs.map um).length:Int):=by rw [hw,Jv];omega
      have hb1:0<=((j+1:Nat):Int)/\((j+1:Nat):Int)<((zs.map um).length:Int):=by rw [Jv];omega
      have hC:=xH zs[j] zs[j+1] (hzk _ (List.getElem_mem hj0)) (hzk _ (List.getElem_mem hj1));have hcr:=uv.r zs[j] zs[j+1];have hne:=List.pairwise_iff_getElem.1 hpw j (j+1) hj0 hj1 (by omega);have hcs:=uv.s zs[j] zs[j+1]
      by_cases hz:uz zs[j] zs[j+1]=0
      ·obtain ⟨rfl,rfl⟩:=hrf (Fx ⟨j,hj1,by omega⟩)
       repeat' ((conv=>whnf);first|exact trivial|refine sC hlt ?_|refine sC hgt ?_|(refine nv_ (.agg (uk zs[j])) (by first|exact hg0) ?_)|(refine nv_ (.agg (uk zs[j+1])) (by first|exact hg1) ?_)|refine uc _ (hC) ?_|refine sE hz ?_|refine rix ?_|(refine And.intro (by first|exact hb0|exact hb1|exact uo _) ?_)|refine aS ?_|refine nT_ ?_)
      ·have Kf: ∀k (hk:k+1<zs.length),k+1<j+1+1->uz zs[k] zs[k+1]= -1:=fun k hk hk2=>by
        rcases Nat.lt_or_ge (k+1) (j+1) with h3|h3
        ·exact hinv k hk h3
        ·have:k=j:=by omega
         subst this;omega
       repeat' ((conv=>whnf);first|refine sC hlt ?_|refine sC hgt ?_|(refine nv_ (.agg (uk zs[j])) (by first|exact hg0) ?_)|(refine nv_ (.agg (uk zs[j+1])) (by first|exact hg1) ?_)|refine uc _ (hC) ?_|refine sD hz ?_|(exact ⟨j+1+1,⟨h,Kf⟩,(by omega),by (repeat' (first|(exact leI hnx)|exact wJ|refine And.intro ?_ ?_));done⟩)|(refine And.intro (by first|exact hb0|exact hb1|exact uo _) ?_)|refine aS ?_|refine nT_ ?_)
    ·have hlt: ¬(i:Int)<(n:Int):=by omega
     have ho:xc zs=true:=Gf fun j hj=>hinv j hj (by omega)
     repeat' ((conv=>whnf);first|refine su hlt ?_|(exact ⟨(),ho,by (repeat' (first|exact wJ|refine And.intro ?_ ?_));done⟩)|refine aS ?_|fail)
   ·rintro - ho;obtain ⟨rfl,rfl⟩:=hrt ho
    repeat' ((conv=>whnf);first|refine rix ?_|refine aS ?_|exact trivial)
theorem JU(a b:List RE)(hia:uP a)(hib:uP b)(ha:a.length<2^30)(hb:b.length<2^30)(hka: ∀x∈a,kOk x)(hkb: ∀x∈b,kOk x):DCalls Tryz.prog 27 [esT a,esT b] (Nr (B9 a b)):=by
 have hJ:=fun (zs:List RE) (hp:zs.Perm (a++b)) hs=>Ee hia hib hp hs
 cases h:B9 a b with
 |none=>
  refine HM a b ha hb hka hkb .nil 10 fun zs hp hs=>⟨fun ho=>?_,fun _=>⟨rfl,rfl⟩⟩
  have:=hJ zs hp hs
  rw [h,if_pos ho] at this;cases this
 |some w=>
  refine HM a b ha hb hka hkb (esT w) 0 fun zs hp hs=>⟨fun ho=>?_,fun ho=>?_⟩
  ·have:=hJ zs hp hs
   rw [h,if_pos ho] at this;cases this;exact ⟨rfl,rfl⟩
  ·have:=hJ zs hp hs
   rw [h,if_neg (by simp [ho])] at this;cases this
end Go.ST
end
section
end
noncomputable section
namespace Go.ST4
open Go Go.DL Go.Proofs
def c58:aV:=(sr [oo 5 (.box 10 (tm 2)),oo 6 (.mov (.const .nil)),oo 7 (.mov kF)] (sr [oo 8 (.mov (.const .nil))] (.seq (sr [mv 13 1,ln 14 13,oo 15 (.mov (Kc 0))] (.block 0 (.loop (sr [oo 16 (.bin .lss (tm 15) (tm 14))] (.seq (.cond (tm 16) .skip (.exit 0)) (.seq (.block 1 (sr [ix 17 1 13 15,ld 18 17,mv 10 18] (sr [mv 20 0,mv 21 10,oo 22 (.call 107 [(tm 20),(tm 21)]),mv 19 22,oo 23 (.ext (tm 19) 0),oo 24 (.ext (tm 19) 1),⟨some 11,.alloc [S0,Z0,Z0],none,[]⟩,o0 (.store 3 (tm 11) (tm 23)),mv 12 24] (.seq (sr [mv 25 12,oo 26 (.not (tm 25))] (.cond (tm 26) (sr [oo 6 (.mov (.const .nil)),oo 7 (.mov kF)] .ret) .skip)) (rg [mv 27 8,lA 28 3 11,lA 29 10 5,oo 30 (.call 108 [(tm 28),(tm 29)]),oo 31 (.buildF 1 1 [Z0] [(0,(tm 30))]),oo 32 (.append 59 3 1 8 (tm 27) (tm 31)),mv 8 32]))))) (rg [oo 33 (.bin .add (tm 15) (Kc 1)),mv 15 33]))))))) (sr [mv 34 8,mv 6 34,oo 7 (.mov kT)] .ret))))
theorem l58:(Tryz.f58.body.bind (bt Tryz.prog 35 [8000031]))=some c58:=by kernel_rfl
def c20:aV:=(sr [oo 5 (.box 10 (tm 2)),oo 6 (.mov (.const .nil)),oo 7 (.mov kF)] (sr [oo 8 (.mov (.const .nil))] (.seq (sr [oo 9 (.mov (Kc 0))] (.block 0 (.loop (.seq (sr [mv 12 9,mv 13 1,ln 14 13,oo 15 (.bin .lss (tm 12) (tm 14))] (.cond (tm 15) .skip (.exit 0))) (.seq (.block 1 (sr [mv 19 0,mv 20 1,mv 21 9,ix 22 1 20 21,ld 23 22,oo 24 (.call 17 [(tm 19),(tm 23)]),mv 18 24,oo 25 (.ext (tm 18) 0),oo 26 (.ext (tm 18) 1),⟨some 10,.alloc [S0,Z0,Z0],none,[]⟩,o0 (.store 3 (tm 10) (tm 25)),mv 11 26] (.seq (sr [mv 27 11,oo 28 (.not (tm 27))] (.cond (tm 28) (sr [oo 6 (.mov (.const .nil)),oo 7 (.mov kF)] .ret) .skip)) (rg [mv 29 8,lA 30 3 10,lA 31 10 5,oo 32 (.call 18 [(tm 30),(tm 31)]),oo 33 (.buildF 1 1 [Z0] [(0,(tm 32))]),oo 34 (.append 59 3 1 8 (tm 29) (tm 33)),mv 8 34])))) (rg [mv 16 9,oo 17 (.bin .add (tm 16) (Kc 1)),mv 9 17])))))) (sr [mv 35 8,mv 6 35,oo 7 (.mov kT)] .ret))))
theorem l20:(Tryz.f20.body.bind (bt Tryz.prog 36 [8000033]))=some c20:=by kernel_rfl
def K5:aV:=(sr [mv 9 0,oo 10 (.nilck (tm 9)),fa 11 0 10,ld 12 11,mv 13 1,oo 14 (.call 107 [(tm 12),(tm 13)]),mv 8 14,oo 15 (.ext (tm 8) 0),oo 16 (.ext (tm 8) 1),⟨some 6,.alloc [S0,Z0,Z0],none,[]⟩,o0 (.store 3 (tm 6) (tm 15)),mv 7 16] (sr [mv 17 7] (.cond (tm 17) (rg [mv 18 0,lA 19 3 6,mv 20 0,oo 21 (.nilck (tm 20)),fa 22 8 21,lA 23 10 22,mv 24 2,lA 25 3 6,oo 26 (.call 141 [tm 25]),oo 27 (.minI (tm 24) (tm 26)),oo 28 (.call 140 [(tm 19),(tm 23),(tm 27)]),oo 29 (.nilck (tm 18)),fa 30 8 29,o0 (.store 10 (tm 30) (tm 28))]) .skip)))
theorem zr:(Tryz.f106.body.bind (bt Tryz.prog 31 []))=some K5:=by kernel_rfl
def K4:aV:=(sr [oo 2 (.mov kF)] (.seq (sr [mv 3 0,oo 4 (.nilck (tm 3)),fa 5 23 4,ld 6 5,oo 7 (.not (tm 6)),mv 8 7,mT 9 0 8,oT 10 8 (.nilck (tm 9)),oT 11 8 (.offA 7 (tm 10)),oT 12 8 (.load 1 false (tm 11)),mT 13 0 8,oT 14 8 (.nilck (tm 13)),oT 15 8 (.offA 1 (tm 14)),oT 16 8 (.offA 1 (tm 15)),oT 17 8 (.load 1 false (tm 16)),oT 18 8 (.call 22 [(tm 12),(tm 17)]),oT 19 8 (.len (tm 18)),oT 20 8 (.bin .geq (tm 19) (Kc 100)),oo 21 (.pick (tm 8) (tm 20) kF)] (.cond (tm 21) (sr [oo 2 (.mov kF)] .ret) .skip)) (sr [mv 22 0,mv 23 0,oo 24 (.nilck (tm 23)),fa 25 7 24,ld 26 25,mv 27 0,oo 28 (.nilck (tm 27)),fa 29 19 28,lA 30 4 29,oo 31 (.call 139 [(tm 26),(tm 30)]),oo 32 (.nilck (tm 22)),fa 33 7 32,o0 (.store 1 (tm 33) (tm 31))] (sr [oo 2 (.mov kT)] .ret))))
theorem vR:(Tryz.f105.body.bind (bt Tryz.prog 34 []))=some K4:=by kernel_rfl
def c52:aV:=(sr [oo 2 (.mov kF)] (sr [mv 3 0,mv 4 0,mv 5 0,oo 6 (.nilck (tm 5)),fa 7 19 6,fa 8 2 7,ld 9 8,oo 10 (.bin .add (tm 9) (Kc 1)),oo 11 (.minI (tm 10) (Kc 65535)),mv 12 0,oo 13 (.nilck (tm 12)),fa 14 18 13,ld 15 14,oo 16 (.nilck (tm 3)),fa 17 19 16,fa 18 2 17,o0 (.store 1 (tm 18) (tm 11)),oo 19 (.nilck (tm 4)),fa 20 19 19,fa 21 3 20,o0 (.store 1 (tm 21) (tm 15))] (.seq (sr [mv 22 0,oo 23 (.inl 105 [tm 22]),oo 24 (.not (tm 23))] (.cond (tm 24) (sr [oo 2 (.mov kF)] .ret) .skip)) (sr [mv 25 0,mv 26 0,oo 27 (.nilck (tm 26)),fa 28 1 27,fa 29 3 28,ld 30 29,mv 31 0,oo 32 (.nilck (tm 31)),fa 33 19 32,fa 34 2 33,ld 35 34,oo 36 (.inl 106 [(tm 25),(tm 30),(tm 35)])] (sr [oo 2 (.mov kT)] .ret)))))
theorem l52:(Tryz.f52.body.bind (bt Tryz.prog 37 [105,106]))=some c52:=by kernel_rfl
def c53:aV:=(sr [oo 2 (.mov kF)] (sr [mv 3 0,mv 4 0,oo 5 (.nilck (tm 4)),fa 6 18 5,ld 7 6,oo 8 (.nilck (tm 3)),fa 9 19 8,fa 10 3 9,o0 (.store 1 (tm 10) (tm 7))] (sr [mv 11 0,oo 12 (.inl 105 [tm 11]),mv 2 12] .ret)))
theorem l53:(Tryz.f53.body.bind (bt Tryz.prog 13 [105]))=some c53:=by kernel_rfl
def c54:aV:=(sr [oo 2 (.mov kF)] (sr [mv 3 0,oo 4 (.nilck (tm 3)),fa 5 23 4,ld 6 5,mv 7 6,mT 8 0 7,oT 9 7 (.nilck (tm 8)),oT 10 7 (.offA 19 (tm 9)),oT 11 7 (.offA 3 (tm 10)),oT 12 7 (.load 1 false (tm 11)),mT 13 0 7,oT 14 7 (.nilck (tm 13)),oT 15 7 (.offA 18 (tm 14)),oT 16 7 (.load 1 false (tm 15)),mT 17 0 7,oT 18 7 (.nilck (tm 17)),oT 19 7 (.offA 1 (tm 18)),oT 20 7 (.offA 4 (tm 19)),oT 21 7 (.load 1 false (tm 20)),oT 22 7 (.bin .sub (tm 16) (tm 21)),oT 23 7 (.bin .geq (tm 12) (tm 22)),oo 24 (.pick (tm 7) (tm 23) kF),mv 2 24] .ret))
theorem l54:(Tryz.f54.body.bind (bt Tryz.prog 25 []))=some c54:=by kernel_rfl
def c55:aV:=(sr [oo 2 (.mov kF)] (sr [mv 6 0,mv 7 0,oo 8 (.nilck (tm 7)),fa 9 18 8,ld 10 9,oo 11 (.nilck (tm 6)),fa 12 19 11,fa 13 3 12,o0 (.store 1 (tm 13) (tm 10))] (.seq (sr [mv 14 0,oo 15 (.nilck (tm 14)),fa 16 23 15,ld 17 16,oo 18 (.not (tm 17))] (.cond (tm 18) (sr [oo 19 (.mkmap false [.int .i64]),mv 3 19] (.seq (sr [mv 20 0,oo 21 (.nilck (tm 20)),fa 22 7 21,ld 23 22,mv 24 0,oo 25 (.nilck (tm 24)),fa 26 1 25,fa 27 1 26,ld 28 27,oo 29 (.call 22 [(tm 23),(tm 28)]),ln 30 29,oo 31 (.mov (Kc 0))] (.block 0 (.loop (sr [oo 32 (.bin .lss (tm 31) (tm 30))] (.seq (.cond (tm 32) .skip (.exit 0)) (.seq (.block 1 (sr [ix 33 4 29 31,lA 34 4 33,⟨some 5,.alloc [S0,.nil,Z0,Z0],none,[]⟩,o0 (.store 4 (tm 5) (tm 34))] (rg [mv 35 3,fa 36 2 5,ld 37 36,o0 (.bC false [.int .i64] (tm 35) (tm 37) kT)]))) (rg [oo 38 (.bin .add (tm 31) (Kc 1)),mv 31 38]))))))) (.seq (sr [mv 39 0,mv 40 0,oo 41 (.nilck (tm 40)),fa 42 1 41,fa 43 4 42,ld 44 43,oo 45 (.nilck (tm 39)),fa 46 19 45,fa 47 2 46,o0 (.store 1 (tm 47) (tm 44))] (.block 2 (.loop (.seq (sr [mv 48 3,mv 49 0,oo 50 (.nilck (tm 49)),fa 51 19 50,fa 52 2 51,ld 53 52,oo 54 (.mlook false [.int .i64] (.bool false) false (tm 48) (tm 53))] (.cond (tm 54) .skip (.exit 2))) (.seq (.block 3 .skip) (rg [mv 55 0,oo 56 (.nilck (tm 55)),fa 57 19 56,fa 58 2 57,ld 59 58,oo 60 (.bin .add (tm 59) (Kc 1)),oo 61 (.nilck (tm 55)),fa 62 19 61,fa 63 2 62,o0 (.store 1 (tm 63) (tm 60))])))))) (sr [mv 64 0,oo 65 (.nilck (tm 64)),fa 66 19 65,fa 67 2 66,ld 68 67,mv 69 0,oo 70 (.nilck (tm 69)),fa 71 1 70,fa 72 5 71,ld 73 72,oo 74 (.bin .gtr (tm 68) (tm 73))] (.cond (tm 74) (sr [oo 2 (.mov kF)] .ret) .skip))))) .skip)) (.seq (sr [mv 75 0,oo 76 (.inl 105 [tm 75]),oo 77 (.not (tm 76))] (.cond (tm 77) (sr [oo 2 (.mov kF)] .ret) .skip)) (sr [mv 78 0,mv 79 0,oo 80 (.nilck (tm 79)),fa 81 1 80,fa 82 3 81,ld 83 82,mv 84 0,oo 85 (.nilck (tm 84)),fa 86 19 85,fa 87 2 86,ld 88 87,oo 89 (.inl 106 [(tm 78),(tm 83),(tm 88)])] (sr [oo 2 (.mov kT)] .ret))))))
theorem l55:(Tryz.f55.body.bind (bt Tryz.prog 90 [105,106]))=some c55:=by kernel_rfl
def K8:aV:=(sr [oo 3 (.box 4 (tm 0)),oo 4 (.mov kF)] (sr [fa 5 0 3,ld 6 5,ld 7 1,oo 8 (.nilck (tm 7)),fa 9 1 8,fa 10 1 9,ld 11 10,oo 12 (.bin .eql (tm 6) (tm 11)),mv 13 12,oT 14 13 (.offA 2 (tm 3)),oT 15 13 (.load 1 false (tm 14)),oT 16 13 (.load 1 false (tm 2)),oT 17 13 (.bin .eql (tm 15) (tm 16)),oo 18 (.pick (tm 13) (tm 17) kF),mv 4 18] .ret))
theorem Mp:(Tryz.f110.body.bind (bt Tryz.prog 19 []))=some K8:=by kernel_rfl
def c57:aV:=(sr [oo 2 (.mov kF)] (sr [mv 7 0,oo 8 (.nilck (tm 7)),fa 9 19 8,mv 10 0,oo 11 (.nilck (tm 10)),fa 12 1 11,lA 13 6 12,⟨some 4,.alloc [Z0,S0,.nil,S0,Z0,Z0],none,[]⟩,mv 3 9,o0 (.store 6 (tm 4) (tm 13))] (.seq (sr [mv 14 0,oo 15 (.nilck (tm 14)),fa 16 23 15,ld 17 16,oo 18 (.not (tm 17))] (.cond (tm 18) (rg [mv 19 3,mv 20 3,fa 21 4 4,ld 22 21,mv 23 0,oo 24 (.nilck (tm 23)),fa 25 18 24,ld 26 25,oo 27 (.nilck (tm 19)),fa 28 2 27,o0 (.store 1 (tm 28) (tm 22)),oo 29 (.nilck (tm 20)),fa 30 3 29,o0 (.store 1 (tm 30) (tm 26))]) .skip)) (sr [mv 31 0,oo 32 (.nilck (tm 31)),fa 33 18 32,ld 34 33,mv 35 3,oo 36 (.nilck (tm 35)),fa 37 3 36,ld 38 37,oo 39 (.bin .sub (tm 34) (tm 38)),oo 40 (.maxI (Kc 0) (tm 39)),fa 41 5 4,ld 42 41,oo 43 (.bin .quo (tm 40) (tm 42)),mv 5 43] (.seq (sr [mv 44 3,oo 45 (.nilck (tm 44)),fa 46 2 45,ld 47 46,mv 48 5,oo 49 (.bin .add (tm 47) (tm 48)),fa 50 4 4,ld 51 50,oo 52 (.bin .geq (tm 49) (tm 51))] (.cond (tm 52) (rg [mv 53 3,mv 54 3,fa 55 4 4,ld 56 55,mv 57 0,oo 58 (.nilck (tm 57)),fa 59 18 58,ld 60 59,oo 61 (.nilck (tm 53)),fa 62 2 61,o0 (.store 1 (tm 62) (tm 56)),oo 63 (.nilck (tm 54)),fa 64 3 63,o0 (.store 1 (tm 64) (tm 60))]) (.region [mv 65 3,mv 66 3,mv 67 3,oo 68 (.nilck (tm 67)),fa 69 2 68,ld 70 69,mv 71 5,oo 72 (.bin .add (tm 70) (tm 71)),mv 73 3,oo 74 (.nilck (tm 73)),fa 75 3 74,ld 76 75,mv 77 5,fa 78 5 4,ld 79 78,oo 80 (.bin .mul (tm 77) (tm 79)),oo 81 (.bin .add (tm 76) (tm 80)),oo 82 (.nilck (tm 65)),fa 83 2 82,o0 (.store 1 (tm 83) (tm 72)),oo 84 (.nilck (tm 66)),fa 85 3 84,o0 (.store 1 (tm 85) (tm 81))] [[],[],[],[],[],[],[],[],[],[],[],[],[],[],[],[],[],[],[],[14],[],[],[]]))) (sr [mv 86 3,oo 87 (.nilck (tm 86)),fa 88 2 87,ld 89 88,oo 90 (.bin .gtr (tm 89) (Kc 0)),mv 6 90] (.seq (sr [mv 91 6] (.cond (tm 91) (rg [mv 92 3,oo 93 (.nilck (tm 92)),fa 94 2 93,ld 95 94,oo 96 (.bin .sub (tm 95) (Kc 1)),oo 97 (.nilck (tm 92)),fa 98 2 97,o0 (.store 1 (tm 98) (tm 96))]) .skip)) (sr [mv 99 0,oo 100 (.inl 105 [tm 99]),mv 101 100,mT 102 6 101,oo 103 (.pick (tm 101) (tm 102) kF),mv 2 103] .ret))))))))
theorem l57:(Tryz.f57.body.bind (bt Tryz.prog 104 [105]))=some c57:=by kernel_rfl
def c61:aV:=(sr [oo 5 (.box 10 (tm 1)),oo 8 (.alloc [Z0,Z0,Z0,Z0,Z0,Z0,Z0,Z0,Z0,Z0])] (sr [mv 12 0,mv 13 2,oo 14 (.call 17 [(tm 12),(tm 13)]),mv 11 14,oo 15 (.ext (tm 11) 0),oo 16 (.ext (tm 11) 1),⟨some 9,.alloc [S0,Z0,Z0],none,[]⟩,o0 (.store 3 (tm 9) (tm 15)),mv 10 16] (.seq (sr [mv 17 10,oo 18 (.not (tm 17)),mv 19 18,mF 20 2 19,⟨some 21,.bin .eql (tm 20) (.const S0),some (19,false),[]⟩,oo 22 (.pick (tm 19) kT (tm 21))] (.cond (tm 22) (sr [lA 23 10 5,o0 (.store 10 (tm 8) (tm 23))] .ret) .skip)) (sr [lA 24 3 9,lA 25 10 5,mv 26 3,lA 27 3 9,oo 28 (.call 111 [tm 27]),oo 29 (.minI (tm 26) (tm 28)),oo 30 (.call 19 [(tm 24),(tm 25),(tm 29)]),o0 (.store 10 (tm 8) (tm 30))] .ret))))
theorem l61:(Tryz.f61.body.bind (bt Tryz.prog 31 []))=some c61:=by kernel_rfl
def c63:aV:=(sr [oo 8 (.mov (Kc 0))] (sr [mv 13 0,mv 14 1,oo 15 (.call 31 [(tm 13),(tm 14)]),mv 9 15] (.seq (sr [mv 16 2,mv 10 16] (.block 0 (.loop (.seq (sr [mv 17 10,mv 18 3,oo 19 (.bin .leq (tm 17) (tm 18)),mv 20 19,mT 21 10 20,mT 22 2 20,mT 23 9 20,oT 24 20 (.len (tm 23)),oT 25 20 (.bin .add (tm 22) (tm 24)),oT 26 20 (.bin .leq (tm 21) (tm 25)),oo 27 (.pick (tm 20) (tm 26) kF)] (.cond (tm 27) .skip (.exit 0))) (.seq (.block 1 (sr [oo 11 (.mov kF)] (.seq (sr [oo 12 (.mov (Kc 0))] (.block 2 (.loop (.seq (sr [mv 30 12,mv 31 9,ln 32 31,oo 33 (.bin .lss (tm 30) (tm 32))] (.cond (tm 33) .skip (.exit 2))) (.seq (.block 3 (rg [mv 36 11,mv 37 36,mF 38 9 37,mF 39 12 37,oF 40 37 (.idxL 4 (tm 38) (tm 39)),oF 41 37 (.offA 2 (tm 40)),oF 42 37 (.load 1 false (tm 41)),mF 43 10 37,oF 44 37 (.bin .eql (tm 42) (tm 43)),oo 45 (.pick (tm 37) kT (tm 44)),mv 11 45])) (rg [mv 34 12,oo 35 (.bin .add (tm 34) (Kc 1)),mv 12 35])))))) (sr [mv 46 11,oo 47 (.not (tm 46))] (.cond (tm 47) (sr [mv 48 10,mv 8 48] .ret) .skip))))) (rg [mv 28 10,oo 29 (.bin .add (tm 28) (Kc 1)),mv 10 29])))))) (sr [oo 8 (.mov (.const (.int .i64 (-1))))] .ret))))
theorem l63:(Tryz.f63.body.bind (bt Tryz.prog 49 []))=some c63:=by kernel_rfl
def c64:aV:=(sr [oo 3 (.box 6 (tm 0)),oo 4 (.box 4 (tm 1)),⟨some 6,.alloc [S0,.nil,Z0,Z0],none,[]⟩] (sr [oo 7 (.mov (Kc 0))] (.seq (sr [mv 8 2,fa 9 3 4,ld 10 9,oo 11 (.bin .gtr (tm 8) (tm 10))] (.cond (tm 11) (rg [mv 12 2,fa 13 3 4,ld 14 13,oo 15 (.bin .sub (tm 12) (tm 14)),fa 16 5 3,ld 17 16,oo 18 (.bin .quo (tm 15) (tm 17)),mv 7 18]) .skip)) (.seq (sr [fa 19 2 4,ld 20 19,mv 21 7,oo 22 (.bin .add (tm 20) (tm 21)),fa 23 4 3,ld 24 23,oo 25 (.bin .geq (tm 22) (tm 24))] (.cond (tm 25) (sr [fa 26 4 3,ld 27 26,fa 28 2 4,o0 (.store 1 (tm 28) (tm 27))] (sr [mv 29 2,fa 30 3 4,o0 (.store 1 (tm 30) (tm 29))] (sr [lA 31 4 4,o0 (.store 4 (tm 6) (tm 31))] .ret))) .skip)) (sr [fa 32 2 4,ld 33 32,mv 34 7,oo 35 (.bin .add (tm 33) (tm 34)),fa 36 2 4,o0 (.store 1 (tm 36) (tm 35))] (sr [fa 37 3 4,ld 38 37,mv 39 7,fa 40 5 3,ld 41 40,oo 42 (.bin .mul (tm 39) (tm 41)),oo 43 (.bin .add (tm 38) (tm 42)),fa 44 3 4,o0 (.store 1 (tm 44) (tm 43))] (sr [lA 45 4 4,o0 (.store 4 (tm 6) (tm 45))] .ret)))))))
theorem l64:(Tryz.f64.body.bind (bt Tryz.prog 46 []))=some c64:=by kernel_rfl
def c59:aV:=(sr [oo 5 (.box 6 (tm 1)),oo 7 (.box 10 (tm 3)),oo 8 (.alloc [Z0,Z0,Z0,Z0,Z0,Z0,Z0,Z0,Z0,Z0,(.bool false),.nil])] (sr [mv 16 0,fa 17 3 5,ld 18 17,oo 19 (.call 17 [(tm 16),(tm 18)]),mv 15 19,oo 20 (.ext (tm 15) 0),oo 21 (.ext (tm 15) 1),⟨some 9,.alloc [S0,Z0,Z0],none,[]⟩,o0 (.store 3 (tm 9) (tm 20)),mv 10 21] (sr [lA 22 3 9,lA 23 10 7,oo 24 (.call 18 [(tm 22),(tm 23)]),mv 11 24] (.seq (sr [oo 12 (.mov (Kc 0))] (.block 0 (.loop (.seq (sr [mv 25 12,mv 26 2,ln 27 26,oo 28 (.bin .lss (tm 25) (tm 27))] (.cond (tm 28) .skip (.exit 0))) (.seq (.block 1 (sr [mv 31 2,mv 32 12,ix 33 4 31 32,fa 34 0 33,ld 35 34,fa 36 1 5,ld 37 36,oo 38 (.bin .eql (tm 35) (tm 37)),mv 39 38,mT 40 2 39,mT 41 12 39,oT 42 39 (.idxL 4 (tm 40) (tm 41)),oT 43 39 (.offA 2 (tm 42)),oT 44 39 (.load 1 false (tm 43)),mT 45 11 39,oT 46 39 (.bin .eql (tm 44) (tm 45)),oo 47 (.pick (tm 39) (tm 46) kF)] (.cond (tm 47) (sr [lA 48 10 7,oo 13 (.alloc [Z0,Z0,Z0,Z0,Z0,Z0,Z0,Z0,Z0,Z0]),o0 (.store 10 (tm 13) (tm 48))] (.seq (sr [oo 14 (.mov (Kc 0))] (.block 2 (.loop (.seq (sr [mv 49 14,fa 50 2 5,ld 51 50,ln 52 51,oo 53 (.bin .lss (tm 49) (tm 52))] (.cond (tm 53) .skip (.exit 2))) (.seq (.block 3 (rg [mv 56 0,lA 57 10 13,fa 58 2 5,ld 59 58,mv 60 14,ix 61 1 59 60,ld 62 61,mv 63 2,mv 64 12,ix 65 4 63 64,fa 66 1 65,ld 67 66,mv 68 14,ix 69 1 67 68,ld 70 69,oo 71 (.call 61 [(tm 56),(tm 57),(tm 62),(tm 70)]),o0 (.store 10 (tm 13) (tm 71))])) (rg [mv 54 14,oo 55 (.bin .add (tm 54) (Kc 1)),mv 14 55])))))) (sr [lA 72 10 13,mv 73 2,oo 74 (.build [Z0,Z0,Z0,Z0,Z0,Z0,Z0,Z0,Z0,Z0,(.bool false),.nil] [(0,10,(tm 72)),(10,1,kT),(11,1,(tm 73))]),o0 (.store 12 (tm 8) (tm 74))] .ret))) .skip))) (rg [mv 29 12,oo 30 (.bin .add (tm 29) (Kc 1)),mv 12 30])))))) (sr [lA 75 10 7,mv 76 2,oo 77 (.build [Z0,Z0,Z0,Z0,Z0,Z0,Z0,Z0,Z0,Z0,(.bool false),.nil] [(0,10,(tm 75)),(10,1,kF),(11,1,(tm 76))]),o0 (.store 12 (tm 8) (tm 77))] .ret)))))
theorem l59:(Tryz.f59.body.bind (bt Tryz.prog 78 []))=some c59:=by kernel_rfl
def c12:aV:=(sr [oo 6 (.box 6 (tm 1)),oo 8 (.box 10 (tm 3)),oo 10 (.alloc [Z0,Z0,Z0,Z0,Z0,Z0,Z0,Z0,Z0,Z0,(.bool false),.nil])] (.seq (sr [fa 15 0 6,ld 16 15,oo 17 (.bin .eql (tm 16) (Kc 0))] (.cond (tm 17) (sr [lA 18 10 8,mv 19 2,oo 20 (.build [Z0,Z0,Z0,Z0,Z0,Z0,Z0,Z0,Z0,Z0,(.bool false),.nil] [(0,10,(tm 18)),(10,1,kT),(11,1,(tm 19))]),o0 (.store 12 (tm 10) (tm 20))] .ret) .skip)) (.seq (sr [fa 21 0 6,ld 22 21,oo 23 (.bin .eql (tm 22) (Kc 5))] (.cond (tm 23) (sr [mv 24 0,lA 25 6 6,mv 26 2,lA 27 10 8,oo 28 (.call 59 [(tm 24),(tm 25),(tm 26),(tm 27)]),o0 (.store 12 (tm 10) (tm 28))] .ret) .skip)) (sr [mv 30 0,fa 31 2 6,ld 32 31,lA 33 10 8,oo 34 (.call 20 [(tm 30),(tm 32),(tm 33)]),mv 29 34,oo 35 (.ext (tm 29) 0),oo 36 (.ext (tm 29) 1),mv 11 35,mv 12 36] (sr [mv 38 2,fa 39 1 6,ld 40 39,mv 41 11,oo 42 (.call 26 [(tm 38),(tm 40),(tm 41)]),mv 37 42,oo 43 (.ext (tm 37) 0),oo 44 (.ext (tm 37) 1),⟨some 13,.alloc [S0,.nil,Z0,Z0],none,[]⟩,o0 (.store 4 (tm 13) (tm 43)),mv 14 44] (.seq (sr [fa 45 0 6,ld 46 45,oo 47 (.bin .eql (tm 46) (Kc 3))] (.cond (tm 47) (sr [lA 48 10 8,mv 49 14,mv 50 49,oT 51 50 (.offA 3 (tm 13)),oT 52 50 (.load 1 false (tm 51)),mT 53 4 50,oT 54 50 (.offA 4 (tm 6)),oT 55 50 (.load 1 false (tm 54)),oT 56 50 (.bin .sub (tm 53) (tm 55)),oT 57 50 (.bin .geq (tm 52) (tm 56)),oo 58 (.pick (tm 50) (tm 57) kF),mv 59 2,oo 60 (.build [Z0,Z0,Z0,Z0,Z0,Z0,Z0,Z0,Z0,Z0,(.bool false),.nil] [(0,10,(tm 48)),(10,1,(tm 58)),(11,1,(tm 59))]),o0 (.store 12 (tm 10) (tm 60))] .ret) .skip)) (.seq (sr [mv 61 14,oo 62 (.not (tm 61)),mv 63 62,mT 64 2 63,oT 65 63 (.offA 1 (tm 6)),oT 66 63 (.load 1 false (tm 65)),oT 67 63 (.call 60 [(tm 64),(tm 66)]),oT 68 63 (.bin .geq (tm 67) (Kc 100)),oo 69 (.pick (tm 63) (tm 68) kF)] (.cond (tm 69) (sr [lA 70 10 8,mv 71 2,oo 72 (.build [Z0,Z0,Z0,Z0,Z0,Z0,Z0,Z0,Z0,Z0,(.bool false),.nil] [(0,10,(tm 70)),(10,1,kF),(11,1,(tm 71))]),o0 (.store 12 (tm 10) (tm 72))] .ret) .skip)) (sr [fa 73 1 6,ld 74 73,fa 75 0 13,o0 (.store 1 (tm 75) (tm 74))] (sr [mv 76 11,fa 77 1 13,o0 (.store 1 (tm 77) (tm 76))] (.seq (sr [fa 78 0 6,ld 79 78] (.block 0 (sr [oo 81 (.bin .eql (tm 79) (Kc 1)),mv 80 81] (.cond (tm 80) (sr [fa 82 2 13,ld 83 82,oo 84 (.bin .add (tm 83) (Kc 1)),oo 85 (.minI (tm 84) (Kc 65535)),fa 86 2 13,o0 (.store 1 (tm 86) (tm 85))] (sr [mv 87 4,fa 88 3 13,o0 (.store 1 (tm 88) (tm 87))] (sr [mv 89 0,lA 90 10 8,fa 91 3 6,ld 92 91,fa 93 2 13,ld 94 93,oo 95 (.call 61 [(tm 89),(tm 90),(tm 92),(tm 94)]),mv 96 2,lA 97 4 13,oo 98 (.call 62 [(tm 96),(tm 97)]),oo 99 (.build [Z0,Z0,Z0,Z0,Z0,Z0,Z0,Z0,Z0,Z0,(.bool false),.nil] [(0,10,(tm 95)),(10,1,kT),(11,1,(tm 98))]),o0 (.store 12 (tm 10) (tm 99))] .ret))) (sr [oo 101 (.bin .eql (tm 79) (Kc 2)),mv 100 101] (.cond (tm 100) (sr [mv 102 4,fa 103 3 13,o0 (.store 1 (tm 103) (tm 102))] (sr [lA 104 10 8,mv 105 2,lA 106 4 13,oo 107 (.call 62 [(tm 105),(tm 106)]),oo 108 (.build [Z0,Z0,Z0,Z0,Z0,Z0,Z0,Z0,Z0,Z0,(.bool false),.nil] [(0,10,(tm 104)),(10,1,kT),(11,1,(tm 107))]),o0 (.store 12 (tm 10) (tm 108))] .ret)) (sr [oo 110 (.bin .eql (tm 79) (Kc 4)),mv 109 110] (.cond (tm 109) (.seq (sr [mv 111 14,oo 112 (.not (tm 111))] (.cond (tm 112) (rg [mv 113 2,fa 114 1 6,ld 115 114,fa 116 4 6,ld 117 116,fa 118 5 6,ld 119 118,oo 120 (.call 63 [(tm 113),(tm 115),(tm 117),(tm 119)]),fa 121 2 13,o0 (.store 1 (tm 121) (tm 120))]) .skip)) (.seq (sr [fa 122 2 13,ld 123 122,oo 124 (.bin .lss (tm 123) (Kc 0))] (.cond (tm 124) (sr [lA 125 10 8,mv 126 2,oo 127 (.build [Z0,Z0,Z0,Z0,Z0,Z0,Z0,Z0,Z0,Z0,(.bool false),.nil] [(0,10,(tm 125)),(10,1,kF),(11,1,(tm 126))]),o0 (.store 12 (tm 10) (tm 127))] .ret) .skip)) (sr [mv 128 4,fa 129 3 13,o0 (.store 1 (tm 129) (tm 128))] (sr [mv 130 0,lA 131 10 8,fa 132 3 6,ld 133 132,fa 134 2 13,ld 135 134,oo 136 (.call 61 [(tm 130),(tm 131),(tm 133),(tm 135)]),mv 137 2,lA 138 4 13,oo 139 (.call 62 [(tm 137),(tm 138)]),oo 140 (.build [Z0,Z0,Z0,Z0,Z0,Z0,Z0,Z0,Z0,Z0,(.bool false),.nil] [(0,10,(tm 136)),(10,1,kT),(11,1,(tm 139))]),o0 (.store 12 (tm 10) (tm 140))] .ret)))) .skip)))))))) (.seq (sr [mv 141 14,oo 142 (.not (tm 141))] (.cond (tm 142) (sr [fa 143 4 6,ld 144 143,fa 145 2 13,o0 (.store 1 (tm 145) (tm 144))] (rg [mv 146 4,fa 147 3 13,o0 (.store 1 (tm 147) (tm 146))])) .skip)) (sr [lA 148 6 6,lA 149 4 13,mv 150 4,oo 151 (.call 64 [(tm 148),(tm 149),(tm 150)]),o0 (.store 4 (tm 13) (tm 151))] (.seq (sr [fa 152 2 13,ld 153 152,oo 154 (.bin .eql (tm 153) (Kc 0))] (.cond (tm 154) (sr [lA 155 10 8,mv 156 2,lA 157 4 13,oo 158 (.call 62 [(tm 156),(tm 157)]),oo 159 (.build [Z0,Z0,Z0,Z0,Z0,Z0,Z0,Z0,Z0,Z0,(.bool false),.nil] [(0,10,(tm 155)),(10,1,kF),(11,1,(tm 158))]),o0 (.store 12 (tm 10) (tm 159))] .ret) .skip)) (sr [fa 160 2 13,ld 161 160,oo 162 (.bin .sub (tm 161) (Kc 1)),fa 163 2 13,o0 (.store 1 (tm 163) (tm 162))] (sr [lA 164 10 8,mv 165 2,lA 166 4 13,oo 167 (.call 62 [(tm 165),(tm 166)]),oo 168 (.build [Z0,Z0,Z0,Z0,Z0,Z0,Z0,Z0,Z0,Z0,(.bool false),.nil] [(0,10,(tm 164)),(10,1,kT),(11,1,(tm 167))]),o0 (.store 12 (tm 10) (tm 168))] .ret)))))))))))))))
theorem l12:(Tryz.f12.body.bind (bt Tryz.prog 169 []))=some c12:=by kernel_rfl
end Go.ST4
end
section
namespace Go.ST
open Go Go.DL Go.MM Go.Proofs
open Go.TY hiding Fd
abbrev fdc(l:List Fd)(k:ByteArray):T:=.agg [.str (fld l k).name,I (fld l k).a,I (fld l k).w]
theorem CH(l:List Fd)(hl:LOk l)(k:ByteArray):DCalls Tryz.prog 107 [fds l,.str k] (.tup [fdc l k,.bool (uA l k)]):=by
 have h:=t74 l k hl.len;unfold yw at h;unfold fdc fld uA;cases hF:findF l k with
 |none=>rw [hF] at h;exact h
 |some F=>rw [hF] at h;exact h
theorem Bl(l:List Fd)(hl:LOk l)(k:ByteArray):DCalls Tryz.prog 17 [fds l,.str k] (.tup [fdc l k,.bool (uA l k)]):=by
 have h:=t51 l k hl.len;unfold yw at h;unfold fdc fld uA;cases hF:findF l k with
 |none=>rw [hF] at h;exact h
 |some F=>rw [hF] at h;exact h
theorem yi{l:List Fd}(hl:LOk l){k:ByteArray}(h:uA l k=true):FOk (fld l k):=by
 unfold uA at h;obtain ⟨F,hF⟩:=Option.isSome_iff_exists.1 h;rw [B6 hF];exact hl.find hF
theorem ten{h:List Int}(hh:HOk h): ∃a b c d e f g i j k,h=[a,b,c,d,e,f,g,i,j,k]:=by
 have hl:=hh.len
 match h,hl with
 |[a,b,c,d,e,f,g,i,j,k],_=>exact ⟨a,b,c,d,e,f,g,i,j,k,rfl⟩
theorem Ca(l:List Fd)(ks:List ByteArray)(h:List Int){i:Nat}(hi:i<ks.length):(keyOf l (ks.take (i+1)) h).map I=(keyOf l (ks.take i) h).map I++[I (vj (fld l ks[i]) h)]:=by
 unfold keyOf;rw [List.take_succ_eq_append_getElem hi,List.map_append,List.map_append];rfl
theorem KL(l:List Fd)(hl:LOk l)(ks:List ByteArray)(hk: ∀k∈ks,uA l k=true)(hkl:ks.length<2^40)(h:List Int)(hh:HOk h):DCalls Tryz.prog 58 [fds l,.slice 1 (ks.map .str),hd h] (.tup [.slice 1 ((keyOf l ks h).map I),.bool true]):=by
 refine dl2 mixed [.tmp 6,.tmp 7] [.slice 1 _,.bool true] Tryz.func58 Go.ST4.l58 ?_;have hl1:((ks.map T.str).length:Int)=ks.length:=by rw [List.length_map]
 have hG: ∀f,FOk f->DCalls Tryz.prog 108 [fd f,hd h] (I (vj f h)):=fun f hf=>t78 f hf h hh
 obtain ⟨x0,x1,x2,x3,x4,x5,x6,x7,x8,x9,rfl⟩:=ten hh
 repeat' ((conv=>whnf);first|refine aS ?_|fail)
 refine tx 0 (α:=Nat×Nat) (β:=Nat) (fun q=>{sl:=[(0,.t (fds l)),(5,.ptr 5 0),(8,.own q.2 3 1 ((keyOf l (ks.take q.1) [x0,x1,x2,x3,x4,x5,x6,x7,x8,x9]).map I)),(13,.t (.slice 1 (ks.map .str))),(14,.t (I ks.length)),(15,.t (I q.1))],bx:=[(5,.d 10 ([x0,x1,x2,x3,x4,x5,x6,x7,x8,x9].map I))]})
  (fun q=>q.1<=ks.length/\(q.2=8\/q.2=32)) (fun q=>ks.length - q.1) (fun q=>{sl:=[(8,.own q 3 1 ((keyOf l ks [x0,x1,x2,x3,x4,x5,x6,x7,x8,x9]).map I))],bx:=[]}) (fun q=>q=8\/q=32) (0,8) ⟨Nat.zero_le _,Or.inl rfl⟩ ?_ ?_ ?_
 ·repeat' (first|(exact leI hl1.symm)|exact wJ|refine And.intro ?_ ?_)
 ·rintro ⟨i,q⟩ ⟨hi,hq⟩;dsimp only at hi hq;rcases Nat.lt_or_ge i ks.length with h|h
  ·have hlt:(i:Int)<(ks.length:Int):=by omega
   have hf:=hk ks[i] (List.getElem_mem h);have hF:=CH l hl ks[i];rw [hf] at hF;have hGf:=hG _ (yi hl hf);have hnx:((i+1:Nat):Int)=IntKind.wrap .i64 ((i:Int)+1):=by rw [nW] <;> omega
   have hsn:=Ca l ks [x0,x1,x2,x3,x4,x5,x6,x7,x8,x9] h;have hln:((keyOf l (ks.take i) [x0,x1,x2,x3,x4,x5,x6,x7,x8,x9]).map I).length<=2^40:=by unfold keyOf;simp only [List.length_map,List.length_take];omega
   have hst:(ks.map T.str)[((i:Int)).toNat]?.getD .nil= .str ks[i]:=by simp [h]
   generalize (keyOf l (ks.take i) [x0,x1,x2,x3,x4,x5,x6,x7,x8,x9]).map I=out at *
   generalize vj (fld l ks[i]) [x0,x1,x2,x3,x4,x5,x6,x7,x8,x9]=g at *
   rcases hq with rfl|rfl <;> repeat' ((conv=>whnf);first|refine sC hlt ?_|(refine nv_ (.str ks[i]) (by first|exact hst) ?_)|refine uc _ (hF) ?_|refine uc _ (hGf) ?_|(exact ⟨(i+1,32),⟨h,Or.inr rfl⟩,(by dsimp only;omega),by (repeat' (first|(exact leI hnx)|(exact ug hsn)|exact wJ|refine And.intro ?_ ?_));done⟩)|(refine And.intro (by first|((simp only [List.length_cons,List.length_nil];omega);done)|fail) ?_)|refine aS ?_|refine nT_ ?_)
  ·have hlt: ¬(i:Int)<(ks.length:Int):=by omega
   have hi2:i=ks.length:=by omega
   have e0:(keyOf l ks [x0,x1,x2,x3,x4,x5,x6,x7,x8,x9]).map I=(keyOf l (ks.take i) [x0,x1,x2,x3,x4,x5,x6,x7,x8,x9]).map I:=by rw [hi2,List.take_length]
   repeat' ((conv=>whnf);first|refine su hlt ?_|(exact ⟨q,hq,by (repeat' (first|(exact ug e0)|exact wJ|refine And.intro ?_ ?_));done⟩)|refine aS ?_|fail)
 ·rintro q hq
  repeat' ((conv=>whnf);first|refine rb1 ?_|refine aS ?_|exact trivial)
theorem KG(l:List Fd)(hl:LOk l)(ks:List ByteArray)(hk: ∀k∈ks,uA l k=true)(hkl:ks.length<2^40)(h:List Int)(hh:HOk h):DCalls Tryz.prog 20 [fds l,.slice 1 (ks.map .str),hd h] (.tup [.slice 1 ((keyOf l ks h).map I),.bool true]):=by
 refine dl2 mixed [.tmp 6,.tmp 7] [.slice 1 _,.bool true] Tryz.func20 Go.ST4.l20 ?_;have hl1:((ks.map T.str).length:Int)=ks.length:=by rw [List.length_map]
 have hG: ∀f,FOk f->DCalls Tryz.prog 18 [fd f,hd h] (I (vj f h)):=fun f hf=>t57 f hf h hh
 obtain ⟨x0,x1,x2,x3,x4,x5,x6,x7,x8,x9,rfl⟩:=ten hh
 repeat' ((conv=>whnf);first|refine aS ?_|fail)
 refine tx 0 (α:=Nat×Nat) (β:=Nat) (fun q=>{sl:=[(0,.t (fds l)),(1,.t (.slice 1 (ks.map .str))),(5,.ptr 5 0),(8,.own q.2 3 1 ((keyOf l (ks.take q.1) [x0,x1,x2,x3,x4,x5,x6,x7,x8,x9]).map I)),(9,.t (I q.1))],bx:=[(5,.d 10 ([x0,x1,x2,x3,x4,x5,x6,x7,x8,x9].map I))]})
  (fun q=>q.1<=ks.length/\(q.2=8\/q.2=34)) (fun q=>ks.length - q.1) (fun q=>{sl:=[(8,.own q 3 1 ((keyOf l ks [x0,x1,x2,x3,x4,x5,x6,x7,x8,x9]).map I))],bx:=[]}) (fun q=>q=8\/q=34) (0,8) ⟨Nat.zero_le _,Or.inl rfl⟩ ?_ ?_ ?_
 ·repeat' (first|exact wJ|refine And.intro ?_ ?_)
 ·rintro ⟨i,q⟩ ⟨hi,hq⟩;dsimp only at hi hq;rcases Nat.lt_or_ge i ks.length with h|h
  ·have hlt:(i:Int)<((ks.map T.str).length:Int):=by omega
   have hf:=hk ks[i] (List.getElem_mem h);have hF:=Bl l hl ks[i];rw [hf] at hF;have hGf:=hG _ (yi hl hf);have hnx:((i+1:Nat):Int)=IntKind.wrap .i64 ((i:Int)+1):=by rw [nW] <;> omega
   have hsn:=Ca l ks [x0,x1,x2,x3,x4,x5,x6,x7,x8,x9] h;have hln:((keyOf l (ks.take i) [x0,x1,x2,x3,x4,x5,x6,x7,x8,x9]).map I).length<=2^40:=by unfold keyOf;simp only [List.length_map,List.length_take];omega
   have hst:(ks.map T.str)[((i:Int)).toNat]?.getD .nil= .str ks[i]:=by simp [h]
   generalize (keyOf l (ks.take i) [x0,x1,x2,x3,x4,x5,x6,x7,x8,x9]).map I=out at *
   generalize vj (fld l ks[i]) [x0,x1,x2,x3,x4,x5,x6,x7,x8,x9]=g at *
   rcases hq with rfl|rfl <;> repeat' ((conv=>whnf);first|refine sC hlt ?_|(refine nv_ (.str ks[i]) (by first|exact hst) ?_)|refine uc _ (hF) ?_|refine uc _ (hGf) ?_|(exact ⟨(i+1,34),⟨h,Or.inr rfl⟩,(by dsimp only;omega),by (repeat' (first|(exact leI hnx)|(exact ug hsn)|exact wJ|refine And.intro ?_ ?_));done⟩)|(refine And.intro (by first|((simp only [List.length_cons,List.length_nil];omega);done)|fail) ?_)|refine aS ?_|refine nT_ ?_)
  ·have hlt: ¬(i:Int)<((ks.map T.str).length:Int):=by omega
   have hi2:i=ks.length:=by omega
   have e0:(keyOf l ks [x0,x1,x2,x3,x4,x5,x6,x7,x8,x9]).map I=(keyOf l (ks.take i) [x0,x1,x2,x3,x4,x5,x6,x7,x8,x9]).map I:=by rw [hi2,List.take_length]
   repeat' ((conv=>whnf);first|refine su hlt ?_|(exact ⟨q,hq,by (repeat' (first|(exact ug e0)|exact wJ|refine And.intro ?_ ?_));done⟩)|refine aS ?_|fail)
 ·rintro q hq
  repeat' ((conv=>whnf);first|refine rb1 ?_|refine aS ?_|exact trivial)
end Go.ST
end
noncomputable section
namespace Go.ST3
open Go Go.DL Go.Proofs
theorem mx:Tryz.prog.follows .mixedOrders=true:=by kernel_rfl
def b11:Code:=(Tryz.f11.body).getD .skip
theorem Jn:Tryz.f11.body=some b11:=by kernel_rfl
def FC:Code:=iQ [0] b11
def HQ:aV:=(rg [oo 6 (.box 6 (tm 1)),oo 8 (.box 10 (tm 3)),oo 10 (.alloc [Z0,Z0,Z0,Z0,Z0,Z0,Z0,Z0,Z0,Z0]),oo 11 (.mov kF),oo 12 (.mov (.const .nil))])
theorem Ky:bt Tryz.prog 84 [] FC=some HQ:=by kernel_rfl
theorem HO[Glb]{st:St}{Q:aG->St->Prop}(hw:wpC Tryz.prog HQ st Q):bR Tryz.prog 84 FC st Q:=bR.low mx Ky (by kernel_rfl) (by kernel_rfl) hw
def FD:Code:=iQ [1,0] b11
def HR:aV:=(sr [fa 17 0 6,ld 18 17,oo 19 (.bin .eql (tm 18) (Kc 0))] (.cond (tm 19) (sr [lA 20 10 8,mv 21 2,o0 (.store 10 (tm 10) (tm 20)),oo 11 (.mov kT),mv 12 21] .ret) .skip))
theorem Kz:bt Tryz.prog 84 [] FD=some HR:=by kernel_rfl
theorem HP[Glb]{st:St}{Q:aG->St->Prop}(hw:wpC Tryz.prog HR st Q):bR Tryz.prog 84 FD st Q:=bR.low mx Kz (by kernel_rfl) (by kernel_rfl) hw
def FE:Code:=iQ [1,1,0] b11
def HS:aV:=(rg [oo 22 (.build [.nilfn,.nilfn,.nilfn,.nilfn,.nilfn,.nilfn,.nilfn] [(0,1,(.const .nilfn)),(1,1,(.const (.clos 52 []))),(2,1,(.const (.clos 53 []))),(3,1,(.const (.clos 54 []))),(4,1,(.const (.clos 55 []))),(5,1,(.const (.clos 56 []))),(6,1,(.const (.clos 57 [])))]),oo 13 (.alloc [.nilfn,.nilfn,.nilfn,.nilfn,.nilfn,.nilfn,.nilfn]),o0 (.store 7 (tm 13) (tm 22))])
theorem KA:bt Tryz.prog 84 [] FE=some HS:=by kernel_rfl
theorem Kp[Glb]{st:St}{Q:aG->St->Prop}(hw:wpC Tryz.prog HS st Q):bR Tryz.prog 84 FE st Q:=bR.low mx KA (by kernel_rfl) (by kernel_rfl) hw
def FF:Code:=iQ [1,1,1,0] b11
def HT:aV:=(rg [mv 24 0,fa 25 2 6,ld 26 25,lA 27 10 8,oo 28 (.call 58 [(tm 24),(tm 26),(tm 27)]),mv 23 28,oo 29 (.ext (tm 23) 0),oo 30 (.ext (tm 23) 1),mv 14 29,mv 15 30])
theorem KB:bt Tryz.prog 84 [] FF=some HT:=by kernel_rfl
theorem Kq[Glb]{st:St}{Q:aG->St->Prop}(hw:wpC Tryz.prog HT st Q):bR Tryz.prog 84 FF st Q:=bR.low mx KB (by kernel_rfl) (by kernel_rfl) hw
def FG:Code:=iQ [1,1,1,1,0] b11
def HU:aV:=(rg [mv 31 0,lA 32 6 6,mv 33 2,lA 34 10 8,mv 35 4,⟨some 36,.build [.nil,Z0,S0,.nil,S0,Z0,Z0,.nil,Z0,Z0,Z0,Z0,Z0,Z0,Z0,Z0,Z0,Z0,Z0,S0,.nil,Z0,Z0,(.bool false)] [(0,1,(tm 31)),(1,6,(tm 32)),(7,1,(tm 33)),(8,10,(tm 34)),(18,1,(tm 35))],none,[]⟩,oo 37 (.box 24 (tm 36)),mv 16 37])
theorem KC:bt Tryz.prog 84 [] FG=some HU:=by kernel_rfl
theorem Kr[Glb]{st:St}{Q:aG->St->Prop}(hw:wpC Tryz.prog HU st Q):bR Tryz.prog 84 FG st Q:=bR.low mx KC (by kernel_rfl) (by kernel_rfl) hw
def FH:Code:=iQ [1,1,1,1,1,0] b11
def HV:aV:=(sr [mv 39 16,mv 40 16,mv 41 2,fa 42 1 6,ld 43 42,mv 44 14,oo 45 (.call 25 [(tm 41),(tm 43),(tm 44)]),mv 38 45,oo 46 (.ext (tm 38) 0),oo 47 (.ext (tm 38) 1),oo 48 (.nilck (tm 39)),fa 49 19 48,o0 (.store 4 (tm 49) (tm 46)),oo 50 (.nilck (tm 40)),fa 51 23 50,o0 (.store 1 (tm 51) (tm 47))] (sr [mv 52 16,oo 53 (.nilck (tm 52)),fa 54 23 53,ld 55 54,oo 56 (.not (tm 55))] (.cond (tm 56) (rg [mv 57 16,fa 58 1 6,ld 59 58,mv 60 14,⟨some 61,.build [S0,.nil,Z0,Z0] [(0,1,(tm 59)),(1,1,(tm 60))],none,[]⟩,oo 62 (.nilck (tm 57)),fa 63 19 62,o0 (.store 4 (tm 63) (tm 61))]) .skip)))
theorem KD:bt Tryz.prog 84 [] FH=some HV:=by kernel_rfl
theorem Ks[Glb]{st:St}{Q:aG->St->Prop}(hw:wpC Tryz.prog HV st Q):bR Tryz.prog 84 FH st Q:=bR.low mx KD (by kernel_rfl) (by kernel_rfl) hw
def xy:Code:=iQ [1,1,1,1,1,1,0,0] b11
theorem J7:xy= .region 9 (uj xy) false:=by kernel_rfl
theorem Ay[Glb]{st:St}{Q:aG->St->Prop}(hw:cW Tryz.prog [⟨some 64,.offA 0 (.tmp 6),none,[]⟩,⟨some 65,.load 1 false (.tmp 64),none,[]⟩,⟨some 66,.idxA 7 1 (.tmp 13) (.tmp 65),none,[]⟩,⟨some 67,.load 1 false (.tmp 66),none,[]⟩,⟨some 68,.mov (.tmp 16),none,[]⟩] st fun s0=>kQ Tryz.prog (ev s0.sl (.tmp 67)) (List.map (ev s0.sl) [(.tmp 68)]) (some 69) s0 fun s1=>cW Tryz.prog [⟨some 70,.not (.tmp 69),none,[]⟩] s1 (Q .normal)):bR Tryz.prog 84 xy st Q:=by
 rw [J7];exact bR.tZ (k1:=[0,1,2,3,4]) (k:=5) (k2:=[6]) (by kernel_rfl) (by kernel_rfl) (by kernel_rfl) (by kernel_rfl) (by kernel_rfl) (X:=.tmp 67) (az:= #[.tmp 68]) (ats:= #[105]) (d:=69) (by kernel_rfl) rfl rfl (by decide) hw
def Cl:Code:=iQ [1,1,1,1,1,1,0,1] b11
def HW:aV:=(.cond (tm 70) (.seq (.region [lA 71 10 8,mv 72 16,oo 73 (.nilck (tm 72)),fa 74 7 73,ld 75 74,o0 (.store 10 (tm 10) (tm 71)),oo 11 (.mov kF),mv 12 75] [[],[],[],[],[],[4],[],[]]) .ret) .skip)
theorem KE:bt Tryz.prog 84 [] Cl=some HW:=by kernel_rfl
theorem Kt[Glb]{st:St}{Q:aG->St->Prop}(hw:wpC Tryz.prog HW st Q):bR Tryz.prog 84 Cl st Q:=bR.low mx KE (by kernel_rfl) (by kernel_rfl) hw
def Cm:Code:=iQ [1,1,1,1,1,1,1] b11
def HX:aV:=(.seq (.region [mv 76 16,oo 77 (.nilck (tm 76)),fa 78 8 77,lA 79 10 78,mv 80 16,oo 81 (.nilck (tm 80)),fa 82 7 81,ld 83 82,o0 (.store 10 (tm 10) (tm 79)),oo 11 (.mov kT),mv 12 83] [[],[],[],[],[],[],[],[],[7],[],[]]) .ret)
theorem KF:bt Tryz.prog 84 [] Cm=some HX:=by kernel_rfl
theorem Ku[Glb]{st:St}{Q:aG->St->Prop}(hw:wpC Tryz.prog HX st Q):bR Tryz.prog 84 Cm st Q:=bR.low mx KF (by kernel_rfl) (by kernel_rfl) hw
theorem k11:b11=(.seq FC (.seq FD (.seq FE (.seq FF (.seq FG (.seq FH (.seq (.seq xy Cl) Cm))))))):=by kernel_rfl
end Go.ST3
end
section
namespace Go.ST
open Go Go.DL Go.MM Go.Proofs
open Go.TY hiding Fd
theorem WC.toM{P:Program}{f:FuncId}{us:List V}{d:Option Nat}{st:St}{K:St->Prop}(h:WC P f us d st K):WCM P f us d st K:=by
 refine ⟨h.1,fun N w0 S0 E a vs hs hlen hv hd=>(h.2 N w0 S0 E a vs hs hlen hv hd).mono ?_⟩;rintro e w' ⟨v,rfl,E',st',h1,h2,h3⟩;exact ⟨v,rfl,S0,E',st',Ext.refl _,h1,h2,h3⟩
abbrev dL(l:List Fd)(s:RS)(st:List RE)(x0 x1 x2 x3 x4 x5 x6 x7 x8 x9 tick:Int)(e:RE)(is:Bool):List T:=
 [fds l,I s.kind,.str s.var,.slice 1 (s.key.map .str),.str s.field,I s.n,I s.m,esT st,I x0,I x1,I x2,I x3,I x4,I x5,I x6,I x7,I x8,I x9,I tick,.str e.var,.slice 1 (e.key.map I),I e.n,I e.at_,.bool is]
abbrev JD:List T:=[.nilfn,.clos 52 [],.clos 53 [],.clos 54 [],.clos 55 [],.clos 56 [],.clos 57 []]
abbrev z10:List T:=[I 0,I 0,I 0,I 0,I 0,I 0,I 0,I 0,I 0,I 0]
section
variable (l:List Fd)(s:RS)(st:List RE)(x0 x1 x2 x3 x4 x5 x6 x7 x8 x9 tick:Int)(e:RE)(is:Bool)
abbrev S0:Wk:={sl:=[(6,.ptr 6 0),(8,.ptr 8 0),(10,.ptr 10 0),(13,.ptr 13 0),(16,.ptr 37 0)],bx:=[(6,.d 6 (uw s)),(8,.d 10 [I x0,I x1,I x2,I x3,I x4,I x5,I x6,I x7,I x8,I x9]),(10,.d 10 z10),(13,.d 7 JD),(37,.d 24 (dL l s st x0 x1 x2 x3 x4 x5 x6 x7 x8 x9 tick e is))]}
abbrev S1(st':List RE)(y0 y1 y2 y3 y4 y5 y6 y7 y8 y9:Int)(e':RE)(pass:Bool):Wk:={sl:=[(8,.ptr 8 0),(10,.ptr 10 0),(16,.ptr 37 0),(70,.t (.bool (!pass)))],bx:=[(8,.d 10 [I x0,I x1,I x2,I x3,I x4,I x5,I x6,I x7,I x8,I x9]),(10,.d 10 z10),(37,.d 24 (dL l s st' y0 y1 y2 y3 y4 y5 y6 y7 y8 y9 tick e' is))]}
end
variable {l:List Fd}{s:RS}{st:List RE}{x0 x1 x2 x3 x4 x5 x6 x7 x8 x9 tick:Int}{e:RE}{is:Bool}
attribute [local irreducible] bR WCM YC
theorem Ir(hk:s.kind=3)(b:Bool)(hb:b=(is&&decide (e.at_>=tick - s.n)))(h1: -2^40<tick/\tick<2^40)(h2: -2^40<s.n/\s.n<2^40):
  bR Tryz.prog 84 Go.ST3.xy (S0 l s st x0 x1 x2 x3 x4 x5 x6 x7 x8 x9 tick e is).mk' (fun ex s'=>ex= .normal/\bU (S1 l s x0 x1 x2 x3 x4 x5 x6 x7 x8 x9 tick is st x0 x1 x2 x3 x4 x5 x6 x7 x8 x9 e b) s'):=by
 obtain ⟨kk,var,key,field,n,m⟩:=s;dsimp only at hk h2 hb;subst hk;have hw:IntKind.wrap .i64 (tick - n)=tick - n:=nW (by omega) (by omega);refine Go.ST3.Ay ?_;cases is with
 |false=>
  subst hb
  repeat' ((conv=>whnf);first|refine WC.toM (tW mixed Tryz.func54 Go.ST4.l54 rfl rfl (rs:=[.tmp 2]) rfl 3000 (nlZ rfl) ?_)|refine aS ?_|refine nT_ ?_)
  refine ⟨_,rfl,?_⟩
  repeat' ((conv=>whnf);first|(exact ⟨rfl,by (repeat' (first|exact wJ|refine And.intro ?_ ?_));done⟩)|fail)
 |true=>
  by_cases c:e.at_>=tick - n
  ·have hc:e.at_>=IntKind.wrap .i64 (tick - n):=by rw [hw];exact c
   obtain rfl:b=true:=by rw [hb,decide_eq_true c];rfl
   repeat' ((conv=>whnf);first|refine WC.toM (tW mixed Tryz.func54 Go.ST4.l54 rfl rfl (rs:=[.tmp 2]) rfl 3000 (nlZ rfl) ?_)|refine sC hc ?_|refine aS ?_|refine nT_ ?_)
   refine ⟨_,rfl,?_⟩
   repeat' ((conv=>whnf);first|(exact ⟨rfl,by (repeat' (first|exact wJ|refine And.intro ?_ ?_));done⟩)|fail)
  ·have hc: ¬e.at_>=IntKind.wrap .i64 (tick - n):=by rw [hw];exact c
   obtain rfl:b=false:=by rw [hb,decide_eq_false c];rfl
   repeat' ((conv=>whnf);first|refine WC.toM (tW mixed Tryz.func54 Go.ST4.l54 rfl rfl (rs:=[.tmp 2]) rfl 3000 (nlZ rfl) ?_)|refine su hc ?_|refine aS ?_|refine nT_ ?_)
   refine ⟨_,rfl,?_⟩
   repeat' ((conv=>whnf);first|(exact ⟨rfl,by (repeat' (first|exact wJ|refine And.intro ?_ ?_));done⟩)|fail)
end Go.ST
end
section
namespace Go.ST
open Go Go.DL Go.MM Go.Proofs
open Go.TY hiding Fd
variable {l:List Fd}{s:RS}{st st' o:List RE}{x0 x1 x2 x3 x4 x5 x6 x7 x8 x9 tick:Int}{e:RE}{is:Bool}
attribute [local irreducible] bR WCM YC
theorem JB(hk:s.kind=2)(hOf:DCalls Tryz.prog 22 [esT st,.str s.var] (esT o))(fc:DCalls Tryz.prog 139 [esT st,um ⟨e.var,e.key,e.n,tick⟩] (esT st'))(full:Bool)(hf:full=(!is&&decide (100<=o.length))):
  bR Tryz.prog 84 Go.ST3.xy (S0 l s st x0 x1 x2 x3 x4 x5 x6 x7 x8 x9 tick e is).mk' (fun ex s'=>ex= .normal/\bU (S1 l s x0 x1 x2 x3 x4 x5 x6 x7 x8 x9 tick is (if full then st else st') x0 x1 x2 x3 x4 x5 x6 x7 x8 x9 ⟨e.var,e.key,e.n,tick⟩ (!full)) s'):=by
 obtain ⟨kk,var,key,field,n,m⟩:=s;dsimp only at hk hOf;subst hk;have hol:((o.map um).length:Int)=o.length:=by rw [List.length_map]
 refine Go.ST3.Ay ?_;cases is with
 |true=>
  obtain rfl:full=false:=by rw [hf];rfl
  repeat' ((conv=>whnf);first|refine WC.toM (tW mixed Tryz.func53 Go.ST4.l53 rfl rfl (rs:=[.tmp 2]) rfl 3000 (nlZ rfl) ?_)|refine aS ?_|refine nT_ ?_)
  repeat' ((conv=>whnf);first|refine tW mixed Tryz.func105 Go.ST4.vR rfl rfl (rs:=[.tmp 2]) rfl 3100 (nlZ rfl) ?_|refine aS ?_|refine nT_ ?_)
  repeat' ((conv=>whnf);first|refine uc _ (fc) ?_|refine aS ?_|fail)
  refine ⟨_,rfl,?_⟩
  skip
  refine ⟨_,rfl,?_⟩
  repeat' ((conv=>whnf);first|(exact ⟨rfl,by (repeat' (first|exact wJ|refine And.intro ?_ ?_));done⟩)|fail)
 |false=>
  by_cases c:100<=o.length
  ·obtain rfl:full=true:=by rw [hf,decide_eq_true c];rfl
   have hc:((o.map um).length:Int)>=100:=by omega
   repeat' ((conv=>whnf);first|refine WC.toM (tW mixed Tryz.func53 Go.ST4.l53 rfl rfl (rs:=[.tmp 2]) rfl 3000 (nlZ rfl) ?_)|refine aS ?_|refine nT_ ?_)
   repeat' ((conv=>whnf);first|refine tW mixed Tryz.func105 Go.ST4.vR rfl rfl (rs:=[.tmp 2]) rfl 3100 (nlZ rfl) ?_|refine aS ?_|refine nT_ ?_)
   repeat' ((conv=>whnf);first|refine uc _ (hOf) ?_|refine sC hc ?_|refine aS ?_|fail)
   refine ⟨_,rfl,?_⟩
   skip
   refine ⟨_,rfl,?_⟩
   repeat' ((conv=>whnf);first|(exact ⟨rfl,by (repeat' (first|exact wJ|refine And.intro ?_ ?_));done⟩)|fail)
  ·obtain rfl:full=false:=by rw [hf,decide_eq_false c];rfl
   have hc: ¬((o.map um).length:Int)>=100:=by omega
   repeat' ((conv=>whnf);first|refine WC.toM (tW mixed Tryz.func53 Go.ST4.l53 rfl rfl (rs:=[.tmp 2]) rfl 3000 (nlZ rfl) ?_)|refine aS ?_|refine nT_ ?_)
   repeat' ((conv=>whnf);first|refine tW mixed Tryz.func105 Go.ST4.vR rfl rfl (rs:=[.tmp 2]) rfl 3100 (nlZ rfl) ?_|refine aS ?_|refine nT_ ?_)
   repeat' ((conv=>whnf);first|refine uc _ (hOf) ?_|refine su hc ?_|refine uc _ (fc) ?_|refine aS ?_|refine nT_ ?_)
   refine ⟨_,rfl,?_⟩
   skip
   refine ⟨_,rfl,?_⟩
   repeat' ((conv=>whnf);first|(exact ⟨rfl,by (repeat' (first|exact wJ|refine And.intro ?_ ?_));done⟩)|fail)
end Go.ST
end
section
namespace Go.ST
open Go Go.DL Go.MM Go.Proofs
open Go.TY hiding Fd
variable {l:List Fd}{s:RS}{st st' o:List RE}{x0 x1 x2 x3 x4 x5 x6 x7 x8 x9 y0 y1 y2 y3 y4 y5 y6 y7 y8 y9 tick:Int}{e:RE}{is:Bool}
attribute [local irreducible] bR WCM YC
abbrev EV(w:Nat)(n:Int):Int:=if ((2^w - 1:Nat):Int)<n then ((2^w - 1:Nat):Int) else n
theorem Dm(w:Nat)(n:Int):EV w n=min n ((2^w - 1:Nat):Int):=by
 unfold EV;split <;> omega
structure Wr (l:List Fd) (field:ByteArray) (h h':List Int) (n:Int):Prop where
 find:DCalls Tryz.prog 107 [fds l,.str field] (.tup [fdc l field,.bool (uA l field)])
 max:uA l field=true->DCalls Tryz.prog 141 [fdc l field] (I ((2^(fld l field).w - 1:Nat):Int))
 set:uA l field=true->DCalls Tryz.prog 140 [fdc l field,hd h,I (EV (fld l field).w n)] (hd h')
 no:uA l field=false->h'=h
theorem FR{l:List Fd}(hl:LOk l)(field:ByteArray){h:List Int}(hh:HOk h){n:Int}(h0:0<=n):Wr l field h (wrF l h field n) n:=by
 refine ⟨CH l hl field,fun hf=>t97 _ (yi hl hf),fun hf=>?_,fun hf=>?_⟩
 ·have hp:=Nat.two_pow_pos (fld l field).w;have hS:=t98 _ (yi hl hf) h hh (min n ((2^(fld l field).w - 1:Nat):Int)).toNat (by omega);unfold wrF;rw [if_pos hf,Dm];rwa [Int.toNat_of_nonneg (by omega)] at hS
 ·unfold wrF;rw [hf];rfl
theorem Is(hk:s.kind=1)(hOf:DCalls Tryz.prog 22 [esT st,.str s.var] (esT o))(N:Int)(hN:(if (65535:Int)<IntKind.wrap .i64 (e.n+1) then 65535 else IntKind.wrap .i64 (e.n+1))=N)(fc:DCalls Tryz.prog 139 [esT st,um ⟨e.var,e.key,N,tick⟩] (esT st'))(full:Bool)(hf:full=(!is&&decide (100<=o.length)))
  (hw:Wr l s.field [x0,x1,x2,x3,x4,x5,x6,x7,x8,x9] [y0,y1,y2,y3,y4,y5,y6,y7,y8,y9] N):
  bR Tryz.prog 84 Go.ST3.xy (S0 l s st x0 x1 x2 x3 x4 x5 x6 x7 x8 x9 tick e is).mk' (fun ex s'=>ex= .normal/\((full=true/\bU (S1 l s x0 x1 x2 x3 x4 x5 x6 x7 x8 x9 tick is st x0 x1 x2 x3 x4 x5 x6 x7 x8 x9 ⟨e.var,e.key,N,tick⟩ false) s')\/(full=false/\bU (S1 l s x0 x1 x2 x3 x4 x5 x6 x7 x8 x9 tick is st' y0 y1 y2 y3 y4 y5 y6 y7 y8 y9 ⟨e.var,e.key,N,tick⟩ true) s'))):=by
 obtain ⟨kk,var,key,field,n,m⟩:=s;dsimp only at hk hOf hw;subst hk;subst hN;have hol:((o.map um).length:Int)=o.length:=by rw [List.length_map]
 obtain ⟨hF,hM,hS,hno⟩:=hw;refine Go.ST3.Ay ?_
 by_cases c:full=true
 ·subst c;cases is with
  |true=>cases hf
  |false=>
   have c:100<=o.length:=by
    by_cases c:100<=o.length
    ·exact c
    ·rw [decide_eq_false c] at hf;cases hf
   have hc:((o.map um).length:Int)>=100:=by omega
   repeat' ((conv=>whnf);first|refine WC.toM (tW mixed Tryz.func52 Go.ST4.l52 rfl rfl (rs:=[.tmp 2]) rfl 3000 (nlZ rfl) ?_)|refine aS ?_|refine nT_ ?_)
   repeat' ((conv=>whnf);first|refine tW mixed Tryz.func105 Go.ST4.vR rfl rfl (rs:=[.tmp 2]) rfl 3100 (nlZ rfl) ?_|refine aS ?_|refine nT_ ?_)
   repeat' ((conv=>whnf);first|refine uc _ (hOf) ?_|refine sC hc ?_|refine aS ?_|fail)
   refine ⟨_,rfl,?_⟩
   skip
   refine ⟨_,rfl,?_⟩
   repeat' ((conv=>whnf);first|(exact ⟨rfl,Or.inl ⟨rfl,by (repeat' (first|exact wJ|refine And.intro ?_ ?_));done⟩⟩)|fail)
 ·have c:full=false:=by simpa using c
  subst c;have hgo:(is=true)\/(is=false/\ ¬((o.map um).length:Int)>=100):=by
   cases is with
   |true=>exact Or.inl rfl
   |false=>
    refine Or.inr ⟨rfl,fun hc=>?_⟩;rw [decide_eq_true (by omega)] at hf;cases hf
  cases hfo:uA l field with
  |true=>
   have hM:=hM hfo;have hS:=hS hfo;rw [hfo] at hF;rcases hgo with rfl|⟨rfl,hc⟩
   ·repeat' ((conv=>whnf);first|refine WC.toM (tW mixed Tryz.func52 Go.ST4.l52 rfl rfl (rs:=[.tmp 2]) rfl 3000 (nlZ rfl) ?_)|refine aS ?_|refine nT_ ?_)
    repeat' ((conv=>whnf);first|refine tW mixed Tryz.func105 Go.ST4.vR rfl rfl (rs:=[.tmp 2]) rfl 3100 (nlZ rfl) ?_|refine aS ?_|refine nT_ ?_)
    repeat' ((conv=>whnf);first|refine uc _ (fc) ?_|refine aS ?_|fail)
    refine ⟨_,rfl,?_⟩
    repeat' ((conv=>whnf);first|refine tW mixed Tryz.func106 Go.ST4.zr rfl rfl (rs:=[]) rfl 3200 (nlZ rfl) ?_|refine aS ?_|refine nT_ ?_)
    repeat' ((conv=>whnf);first|refine uc _ (hF) ?_|refine uc _ (hM) ?_|refine uc _ (hS) ?_|refine aS ?_|refine nT_ ?_)
    refine ⟨_,rfl,?_⟩
    skip
    refine ⟨_,rfl,?_⟩
    repeat' ((conv=>whnf);first|(exact ⟨rfl,Or.inr ⟨rfl,by (repeat' (first|exact wJ|refine And.intro ?_ ?_));done⟩⟩)|fail)
   ·repeat' ((conv=>whnf);first|refine WC.toM (tW mixed Tryz.func52 Go.ST4.l52 rfl rfl (rs:=[.tmp 2]) rfl 3000 (nlZ rfl) ?_)|refine aS ?_|refine nT_ ?_)
    repeat' ((conv=>whnf);first|refine tW mixed Tryz.func105 Go.ST4.vR rfl rfl (rs:=[.tmp 2]) rfl 3100 (nlZ rfl) ?_|refine aS ?_|refine nT_ ?_)
    repeat' ((conv=>whnf);first|refine uc _ (hOf) ?_|refine su hc ?_|refine uc _ (fc) ?_|refine aS ?_|refine nT_ ?_)
    refine ⟨_,rfl,?_⟩
    repeat' ((conv=>whnf);first|refine tW mixed Tryz.func106 Go.ST4.zr rfl rfl (rs:=[]) rfl 3200 (nlZ rfl) ?_|refine aS ?_|refine nT_ ?_)
    repeat' ((conv=>whnf);first|refine uc _ (hF) ?_|refine uc _ (hM) ?_|refine uc _ (hS) ?_|refine aS ?_|refine nT_ ?_)
    refine ⟨_,rfl,?_⟩
    skip
    refine ⟨_,rfl,?_⟩
    repeat' ((conv=>whnf);first|(exact ⟨rfl,Or.inr ⟨rfl,by (repeat' (first|exact wJ|refine And.intro ?_ ?_));done⟩⟩)|fail)
  |false=>
   have hno:=hno hfo;cases hno;rw [hfo] at hF;rcases hgo with rfl|⟨rfl,hc⟩
   ·repeat' ((conv=>whnf);first|refine WC.toM (tW mixed Tryz.func52 Go.ST4.l52 rfl rfl (rs:=[.tmp 2]) rfl 3000 (nlZ rfl) ?_)|refine aS ?_|refine nT_ ?_)
    repeat' ((conv=>whnf);first|refine tW mixed Tryz.func105 Go.ST4.vR rfl rfl (rs:=[.tmp 2]) rfl 3100 (nlZ rfl) ?_|refine aS ?_|refine nT_ ?_)
    repeat' ((conv=>whnf);first|refine uc _ (fc) ?_|refine aS ?_|fail)
    refine ⟨_,rfl,?_⟩
    repeat' ((conv=>whnf);first|refine tW mixed Tryz.func106 Go.ST4.zr rfl rfl (rs:=[]) rfl 3200 (nlZ rfl) ?_|refine aS ?_|refine nT_ ?_)
    repeat' ((conv=>whnf);first|refine uc _ (hF) ?_|refine aS ?_|fail)
    refine ⟨_,rfl,?_⟩
    skip
    refine ⟨_,rfl,?_⟩
    repeat' ((conv=>whnf);first|(exact ⟨rfl,Or.inr ⟨rfl,by (repeat' (first|exact wJ|refine And.intro ?_ ?_));done⟩⟩)|fail)
   ·repeat' ((conv=>whnf);first|refine WC.toM (tW mixed Tryz.func52 Go.ST4.l52 rfl rfl (rs:=[.tmp 2]) rfl 3000 (nlZ rfl) ?_)|refine aS ?_|refine nT_ ?_)
    repeat' ((conv=>whnf);first|refine tW mixed Tryz.func105 Go.ST4.vR rfl rfl (rs:=[.tmp 2]) rfl 3100 (nlZ rfl) ?_|refine aS ?_|refine nT_ ?_)
    repeat' ((conv=>whnf);first|refine uc _ (hOf) ?_|refine su hc ?_|refine uc _ (fc) ?_|refine aS ?_|refine nT_ ?_)
    refine ⟨_,rfl,?_⟩
    repeat' ((conv=>whnf);first|refine tW mixed Tryz.func106 Go.ST4.zr rfl rfl (rs:=[]) rfl 3200 (nlZ rfl) ?_|refine aS ?_|refine nT_ ?_)
    repeat' ((conv=>whnf);first|refine uc _ (hF) ?_|refine aS ?_|fail)
    refine ⟨_,rfl,?_⟩
    skip
    refine ⟨_,rfl,?_⟩
    repeat' ((conv=>whnf);first|(exact ⟨rfl,Or.inr ⟨rfl,by (repeat' (first|exact wJ|refine And.intro ?_ ?_));done⟩⟩)|fail)
end Go.ST
end
section
namespace Go.ST
open Go Go.DL Go.MM Go.Proofs
open Go.TY hiding Fd
variable {l:List Fd}{s:RS}{st st' o:List RE}{x0 x1 x2 x3 x4 x5 x6 x7 x8 x9 tick:Int}{e:RE}{is:Bool}
attribute [local irreducible] bR WCM YC
abbrev W64(n:Int):Int:=IntKind.wrap .i64 n
abbrev vE(tick a m:Int):Int:=W64 ((if W64 (tick - a)>0 then W64 (tick - a) else 0).tdiv m)
abbrev HD(n m tick en ea:Int):Int×Int:=if W64 (en+vE tick ea m)>=n then (n,tick) else (W64 (en+vE tick ea m),W64 (ea+W64 (vE tick ea m * m)))
theorem Iu(hk:s.kind=6)(hm:s.m≠0)(en ea n2 a2:Int)(h1:en=if is then e.n else s.n)(h1':ea=if is then e.at_ else tick)(h2:HD s.n s.m tick en ea=(n2,a2))(n3:Int)(h3:n3=if n2>0 then W64 (n2 - 1) else n2)
  (hOf:DCalls Tryz.prog 22 [esT st,.str s.var] (esT o)) (fc:DCalls Tryz.prog 139 [esT st,um ⟨e.var,e.key,n3,a2⟩] (esT st')) (full:Bool) (hf:full=(!is&&decide (100<=o.length))):
  bR Tryz.prog 84 Go.ST3.xy (S0 l s st x0 x1 x2 x3 x4 x5 x6 x7 x8 x9 tick e is).mk' (fun ex s'=>ex= .normal/\bU (S1 l s x0 x1 x2 x3 x4 x5 x6 x7 x8 x9 tick is (if full then st else st') x0 x1 x2 x3 x4 x5 x6 x7 x8 x9 ⟨e.var,e.key,n3,a2⟩ (!full&&decide (n2>0))) s'):=by
 obtain ⟨kk,var,key,field,n,m⟩:=s;dsimp only at hk hOf hm h1 h1' h2;subst hk;have hol:((o.map um).length:Int)=o.length:=by rw [List.length_map]
 refine Go.ST3.Ay ?_;cases is with
 |true=>
  obtain rfl:full=false:=by rw [hf];rfl
  obtain rfl:en=e.n:=h1;obtain rfl:ea=e.at_:=h1'
  by_cases c1:W64 (e.n+vE tick e.at_ m)>=n
  ·have h2:(n,tick)=(n2,a2):=by rw [<- h2];exact (if_pos c1).symm
   obtain ⟨rfl,rfl⟩:=Prod.mk.injEq .. ▸h2
   by_cases c2:n>0
   ·rw [if_pos c2] at h3;subst h3;rw [decide_eq_true c2]
    repeat' ((conv=>whnf);first|refine WC.toM (tW mixed Tryz.func57 Go.ST4.l57 rfl rfl (rs:=[.tmp 2]) rfl 3000 (nlZ rfl) ?_)|refine aD1 ?_|refine aS ?_|refine nT_ ?_)
    repeat' ((conv=>whnf);first|refine tW mixed Tryz.func105 Go.ST4.vR rfl rfl (rs:=[.tmp 2]) rfl 3100 (nlZ rfl) ?_|refine aS ?_|refine nT_ ?_)
    repeat' ((conv=>whnf);first|refine uc _ (fc) ?_|refine aS ?_|fail)
    refine ⟨_,rfl,?_⟩
    skip
    refine ⟨_,rfl,?_⟩
    repeat' ((conv=>whnf);first|(exact ⟨rfl,by (repeat' (first|exact wJ|refine And.intro ?_ ?_));done⟩)|fail)
   ·rw [if_neg c2] at h3;subst h3;rw [decide_eq_false c2]
    repeat' ((conv=>whnf);first|refine WC.toM (tW mixed Tryz.func57 Go.ST4.l57 rfl rfl (rs:=[.tmp 2]) rfl 3000 (nlZ rfl) ?_)|refine aD1 ?_|refine aD0 ?_|refine aS ?_|refine nT_ ?_)
    repeat' ((conv=>whnf);first|refine tW mixed Tryz.func105 Go.ST4.vR rfl rfl (rs:=[.tmp 2]) rfl 3100 (nlZ rfl) ?_|refine aS ?_|refine nT_ ?_)
    repeat' ((conv=>whnf);first|refine uc _ (fc) ?_|refine aS ?_|fail)
    refine ⟨_,rfl,?_⟩
    skip
    refine ⟨_,rfl,?_⟩
    repeat' ((conv=>whnf);first|(exact ⟨rfl,by (repeat' (first|exact wJ|refine And.intro ?_ ?_));done⟩)|fail)
  ·have h2:(W64 (e.n+vE tick e.at_ m),W64 (e.at_+W64 (vE tick e.at_ m * m)))=(n2,a2):=by rw [<- h2];exact (if_neg c1).symm
   obtain ⟨rfl,rfl⟩:=Prod.mk.injEq .. ▸h2
   by_cases c2:W64 (e.n+vE tick e.at_ m)>0
   ·rw [if_pos c2] at h3;subst h3;rw [decide_eq_true c2]
    repeat' ((conv=>whnf);first|refine WC.toM (tW mixed Tryz.func57 Go.ST4.l57 rfl rfl (rs:=[.tmp 2]) rfl 3000 (nlZ rfl) ?_)|refine aD1 ?_|refine aD0 ?_|refine aS ?_|refine nT_ ?_)
    repeat' ((conv=>whnf);first|refine tW mixed Tryz.func105 Go.ST4.vR rfl rfl (rs:=[.tmp 2]) rfl 3100 (nlZ rfl) ?_|refine aS ?_|refine nT_ ?_)
    repeat' ((conv=>whnf);first|refine uc _ (fc) ?_|refine aS ?_|fail)
    refine ⟨_,rfl,?_⟩
    skip
    refine ⟨_,rfl,?_⟩
    repeat' ((conv=>whnf);first|(exact ⟨rfl,by (repeat' (first|exact wJ|refine And.intro ?_ ?_));done⟩)|fail)
   ·rw [if_neg c2] at h3;subst h3;rw [decide_eq_false c2]
    repeat' ((conv=>whnf);first|refine WC.toM (tW mixed Tryz.func57 Go.ST4.l57 rfl rfl (rs:=[.tmp 2]) rfl 3000 (nlZ rfl) ?_)|refine aD0 ?_|refine aS ?_|refine nT_ ?_)
    repeat' ((conv=>whnf);first|refine tW mixed Tryz.func105 Go.ST4.vR rfl rfl (rs:=[.tmp 2]) rfl 3100 (nlZ rfl) ?_|refine aS ?_|refine nT_ ?_)
    repeat' ((conv=>whnf);first|refine uc _ (fc) ?_|refine aS ?_|fail)
    refine ⟨_,rfl,?_⟩
    skip
    refine ⟨_,rfl,?_⟩
    repeat' ((conv=>whnf);first|(exact ⟨rfl,by (repeat' (first|exact wJ|refine And.intro ?_ ?_));done⟩)|fail)
 |false=>
  obtain rfl:n=en:=h1.symm;obtain rfl:tick=ea:=h1'.symm
  by_cases c:100<=o.length
  ·have c3:((o.map um).length:Int)>=100:=by omega
   obtain rfl:full=true:=by rw [hf,decide_eq_true c];rfl
   by_cases c1:W64 (n+vE tick tick m)>=n
   ·have h2:(n,tick)=(n2,a2):=by rw [<- h2];exact (if_pos c1).symm
    obtain ⟨rfl,rfl⟩:=Prod.mk.injEq .. ▸h2
    by_cases c2:n>0
    ·rw [if_pos c2] at h3;subst h3;rw [decide_eq_true c2]
     repeat' ((conv=>whnf);first|refine WC.toM (tW mixed Tryz.func57 Go.ST4.l57 rfl rfl (rs:=[.tmp 2]) rfl 3000 (nlZ rfl) ?_)|refine aD1 ?_|refine aS ?_|refine nT_ ?_)
     repeat' ((conv=>whnf);first|refine tW mixed Tryz.func105 Go.ST4.vR rfl rfl (rs:=[.tmp 2]) rfl 3100 (nlZ rfl) ?_|refine aS ?_|refine nT_ ?_)
     repeat' ((conv=>whnf);first|refine uc _ (hOf) ?_|refine sC c3 ?_|refine aS ?_|fail)
     refine ⟨_,rfl,?_⟩
     skip
     refine ⟨_,rfl,?_⟩
     repeat' ((conv=>whnf);first|(exact ⟨rfl,by (repeat' (first|exact wJ|refine And.intro ?_ ?_));done⟩)|fail)
    ·rw [if_neg c2] at h3;subst h3;rw [decide_eq_false c2]
     repeat' ((conv=>whnf);first|refine WC.toM (tW mixed Tryz.func57 Go.ST4.l57 rfl rfl (rs:=[.tmp 2]) rfl 3000 (nlZ rfl) ?_)|refine aD1 ?_|refine aD0 ?_|refine aS ?_|refine nT_ ?_)
     repeat' ((conv=>whnf);first|refine tW mixed Tryz.func105 Go.ST4.vR rfl rfl (rs:=[.tmp 2]) rfl 3100 (nlZ rfl) ?_|refine aS ?_|refine nT_ ?_)
     repeat' ((conv=>whnf);first|refine uc _ (hOf) ?_|refine sC c3 ?_|refine aS ?_|fail)
     refine ⟨_,rfl,?_⟩
     skip
     refine ⟨_,rfl,?_⟩
     repeat' ((conv=>whnf);first|(exact ⟨rfl,by (repeat' (first|exact wJ|refine And.intro ?_ ?_));done⟩)|fail)
   ·have h2:(W64 (n+vE tick tick m),W64 (tick+W64 (vE tick tick m * m)))=(n2,a2):=by rw [<- h2];exact (if_neg c1).symm
    obtain ⟨rfl,rfl⟩:=Prod.mk.injEq .. ▸h2
    by_cases c2:W64 (n+vE tick tick m)>0
    ·rw [if_pos c2] at h3;subst h3;rw [decide_eq_true c2]
     repeat' ((conv=>whnf);first|refine WC.toM (tW mixed Tryz.func57 Go.ST4.l57 rfl rfl (rs:=[.tmp 2]) rfl 3000 (nlZ rfl) ?_)|refine aD1 ?_|refine aD0 ?_|refine aS ?_|refine nT_ ?_)
     repeat' ((conv=>whnf);first|refine tW mixed Tryz.func105 Go.ST4.vR rfl rfl (rs:=[.tmp 2]) rfl 3100 (nlZ rfl) ?_|refine aS ?_|refine nT_ ?_)
     repeat' ((conv=>whnf);first|refine uc _ (hOf) ?_|refine sC c3 ?_|refine aS ?_|fail)
     refine ⟨_,rfl,?_⟩
     skip
     refine ⟨_,rfl,?_⟩
     repeat' ((conv=>whnf);first|(exact ⟨rfl,by (repeat' (first|exact wJ|refine And.intro ?_ ?_));done⟩)|fail)
    ·rw [if_neg c2] at h3;subst h3;rw [decide_eq_false c2]
     repeat' ((conv=>whnf);first|refine WC.toM (tW mixed Tryz.func57 Go.ST4.l57 rfl rfl (rs:=[.tmp 2]) rfl 3000 (nlZ rfl) ?_)|refine aD0 ?_|refine aS ?_|refine nT_ ?_)
     repeat' ((conv=>whnf);first|refine tW mixed Tryz.func105 Go.ST4.vR rfl rfl (rs:=[.tmp 2]) rfl 3100 (nlZ rfl) ?_|refine aS ?_|refine nT_ ?_)
     repeat' ((conv=>whnf);first|refine uc _ (hOf) ?_|refine sC c3 ?_|refine aS ?_|fail)
     refine ⟨_,rfl,?_⟩
     skip
     refine ⟨_,rfl,?_⟩
     repeat' ((conv=>whnf);first|(exact ⟨rfl,by (repeat' (first|exact wJ|refine And.intro ?_ ?_));done⟩)|fail)
  ·have c3: ¬((o.map um).length:Int)>=100:=by omega
   obtain rfl:full=false:=by rw [hf,decide_eq_false c];rfl
   by_cases c1:W64 (n+vE tick tick m)>=n
   ·have h2:(n,tick)=(n2,a2):=by rw [<- h2];exact (if_pos c1).symm
    obtain ⟨rfl,rfl⟩:=Prod.mk.injEq .. ▸h2
    by_cases c2:n>0
    ·rw [if_pos c2] at h3;subst h3;rw [decide_eq_true c2]
     repeat' ((conv=>whnf);first|refine WC.toM (tW mixed Tryz.func57 Go.ST4.l57 rfl rfl (rs:=[.tmp 2]) rfl 3000 (nlZ rfl) ?_)|refine aD1 ?_|refine aS ?_|refine nT_ ?_)
     repeat' ((conv=>whnf);first|refine tW mixed Tryz.func105 Go.ST4.vR rfl rfl (rs:=[.tmp 2]) rfl 3100 (nlZ rfl) ?_|refine aS ?_|refine nT_ ?_)
     repeat' ((conv=>whnf);first|refine uc _ (hOf) ?_|refine su c3 ?_|refine uc _ (fc) ?_|refine aS ?_|refine nT_ ?_)
     refine ⟨_,rfl,?_⟩
     skip
     refine ⟨_,rfl,?_⟩
     repeat' ((conv=>whnf);first|(exact ⟨rfl,by (repeat' (first|exact wJ|refine And.intro ?_ ?_));done⟩)|fail)
    ·rw [if_neg c2] at h3;subst h3;rw [decide_eq_false c2]
     repeat' ((conv=>whnf);first|refine WC.toM (tW mixed Tryz.func57 Go.ST4.l57 rfl rfl (rs:=[.tmp 2]) rfl 3000 (nlZ rfl) ?_)|refine aD1 ?_|refine aD0 ?_|refine aS ?_|refine nT_ ?_)
     repeat' ((conv=>whnf);first|refine tW mixed Tryz.func105 Go.ST4.vR rfl rfl (rs:=[.tmp 2]) rfl 3100 (nlZ rfl) ?_|refine aS ?_|refine nT_ ?_)
     repeat' ((conv=>whnf);first|refine uc _ (hOf) ?_|refine su c3 ?_|refine uc _ (fc) ?_|refine aS ?_|refine nT_ ?_)
     refine ⟨_,rfl,?_⟩
     skip
     refine ⟨_,rfl,?_⟩
     repeat' ((conv=>whnf);first|(exact ⟨rfl,by (repeat' (first|exact wJ|refine And.intro ?_ ?_));done⟩)|fail)
   ·have h2:(W64 (n+vE tick tick m),W64 (tick+W64 (vE tick tick m * m)))=(n2,a2):=by rw [<- h2];exact (if_neg c1).symm
    obtain ⟨rfl,rfl⟩:=Prod.mk.injEq .. ▸h2
    by_cases c2:W64 (n+vE tick tick m)>0
    ·rw [if_pos c2] at h3;subst h3;rw [decide_eq_true c2]
     repeat' ((conv=>whnf);first|refine WC.toM (tW mixed Tryz.func57 Go.ST4.l57 rfl rfl (rs:=[.tmp 2]) rfl 3000 (nlZ rfl) ?_)|refine aD1 ?_|refine aD0 ?_|refine aS ?_|refine nT_ ?_)
     repeat' ((conv=>whnf);first|refine tW mixed Tryz.func105 Go.ST4.vR rfl rfl (rs:=[.tmp 2]) rfl 3100 (nlZ rfl) ?_|refine aS ?_|refine nT_ ?_)
     repeat' ((conv=>whnf);first|refine uc _ (hOf) ?_|refine su c3 ?_|refine uc _ (fc) ?_|refine aS ?_|refine nT_ ?_)
     refine ⟨_,rfl,?_⟩
     skip
     refine ⟨_,rfl,?_⟩
     repeat' ((conv=>whnf);first|(exact ⟨rfl,by (repeat' (first|exact wJ|refine And.intro ?_ ?_));done⟩)|fail)
    ·rw [if_neg c2] at h3;subst h3;rw [decide_eq_false c2]
     repeat' ((conv=>whnf);first|refine WC.toM (tW mixed Tryz.func57 Go.ST4.l57 rfl rfl (rs:=[.tmp 2]) rfl 3000 (nlZ rfl) ?_)|refine aD0 ?_|refine aS ?_|refine nT_ ?_)
     repeat' ((conv=>whnf);first|refine tW mixed Tryz.func105 Go.ST4.vR rfl rfl (rs:=[.tmp 2]) rfl 3100 (nlZ rfl) ?_|refine aS ?_|refine nT_ ?_)
     repeat' ((conv=>whnf);first|refine uc _ (hOf) ?_|refine su c3 ?_|refine uc _ (fc) ?_|refine aS ?_|refine nT_ ?_)
     refine ⟨_,rfl,?_⟩
     skip
     refine ⟨_,rfl,?_⟩
     repeat' ((conv=>whnf);first|(exact ⟨rfl,by (repeat' (first|exact wJ|refine And.intro ?_ ?_));done⟩)|fail)
end Go.ST
end
section
namespace Go.ST5
open Go Go.DL Go.Proofs
noncomputable def c56:aV:=(sr [oo 1 (.box 1 (tm 0)),oo 2 (.mov kF)] (sr [ld 10 1,oo 11 (.nilck (tm 10)),fa 12 0 11,ld 13 12,ld 14 1,oo 15 (.nilck (tm 14)),fa 16 1 15,fa 17 3 16,ld 18 17,oo 19 (.call 107 [(tm 13),(tm 18)]),mv 9 19,oo 20 (.ext (tm 9) 0),oo 21 (.ext (tm 9) 1),⟨some 3,.alloc [S0,Z0,Z0],none,[]⟩,o0 (.store 3 (tm 3) (tm 20)),mv 4 21] (sr [lA 22 3 3,ld 23 1,oo 24 (.nilck (tm 23)),fa 25 8 24,lA 26 10 25,oo 27 (.call 108 [(tm 22),(tm 26)]),oo 5 (.alloc [Z0]),o0 (.store 1 (tm 5) (tm 27))] (sr [ld 28 1,oo 29 (.nilck (tm 28)),fa 30 7 29,ld 31 30,oo 32 (.mkfn 110 [(tm 1),(tm 5)]),oo 33 (.inl 109 [(tm 31),(tm 32)]),mv 6 33] (.seq (sr [mv 34 6,oo 35 (.bin .lss (tm 34) (Kc 0))] (.cond (tm 35) (sr [oo 2 (.mov kF)] .ret) .skip)) (.seq (sr [ld 36 1,oo 37 (.nilck (tm 36)),fa 38 1 37,fa 39 2 38,ld 40 39,ln 41 40,oo 42 (.mov (Kc 0))] (.block 0 (.loop (sr [oo 43 (.bin .lss (tm 42) (tm 41))] (.seq (.cond (tm 43) .skip (.exit 0)) (.seq (.block 1 (sr [mv 44 42,ix 45 1 40 42,ld 46 45,mv 7 44,mv 8 46] (rg [ld 47 1,mv 48 8,ld 49 1,oo 50 (.nilck (tm 49)),fa 51 7 50,ld 52 51,mv 53 6,ix 54 4 52 53,fa 55 1 54,ld 56 55,mv 57 7,ix 58 1 56 57,ld 59 58,oo 60 (.inl 106 [(tm 47),(tm 48),(tm 59)])]))) (rg [oo 61 (.bin .add (tm 42) (Kc 1)),mv 42 61]))))))) (sr [oo 2 (.mov kT)] .ret)))))))
theorem l56:(Tryz.f56.body.bind (bt Tryz.prog 62 [106,109]))=some c56:=by kernel_rfl
end Go.ST5
end
section
namespace Go.ST
open Go Go.DL Go.MM
open Go.TY hiding Fd
def Ny(n m N A t:Int):Int×Int:=if N+(if t>A then (t - A).tdiv m else 0)>=n then (n,t) else (N+(if t>A then (t - A).tdiv m else 0),A+(if t>A then (t - A).tdiv m else 0) * m)
theorem GC{n m N A t:Int}(_:1<=n)(hm:1<=m)(_:0<=N)(_:0<=A)(hat:A<=t): ∃q:Int,0<=q/\q * m<=t - A/\(m<=t - A->1<=q)/\t - A<(q+1) * m/\Ny n m N A t=(if N+q>=n then (n,t) else (N+q,A+q * m)):=by
 refine ⟨if t>A then (t - A).tdiv m else 0,?_,?_,?_,?_,rfl⟩
 all_goals
  by_cases h:t>A
  ·rw [if_pos h,Int.tdiv_eq_ediv_of_nonneg (by omega)];have h1:=Int.ediv_nonneg (a:=t - A) (b:=m) (by omega) (by omega);have h2:=Int.ediv_mul_le (t - A) (b:=m) (by omega);have h3:=Int.lt_ediv_add_one_mul_self (t - A) (b:=m) (by omega)
   first
    |exact h1
    |exact h2
    |exact h3
    |(intro hq
      generalize (t - A) / m=q at *
      by_cases hq0:q<=0
      ·have:q=0:=by omega
       subst this;simp at h3;omega
      ·omega)
  ·rw [if_neg h]
   first|omega|(simp;omega)
structure Da (l:List Fd) (vars:List RV) (s:RS):Prop where
 k0:1<=s.kind
 k1:s.kind<=6
 keys: ∀k∈s.key,uA l k=true
 klen:s.key.length<=1000
 var: ∃v,varOf vars s.var=some v/\v.fam=vD s.kind/\v.ws=uM l s/\(s.kind=4->v.n=s.n/\v.m=s.m)/\(s.kind=6->v.n=s.n)
 k3:s.kind=3->0<=s.n/\s.n<=1073741824
 k4:s.kind=4->0<=s.n/\s.n<=65535/\s.n<=s.m/\s.m<=65535/\uA l s.field=true/\s.m<=((2^(fld l s.field).w - 1:Nat):Int)
 k5:s.kind=5->uA l s.field=true
 k6:s.kind=6->1<=s.n/\s.n<=65535/\1<=s.m/\s.m<=1073741824
theorem G8{l:List Fd}(h:LOk l){k:ByteArray}(hf:uA l k=true):FOk (MM.fld l k):=by
 unfold uA at hf;obtain ⟨f,hf⟩:=Option.isSome_iff_exists.1 hf;rw [B6 hf];exact h.find hf
theorem DB{l:List Fd}{h:List Int}: ∀(names:List ByteArray),vG (keyOf l names h) (names.map fun k=>((fld l k).w:Int))=true
 |[]=>rfl
 |k::ks=>by
  have h1:=Ey (fld l k) h;show vG ((vj (fld l k) h:Int)::keyOf l ks h) (((fld l k).w:Int)::ks.map fun k=>((fld l k).w:Int))=true
  rw [vG,DB ks,Int.toNat_natCast];simp only [Bool.and_true,Bool.and_eq_true,decide_eq_true_eq];refine ⟨by omega,?_⟩
  have:((2^(fld l k).w:Nat):Int)=2^(fld l k).w:=by simp
  omega
theorem HG{l:List Fd}{vars:List RV}{s:RS}{st:List RE}{h:List Int}{tick:Int}(hl:LOk l)(hno:uA l ⟨#[]⟩=false)(hh:HOk h)(ho:OkS vars st)(hlen:st.length<=1000000)(h0:0<=tick)(h1:tick<=1073741824)(hs:Da l vars s):BY l s st h tick:=by
 refine ⟨hl,hno,hh,ho.inc,hlen,fun e he=>⟨(ho.fit e he).n0,(ho.fit e he).n1,(ho.fit e he).a0,(ho.fit e he).a1⟩,h0,h1,by have:=hs.k0;omega,hs.k1,hs.keys,hs.klen,hs.k3,fun h4=>?_,fun h5=>⟨hs.k5 h5,fun e he hv=>?_⟩,hs.k6⟩
 ·obtain ⟨a,b,c,d, -, -⟩:=hs.k4 h4;exact ⟨a,b,c,d⟩
 ·obtain ⟨v,v1,v2,v3, -⟩:=hs.var;obtain ⟨w,w1,w2, -⟩:=(ho.fit e he).ex;rw [hv,v1] at w1;cases w1;obtain ⟨q1,q2⟩:=BL.1 w2;refine ⟨by rw [q1,v3];unfold uM;simp,fun x hx=>?_⟩;obtain ⟨i,hi,rfl⟩:=List.getElem_of_mem hx;exact (q2 i e.key[i] (v.ws[i]'(by rw [<- q1];exact hi)) (ggZ hi) (ggZ _)).1
theorem xw{l:List Fd}(hl:LOk l){h:List Int}(hh:HOk h){name:ByteArray}{n:Int}(_:0<=n):HOk (wrF l h name n):=by
 unfold wrF;cases hf:uA l name with
 |false=>simpa using hh
 |true=>
  rw [if_pos rfl]
  have:=Nat.two_pow_pos (fld l name).w
  exact hh.set (G8 hl hf) (by omega)
theorem yG{l:List Fd}(hl:LOk l): ∀{ks:List ByteArray} {vs:List Int} {h:List Int},HOk h->(∀ x∈vs,0<=x)->HOk (wQ l ks vs h)
 |[],_,h,hh,_=>hh
 |_::_,[],h,hh,_=>hh
 |k::ks,v::vs,h,hh,hv=>show HOk (wQ l ks vs (wrF l h k v)) from yG hl (xw hl hh (hv v (by simp))) fun x hx=>hv x (by simp [hx])
theorem I8{l:List Fd}{vars:List RV}{s:RS}{st:List RE}{tick:Int}{key:List Int}(ho:OkS vars st)(hs:Da l vars s)(h6:s.kind=6)(h0:0<=tick)(h1:tick<=1073741824):
  0<=(xE s (uB st s.var key) key tick).n/\(xE s (uB st s.var key) key tick).n<=s.n/\0<=(xE s (uB st s.var key) key tick).at_/\(xE s (uB st s.var key) key tick).at_<=1073741824:=by
 obtain ⟨m1,m2,m3,m4⟩:=hs.k6 h6;have key': ∀(e:RE),0<=e.n->0<=e.at_->e.at_<=1073741824->e.n<=s.n->0<=(vY s e tick).n/\(vY s e tick).n<=s.n/\0<=(vY s e tick).at_/\(vY s e tick).at_<=1073741824:=by
  intro e e0 e1 e2 e3
  by_cases ht:tick>e.at_
  ·obtain ⟨q,q0,q1,q2,q3,q4⟩:=GC (n:=s.n) (m:=s.m) (N:=e.n) (A:=e.at_) (t:=tick) m1 m3 e0 e1 (by omega);have hq:(if tick>e.at_ then (tick - e.at_).tdiv s.m else 0)=q\/True:=Or.inr trivial;have hp:=Int.ediv_nonneg (a:=tick - e.at_) (b:=s.m) (by omega) (by omega);have hp2:=Int.ediv_mul_le (tick - e.at_) (b:=s.m) (by omega);unfold vY;dsimp only;rw [if_pos ht,Int.tdiv_eq_ediv_of_nonneg (by omega)];generalize (tick - e.at_) / s.m=k at *
   have hkm:=Int.mul_nonneg hp (show (0:Int)<=s.m by omega);split <;> (dsimp only;omega)
  ·unfold vY;dsimp only;rw [if_neg ht];split <;> (dsimp only;omega)
 unfold xE;cases hf:uB st s.var key with
 |none=>exact key' _ (by dsimp [Option.getD];omega) (by dsimp [Option.getD];omega) (by dsimp [Option.getD];omega) (by dsimp [Option.getD];omega)
 |some e=>
  obtain ⟨g1,g2,g3⟩:=wx hf;have hfe:=ho.fit e g1;obtain ⟨v,v1,v2,v3,v4,v5⟩:=hs.var;obtain ⟨w,w1,w2,w3,w4,w5⟩:=hfe.ex;rw [g2,v1] at w1;cases w1;have h4:v.fam=4:=by rw [v2,h6];decide
  have hn:e.n<=s.n:=by
   have:=v5 h6
   rcases w5 h4 with h|h <;> omega
  exact key' e hfe.n0 hfe.a0 hfe.a1 hn
theorem Jh{l:List Fd}{vars:List RV}{s:RS}{st:List RE}{h:List Int}{tick:Int}(hl:LOk l)(hh:HOk h)(ho:OkS vars st)(h0:0<=tick)(h1:tick<=1073741824)(hs:Da l vars s):
  OkS vars (doE l s st h tick).st/\HOk (doE l s st h tick).h/\uR (doE l s st h tick).st s.var=uR st s.var/\((doE l s st h tick).pass=false->(doE l s st h tick).h=h):=by
 obtain ⟨v,v1,v2,v3,v4,v5⟩:=hs.var;have hk:=DB (l:=l) (h:=h) s.key;rw [show (s.key.map fun k=>((fld l k).w:Int))=v.ws from v3.symm] at hk;have put: ∀(n a:Int),0<=n->n<=65535->0<=a->a<=1073741824->(v.fam=2->n=0)->(v.fam=3->v.n<=n/\n<=v.m)->(v.fam=4->v.n=0\/n<=v.n)->uY (uB st s.var (keyOf l s.key h)) (ofE st s.var)=false->
   (v.fam=3-> ∀x∈st,x.var=s.var->uz x ⟨s.var,keyOf l s.key h,n,a⟩≠0->x.n≠n)->OkS vars (uS ⟨s.var,keyOf l s.key h,n,a⟩ st)/\uR (uS ⟨s.var,keyOf l s.key h,n,a⟩ st) s.var=uR st s.var:=by
  intro n a n0 n1 a0 a1 f2 f3 f4 uL hun;refine ⟨ho.put ⟨⟨v,v1,hk,f2,f3,f4⟩,n0,n1,a0,a1⟩ ?_ ?_,Eb ho.inc rfl⟩
  ·unfold uY at uL;cases hf:uB st s.var (keyOf l s.key h) with
   |some x=>exact Or.inl rfl
   |none=>
    rw [hf] at uL;right;simp at uL;exact uL
  ·rintro ⟨v',w1,w2⟩ x hx hxv hne;have e:some v'=some v:=w1.symm.trans v1;cases e;exact hun w2 x hx hxv hne
 have old: ∀e,uB st s.var (keyOf l s.key h)=some e->e∈st/\e.var=s.var/\e.key=keyOf l s.key h/\0<=e.n/\e.n<=65535/\(v.fam=2->e.n=0)/\(v.fam=3->v.n<=e.n/\e.n<=v.m):=by
  intro e hf;obtain ⟨g1,g2,g3⟩:=wx hf;have hfe:=ho.fit e g1;obtain ⟨w,w1,w2,w3,w4,w5⟩:=hfe.ex;rw [g2,v1] at w1;cases w1;exact ⟨g1,g2,g3,hfe.n0,hfe.n1,w3,w4⟩
 have triv: ∀(b:Bool),OkS vars st/\HOk h/\uR st s.var=uR st s.var/\(b=false->h=h):=fun b=>⟨ho,hh,rfl,fun _=>rfl⟩
 have k0:=hs.k0;have k1:=hs.k1;unfold doE Au doR;rw [if_neg (by omega)]
 by_cases c1:s.kind=1
 ·rw [if_pos c1];unfold do1;cases uL:uY (uB st s.var (keyOf l s.key h)) (ofE st s.var) with
  |true=>exact triv false
  |false=>
   have hf:v.fam=1:=by rw [v2,c1];decide
   have hn:0<=((uB st s.var (keyOf l s.key h)).map (·.n)).getD 0:=by
    cases hf:uB st s.var (keyOf l s.key h) with
    |none=>exact Int.le_refl _
    |some e=>exact (old e hf).2.2.2.1
   generalize ((uB st s.var (keyOf l s.key h)).map (·.n)).getD 0=n at *
   obtain ⟨p1,p2⟩:=put (min (n+1) 65535) tick (by omega) (by omega) h0 h1 (by omega) (by omega) (by omega) uL (by omega);exact ⟨p1,xw hl hh (by omega),p2,fun hc=>by cases hc⟩
 rw [if_neg c1]
 by_cases c2:s.kind=2
 ·rw [if_pos c2];unfold do2;cases uL:uY (uB st s.var (keyOf l s.key h)) (ofE st s.var) with
  |true=>exact triv false
  |false=>
   have hf2:v.fam=2:=by rw [v2,c2];decide
   have hn:((uB st s.var (keyOf l s.key h)).map (·.n)).getD 0=0:=by
    cases hf:uB st s.var (keyOf l s.key h) with
    |none=>rfl
    |some e=>exact (old e hf).2.2.2.2.2.1 hf2
   rw [hn];obtain ⟨p1,p2⟩:=put 0 tick (by omega) (by omega) h0 h1 (by omega) (by omega) (by omega) uL (by omega);exact ⟨p1,hh,p2,fun hc=>by cases hc⟩
 rw [if_neg c2]
 by_cases c3:s.kind=3
 ·rw [if_pos c3];exact triv _
 rw [if_neg c3]
 by_cases c4:s.kind=4
 ·rw [if_pos c4];unfold do4;have hf3:v.fam=3:=by rw [v2,c4];decide
  obtain ⟨e1,e2⟩:=v4 c4;obtain ⟨m1,m2,m3,m4,m5,m6⟩:=hs.k4 c4;cases uL:uY (uB st s.var (keyOf l s.key h)) (ofE st s.var) with
  |true=>exact triv false
  |false=>
   rw [Bool.false_or];cases hf:uB st s.var (keyOf l s.key h) with
   |some e=>
    obtain ⟨g1,g2,g3,g4,g5,g6,g7⟩:=old e hf;rw [show ((some e).isNone&&decide (wq s (some e) (ofE st s.var)>s.m))=false from rfl];obtain ⟨p1,p2⟩:=put e.n tick g4 g5 h0 h1 (by omega) (fun _=>g7 hf3) (by omega) uL (fun _ x hx hxv hne hn=>by
     have hex:uz x e≠0:=fun h0=>hne (by
      rw [wM] at h0 ⊢;exact ⟨h0.1.trans g2,h0.2.trans g3⟩)
     obtain ⟨i,hi,rfl⟩:=List.getElem_of_mem hx;obtain ⟨j,hj,rfl⟩:=List.getElem_of_mem g1;have hij:i≠j:=fun hh=>hex (by subst hh;exact uv.refl _)
     have hp:=List.pairwise_iff_getElem.1 ho.tr;rcases Nat.lt_or_gt_of_ne hij with hlt|hlt
     ·exact hp i j hi hj hlt (hxv.trans g2.symm) ⟨v,by rw [hxv];exact v1,hf3⟩ hn
     ·exact hp j i hj hi hlt (g2.trans hxv.symm) ⟨v,by rw [g2];exact v1,hf3⟩ hn.symm)
    exact ⟨p1,xw hl hh g4,p2,fun hc=>by cases hc⟩
   |none=>
    have vk:wq s none (ofE st s.var)=vr (ofE st s.var) (ofE st s.var).length s.n:=rfl
    by_cases hm:wq s none (ofE st s.var)>s.m
    ·rw [show ((none:Option RE).isNone&&decide (wq s none (ofE st s.var)>s.m))=true by simp [hm]];exact triv false
    ·rw [show ((none:Option RE).isNone&&decide (wq s none (ofE st s.var)>s.m))=false by simp [hm]];obtain ⟨q1,q2,q3⟩:=xI (ofE st s.var) (ofE st s.var).length s.n;have Ab:=Aa (ofE st s.var) s.n;rw [<- vk] at q1 Ab;generalize wq s none (ofE st s.var)=n at *
     rw [hf] at put uL;obtain ⟨p1,p2⟩:=put n tick (by omega) (by omega) h0 h1 (by omega) (by omega) (by omega) uL (fun _ x hx hxv hne hn=>by
      unfold uT at Ab;rw [List.any_eq_false] at Ab;exact Ab x (List.mem_filter.2 ⟨hx,by simpa using hxv⟩) (by simpa using hn))
     exact ⟨p1,xw hl hh (by omega),p2,fun hc=>by cases hc⟩
 rw [if_neg c4]
 by_cases c5:s.kind=5
 ·rw [if_pos c5];unfold do5;split
  ·rename_i e he;have hm:=List.mem_of_find?_eq_some he;obtain ⟨hm1,hm2⟩:=List.mem_filter.1 hm;have hp:=(HG (h:=h) (tick:=tick) hl (s:=s) (st:=st) (vars:=vars))
   refine ⟨ho,yG hl hh fun x hx=>?_,rfl,fun hc=>by cases hc⟩;obtain ⟨w,w1,w2, -⟩:=(ho.fit e hm1).ex;obtain ⟨q1,q2⟩:=BL.1 w2;obtain ⟨i,hi,rfl⟩:=List.getElem_of_mem hx;exact (q2 i e.key[i] (w.ws[i]'(by rw [<- q1];exact hi)) (ggZ hi) (ggZ _)).1
  ·exact triv false
 rw [if_neg c5];have c6:s.kind=6:=by omega
 unfold do6;have hf4:v.fam=4:=by rw [v2,c6];decide
 obtain ⟨m1,m2,m3,m4⟩:=hs.k6 c6;obtain ⟨t1,t2,t3,t4⟩:=I8 (key:=keyOf l s.key h) ho hs c6 h0 h1;have hvn:=v5 c6;cases uL:uY (uB st s.var (keyOf l s.key h)) (ofE st s.var) with
 |true=>exact triv false
 |false=>
  generalize xE s (uB st s.var (keyOf l s.key h)) (keyOf l s.key h) tick=e at *
  by_cases hp:e.n>0
  ·rw [if_pos hp];obtain ⟨p1,p2⟩:=put (e.n - 1) e.at_ (by omega) (by omega) t3 t4 (by omega) (by omega) (by omega) uL (by omega);exact ⟨p1,hh,p2,fun hc=>by cases hc⟩
  ·rw [if_neg hp];obtain ⟨p1,p2⟩:=put e.n e.at_ (by omega) (by omega) t3 t4 (by omega) (by omega) (by omega) uL (by omega);exact ⟨p1,hh,p2,fun _=>rfl⟩
end Go.ST
end
section
namespace Go.ST
open Go Go.DL Go.MM Go.Proofs
open Go.TY hiding Fd
theorem DCalls.Ge{P:Program}{f:FuncId}{ts:List T}{r:T}(h:DCalls P f ts r)(hf:r.flat=true):rR P f ts r:=by
 refine ⟨h.1,fun w vs hG hl hr=>(h.2 (dZ w) w vs (fun _ _ hs=>hs) hG hl hr).mono ?_⟩;rintro e w' ⟨v,rfl,hb,aq⟩;exact ⟨v,rfl,hb,aq.of_flat hf⟩
theorem Ea(xs:List RE)(f:FuncId)(c1 c2:T)(p:RE->Bool)(hl:xs.length<2^60)(hc: ∀(i:Nat) (h:i<xs.length),DCalls Tryz.prog f [.agg (uk xs[i]),c1,c2] (.bool (p xs[i]))):
  DCalls Tryz.prog 109 [esT xs,.clos f [c1,c2]] (I (we p xs)):=by
 refine dl2 mixed [.tmp 4] [.int _ _] Tryz.func109 JE ?_
 skip
 refine tT (α:=Nat) (fun i=>{sl:=[(0,.t (esT xs)),(1,.t (.clos f [c1,c2])),(6,.t (esT xs)),(7,.t (I xs.length)),(8,.t (I i))],bx:=[]})
  (fun i=>i<=xs.length/\ ∀j (h:j<xs.length),j<i->p xs[j]=false) (fun i=>xs.length - i) 0 (by simp) ?_ ?_
 ·repeat' (first|(exact leI (by simp))|exact wJ|refine And.intro ?_ ?_)
 rintro i ⟨hi,hp⟩;rcases Nat.lt_or_ge i xs.length with h|h
 ·have h0:=hc i h;cases hb:p xs[i] with
  |true=>
   rw [hb] at h0;rw [Bf h hb hp]
   repeat' ((conv=>whnf);first|exact trivial|(refine nv_ (.agg (uk xs[i])) (by first|exact uN h) ?_)|refine uc _ (h0) ?_|refine aD1 ?_|refine rix ?_|(refine And.intro (by first|exact uo _) ?_)|refine aS ?_|refine nT_ ?_)
  |false=>
   rw [hb] at h0
   repeat' ((conv=>whnf);first|(refine nv_ (.agg (uk xs[i])) (by first|exact uN h) ?_)|refine uc _ (h0) ?_|refine aD1 ?_|(refine And.intro (by first|exact uo _) ?_)|refine aS ?_|refine nT_ ?_)
   refine ⟨i+1,⟨h,fun j hj hlt=>?_⟩,by omega,?_⟩
   ·rcases Nat.lt_or_ge j i with h4|h4
    ·exact hp j hj h4
    ·obtain rfl:j=i:=by omega
     exact hb
   ·repeat' (first|exact wJ|refine And.intro ?_ ?_)
 ·have:i=xs.length:=by omega
  subst this;rw [Bg fun j hj=>hp j hj hj]
  repeat' ((conv=>whnf);first|refine aD0 ?_|refine rix ?_|refine aS ?_|exact trivial)
structure H10 where
 x0:Int
 x1:Int
 x2:Int
 x3:Int
 x4:Int
 x5:Int
 x6:Int
 x7:Int
 x8:Int
 x9:Int
abbrev H10.ls(q:H10):List Int:=[q.x0,q.x1,q.x2,q.x3,q.x4,q.x5,q.x6,q.x7,q.x8,q.x9]
theorem Ba(l:List Fd)(k:ByteArray)(v:Int): ∀(a:List ByteArray) (b:List Int) (h:List Int),a.length=b.length->wQ l (a++[k]) (b++[v]) h=wrF l (wQ l a b h) k v
 |[],[],h,_=>rfl
 |x::a,y::b,h,e=>by
  show wQ l (a++[k]) (b++[v]) (wrF l h x y)=_
  rw [Ba l k v a b _ (by simpa using e)];rfl
 |[],_::_,_,e=>by simp at e
 |_::_,[],_,e=>by simp at e
variable {l:List Fd}{s:RS}{st st' o:List RE}{x0 x1 x2 x3 x4 x5 x6 x7 x8 x9 y0 y1 y2 y3 y4 y5 y6 y7 y8 y9 tick:Int}{e:RE}{is:Bool}
theorem I6(x:RE)(g:Int):DCalls Tryz.prog 110 [.agg (uk x),.cptr [.cptr (dL l s st x0 x1 x2 x3 x4 x5 x6 x7 x8 x9 tick e is) 0] 0,.cptr [I g] 0] (.bool (decide (x.var=s.var)&&decide (x.n=g))):=by
 refine dl2 mixed [.tmp 4] [.bool _] Tryz.func110 Go.ST4.Mp ?_;have h:=eqS x.var s.var
 by_cases c:x.var=s.var
 ·rw [decide_eq_true c] at h ⊢
  by_cases c2:x.n=g
  ·rw [decide_eq_true c2]
   repeat' ((conv=>whnf);first|exact trivial|refine nb_ _ h ?_|refine sE c2 ?_|refine rb1 ?_|(refine And.intro (by first|exact uo _) ?_)|refine aS ?_|refine nT_ ?_)
  ·rw [decide_eq_false c2]
   repeat' ((conv=>whnf);first|exact trivial|refine nb_ _ h ?_|refine sD c2 ?_|refine rb0 ?_|(refine And.intro (by first|exact uo _) ?_)|refine aS ?_|refine nT_ ?_)
 ·rw [decide_eq_false c] at h ⊢
  repeat' ((conv=>whnf);first|exact trivial|refine nb_ _ h ?_|refine rb0 ?_|(refine And.intro (by first|exact uo _) ?_)|refine aS ?_|refine nT_ ?_)
attribute [local irreducible] bR WCM YC
theorem JA(hk:s.kind=5)(hl:LOk l)(hlen:st.length<2^40)(hkl:s.key.length<2^40)(hh:HOk [x0,x1,x2,x3,x4,x5,x6,x7,x8,x9])(hfo:uA l s.field=true)
  (hvs: ∀x∈st,x.var=s.var->x.key.length=s.key.length/\ ∀v∈x.key,0<=v) (fnd:Option RE) (DH:fnd=st.find? fun x=>decide (x.var=s.var)&&decide (x.n=(vj (fld l s.field) [x0,x1,x2,x3,x4,x5,x6,x7,x8,x9]:Int))):
  bR Tryz.prog 84 Go.ST3.xy (S0 l s st x0 x1 x2 x3 x4 x5 x6 x7 x8 x9 tick e is).mk' (fun ex s'=>ex= .normal/\((fnd=none/\bU (S1 l s x0 x1 x2 x3 x4 x5 x6 x7 x8 x9 tick is st x0 x1 x2 x3 x4 x5 x6 x7 x8 x9 e false) s')\/
   (∃ (x:RE) (q:H10),fnd=some x/\q.ls=wQ l s.key x.key [x0,x1,x2,x3,x4,x5,x6,x7,x8,x9]/\bU (S1 l s x0 x1 x2 x3 x4 x5 x6 x7 x8 x9 tick is st q.x0 q.x1 q.x2 q.x3 q.x4 q.x5 q.x6 q.x7 q.x8 q.x9 e true) s'))):=by
 have qi:=Ea st 110 (.cptr [.cptr (dL l s st x0 x1 x2 x3 x4 x5 x6 x7 x8 x9 tick e is) 0] 0) (.cptr [I (vj (fld l s.field) [x0,x1,x2,x3,x4,x5,x6,x7,x8,x9])] 0) (fun x=>decide (x.var=s.var)&&decide (x.n=(vj (fld l s.field) [x0,x1,x2,x3,x4,x5,x6,x7,x8,x9]:Int))) (by omega) (fun i h=>I6 st[i] _);have hF:=CH l hl s.field;rw [hfo] at hF;have hG:=t78 _ (yi hl hfo) _ hh;obtain ⟨kk,var,key,field,n,m⟩:=s;dsimp only at hk hF hG qi hvs DH hkl hfo;subst hk;rcases AR (fun x=>decide (x.var=var)&&decide (x.n=(vj (fld l field) [x0,x1,x2,x3,x4,x5,x6,x7,x8,x9]:Int))) st with ⟨hx,hno⟩|⟨k,hk,hx,hfd⟩
 ·rw [hno] at DH;have hN:=DCalls.Ge qi rfl;rw [hx] at hN;refine Go.ST3.Ay ?_
  repeat' ((conv=>whnf);first|refine WC.toM (tW mixed Tryz.func56 Go.ST5.l56 rfl rfl (rs:=[.tmp 2]) rfl 3000 (nlZ rfl) ?_)|refine aS ?_|refine nT_ ?_)
  repeat' ((conv=>whnf);first|refine uc _ (hF) ?_|refine uc _ (hG) ?_|refine tX rfl hN ?_|refine aD1 ?_|refine aS ?_|refine nT_ ?_)
  refine ⟨_,rfl,?_⟩
  repeat' ((conv=>whnf);first|(exact ⟨rfl,Or.inl ⟨DH,by (repeat' (first|exact wJ|refine And.intro ?_ ?_));done⟩⟩)|fail)
 ·rw [hfd] at DH;have hN:=DCalls.Ge qi rfl;rw [hx] at hN;have hxm:st[k]∈st:=List.getElem_mem hk;have hxv:st[k].var=var:=by
   have:=List.find?_some hfd
   rw [Bool.and_eq_true] at this;exact of_decide_eq_true this.1
  obtain ⟨hlk,aH⟩:=hvs st[k] hxm hxv;have hgk:=uN hk;have gU:=ggZ hk;have hn:((st.map um).length:Int)=st.length:=by rw [List.length_map]
  have hm:((key.map T.str).length:Int)=key.length:=by rw [List.length_map]
  have yq: ¬(k:Int)<0:=by omega
  have hgx:((uk st[k])[1]?.getD .nil)= .slice 1 (st[k].key.map I):=rfl;have ND:(T.agg (uk st[k])).cells[1]?.getD .nil= .slice 1 (st[k].key.map I):=rfl;have hk2:(k:Int)<((st.map um).length:Int):=by omega
  generalize hxx:st[k]=x at *
  obtain ⟨xv,xk,xn,xa⟩:=x;dsimp only at hlk aH;have hxl:((xk.map I).length:Int)=key.length:=by rw [List.length_map];omega
  refine Go.ST3.Ay ?_
  repeat' ((conv=>whnf);first|refine WC.toM (tW mixed Tryz.func56 Go.ST5.l56 rfl rfl (rs:=[.tmp 2]) rfl 3000 (nlZ rfl) ?_)|refine aS ?_|refine nT_ ?_)
  repeat' ((conv=>whnf);first|refine uc _ (hF) ?_|refine uc _ (hG) ?_|refine tX rfl hN ?_|refine aD0 ?_|refine aS ?_|refine nT_ ?_)
  refine tx 0 (α:=Nat×H10) (β:=H10) (fun q=>{sl:=[(1,.ptr 3001 0),(6,.t (I k)),(40,.t (.slice 1 (key.map .str))),(41,.t (I key.length)),(42,.t (I q.1))],bx:=[(8,.d 10 [I x0,I x1,I x2,I x3,I x4,I x5,I x6,I x7,I x8,I x9]),(10,.d 10 z10),(3001,.v [.ptr 37 0]),(37,.d 24 (dL l ⟨5,var,key,field,n,m⟩ st q.2.x0 q.2.x1 q.2.x2 q.2.x3 q.2.x4 q.2.x5 q.2.x6 q.2.x7 q.2.x8 q.2.x9 tick e is))],gh:=[(0,[(8,.ptr 8 0),(10,.ptr 10 0),(16,.ptr 37 0)])],off:=3000})
   (fun q=>q.1<=key.length/\q.2.ls=wQ l (key.take q.1) (xk.take q.1) [x0,x1,x2,x3,x4,x5,x6,x7,x8,x9]) (fun q=>key.length - q.1)
   (fun q=>{sl:=[],bx:=[(8,.d 10 [I x0,I x1,I x2,I x3,I x4,I x5,I x6,I x7,I x8,I x9]),(10,.d 10 z10),(37,.d 24 (dL l ⟨5,var,key,field,n,m⟩ st q.x0 q.x1 q.x2 q.x3 q.x4 q.x5 q.x6 q.x7 q.x8 q.x9 tick e is))],gh:=[(0,[(8,.ptr 8 0),(10,.ptr 10 0),(16,.ptr 37 0)])],off:=3000})
   (fun q=>q.ls=wQ l key xk [x0,x1,x2,x3,x4,x5,x6,x7,x8,x9]) (0,⟨x0,x1,x2,x3,x4,x5,x6,x7,x8,x9⟩) ⟨Nat.zero_le _,rfl⟩ ?_ ?_ ?_
  ·repeat' (first|(exact leI hm.symm)|exact wJ|refine And.intro ?_ ?_)
  ·rintro ⟨i,q⟩ ⟨hi,hq⟩;dsimp only at hi hq;rcases Nat.lt_or_ge i key.length with h|h
   ·have hlt:(i:Int)<(key.length:Int):=by omega
    have hnx:((i+1:Nat):Int)=IntKind.wrap .i64 ((i:Int)+1):=by rw [nW] <;> omega
    have hi2:i<xk.length:=by omega
    have hHq:HOk q.ls:=by rw [hq];exact yG hl hh fun v hv=>aH v (List.mem_of_mem_take hv)
    have hp0:0<=xk[i]:=aH _ (List.getElem_mem hi2);have hW:=FR hl key[i] hHq hp0;have hsn:wQ l (key.take (i+1)) (xk.take (i+1)) [x0,x1,x2,x3,x4,x5,x6,x7,x8,x9]=wrF l q.ls key[i] xk[i]:=by
     rw [List.take_succ_eq_append_getElem h,List.take_succ_eq_append_getElem hi2,Ba _ _ _ _ _ _ (by rw [List.length_take,List.length_take];omega),hq]
    have hst:(key.map T.str)[((i:Int)).toNat]?.getD .nil= .str key[i]:=by simp [h]
    have hsv:(xk.map I)[((i:Int)).toNat]?.getD .nil=I xk[i]:=by simp [hi2]
    obtain ⟨y0,y1,y2,y3,y4,y5,y6,y7,y8,y9,hy⟩:=ten (xw hl hHq (name:=key[i]) hp0);rw [hy] at hW hsn;obtain ⟨hF2,hM2,hS2,G2⟩:=hW;have hir:0<=(i:Int)/\(i:Int)<((xk.map I).length:Int):=by omega
    have hkr:0<=(k:Int)/\(k:Int)<((st.map um).length:Int):=by omega
    generalize key[i]=nm at *
    generalize xk[i]=vl at *
    obtain ⟨z0,z1,z2,z3,z4,z5,z6,z7,z8,z9⟩:=q;cases DK:uA l nm with
    |true=>
     rw [DK] at hF2;have hM2:=hM2 DK;have hS2:=hS2 DK
     repeat' ((conv=>whnf);first|refine sC hlt ?_|(refine nv_ (.str nm) (by first|exact hst) ?_)|(refine nv_ (.slice 1 (xk.map I)) (by first|(simp [gU,um,uk,T.cells];done)|fail) ?_)|(refine nv_ (I vl) (by first|exact hsv) ?_)|refine tW mixed Tryz.func106 Go.ST4.zr rfl rfl (rs:=[]) rfl 3200 (nlZ rfl) ?_|(refine And.intro (by first|exact hir|exact hkr|((simp [gU,um,uk,T.cells]);done)|fail) ?_)|refine aS ?_|refine nT_ ?_)
     repeat' ((conv=>whnf);first|refine uc _ (hF2) ?_|refine uc _ (hM2) ?_|refine uc _ (hS2) ?_|refine aS ?_|refine nT_ ?_)
     refine ⟨_,rfl,?_⟩
     repeat' ((conv=>whnf);first|(exact ⟨(i+1,⟨y0,y1,y2,y3,y4,y5,y6,y7,y8,y9⟩),⟨h,hsn.symm⟩,(by dsimp only;omega),by (repeat' (first|(exact leI hnx)|exact wJ|refine And.intro ?_ ?_));done⟩)|fail)
    |false=>
     rw [DK] at hF2;have G2:=G2 DK;cases G2
     repeat' ((conv=>whnf);first|refine sC hlt ?_|(refine nv_ (.str nm) (by first|exact hst) ?_)|(refine nv_ (.slice 1 (xk.map I)) (by first|(simp [gU,um,uk,T.cells];done)|fail) ?_)|(refine nv_ (I vl) (by first|exact hsv) ?_)|refine tW mixed Tryz.func106 Go.ST4.zr rfl rfl (rs:=[]) rfl 3200 (nlZ rfl) ?_|(refine And.intro (by first|exact hir|exact hkr|((simp [gU,um,uk,T.cells]);done)|fail) ?_)|refine aS ?_|refine nT_ ?_)
     repeat' ((conv=>whnf);first|refine uc _ (hF2) ?_|refine aS ?_|fail)
     refine ⟨_,rfl,?_⟩
     repeat' ((conv=>whnf);first|(exact ⟨(i+1,⟨_,_,_,_,_,_,_,_,_,_⟩),⟨h,hsn.symm⟩,(by dsimp only;omega),by (repeat' (first|(exact leI hnx)|exact wJ|refine And.intro ?_ ?_));done⟩)|fail)
   ·have hlt: ¬(i:Int)<(key.length:Int):=by omega
    have hq2:q.ls=wQ l key xk [x0,x1,x2,x3,x4,x5,x6,x7,x8,x9]:=by rw [hq,List.take_of_length_le h,List.take_of_length_le (by omega)]
    repeat' ((conv=>whnf);first|refine su hlt ?_|(exact ⟨q,hq2,by (repeat' (first|exact wJ|refine And.intro ?_ ?_));done⟩)|refine aS ?_|fail)
  ·rintro q hq
   skip
   refine ⟨_,rfl,?_⟩
   repeat' ((conv=>whnf);first|(exact ⟨rfl,Or.inr ⟨_,q,DH,hq,by (repeat' (first|exact wJ|refine And.intro ?_ ?_));done⟩⟩)|fail)
end Go.ST
end
section
namespace Go.ST
open Go Go.DL Go.MM Go.Proofs
open Go.TY hiding Fd
def esU(ns:List Int):List (T×T):=ns.map fun n=>(I n,T.bool true)
def zx(n:Int):List Int->List Int
 |[]=>[n]
 |x::xs=>if x=n then n::xs else x::zx n xs
theorem Eu(a b:Int):eqL (I a).cells (I b).cells=decide (a=b):=by
 show ((a==b)&&true)=_
 rw [Bool.and_true]
 by_cases h:a=b <;> simp [h]
theorem Gc(n:Int): ∀ns:List Int,bC (I n) (.bool true) (esU ns)=esU (zx n ns)
 |[]=>rfl
 |x::xs=>by
  have ih:=Gc n xs;show cond (eqL (I n).cells (I x).cells) _ _=esU (zx n (x::xs))
  rw [Eu];unfold zx
  by_cases h:x=n
  ·rw [decide_eq_true h.symm,if_pos h];rfl
  ·rw [decide_eq_false (fun e=>h e.symm),if_neg h,cond_false];show (I x,T.bool true)::bC (I n) (.bool true) (esU xs)=_
   rw [ih];rfl
theorem DQ{n m:Int}: ∀{ns:List Int},m∈zx n ns↔m=n\/m∈ns
 |[]=>by simp [zx]
 |x::xs=>by
  unfold zx
  by_cases h:x=n
  ·rw [if_pos h];subst h;simp
  ·rw [if_neg h,List.mem_cons,DQ (ns:=xs),List.mem_cons];constructor
   ·rintro (h1|h1|h1) <;> simp [h1]
   ·rintro (h1|h1|h1) <;> simp [h1]
theorem ED(n:Int): ∀ns:List Int,oB (.bool false) false (eA (I n).cells (esU ns))= .bool (decide (n∈ns))
 |[]=>by simp;rfl
 |x::xs=>by
  have ih:=ED n xs;show oB (.bool false) false (cond (eqL (I n).cells (I x).cells) (some (T.bool true)) (eA (I n).cells (esU xs)))=_
  rw [Eu]
  by_cases h:n=x
  ·rw [decide_eq_true h,cond_true,decide_eq_true (by simp [h])];rfl
  ·rw [decide_eq_false h,cond_false,ih]
   congr 1
   simp [h]
def xr(o:List RE):List Int:=o.foldl (fun ns e=>zx e.n ns) []
theorem CY{m:Int}: ∀{o:List RE} {ns:List Int},m∈o.foldl (fun ns e=>zx e.n ns) ns↔m∈ns\/uT o m=true
 |[],ns=>by simp [uT]
 |e::o,ns=>by
  rw [List.foldl_cons,CY (o:=o),DQ];unfold uT;rw [List.any_cons,Bool.or_eq_true,decide_eq_true_eq];constructor
  ·rintro ((h|h)|h)
   ·exact Or.inr (Or.inl h.symm)
   ·exact Or.inl h
   ·exact Or.inr (Or.inr h)
  ·rintro (h|h|h)
   ·exact Or.inl (Or.inr h)
   ·exact Or.inl (Or.inl h.symm)
   ·exact Or.inr h
theorem Fw(o:List RE)(m:Int):decide (m∈xr o)=uT o m:=by
 have:=CY (m:=m) (o:=o) (ns:=[])
 unfold xr;cases h:uT o m with
 |true=>exact decide_eq_true (this.2 (Or.inr h))
 |false=>
  refine decide_eq_false fun hm=>?_
  rcases this.1 hm with h2|h2
  ·cases h2
  ·rw [h] at h2;cases h2
theorem Fv(o:List RE){i:Nat}(h:i<o.length):xr (o.take (i+1))=zx o[i].n (xr (o.take i)):=by
 unfold xr;rw [List.take_succ_eq_append_getElem h,List.foldl_append];rfl
theorem Fq{ks:List Nat}{bx:Nat->Option BX}{ag:Bool}{sh:List Sh}{es es':List (T×T)}(h:es=es'):LeB ks bx (.m ag sh es none) (some (.m ag sh es' none)):=by rw [h];exact .same _
variable {l:List Fd}{s:RS}{st st' o:List RE}{x0 x1 x2 x3 x4 x5 x6 x7 x8 x9 y0 y1 y2 y3 y4 y5 y6 y7 y8 y9 tick:Int}{e:RE}{is:Bool}
attribute [local irreducible] bR WCM YC
theorem Ef(hk:s.kind=4)(hol:o.length<2^40)(hs:0<=s.n/\s.n<=65535)(hOf:DCalls Tryz.prog 22 [esT st,.str s.var] (esT o))(N:Int)(hN:N=if is then e.n else vr o o.length s.n)
  (fc:DCalls Tryz.prog 139 [esT st,um ⟨e.var,e.key,N,tick⟩] (esT st')) (full:Bool) (hf:full=(!is&&decide (100<=o.length))) (big:Bool) (hb:big=(!is&&decide (N>s.m)))
  (hw:Wr l s.field [x0,x1,x2,x3,x4,x5,x6,x7,x8,x9] [y0,y1,y2,y3,y4,y5,y6,y7,y8,y9] N):
  bR Tryz.prog 84 Go.ST3.xy (S0 l s st x0 x1 x2 x3 x4 x5 x6 x7 x8 x9 tick e is).mk' (fun ex s'=>ex= .normal/\(((full||big)=true/\bU (S1 l s x0 x1 x2 x3 x4 x5 x6 x7 x8 x9 tick is st x0 x1 x2 x3 x4 x5 x6 x7 x8 x9 ⟨e.var,e.key,N,tick⟩ false) s')\/((full||big)=false/\bU (S1 l s x0 x1 x2 x3 x4 x5 x6 x7 x8 x9 tick is st' y0 y1 y2 y3 y4 y5 y6 y7 y8 y9 ⟨e.var,e.key,N,tick⟩ true) s'))):=by
 obtain ⟨kk,var,key,field,n,m⟩:=s;dsimp only at hk hOf hw hs hN hb;subst hk;have hoL:((o.map um).length:Int)=o.length:=by rw [List.length_map]
 obtain ⟨hF,hM,hS,hno⟩:=hw;refine Go.ST3.Ay ?_;cases is with
 |true=>
  obtain rfl:full=false:=by rw [hf];rfl
  obtain rfl:big=false:=by rw [hb];rfl
  obtain rfl:N=e.n:=hN;cases hfo:uA l field with
  |true=>
   have hM:=hM hfo;have hS:=hS hfo;rw [hfo] at hF
   repeat' ((conv=>whnf);first|refine WC.toM (tW mixed Tryz.func55 Go.ST4.l55 rfl rfl (rs:=[.tmp 2]) rfl 3000 (nlZ rfl) ?_)|refine aS ?_|refine nT_ ?_)
   repeat' ((conv=>whnf);first|refine tW mixed Tryz.func105 Go.ST4.vR rfl rfl (rs:=[.tmp 2]) rfl 3100 (nlZ rfl) ?_|refine aS ?_|refine nT_ ?_)
   repeat' ((conv=>whnf);first|refine uc _ (fc) ?_|refine aS ?_|fail)
   refine ⟨_,rfl,?_⟩
   repeat' ((conv=>whnf);first|refine tW mixed Tryz.func106 Go.ST4.zr rfl rfl (rs:=[]) rfl 3200 (nlZ rfl) ?_|refine aS ?_|refine nT_ ?_)
   repeat' ((conv=>whnf);first|refine uc _ (hF) ?_|refine uc _ (hM) ?_|refine uc _ (hS) ?_|refine aS ?_|refine nT_ ?_)
   refine ⟨_,rfl,?_⟩
   skip
   refine ⟨_,rfl,?_⟩
   repeat' ((conv=>whnf);first|(exact ⟨rfl,Or.inr ⟨rfl,by (repeat' (first|exact wJ|refine And.intro ?_ ?_));done⟩⟩)|fail)
  |false=>
   have hno:=hno hfo;cases hno;rw [hfo] at hF
   repeat' ((conv=>whnf);first|refine WC.toM (tW mixed Tryz.func55 Go.ST4.l55 rfl rfl (rs:=[.tmp 2]) rfl 3000 (nlZ rfl) ?_)|refine aS ?_|refine nT_ ?_)
   repeat' ((conv=>whnf);first|refine tW mixed Tryz.func105 Go.ST4.vR rfl rfl (rs:=[.tmp 2]) rfl 3100 (nlZ rfl) ?_|refine aS ?_|refine nT_ ?_)
   repeat' ((conv=>whnf);first|refine uc _ (fc) ?_|refine aS ?_|fail)
   refine ⟨_,rfl,?_⟩
   repeat' ((conv=>whnf);first|refine tW mixed Tryz.func106 Go.ST4.zr rfl rfl (rs:=[]) rfl 3200 (nlZ rfl) ?_|refine aS ?_|refine nT_ ?_)
   repeat' ((conv=>whnf);first|refine uc _ (hF) ?_|refine aS ?_|fail)
   refine ⟨_,rfl,?_⟩
   skip
   refine ⟨_,rfl,?_⟩
   repeat' ((conv=>whnf);first|(exact ⟨rfl,Or.inr ⟨rfl,by (repeat' (first|exact wJ|refine And.intro ?_ ?_));done⟩⟩)|fail)
 |false=>
  have hN:N=vr o o.length n:=hN;have qf:(uA l field=true/\DCalls Tryz.prog 107 [fds l,.str field] (.tup [fdc l field,.bool true])/\DCalls Tryz.prog 141 [fdc l field] (I ((2^(fld l field).w - 1:Nat):Int))/\DCalls Tryz.prog 140 [fdc l field,hd [x0,x1,x2,x3,x4,x5,x6,x7,x8,x9],I (EV (fld l field).w N)] (hd [y0,y1,y2,y3,y4,y5,y6,y7,y8,y9]))\/
    (DCalls Tryz.prog 107 [fds l,.str field] (.tup [fdc l field,.bool false])/\[y0,y1,y2,y3,y4,y5,y6,y7,y8,y9]=[x0,x1,x2,x3,x4,x5,x6,x7,x8,x9]):=by
   cases hfo:uA l field with
   |true=>rw [hfo] at hF;exact Or.inl ⟨rfl,hF,hM hfo,hS hfo⟩
   |false=>rw [hfo] at hF;exact Or.inr ⟨hF,hno hfo⟩
  have Ke:(N>m/\big=true)\/(¬ N>m/\big=false):=by
   by_cases c:N>m
   ·exact Or.inl ⟨c,by rw [hb,decide_eq_true c];rfl⟩
   ·exact Or.inr ⟨c,by rw [hb,decide_eq_false c];rfl⟩
  have Jr:(((o.map um).length:Int)>=100/\full=true)\/(¬ ((o.map um).length:Int)>=100/\full=false):=by
   by_cases c:100<=o.length
   ·exact Or.inl ⟨by omega,by rw [hf,decide_eq_true c];rfl⟩
   ·exact Or.inr ⟨by omega,by rw [hf,decide_eq_false c];rfl⟩
  have Ab:=Aa o n;rw [<- hN] at Ab;clear hF hM hS hno hb hf
  repeat' ((conv=>whnf);first|refine WC.toM (tW mixed Tryz.func55 Go.ST4.l55 rfl rfl (rs:=[.tmp 2]) rfl 3000 (nlZ rfl) ?_)|refine aS ?_|refine nT_ ?_)
  repeat' ((conv=>whnf);first|refine uc _ (hOf) ?_)
  refine tx 0 (α:=Nat) (β:=Unit) (fun i=>{sl:=[(0,.ptr 37 0),(3,.mp 3019),(29,.t (esT o)),(30,.t (I o.length)),(31,.t (I i))],bx:=[(8,.d 10 [I x0,I x1,I x2,I x3,I x4,I x5,I x6,I x7,I x8,I x9]),(10,.d 10 z10),(3019,.m false [.int .i64] (esU (xr (o.take i))) none),(37,.d 24 (dL l ⟨4,var,key,field,n,m⟩ st x0 x1 x2 x3 x4 x5 x6 x7 x8 x9 tick ⟨e.var,e.key,e.n,tick⟩ false))],gh:=[(0,[(8,.ptr 8 0),(10,.ptr 10 0),(16,.ptr 37 0)])],off:=3000})
   (fun i=>i<=o.length) (fun i=>o.length - i)
   (fun _=>{sl:=[(0,.ptr 37 0),(3,.mp 3019)],bx:=[(8,.d 10 [I x0,I x1,I x2,I x3,I x4,I x5,I x6,I x7,I x8,I x9]),(10,.d 10 z10),(3019,.m false [.int .i64] (esU (xr o)) none),(37,.d 24 (dL l ⟨4,var,key,field,n,m⟩ st x0 x1 x2 x3 x4 x5 x6 x7 x8 x9 tick ⟨e.var,e.key,e.n,tick⟩ false))],gh:=[(0,[(8,.ptr 8 0),(10,.ptr 10 0),(16,.ptr 37 0)])],off:=3000}) (fun _=>True) 0 (Nat.zero_le _) ?_ ?_ ?_
  ·repeat' (first|(exact leI hoL.symm)|(exact Fq rfl)|exact wJ|refine And.intro ?_ ?_)
  ·rintro i hi;rcases Nat.lt_or_ge i o.length with h|h
   ·have hlt:(i:Int)<(o.length:Int):=by omega
    have hnx:((i+1:Nat):Int)=IntKind.wrap .i64 ((i:Int)+1):=by rw [nW] <;> omega
    have hg:=uN h;have hsn:esU (xr (o.take (i+1)))=bC (I o[i].n) (.bool true) (esU (xr (o.take i))):=by rw [Gc,Fv o h]
    have hir:0<=(i:Int)/\(i:Int)<((o.map um).length:Int):=by omega
    have hst:(o.map um)[((i:Int)).toNat]?.getD .nil= .agg (uk o[i]):=by rw [Int.toNat_natCast];exact hg
    generalize o[i]=x at *
    have hko:aR false [.int .i64] (I x.n):=⟨rfl,rfl,trivial⟩
    repeat' ((conv=>whnf);first|refine sC hlt ?_|(refine nv_ (.agg (uk x)) (by first|exact hst) ?_)|(exact ⟨i+1,h,(by omega),by (repeat' (first|(exact leI hnx)|(exact Fq hsn)|exact wJ|refine And.intro ?_ ?_));done⟩)|(refine And.intro (by first|exact hir|exact uo _|exact hko) ?_)|refine aS ?_|refine nT_ ?_)
   ·have hlt: ¬(i:Int)<(o.length:Int):=by omega
    have e0:esU (xr o)=esU (xr (o.take i)):=by rw [List.take_of_length_le h]
    repeat' ((conv=>whnf);first|refine su hlt ?_|(exact ⟨(),trivial,by (repeat' (first|(exact Fq e0)|exact wJ|refine And.intro ?_ ?_));done⟩)|refine aS ?_|fail)
  ·rintro - -
   repeat' ((conv=>whnf);first|refine aS ?_|refine nT_ ?_)
   refine tx 2 (α:=Nat) (β:=Unit) (fun j=>{sl:=[(0,.ptr 37 0),(3,.mp 3019)],bx:=[(8,.d 10 [I x0,I x1,I x2,I x3,I x4,I x5,I x6,I x7,I x8,I x9]),(10,.d 10 z10),(3019,.m false [.int .i64] (esU (xr o)) none),(37,.d 24 (dL l ⟨4,var,key,field,n,m⟩ st x0 x1 x2 x3 x4 x5 x6 x7 x8 x9 tick ⟨e.var,e.key,n+(j:Int),tick⟩ false))],gh:=[(0,[(8,.ptr 8 0),(10,.ptr 10 0),(16,.ptr 37 0)])],off:=3000})
    (fun j=>j<=o.length/\vr o (o.length - j) (n+j)=N) (fun j=>o.length - j)
    (fun _=>{sl:=[(0,.ptr 37 0)],bx:=[(8,.d 10 [I x0,I x1,I x2,I x3,I x4,I x5,I x6,I x7,I x8,I x9]),(10,.d 10 z10),(37,.d 24 (dL l ⟨4,var,key,field,n,m⟩ st x0 x1 x2 x3 x4 x5 x6 x7 x8 x9 tick ⟨e.var,e.key,N,tick⟩ false))],gh:=[(0,[(8,.ptr 8 0),(10,.ptr 10 0),(16,.ptr 37 0)])],off:=3000}) (fun _=>True) 0 ⟨Nat.zero_le _,by rw [hN];simp⟩ ?_ ?_ ?_
   ·have h0:(dL l ⟨4,var,key,field,n,m⟩ st x0 x1 x2 x3 x4 x5 x6 x7 x8 x9 tick ⟨e.var,e.key,n+((0:Nat):Int),tick⟩ false)=(dL l ⟨4,var,key,field,n,m⟩ st x0 x1 x2 x3 x4 x5 x6 x7 x8 x9 tick ⟨e.var,e.key,n,tick⟩ false):=by rw [show n+((0:Nat):Int)=n by omega]
    repeat' (first|(exact ui h0)|exact wJ|refine And.intro ?_ ?_)
   ·rintro j ⟨hj,hfr⟩;have Dc:oB (.bool false) false (eA (I (n+(j:Int))).cells (esU (xr o)))= .bool (uT o (n+j)):=by rw [ED,Fw]
    have hko:aR false [.int .i64] (I (n+(j:Int))):=⟨rfl,rfl,trivial⟩
    cases hu:uT o (n+j) with
    |true=>
     rw [hu] at Dc;have hjl:j<o.length:=by
      rcases Nat.lt_or_ge j o.length with h|h
      ·exact h
      ·rw [show o.length - j=0 by omega] at hfr
       have:n+(j:Int)=N:=hfr
       rw [this,Ab] at hu;cases hu
     have De:vr o (o.length - (j+1)) (n+((j+1:Nat):Int))=N:=by
      rw [<- hfr,show o.length - j=(o.length - (j+1))+1 by omega]
      conv=>rhs;unfold vr
      rw [if_pos hu,show n+((j+1:Nat):Int)=n+j+1 by omega]
     have hwr:n+((j+1:Nat):Int)=IntKind.wrap .i64 (n+(j:Int)+1):=by rw [nW (by omega) (by omega)];omega
     have hdl:(dL l ⟨4,var,key,field,n,m⟩ st x0 x1 x2 x3 x4 x5 x6 x7 x8 x9 tick ⟨e.var,e.key,n+((j+1:Nat):Int),tick⟩ false)=(dL l ⟨4,var,key,field,n,m⟩ st x0 x1 x2 x3 x4 x5 x6 x7 x8 x9 tick ⟨e.var,e.key,IntKind.wrap .i64 (n+(j:Int)+1),tick⟩ false):=by rw [hwr]
     repeat' ((conv=>whnf);first|(refine nv_ (.bool true) (by first|exact Dc) ?_)|(exact ⟨j+1,⟨hjl,De⟩,(by omega),by (repeat' (first|(exact ui hdl)|exact wJ|refine And.intro ?_ ?_));done⟩)|(refine And.intro (by first|exact hko) ?_)|refine aS ?_|refine nT_ ?_)
    |false=>
     rw [hu] at Dc;have hNj:N=n+(j:Int):=by
      rw [<- hfr];cases hq:o.length - j with
      |zero=>rfl
      |succ q=>unfold vr;rw [if_neg (by rw [hu];simp)]
     have hdl:(dL l ⟨4,var,key,field,n,m⟩ st x0 x1 x2 x3 x4 x5 x6 x7 x8 x9 tick ⟨e.var,e.key,N,tick⟩ false)=(dL l ⟨4,var,key,field,n,m⟩ st x0 x1 x2 x3 x4 x5 x6 x7 x8 x9 tick ⟨e.var,e.key,n+(j:Int),tick⟩ false):=by rw [hNj]
     repeat' ((conv=>whnf);first|(refine nv_ (.bool false) (by first|exact Dc) ?_)|(exact ⟨(),trivial,by (repeat' (first|(exact ui hdl)|exact wJ|refine And.intro ?_ ?_));done⟩)|(refine And.intro (by first|exact hko) ?_)|refine aS ?_|refine nT_ ?_)
   ·rintro - -;rcases Ke with ⟨c1,rfl⟩|⟨c1,rfl⟩
    ·repeat' ((conv=>whnf);first|refine sC c1 ?_|refine aS ?_|refine nT_ ?_)
     refine ⟨_,rfl,?_⟩
     repeat' ((conv=>whnf);first|(exact ⟨rfl,Or.inl ⟨Bool.or_true _,by (repeat' (first|exact wJ|refine And.intro ?_ ?_));done⟩⟩)|fail)
    ·rcases Jr with ⟨c3,rfl⟩|⟨c3,rfl⟩
     ·repeat' ((conv=>whnf);first|refine su c1 ?_|refine tW mixed Tryz.func105 Go.ST4.vR rfl rfl (rs:=[.tmp 2]) rfl 3100 (nlZ rfl) ?_|refine aS ?_|refine nT_ ?_)
      repeat' ((conv=>whnf);first|refine uc _ (hOf) ?_|refine sC c3 ?_|refine aS ?_|fail)
      refine ⟨_,rfl,?_⟩
      skip
      refine ⟨_,rfl,?_⟩
      repeat' ((conv=>whnf);first|(exact ⟨rfl,Or.inl ⟨rfl,by (repeat' (first|exact wJ|refine And.intro ?_ ?_));done⟩⟩)|fail)
     ·rcases qf with ⟨-,hF,hM,hS⟩|⟨hF,hno⟩
      ·repeat' ((conv=>whnf);first|refine su c1 ?_|refine tW mixed Tryz.func105 Go.ST4.vR rfl rfl (rs:=[.tmp 2]) rfl 3100 (nlZ rfl) ?_|refine aS ?_|refine nT_ ?_)
       repeat' ((conv=>whnf);first|refine uc _ (hOf) ?_|refine su c3 ?_|refine uc _ (fc) ?_|refine aS ?_|refine nT_ ?_)
       refine ⟨_,rfl,?_⟩
       repeat' ((conv=>whnf);first|refine tW mixed Tryz.func106 Go.ST4.zr rfl rfl (rs:=[]) rfl 3200 (nlZ rfl) ?_|refine aS ?_|refine nT_ ?_)
       repeat' ((conv=>whnf);first|refine uc _ (hF) ?_|refine uc _ (hM) ?_|refine uc _ (hS) ?_|refine aS ?_|refine nT_ ?_)
       refine ⟨_,rfl,?_⟩
       skip
       refine ⟨_,rfl,?_⟩
       repeat' ((conv=>whnf);first|(exact ⟨rfl,Or.inr ⟨rfl,by (repeat' (first|exact wJ|refine And.intro ?_ ?_));done⟩⟩)|fail)
      ·cases hno
       repeat' ((conv=>whnf);first|refine su c1 ?_|refine tW mixed Tryz.func105 Go.ST4.vR rfl rfl (rs:=[.tmp 2]) rfl 3100 (nlZ rfl) ?_|refine aS ?_|refine nT_ ?_)
       repeat' ((conv=>whnf);first|refine uc _ (hOf) ?_|refine su c3 ?_|refine uc _ (fc) ?_|refine aS ?_|refine nT_ ?_)
       refine ⟨_,rfl,?_⟩
       repeat' ((conv=>whnf);first|refine tW mixed Tryz.func106 Go.ST4.zr rfl rfl (rs:=[]) rfl 3200 (nlZ rfl) ?_|refine aS ?_|refine nT_ ?_)
       repeat' ((conv=>whnf);first|refine uc _ (hF) ?_|refine aS ?_|fail)
       refine ⟨_,rfl,?_⟩
       skip
       refine ⟨_,rfl,?_⟩
       repeat' ((conv=>whnf);first|(exact ⟨rfl,Or.inr ⟨rfl,by (repeat' (first|exact wJ|refine And.intro ?_ ?_));done⟩⟩)|fail)
end Go.ST
end
section
namespace Go.ST
open Go Go.DL Go.MM Go.Proofs
open Go.TY hiding Fd
variable {l:List Fd}{s:RS}{st st':List RE}{x0 x1 x2 x3 x4 x5 x6 x7 x8 x9 y0 y1 y2 y3 y4 y5 y6 y7 y8 y9 tick:Int}{e e':RE}{is pass:Bool}
attribute [local irreducible] bR WCM YC
theorem Jl{s':St}(hw:bU (S1 l s x0 x1 x2 x3 x4 x5 x6 x7 x8 x9 tick is st' y0 y1 y2 y3 y4 y5 y6 y7 y8 y9 e' pass) s')(r:List T)
  (hr:r=[hd (if pass then [y0,y1,y2,y3,y4,y5,y6,y7,y8,y9] else [x0,x1,x2,x3,x4,x5,x6,x7,x8,x9]),.bool pass,esT st']):
  bR Tryz.prog 84 Go.ST3.Cl s' (fun e s=>match e with
   |.normal=>bR Tryz.prog 84 Go.ST3.Cm s (sR Tryz.prog [.cell 10 27,.tmp 11,.tmp 12] r)
   |.exit id=>sR Tryz.prog [.cell 10 27,.tmp 11,.tmp 12] r (.exit id) s
   |.ret=>sR Tryz.prog [.cell 10 27,.tmp 11,.tmp 12] r .ret s):=by
 subst hr;refine bR.bU hw (Go.ST3.Kt ?_);cases pass with
 |false=>
  repeat' ((conv=>whnf);first|refine aS ?_|refine nT_ ?_)
  refine ⟨?_,fun _ _=>trivial⟩
  repeat' ((conv=>whnf);first|refine rb0 ?_|refine aS ?_|exact trivial)
 |true=>
  skip
  refine Go.ST3.Ku ?_
  repeat' ((conv=>whnf);first|refine aS ?_|refine nT_ ?_)
  refine ⟨?_,fun _ _=>trivial⟩
  repeat' ((conv=>whnf);first|refine rb1 ?_|refine aS ?_|exact trivial)
theorem KK(hlk:LOk l){h:List Int}(hh:HOk h)(Kg: ∀k∈s.key,uA l k=true)(hkl:s.key.length<=1000)(wE:uP st)(hlen:st.length<2^40)(hko: ∀x∈st,kOk x)(hk0:s.kind≠0)
  (f:Option RE) (hf:f=uB st s.var (keyOf l s.key h)) (r:List T)
  (hk: ∀(x0 x1 x2 x3 x4 x5 x6 x7 x8 x9:Int),h=[x0,x1,x2,x3,x4,x5,x6,x7,x8,x9]-> ∃(st':List RE) (y0 y1 y2 y3 y4 y5 y6 y7 y8 y9:Int) (e':RE) (pass:Bool),
   bR Tryz.prog 84 Go.ST3.xy (S0 l s st x0 x1 x2 x3 x4 x5 x6 x7 x8 x9 tick (f.getD ⟨s.var,keyOf l s.key h,0,0⟩) f.isSome).mk' (fun ex s'=>ex= .normal/\bU (S1 l s x0 x1 x2 x3 x4 x5 x6 x7 x8 x9 tick f.isSome st' y0 y1 y2 y3 y4 y5 y6 y7 y8 y9 e' pass) s')/\
   r=[hd (if pass then [y0,y1,y2,y3,y4,y5,y6,y7,y8,y9] else [x0,x1,x2,x3,x4,x5,x6,x7,x8,x9]),.bool pass,esT st']):
  DCalls Tryz.prog 11 [fds l,wG s,esT st,hd h,I tick] (lg r):=by
 refine sV Tryz.func11 Go.ST3.Jn rfl (r:=r) (nlZ rfl) ?_;rw [show Tryz.f11.ntmps=84 from rfl,show Tryz.f11.results.toList=[.cell 10 27,.tmp 11,.tmp 12] from rfl,Go.ST3.k11];have wK:=KL l hlk s.key Kg (by omega) h hh;have G1:(keyOf l s.key h).length<2^60:=by unfold keyOf;rw [List.length_map];omega
 have vd:=JT st wE hlen hko s.var (keyOf l s.key h) G1;rw [<- hf] at vd;obtain ⟨x0,x1,x2,x3,x4,x5,x6,x7,x8,x9,rfl⟩:=ten hh;obtain ⟨st',y0,y1,y2,y3,y4,y5,y6,y7,y8,y9,e',pass,aJ,hr⟩:=hk x0 x1 x2 x3 x4 x5 x6 x7 x8 x9 rfl;have HL: ∀s0:St,bU (S0 l s st x0 x1 x2 x3 x4 x5 x6 x7 x8 x9 tick (f.getD ⟨s.var,keyOf l s.key [x0,x1,x2,x3,x4,x5,x6,x7,x8,x9],0,0⟩) f.isSome) s0->bR Tryz.prog 84 (.seq (.seq Go.ST3.xy Go.ST3.Cl) Go.ST3.Cm) s0 (sR Tryz.prog [.cell 10 27,.tmp 11,.tmp 12] r):=by
  intro s0 hw;refine bR.bU hw (bR.seq (bR.seq (bR.mono aJ ?_)));rintro ex s' ⟨rfl,hw'⟩;exact Jl hw' r hr
 clear aJ hk;generalize keyOf l s.key [x0,x1,x2,x3,x4,x5,x6,x7,x8,x9]=ky at *
 obtain ⟨kk,var,key,field,n,m⟩:=s;dsimp only at *
 refine bR.seq (Go.ST3.HO ?_)
 repeat' ((conv=>whnf);first|refine aS ?_|fail)
 refine bR.seq (Go.ST3.HP ?_)
 repeat' ((conv=>whnf);first|refine sD hk0 ?_|refine aS ?_|refine nT_ ?_)
 refine bR.seq (Go.ST3.Kp ?_)
 repeat' ((conv=>whnf);first|refine aS ?_|fail)
 refine bR.seq (Go.ST3.Kq ?_)
 repeat' ((conv=>whnf);first|refine uc _ (wK) ?_|refine aS ?_|refine nT_ ?_)
 refine bR.seq (Go.ST3.Kr ?_)
 repeat' ((conv=>whnf);first|refine aS ?_|fail)
 refine bR.seq (Go.ST3.Ks ?_);cases f with
 |none=>
  repeat' ((conv=>whnf);first|refine uc _ (vd) ?_|refine aS ?_|refine nT_ ?_)
  refine HL _ ?_
  repeat' (first|exact wJ|refine And.intro ?_ ?_)
 |some x=>
  repeat' ((conv=>whnf);first|refine uc _ (vd) ?_|refine aS ?_|refine nT_ ?_)
  refine HL _ ?_
  repeat' (first|exact wJ|refine And.intro ?_ ?_)
end Go.ST
end
section
namespace Go.ST
open Go Go.DL Go.MM Go.Proofs
open Go.TY hiding Fd
attribute [local irreducible] bR WCM YC
abbrev dnT(d:Dn):T:=.tup [hd d.h,.bool d.pass,esT d.st]
theorem xL{α:Type}(f:Option α):f.isNone= !f.isSome:=by cases f <;> rfl
theorem H0{l:List Fd}{s:RS}{st:List RE}{h:List Int}{tick:Int}(hh:HOk h)(hk0:s.kind=0):DCalls Tryz.prog 11 [fds l,wG s,esT st,hd h,I tick] (dnT (doE l s st h tick)):=by
 have hd0:doE l s st h tick=⟨h,true,st⟩:=by unfold doE Au doR;rw [if_pos hk0];rfl
 rw [hd0];refine sV Tryz.func11 Go.ST3.Jn rfl (r:=[hd h,.bool true,esT st]) (nlZ rfl) ?_;rw [show Tryz.f11.ntmps=84 from rfl,show Tryz.f11.results.toList=[.cell 10 27,.tmp 11,.tmp 12] from rfl,Go.ST3.k11];obtain ⟨x0,x1,x2,x3,x4,x5,x6,x7,x8,x9,rfl⟩:=ten hh;obtain ⟨kk,var,key,field,n,m⟩:=s;dsimp only at hk0;refine bR.seq (Go.ST3.HO ?_)
 repeat' ((conv=>whnf);first|refine aS ?_|fail)
 refine bR.seq (Go.ST3.HP ?_)
 repeat' ((conv=>whnf);first|refine sE hk0 ?_|refine aS ?_|refine nT_ ?_)
 refine ⟨?_,fun _ _=>trivial⟩
 repeat' ((conv=>whnf);first|refine rb1 ?_|refine aS ?_|exact trivial)
theorem I9(s:RS)(v:ByteArray)(ky:List Int){tick en ea:Int}(_:1<=s.n/\s.n<=65535)(hm:1<=s.m/\s.m<=1073741824)(ht:0<=tick/\tick<=1073741824)(he:0<=en/\en<=65535)(ha:0<=ea/\ea<=1073741824):
  HD s.n s.m tick en ea=((vY s ⟨v,ky,en,ea⟩ tick).n,(vY s ⟨v,ky,en,ea⟩ tick).at_):=by
 obtain ⟨m,hmm⟩: ∃m,m=s.m:=⟨_,rfl⟩
 have h1:W64 (tick - ea)=tick - ea:=nW (by omega) (by omega);have h2:vE tick ea s.m=if tick>ea then (tick - ea).tdiv s.m else 0:=by
  unfold vE;rw [h1]
  by_cases c:tick>ea
  ·rw [if_pos (show tick - ea>0 by omega),if_pos c];have b1:0<=(tick - ea).tdiv s.m:=Int.tdiv_nonneg (by omega) (by omega);have b2:(tick - ea).tdiv s.m<=tick - ea:=Int.tdiv_le_self _ (by omega);exact nW (by omega) (by omega)
  ·rw [if_neg (show ¬tick - ea>0 by omega),if_neg c,Int.zero_tdiv];exact nW (by omega) (by omega)
 have h3:0<=vE tick ea s.m/\vE tick ea s.m<=1073741824/\vE tick ea s.m * s.m<=1073741824/\0<=vE tick ea s.m * s.m:=by
  rw [h2];split
  ·have b1:0<=(tick - ea).tdiv s.m:=Int.tdiv_nonneg (by omega) (by omega);have b2:(tick - ea).tdiv s.m<=tick - ea:=Int.tdiv_le_self _ (by omega);have b3:(tick - ea).tdiv s.m * s.m<=tick - ea:=by
    rw [Int.tdiv_eq_ediv_of_nonneg (by omega)];exact Int.ediv_mul_le _ (by omega)
   have b4:0<=(tick - ea).tdiv s.m * s.m:=Int.mul_nonneg b1 (by omega);omega
  ·simp
 unfold HD;generalize vE tick ea s.m=k at *
 have h4:W64 (en+k)=en+k:=nW (by omega) (by omega);have h5:W64 (k * s.m)=k * s.m:=nW (by omega) (by omega);have h6:W64 (ea+k * s.m)=ea+k * s.m:=nW (by omega) (by omega);unfold vY;dsimp only;rw [h4,h5,h6, <-h2];split <;> rfl
theorem JS{l:List Fd}{s:RS}{st:List RE}{h:List Int}{tick:Int}(p:BY l s st h tick)(hko: ∀x∈st,kOk x):DCalls Tryz.prog 11 [fds l,wG s,esT st,hd h,I tick] (dnT (doE l s st h tick)):=by
 by_cases hk0:s.kind=0
 ·exact H0 p.hok hk0
 obtain ⟨f,hf⟩: ∃f,f=uB st s.var (keyOf l s.key h):=⟨_,rfl⟩
 obtain ⟨o,ho⟩: ∃o,o=ofE st s.var:=⟨_,rfl⟩
 obtain ⟨e,he⟩: ∃e,e=f.getD ⟨s.var,keyOf l s.key h,0,0⟩:=⟨_,rfl⟩
 have hlen:=p.len;have hol:o.length<=1000000:=by rw [ho];exact Nat.le_trans (List.length_filter_le _ _) hlen
 have G1:(keyOf l s.key h).length<=1000:=by unfold keyOf;rw [List.length_map];exact p.klen
 have hOf:=Nx st s.var (by omega);rw [show ofE st s.var=o from ho.symm] at hOf;have hev:e.var=s.var/\e.key=keyOf l s.key h/\0<=e.n/\e.n<=65535/\0<=e.at_/\e.at_<=1073741824:=by
  cases f with
  |none=>rw [he];exact ⟨rfl,rfl,Int.le_refl 0,(by show (0:Int)<=65535;omega),Int.le_refl 0,(by show (0:Int)<=1073741824;omega)⟩
  |some x=>
   rw [he];obtain ⟨h1,h2,h3⟩:=wx hf.symm;exact ⟨h2,h3,p.num x h1⟩
 obtain ⟨he1,he2,he3,he4,he5,he6⟩:=hev;have fc: ∀n a,DCalls Tryz.prog 139 [esT st,um ⟨e.var,e.key,n,a⟩] (esT (uS ⟨s.var,keyOf l s.key h,n,a⟩ st)):=fun n a=>by
  rw [he1,he2];exact KO st p.inc (by omega) hko ⟨s.var,keyOf l s.key h,n,a⟩ (show (keyOf l s.key h).length<2^60 by omega)
 have qm:doE l s st h tick=⟨(doR l s f o h tick).1,(doR l s f o h tick).2.1,cN (doR l s f o h tick).2.2 st⟩:=by unfold doE Au;rw [<- hf, <-ho]
 have hfn:(f.map (·.n)).getD 0=e.n:=by rw [he];cases f <;> rfl
 have uL:uY f o=(!f.isSome&&decide (100<=o.length)):=by unfold uY;rw [xL]
 have ht0:=p.t0;have ht1:=p.t1;refine KK p.lok p.hok p.keys p.klen p.inc (by omega) hko hk0 f hf [hd (doE l s st h tick).h,.bool (doE l s st h tick).pass,esT (doE l s st h tick).st] ?_;intro x0 x1 x2 x3 x4 x5 x6 x7 x8 x9 hx;rw [<- he];have hk:=p.k0;have hk':=p.k1;have Fg:s.kind=1\/s.kind=2\/s.kind=3\/s.kind=4\/s.kind=5\/s.kind=6:=by omega
 rcases Fg with h1|h2|h3|h4|h5|h6
 ·have hN:(if (65535:Int)<IntKind.wrap .i64 (e.n+1) then 65535 else IntKind.wrap .i64 (e.n+1))=min (e.n+1) 65535:=by rw [nW (by omega) (by omega)];split <;> omega
  obtain ⟨y0,y1,y2,y3,y4,y5,y6,y7,y8,y9,hy⟩:=ten (xw p.lok p.hok (name:=s.field) (n:=min (e.n+1) 65535) (by omega));have hW:=FR p.lok s.field p.hok (n:=min (e.n+1) 65535) (by omega);rw [hy,hx] at hW;have hc:=Is (x0:=x0) (x1:=x1) (x2:=x2) (x3:=x3) (x4:=x4) (x5:=x5) (x6:=x6) (x7:=x7) (x8:=x8) (x9:=x9) (tick:=tick) (is:=f.isSome) h1 hOf _ hN (fc _ tick) (uY f o) uL hW;have hd1:doR l s f o h tick=do1 l s f o h tick (keyOf l s.key h):=by unfold doR;rw [if_neg hk0,if_pos h1]
  cases hfu:uY f o with
  |true=>
   have hD:doE l s st h tick=⟨h,false,st⟩:=by rw [qm,hd1];unfold do1;rw [hfu];rfl
   rw [hD];rw [hfu] at hc;refine ⟨st,x0,x1,x2,x3,x4,x5,x6,x7,x8,x9,⟨e.var,e.key,min (e.n+1) 65535,tick⟩,false,hc.mono ?_,?_⟩
   ·rintro ex s' ⟨h1,h2⟩;rcases h2 with ⟨-,h2⟩|⟨h2, -⟩
    ·exact ⟨h1,h2⟩
    ·cases h2
   ·rw [hx];rfl
  |false=>
   have hD:doE l s st h tick=⟨wrF l h s.field (min (e.n+1) 65535),true,uS ⟨s.var,keyOf l s.key h,min (e.n+1) 65535,tick⟩ st⟩:=by rw [qm,hd1];unfold do1;rw [hfu,hfn];rfl
   rw [hD];rw [hfu] at hc;refine ⟨uS ⟨s.var,keyOf l s.key h,min (e.n+1) 65535,tick⟩ st,y0,y1,y2,y3,y4,y5,y6,y7,y8,y9,⟨e.var,e.key,min (e.n+1) 65535,tick⟩,true,hc.mono ?_,?_⟩
   ·rintro ex s' ⟨h1,h2⟩;rcases h2 with ⟨h2, -⟩|⟨-,h2⟩
    ·cases h2
    ·exact ⟨h1,h2⟩
   ·dsimp only;rw [hy];rfl
 ·have hd1:doR l s f o h tick=do2 s f o h tick (keyOf l s.key h):=by unfold doR;rw [if_neg hk0,if_neg (by omega),if_pos h2]
  have hc:=JB (x0:=x0) (x1:=x1) (x2:=x2) (x3:=x3) (x4:=x4) (x5:=x5) (x6:=x6) (x7:=x7) (x8:=x8) (x9:=x9) (l:=l) (tick:=tick) (is:=f.isSome) h2 hOf (fc e.n tick) (uY f o) uL;cases hfu:uY f o with
  |true=>
   have hD:doE l s st h tick=⟨h,false,st⟩:=by rw [qm,hd1];unfold do2;rw [hfu];rfl
   rw [hD];rw [hfu] at hc;exact ⟨st,x0,x1,x2,x3,x4,x5,x6,x7,x8,x9,⟨e.var,e.key,e.n,tick⟩,false,hc,by rw [hx];rfl⟩
  |false=>
   have hD:doE l s st h tick=⟨h,true,uS ⟨s.var,keyOf l s.key h,e.n,tick⟩ st⟩:=by rw [qm,hd1];unfold do2;rw [hfu,hfn];rfl
   rw [hD];rw [hfu] at hc;exact ⟨uS ⟨s.var,keyOf l s.key h,e.n,tick⟩ st,x0,x1,x2,x3,x4,x5,x6,x7,x8,x9,⟨e.var,e.key,e.n,tick⟩,true,hc,by rw [hx];rfl⟩
 ·have hd1:doR l s f o h tick=do3 s f h tick:=by unfold doR;rw [if_neg hk0,if_neg (by omega),if_neg (by omega),if_pos h3]
  obtain ⟨b1,b2⟩:=p.k3 h3;have hc:=Ir (x0:=x0) (x1:=x1) (x2:=x2) (x3:=x3) (x4:=x4) (x5:=x5) (x6:=x6) (x7:=x7) (x8:=x8) (x9:=x9) (l:=l) (st:=st) (tick:=tick) (e:=e) (is:=f.isSome) h3 _ rfl ⟨by omega,by omega⟩ ⟨by omega,by omega⟩;have hD:doE l s st h tick=⟨h,f.isSome&&decide (e.at_>=tick - s.n),st⟩:=by
   rw [qm,hd1];unfold do3;cases f with
   |none=>rfl
   |some x=>
    have:e=x:=he
    subst this;rfl
  rw [hD];refine ⟨st,x0,x1,x2,x3,x4,x5,x6,x7,x8,x9,e,_,hc,?_⟩;rw [hx];dsimp only;rw [ite_self]
 ·have hd1:doR l s f o h tick=do4 l s f o h tick (keyOf l s.key h):=by unfold doR;rw [if_neg hk0,if_neg (by omega),if_neg (by omega),if_neg (by omega),if_pos h4]
  obtain ⟨b1,b2,b3,b4⟩:=p.k4 h4;have hN:wq s f o=if f.isSome then e.n else vr o o.length s.n:=by
   rw [he];cases f <;> rfl
  have hN0:0<=wq s f o:=by
   rw [hN];split
   ·exact he3
   ·have:=(xI o o.length s.n).1;omega
  obtain ⟨y0,y1,y2,y3,y4,y5,y6,y7,y8,y9,hy⟩:=ten (xw p.lok p.hok (name:=s.field) hN0);have hW:=FR p.lok s.field p.hok hN0;rw [hy,hx] at hW;have hc:=Ef (x0:=x0) (x1:=x1) (x2:=x2) (x3:=x3) (x4:=x4) (x5:=x5) (x6:=x6) (x7:=x7) (x8:=x8) (x9:=x9) (l:=l) (tick:=tick) (is:=f.isSome) h4 (by omega) ⟨b1,b2⟩ hOf _ hN (fc _ tick) (uY f o) uL (f.isNone&&decide (wq s f o>s.m)) (by rw [xL]) hW;cases hfu:(uY f o||(f.isNone&&decide (wq s f o>s.m))) with
  |true=>
   have hD:doE l s st h tick=⟨h,false,st⟩:=by rw [qm,hd1];unfold do4;rw [hfu];rfl
   rw [hD];rw [hfu] at hc;refine ⟨st,x0,x1,x2,x3,x4,x5,x6,x7,x8,x9,⟨e.var,e.key,wq s f o,tick⟩,false,hc.mono ?_,?_⟩
   ·rintro ex s' ⟨h1,h2⟩;rcases h2 with ⟨-,h2⟩|⟨h2, -⟩
    ·exact ⟨h1,h2⟩
    ·cases h2
   ·rw [hx];rfl
  |false=>
   have hD:doE l s st h tick=⟨wrF l h s.field (wq s f o),true,uS ⟨s.var,keyOf l s.key h,wq s f o,tick⟩ st⟩:=by rw [qm,hd1];unfold do4;rw [hfu];rfl
   rw [hD];rw [hfu] at hc;refine ⟨uS ⟨s.var,keyOf l s.key h,wq s f o,tick⟩ st,y0,y1,y2,y3,y4,y5,y6,y7,y8,y9,⟨e.var,e.key,wq s f o,tick⟩,true,hc.mono ?_,?_⟩
   ·rintro ex s' ⟨h1,h2⟩;rcases h2 with ⟨h2, -⟩|⟨-,h2⟩
    ·cases h2
    ·exact ⟨h1,h2⟩
   ·dsimp only;rw [hy];rfl
 ·have hd1:doR l s f o h tick=do5 l s o h:=by unfold doR;rw [if_neg hk0,if_neg (by omega),if_neg (by omega),if_neg (by omega),if_neg (by omega),if_pos h5]
  obtain ⟨b1,b2⟩:=p.k5 h5;have hhx:=p.hok;rw [hx] at hhx;have hfd:(o.find? fun x=>decide (x.n=(vj (fld l s.field) h:Int)))=st.find? fun x=>decide (x.var=s.var)&&decide (x.n=(vj (fld l s.field) [x0,x1,x2,x3,x4,x5,x6,x7,x8,x9]:Int)):=by
   rw [ho,hx];unfold ofE;rw [List.find?_filter]
   congr 1
   funext a
   simp
  have hc:=JA (x0:=x0) (x1:=x1) (x2:=x2) (x3:=x3) (x4:=x4) (x5:=x5) (x6:=x6) (x7:=x7) (x8:=x8) (x9:=x9) (l:=l) (tick:=tick) (e:=e) (is:=f.isSome) h5 p.lok (by omega) (by have:=p.klen;omega) hhx b1 (fun x hx hv=>b2 x hx hv) _ hfd;cases hfu:(o.find? fun x=>decide (x.n=(vj (fld l s.field) h:Int))) with
  |none=>
   have hD:doE l s st h tick=⟨h,false,st⟩:=by rw [qm,hd1];unfold do5;rw [hfu];rfl
   rw [hD];rw [hfu] at hc;refine ⟨st,x0,x1,x2,x3,x4,x5,x6,x7,x8,x9,e,false,hc.mono ?_,?_⟩
   ·rintro ex s' ⟨h1,h2⟩;rcases h2 with ⟨-,h2⟩|⟨x,q,h2, -⟩
    ·exact ⟨h1,h2⟩
    ·cases h2
   ·rw [hx];rfl
  |some x=>
   have hD:doE l s st h tick=⟨wQ l s.key x.key h,true,st⟩:=by rw [qm,hd1];unfold do5;rw [hfu];rfl
   rw [hD];rw [hfu] at hc;have hxm:x∈st/\x.var=s.var:=by
    have h1:=List.mem_of_find?_eq_some hfu;rw [ho] at h1;have h2:=List.mem_filter.1 h1;exact ⟨h2.1,of_decide_eq_true h2.2⟩
   obtain ⟨y0,y1,y2,y3,y4,y5,y6,y7,y8,y9,hy⟩:=ten (yG p.lok (ks:=s.key) p.hok (b2 x hxm.1 hxm.2).2);refine ⟨st,y0,y1,y2,y3,y4,y5,y6,y7,y8,y9,e,true,hc.mono ?_,?_⟩
   ·rintro ex s' ⟨h1,h2⟩;rcases h2 with ⟨h2, -⟩|⟨x',q,h2,h3,h4⟩
    ·cases h2
    ·cases h2;rw [<- hx,hy] at h3;obtain ⟨z0,z1,z2,z3,z4,z5,z6,z7,z8,z9⟩:=q;simp only [H10.ls,List.cons.injEq,and_true] at h3;obtain ⟨rfl,rfl,rfl,rfl,rfl,rfl,rfl,rfl,rfl,rfl⟩:=h3;exact ⟨h1,h4⟩
   ·dsimp only;rw [hy];rfl
 ·have hd1:doR l s f o h tick=do6 s f o h tick (keyOf l s.key h):=by unfold doR;rw [if_neg hk0,if_neg (by omega),if_neg (by omega),if_neg (by omega),if_neg (by omega),if_neg (by omega)]
  obtain ⟨b1,b2,b3,b4⟩:=p.k6 h6;obtain ⟨en,hen⟩: ∃en,en=if f.isSome then e.n else s.n:=⟨_,rfl⟩
  obtain ⟨ea,hea⟩: ∃ea,ea=if f.isSome then e.at_ else tick:=⟨_,rfl⟩
  have L7:0<=en/\en<=65535:=by rw [hen];split <;> omega
  have L6:0<=ea/\ea<=1073741824:=by rw [hea];split <;> omega
  have htk:xE s f (keyOf l s.key h) tick=vY s ⟨s.var,keyOf l s.key h,en,ea⟩ tick:=by
   unfold xE;cases f with
   |none=>rw [hen,hea];rfl
   |some x=>
    have hex:e=x:=he;obtain ⟨g1,g2,g3⟩:=wx hf.symm;rw [hen,hea];show vY s x tick=vY s ⟨s.var,keyOf l s.key h,e.n,e.at_⟩ tick
    rw [hex, <-g2, <-g3]
  have hW:=I9 s s.var (keyOf l s.key h) ⟨b1,b2⟩ ⟨b3,b4⟩ ⟨ht0,ht1⟩ L7 L6;obtain ⟨tn,htn⟩: ∃tn,tn=vY s ⟨s.var,keyOf l s.key h,en,ea⟩ tick:=⟨_,rfl⟩
  rw [<- htn] at htk hW;have htb:0<=tn.n/\tn.n<=65535 * 65536:=by
   rw [htn];have hk0:0<=(if tick>ea then (tick - ea).tdiv s.m else 0):=by
    split
    ·exact Int.tdiv_nonneg (by omega) (by omega)
    ·exact Int.le_refl 0
   unfold vY;dsimp only;generalize (if tick>ea then (tick - ea).tdiv s.m else 0)=k at *
   split
   ·exact ⟨by dsimp only;omega,by dsimp only;omega⟩
   ·exact ⟨by dsimp only;omega,by dsimp only;omega⟩
  have hc:=Iu (x0:=x0) (x1:=x1) (x2:=x2) (x3:=x3) (x4:=x4) (x5:=x5) (x6:=x6) (x7:=x7) (x8:=x8) (x9:=x9) (l:=l) (tick:=tick) (is:=f.isSome) h6 (by omega) en ea tn.n tn.at_ hen hea hW (if tn.n>0 then tn.n - 1 else tn.n) (by
   split
   ·exact (nW (by omega) (by omega)).symm
   ·rfl) hOf (fc _ _) (uY f o) uL
  cases hfu:uY f o with
  |true=>
   have hD:doE l s st h tick=⟨h,false,st⟩:=by rw [qm,hd1];unfold do6;rw [hfu];rfl
   rw [hD];rw [hfu] at hc;exact ⟨st,x0,x1,x2,x3,x4,x5,x6,x7,x8,x9,_,false,hc,by rw [hx];rfl⟩
  |false=>
   rw [hfu] at hc
   by_cases c:tn.n>0
   ·have hD:doE l s st h tick=⟨h,true,uS ⟨s.var,keyOf l s.key h,tn.n - 1,tn.at_⟩ st⟩:=by rw [qm,hd1];unfold do6;rw [htk,hfu,if_neg (by simp),if_pos c];rfl
    rw [hD];rw [if_pos c,decide_eq_true c] at hc;exact ⟨uS ⟨s.var,keyOf l s.key h,tn.n - 1,tn.at_⟩ st,x0,x1,x2,x3,x4,x5,x6,x7,x8,x9,⟨e.var,e.key,tn.n - 1,tn.at_⟩,true,hc,by rw [hx];rfl⟩
   ·have hD:doE l s st h tick=⟨h,false,uS ⟨s.var,keyOf l s.key h,tn.n,tn.at_⟩ st⟩:=by rw [qm,hd1];unfold do6;rw [htk,hfu,if_neg (by simp),if_neg c];rfl
    rw [hD];rw [if_neg c,decide_eq_false c] at hc;exact ⟨uS ⟨s.var,keyOf l s.key h,tn.n,tn.at_⟩ st,x0,x1,x2,x3,x4,x5,x6,x7,x8,x9,⟨e.var,e.key,tn.n,tn.at_⟩,false,hc,by rw [hx];rfl⟩
end Go.ST
end
section
end
section
end
section
end
section
end
section
end
section
end
section
namespace Go.MM
open Go Go.DL Go.Proofs
def Cx:ByteArray:=⟨#[100,115,116]⟩
def BR:ByteArray:=⟨#[115,114,99]⟩
def Df:ByteArray:=⟨#[107,105,110,100]⟩
end Go.MM
end
section
end
section
end
section
end
section
end
section
end
section
end
section
end
section
end
section
end
section
namespace Go.TY
open Go Go.DL Go.MM
def GU(l:List Fd):RP->Int
 |.mk k f n m _=>if uq f e0 then 0 else match findF l f with
   |none=>4
   |some F=>if (if k=5 then m else n)>((2^F.w - 1:Nat):Int)\/(k=4/\m>F.w) then 1 else 0
def E9(l:List Fd)(r:RP):Int:=uU ((xd r).map (GU l))
def Jm(l:List Fd)(f:ByteArray)(n:Int):Int:=match findF l f with
 |none=>4
 |some F=>if n>((2^F.w - 1:Nat):Int) then 1 else 0
def E8(l:List Fd):RO->Int
 |.mk k p f n _=>if k=1 then E9 l p else if k=2 then Jm l f n else 0
def xD(l:List Fd)(r:RO):Int:=if vM r≠0 then vM r else uU ((wL r).map (E8 l))
theorem Hn{f:ByteArray}(h:uq f e0=true):f=e0:=by
 unfold uq at h;have h:f.data.toList=[]:=by simpa using h
 exact ByteArray.ext (Array.ext' h)
theorem yV{f:ByteArray}(h:vh f=true):uq f e0=false:=by
 cases e:uq f e0 with
 |false=>rfl
 |true=>
  rw [Hn e] at h
  have:vh e0=false:=by decide+kernel
  rw [this] at h;cases h
theorem Ij{l:List Fd}{k:Int}{f:ByteArray}{n m:Int}{a:List RP}(h:okP k f n m=true):GU l (.mk k f n m a)=yN l (.mk k f n m a):=by
 simp only [GU,yN];unfold okP at h
 by_cases h1:k=1\/k=2
 ·rw [if_pos h1] at h;unfold Ah at h;simp only [Bool.and_eq_true] at h;rw [if_pos h.1.1,if_neg (by omega)]
 rw [if_neg h1] at h
 by_cases h3:k=3
 ·subst h3;simp only [if_true,Bool.and_eq_true] at h;rw [yV h.1.1];cases findF l f <;> simp
 rw [if_neg h3] at h
 by_cases h4:k=4
 ·subst h4;simp only [if_true,Bool.and_eq_true] at h;rw [yV h.1.1.1];cases findF l f <;> simp
 rw [if_neg h4] at h
 by_cases h5:k=5
 ·subst h5;simp only [if_true,Bool.and_eq_true] at h;rw [yV h.1.1.1];cases findF l f <;> simp
 rw [if_neg h5] at h
 by_cases h6:k=6\/k=7\/k=8
 ·rw [if_pos h6] at h;unfold Ah at h;simp only [Bool.and_eq_true] at h;rw [if_pos h.1.1,if_neg (by omega)]
 rw [if_neg h6] at h
 by_cases h9:k=9
 ·subst h9;simp only [if_true,Bool.and_eq_true] at h;rw [if_pos h.1.1.1,if_neg (by omega)]
 ·rw [if_neg h9] at h;cases h
mutual
theorem AF: ∀r:RP,vQ r=true-> ∀x∈xd r,vQ x=true
 |.mk k f n m a,h,x,hx=>by
  rw [xd] at hx;rcases List.mem_cons.1 hx with rfl|hx
  ·exact h
  ·simp only [vQ,Bool.and_eq_true] at h;exact zG a h.2 x hx
theorem zG: ∀l:List RP,vI l=true-> ∀x∈wa l,vQ x=true
 |[],_,x,hx=>by simp [wa] at hx
 |r::rs,h,x,hx=>by
  simp only [vI,Bool.and_eq_true] at h;rw [wa] at hx;rcases List.mem_append.1 hx with hx|hx
  ·exact AF r h.1 x hx
  ·exact zG rs h.2 x hx
end
mutual
theorem AE: ∀r:RO,vP r=true-> ∀x∈wL r,vP x=true
 |.mk k p f n a,h,x,hx=>by
  rw [wL] at hx;rcases List.mem_cons.1 hx with rfl|hx
  ·exact h
  ·simp only [vP,Bool.and_eq_true] at h;exact zF a h.2 x hx
theorem zF: ∀l:List RO,vH l=true-> ∀x∈vB l,vP x=true
 |[],_,x,hx=>by simp [vB] at hx
 |r::rs,h,x,hx=>by
  simp only [vH,Bool.and_eq_true] at h;rw [vB] at hx;rcases List.mem_append.1 hx with hx|hx
  ·exact AE r h.1 x hx
  ·exact zF rs h.2 x hx
end
theorem GV{l:List Fd}{r:RP}(h:vQ r=true):E9 l r=fitAll l r:=by
 unfold E9 fitAll
 congr 1
 refine List.map_congr_left fun x hx=>?_
 have:=AF r h x hx
 obtain ⟨k,f,n,m,a⟩:=x;simp only [vQ,Bool.and_eq_true] at this;exact Ij this.1.1
theorem Il{e:Int}{b:Bool}(h:B7 e b=0):e=0/\b=true:=by
 unfold B7 at h
 by_cases he:e=0
 ·rw [if_pos he] at h;cases b with
  |true=>exact ⟨he,rfl⟩
  |false=>simp at h
 ·rw [if_neg he] at h;exact absurd h he
theorem GS{l:List Fd}{r:RO}(h:vP r=true):E8 l r=xz l r:=by
 obtain ⟨k,p,f,n,a⟩:=r;simp only [E8,xz]
 by_cases h1:k=1
 ·subst h1;simp only [vP,okO,if_true,Bool.and_eq_true] at h;simp only [if_true];exact GV h.1.1.1
 ·rw [if_neg h1,if_neg h1];rfl
theorem IF(l:List Fd)(r:RO):xD l r=Fy l r:=by
 unfold xD Fy
 by_cases h:vM r≠0
 ·rw [if_pos h,if_pos h]
 ·rw [if_neg h,if_neg h];have hf:=(Il (Decidable.not_not.1 h)).2
  congr 1
  exact List.map_congr_left fun x hx=>GS (AE r hf x hx)
end Go.TY
end
section
end
section
end
section
namespace Go.TY
open Go Go.DL Go.MM Go.Proofs
theorem uQ{a b:ByteArray}:uq a b=true↔a=b:=by
 constructor
 ·intro h;unfold uq at h;exact ByteArray.ext (Array.ext' (by simpa using h))
 ·intro h;subst h;unfold uq;simp
end Go.TY
end
section
end
section
namespace Go.TY
open Go Go.DL Go.MM Go.Proofs
def Bm(n:Int):Bool:=decide (0<=n)&&decide (n<=1073741824)
end Go.TY
end
section
namespace Go.MM
open Go Go.DL Go.Proofs
theorem Bo:Tryz.prog.underlying 34=some (.slice 36):=by kernel_rfl
theorem Bp:Tryz.prog.underlying 37=some (.slice 39):=by kernel_rfl
theorem yH:Tryz.prog.cellsOf 3=1:=by kernel_rfl
theorem H6:Tryz.prog.cellsOf 27=10:=by kernel_rfl
theorem wc{us:List T}(h:cB Tryz.prog 3 us): ∃n,us=[I n]/\(Lit.int .i64 n).wf=true:=by
 cases h with
 |int h n hw=>rw [Tryz.underlying3] at h;cases h;exact ⟨n,rfl,hw⟩
 |bool h|str h|nil h|slice h|struct h|array h=>rw [Tryz.underlying3] at h;cases h
theorem Io{us:List T}(h:cB Tryz.prog 27 us): ∃x:List Int,us=x.map I/\x.length=10/\ ∀n∈x,(Lit.int .i64 n).wf=true:=by
 cases h with
 |array h us hl hf=>
  rw [Tryz.underlying27] at h;cases h;rw [H6] at hl;have key: ∀i,i<10-> ∃n,us[i]? =some (I n)/\(Lit.int .i64 n).wf=true:=fun i hi=>by
   obtain ⟨n,e,w⟩:=wc (hf i hi);rw [yH,Nat.mul_one,List.take_one] at e;refine ⟨n,?_,w⟩
   have:(us.drop i).head? =us[i]? :=by rw [List.head?_drop]
   rw [this] at e;cases hx:us[i]? with
   |none=>rw [hx] at e;cases e
   |some x=>rw [hx] at e;cases e;rfl
  refine ⟨us.map fun t=>match t with|.int _ n=>n|_=>0,?_,by simpa using hl,fun n hn=>?_⟩
  ·refine List.ext_getElem? fun i=>?_
   rcases Nat.lt_or_ge i 10 with hi|hi
   ·obtain ⟨n,e,_⟩:=key i hi;rw [e];simp [e]
   ·rw [List.getElem?_eq_none (by omega),List.getElem?_eq_none (by simp;omega)]
  ·obtain ⟨t,ht,rfl⟩:=List.mem_map.1 hn;obtain ⟨i,hi⟩:=List.mem_iff_getElem?.1 ht;obtain ⟨n,e,w⟩:=key i (by have:=(gsZ hi).1;omega);rw [e] at hi;cases hi;exact w
 |int h|bool h|str h|nil h|slice h|struct h=>rw [Tryz.underlying27] at h;cases h
theorem Ni(us:List T):mkT Tryz.prog 27 us= .agg us:=by unfold mkT;rw [Tryz.underlying27]
end Go.MM
end
