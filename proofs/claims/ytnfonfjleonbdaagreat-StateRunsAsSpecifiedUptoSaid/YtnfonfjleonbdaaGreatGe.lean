/- Joined by program: parts of a data level over the model, of the program's functions over it, and of the statement's proof. -/
import Derived.Test.YtnfonfjleonbdaaGreatGc
import Derived.Test.YtnfonfjleonbdaaGreatGd
import Derived.WalkKit
import Derived.Lib.Walk
import Derived.Lib.SliceRun
import Derived.Laws.NewBlocks
import Derived.Laws.Externs
import Derived.Shelf.RegionOpenPlain
import Derived.Test.YtnfonfjleonbdaaGreatProg
import Derived.KernelRfl
import Derived.Shelf.Lays8
import Derived.LoopN
import Derived.Shelf.SlLaysF0
import Derived.Shelf.SlGeneric
set_option maxRecDepth 100000
set_option maxHeartbeats 8000000
section
namespace Go.ST
open Go Go.DL Go.MM Go.Proofs
open Go.TY hiding Fd
theorem Ge(vars:List RV)(name:ByteArray):(xp (B0 name) vars= -1/\varOf vars name=none)\/ ∃(i:Nat) (h:i<vars.length),xp (B0 name) vars=i/\varOf vars name=some vars[i]:=Cw (B0 name) vars
theorem EW{vars:List RV}{st:List RE}{i:Nat}(h:i<st.length):BF vars (st.take i) (st.drop i)=if Bb vars (st.take i) st[i]=0 then BF vars (st.take (i+1)) (st.drop (i+1)) else Bb vars (st.take i) st[i]:=by
 rw [List.drop_eq_getElem_cons h,List.take_succ_eq_append_getElem h];rfl
theorem D5{st:List RE}{i:Nat}(h:i<st.length):Aj (st.take i) st[i]=(decide (0<i)&&decide (vd (st[i - 1]'(by omega)) st[i]≠ -1)):=by
 unfold Aj;cases i with
 |zero=>simp
 |succ i=>
  have:(st.take (i+1)).getLast? =some (st[i]'(by omega)):=by rw [List.take_succ_eq_append_getElem (by omega),List.getLast?_append];simp
  rw [this];simp
theorem zO{st:List RE}{i:Nat}:T.slice 4 (((st.map uS).take i).drop 0)=esT (st.take i):=by rw [List.drop_zero, <-List.map_take]
theorem Hh(vars:List RV)(G:vars.length<2^60)(P: ∀v∈vars,VOk v)(st:List RE)(Q:st.length<2^60)(K: ∀e∈st,kOk e):DCalls Tryz.prog 14 [vsT vars,esT st] (I (Bc vars st)):=by
 refine dl2 mixed [.tmp 4] [I _] Tryz.func14 l14.2 ?_;have S:((st.map uS).length:Int)=st.length:=by rw [List.length_map]
 skip
 refine uA (α:=Nat) (fun i=>{sl:=[(0,.t (vsT vars)),(1,.t (esT st)),(5,.t (I i))],bx:=[]})
  (fun i=>i<=st.length/\BF vars (st.take i) (st.drop i)=Bc vars st) (fun i=>st.length - i) 0 ⟨by omega,rfl⟩ ?_ ?_
 ·exact wkZ
 rintro i ⟨hi,d⟩;rcases Nat.lt_or_ge i st.length with h|h
 ·have b:(i:Int)<((st.map uS).length:Int):=by omega
  rw [EW h] at d;have n:=H6 vars st[i].var G;have A:=K st[i] (List.getElem_mem h);have M:=vL h;have O:((st.map uS)[i]?.getD .nil)= .agg (uR st[i]):=M;have w:=D5 h;have a:Bb vars (st.take i) st[i]=match varOf vars st[i].var with
   |none=>4
   |some v=>if yI v st[i] (st.take i)=false then 1 else if Aj (st.take i) st[i]=true then 10 else if 100<=vo (st.take i) st[i].var then 2 else 0:=rfl
  rcases Ge vars st[i].var with ⟨q,u⟩|⟨k,f,q,u⟩
  ·rw [q] at n;rw [u] at a;dsimp only at a;rw [a,if_neg (by decide)] at d;rw [<- d]
   repeat' ((conv=>whnf);first|exact trivial|refine nr b ?_|(refine nv_ (.agg (uR st[i])) (by first|exact vL h) ?_)|refine pC _ (n) ?_|refine aD1 ?_|refine rix ?_|refine aS ?_|refine nT_ ?_)
  ·rw [q] at n;rw [u] at a;dsimp only at a;have p:=MN vars[k] (P _ (List.getElem_mem f)) st[i] A (st.take i) (by rw [List.length_take];omega);have z: ¬((k:Nat):Int)<0:=by omega
   cases C:yI vars[k] st[i] (st.take i) with
   |false=>
    rw [C] at p;rw [if_pos C] at a;rw [a,if_neg (by decide)] at d;rw [<- d]
    repeat' ((conv=>whnf);first|exact trivial|refine nr b ?_|(refine nv_ (.agg (uR st[i])) (by first|exact vL h) ?_)|refine pC _ (n) ?_|refine nq z ?_|(refine nv_ (.agg (vG vars[k])) (by first|exact yS f) ?_)|(refine nv_ (esT (st.take i)) (by first|exact zO) ?_)|refine pC _ (p) ?_|refine rix ?_|refine aS ?_|refine nT_ ?_)
   |true=>
    rw [C] at p;rw [if_neg (show ¬yI vars[k] st[i] (st.take i)=false by simp [C])] at a;have D:=Hi (st.take i) st[i].var (by rw [List.length_take];omega);have F:=AX (st:=st.take i) (v:=st[i].var);rw [List.length_take] at F
    by_cases H:0<i
    ·have j:(i:Int)>0:=by omega
     have g:i - 1<st.length:=by omega
     have x:IntKind.wrap .i64 ((i:Int) - 1)=((i - 1:Nat):Int):=by rw [oA] <;> omega
     have E:=Fm (st[i - 1]'g) st[i] (K _ (List.getElem_mem g)) A;have T:=uZ.r (st[i - 1]'g) st[i];have N:((st.map uS)[((i:Int) - 1).toNat]?.getD .nil)= .agg (uR (st[i - 1]'g)):=by rw [show ((i:Int) - 1).toNat=i - 1 by omega];exact vL g
     rw [decide_eq_true H,Bool.true_and] at w;generalize L:vd (st[i - 1]'g) st[i]=c at *
     by_cases J:c= -1
     ·rw [show decide (c≠ -1)=false by simp [J]] at w;have m: ¬c>=0:=by omega
      rw [if_neg (by simp [w])] at a
      by_cases B:100<=vo (st.take i) st[i].var
      ·rw [if_pos B] at a;rw [a,if_neg (by decide)] at d;have y:((vo (st.take i) st[i].var:Nat):Int)>=100:=by omega
       rw [<- d]
       repeat' ((conv=>whnf);first|exact trivial|refine nr b ?_|refine nr j ?_|(refine nv_ (.agg (uR st[i])) (by first|exact vL h) ?_)|(refine nv_ (.agg (uR (st[i - 1]'g))) (by first|((rw [x];exact vL g);done)|fail) ?_)|refine pC _ (n) ?_|refine nq z ?_|(refine nv_ (.agg (vG vars[k])) (by first|exact yS f) ?_)|(refine nv_ (esT (st.take i)) (by first|exact zO) ?_)|refine pC _ (p) ?_|refine pC _ (E) ?_|refine nq m ?_|refine pC _ (D) ?_|refine nr y ?_|refine rix ?_|(refine And.intro (by first|(omega;done)|((rw [x];omega);done)|fail) ?_)|refine aS ?_|refine nT_ ?_)
      ·rw [if_neg B] at a;rw [a,if_pos rfl] at d;have y: ¬((vo (st.take i) st[i].var:Nat):Int)>=100:=by omega
       repeat' ((conv=>whnf);first|refine nr b ?_|refine nr j ?_|(refine nv_ (.agg (uR st[i])) (by first|exact vL h) ?_)|(refine nv_ (.agg (uR (st[i - 1]'g))) (by first|((rw [x];exact vL g);done)|fail) ?_)|refine pC _ (n) ?_|refine nq z ?_|(refine nv_ (.agg (vG vars[k])) (by first|exact yS f) ?_)|(refine nv_ (esT (st.take i)) (by first|exact zO) ?_)|refine pC _ (p) ?_|refine pC _ (E) ?_|refine nq m ?_|refine pC _ (D) ?_|refine nq y ?_|(refine And.intro (by first|(omega;done)|((rw [x];omega);done)|fail) ?_)|refine aS ?_|refine nT_ ?_)
       exact ⟨i+1,⟨h,d⟩,by omega,by exact wkZ⟩
     ·rw [show decide (c≠ -1)=true by simp [J]] at w;have m:c>=0:=by omega
      rw [if_pos w] at a;rw [a,if_neg (by decide)] at d;rw [<- d]
      repeat' ((conv=>whnf);first|exact trivial|refine nr b ?_|refine nr j ?_|(refine nv_ (.agg (uR st[i])) (by first|exact vL h) ?_)|(refine nv_ (.agg (uR (st[i - 1]'g))) (by first|((rw [x];exact vL g);done)|fail) ?_)|refine pC _ (n) ?_|refine nq z ?_|(refine nv_ (.agg (vG vars[k])) (by first|exact yS f) ?_)|(refine nv_ (esT (st.take i)) (by first|exact zO) ?_)|refine pC _ (p) ?_|refine pC _ (E) ?_|refine nr m ?_|refine rix ?_|(refine And.intro (by first|(omega;done)|((rw [x];omega);done)|fail) ?_)|refine aS ?_|refine nT_ ?_)
    ·have j: ¬(i:Int)>0:=by omega
     rw [decide_eq_false H,Bool.false_and] at w;rw [if_neg (by simp [w])] at a;have B: ¬100<=vo (st.take i) st[i].var:=by omega
     rw [if_neg B] at a;rw [a,if_pos rfl] at d;have y: ¬((vo (st.take i) st[i].var:Nat):Int)>=100:=by omega
     repeat' ((conv=>whnf);first|refine nr b ?_|refine nq j ?_|(refine nv_ (.agg (uR st[i])) (by first|exact vL h) ?_)|refine pC _ (n) ?_|refine nq z ?_|(refine nv_ (.agg (vG vars[k])) (by first|exact yS f) ?_)|(refine nv_ (esT (st.take i)) (by first|exact zO) ?_)|refine pC _ (p) ?_|refine pC _ (D) ?_|refine nq y ?_|refine aS ?_|refine nT_ ?_)
     exact ⟨i+1,⟨h,d⟩,by omega,by exact wkZ⟩
 ·have b: ¬(i:Int)<((st.map uS).length:Int):=by omega
  obtain rfl:i=st.length:=by omega
  rw [<- d,List.drop_length];exact rcZ
def B8(s:ByteArray)(n:Int):List (ByteArray×Int)->List (ByteArray×Int)
 |[]=>[(s,n)]
 |x::xs=>if x.1=s then (s,n)::xs else x::B8 s n xs
def A0(m:List (ByteArray×Int))(s:ByteArray):Int:=((m.find? fun p=>decide (p.1=s)).map (·.2)).getD 0
def esC(m:List (ByteArray×Int)):List (T×T):=m.map fun p=>(T.str p.1,I p.2)
theorem LV(a b:ByteArray):(a==b)=decide (a=b):=by
 obtain ⟨a⟩:=a;obtain ⟨b⟩:=b
 by_cases h:a=b
 ·subst h;rw [decide_eq_true rfl];show (a==a)=true
  simp
 ·rw [decide_eq_false (fun e=>h (ByteArray.mk.inj e))];show (a==b)=false
  exact beq_false_of_ne h
theorem Kr(a b:ByteArray):eqL (T.str a).cells (T.str b).cells=decide (a=b):=by
 show ((a==b)&&true)=_
 rw [Bool.and_true,LV]
theorem IU(s:ByteArray)(n:Int): ∀m:List (ByteArray×Int),bF (.str s) (I n) (esC m)=esC (B8 s n m)
 |[]=>rfl
 |x::xs=>by
  have a:=IU s n xs;show cond (eqL (T.str s).cells (T.str x.1).cells) _ _=esC (B8 s n (x::xs))
  rw [Kr];unfold B8
  by_cases h:x.1=s
  ·rw [decide_eq_true h.symm,if_pos h];rfl
  ·rw [decide_eq_false (fun e=>h e.symm),if_neg h,cond_false];show (T.str x.1,I x.2)::bF (.str s) (I n) (esC xs)=_
   rw [a];rfl
theorem MD(s:ByteArray)(m:List (ByteArray×Int)):oW (I 0) false (eH (T.str s).cells (esC m))=I (A0 m s):=by
 have key:eH (T.str s).cells (esC m)=((m.find? fun p=>decide (p.1=s)).map (·.2)).map I:=by
  induction m with
  |nil=>rfl
  |cons x xs a=>
   show cond (eqL (T.str s).cells (T.str x.1).cells) (some (I x.2)) (eH (T.str s).cells (esC xs))=_
   rw [Kr,a,List.find?_cons]
   by_cases h:x.1=s
   ·rw [decide_eq_true h.symm,decide_eq_true h];rfl
   ·rw [decide_eq_false (fun e=>h e.symm),decide_eq_false h];rfl
 rw [key];unfold A0;cases (m.find? fun p=>decide (p.1=s)) <;> rfl
theorem IQ(s t:ByteArray)(n:Int)(m:List (ByteArray×Int)):A0 (B8 s n m) t=if s=t then n else A0 m t:=by
 unfold A0
 induction m with
 |nil=>unfold B8;by_cases h:s=t <;> simp [h]
 |cons x xs b=>
  unfold B8
  by_cases a:x.1=s
  ·rw [if_pos a,List.find?_cons,List.find?_cons]
   by_cases h:s=t
   ·simp [h]
   ·rw [decide_eq_false h,decide_eq_false (fun e=>h (a.symm.trans e)),if_neg h]
  ·rw [if_neg a,List.find?_cons,List.find?_cons]
   by_cases h:x.1=t
   ·rw [decide_eq_true h]
    have: ¬s=t:=fun e=>a (h.trans e.symm)
    rw [if_neg this]
   ·rw [decide_eq_false h];exact b
def Co(st:List RE):List (ByteArray×Int):=st.foldl (fun m e=>B8 e.var (A0 m e.var+1) m) []
theorem Fa{st:List RE}{i:Nat}(h:i<st.length):Co (st.take (i+1))=B8 st[i].var (A0 (Co (st.take i)) st[i].var+1) (Co (st.take i)):=by
 unfold Co;rw [List.take_succ_eq_append_getElem h,List.foldl_append];rfl
theorem E9(st:List RE)(v:ByteArray): ∀i,i<=st.length->A0 (Co (st.take i)) v=vo (st.take i) v:=by
 intro i
 induction i with
 |zero=>intro _;rfl
 |succ i b=>
  intro h;rw [Fa h,IQ,C9 h]
  by_cases a:st[i].var=v
  ·subst a;rw [if_pos rfl,if_pos rfl,b (by omega)];rfl
  ·rw [if_neg a,if_neg a,b (by omega)];rfl
theorem Mz{ks:List Nat}{bx:Nat->Option BX}{b:Bool}{d:List Sh}{c a:List (T×T)}(h:c=a):LeB ks bx (.m b d c none) (some (.m b d a none)):=by rw [h];exact .same _
theorem LK(vars:List RV)(L:vars.length<2^60)(Q: ∀v∈vars,VOk v)(st:List RE)(S:st.length<2^60)(O: ∀e∈st,kOk e):DCalls Tryz.prog 23 [vsT vars,esT st] (I (Bc vars st)):=by
 refine dl2 mixed [.tmp 4] [I _] Tryz.func23 l23.2 ?_
 skip
 refine uA (α:=Nat) (fun i=>{sl:=[(0,.t (vsT vars)),(1,.t (esT st)),(5,.mp 9),(10,.t (esT st)),(11,.t (I st.length)),(12,.t (I i))],bx:=[(9,.m false [.str] (esC (Co (st.take i))) none)]})
  (fun i=>i<=st.length/\BF vars (st.take i) (st.drop i)=Bc vars st) (fun i=>st.length - i) 0 ⟨by omega,rfl⟩ ?_ ?_
 ·exact wkZ
 rintro i ⟨hi,d⟩;rcases Nat.lt_or_ge i st.length with h|h
 ·have b:(i:Int)<(st.length:Int):=by omega
  rw [EW h] at d;have u:=Jh vars st[i] L;have D:=O st[i] (List.getElem_mem h);have z:=D5 h;have a:Bb vars (st.take i) st[i]=match varOf vars st[i].var with
   |none=>4
   |some v=>if yI v st[i] (st.take i)=false then 1 else if Aj (st.take i) st[i]=true then 10 else if 100<=vo (st.take i) st[i].var then 2 else 0:=rfl
  rcases Ge vars st[i].var with ⟨x,y⟩|⟨k,f,x,y⟩
  ·rw [x] at u;rw [y] at a;dsimp only at a;rw [a,if_neg (by decide)] at d;rw [<- d]
   repeat' ((conv=>whnf);first|exact trivial|refine nr b ?_|(refine nv_ (.agg (uR st[i])) (by first|exact vL h) ?_)|refine pC _ (u) ?_|refine aD1 ?_|refine rix ?_|(refine And.intro (by first|exact vu _) ?_)|refine aS ?_|refine nT_ ?_)
  ·rw [x] at u;rw [y] at a;dsimp only at a;have w:=MZ vars[k] (Q _ (List.getElem_mem f)) st[i] D (st.take i) (by rw [List.length_take];omega);have C: ¬((k:Nat):Int)<0:=by omega
   cases G:yI vars[k] st[i] (st.take i) with
   |false=>
    rw [G] at w;rw [if_pos G] at a;rw [a,if_neg (by decide)] at d;rw [<- d]
    repeat' ((conv=>whnf);first|exact trivial|refine nr b ?_|(refine nv_ (.agg (uR st[i])) (by first|exact vL h) ?_)|refine pC _ (u) ?_|refine nq C ?_|(refine nv_ (.agg (vG vars[k])) (by first|exact yS f) ?_)|(refine nv_ (esT (st.take i)) (by first|exact zO) ?_)|refine pC _ (w) ?_|refine rix ?_|(refine And.intro (by first|exact vu _) ?_)|refine aS ?_|refine nT_ ?_)
   |true=>
    rw [G] at w;rw [if_neg (show ¬yI vars[k] st[i] (st.take i)=false by simp [G])] at a;have p:=MD st[i].var (Co (st.take i));rw [E9 st _ i hi] at p;have K:=AX (st:=st.take i) (v:=st[i].var);rw [List.length_take] at K;have q:=IU st[i].var (((vo (st.take i) st[i].var:Nat):Int)+1) (Co (st.take i));have E:=Fa h;rw [E9 st _ i hi] at E;rw [<- E] at q;have H:IntKind.wrap .i64 (((vo (st.take i) st[i].var:Nat):Int)+1)=((vo (st.take i) st[i].var:Nat):Int)+1:=by rw [oA] <;> omega
    rw [<- H] at q
    by_cases M:0<i
    ·have g:(i:Int)>0:=by omega
     have j:i - 1<st.length:=by omega
     have A:IntKind.wrap .i64 ((i:Int) - 1)=((i - 1:Nat):Int):=by rw [oA] <;> omega
     have J:=ze (st[i - 1]'j) st[i] (O _ (List.getElem_mem j)) D;have T:=uZ.r (st[i - 1]'j) st[i];rw [decide_eq_true M,Bool.true_and] at z;generalize P:vd (st[i - 1]'j) st[i]=c at *
     by_cases N:c= -1
     ·rw [show decide (c≠ -1)=false by simp [N]] at z;have n: ¬c>=0:=by omega
      rw [if_neg (by simp [z])] at a
      by_cases F:100<=vo (st.take i) st[i].var
      ·rw [if_pos F] at a;rw [a,if_neg (by decide)] at d;have B:((vo (st.take i) st[i].var:Nat):Int)>=100:=by omega
       rw [<- d]
       repeat' ((conv=>whnf);first|exact trivial|refine nr b ?_|refine nr g ?_|(refine nv_ (.agg (uR st[i])) (by first|exact vL h) ?_)|(refine nv_ (.agg (uR (st[i - 1]'j))) (by first|((rw [A];exact vL j);done)|fail) ?_)|refine pC _ (u) ?_|refine nq C ?_|(refine nv_ (.agg (vG vars[k])) (by first|exact yS f) ?_)|(refine nv_ (esT (st.take i)) (by first|exact zO) ?_)|refine pC _ (w) ?_|refine pC _ (J) ?_|refine nq n ?_|(refine nv_ (I (vo (st.take i) st[i].var:Nat)) (by first|exact p) ?_)|refine nr B ?_|refine rix ?_|(refine And.intro (by first|exact vu _|exact ⟨rfl,trivial,trivial⟩|exact ⟨rfl,rfl,trivial⟩|exact ⟨rfl,trivial⟩|(omega;done)|((rw [A];omega);done)|fail) ?_)|refine aS ?_|refine nT_ ?_)
      ·rw [if_neg F] at a;rw [a,if_pos rfl] at d;have B: ¬((vo (st.take i) st[i].var:Nat):Int)>=100:=by omega
       repeat' ((conv=>whnf);first|refine nr b ?_|refine nr g ?_|(refine nv_ (.agg (uR st[i])) (by first|exact vL h) ?_)|(refine nv_ (.agg (uR (st[i - 1]'j))) (by first|((rw [A];exact vL j);done)|fail) ?_)|refine pC _ (u) ?_|refine nq C ?_|(refine nv_ (.agg (vG vars[k])) (by first|exact yS f) ?_)|(refine nv_ (esT (st.take i)) (by first|exact zO) ?_)|refine pC _ (w) ?_|refine pC _ (J) ?_|refine nq n ?_|(refine nv_ (I (vo (st.take i) st[i].var:Nat)) (by first|exact p) ?_)|refine nq B ?_|(refine And.intro (by first|exact vu _|exact ⟨rfl,trivial,trivial⟩|exact ⟨rfl,rfl,trivial⟩|exact ⟨rfl,trivial⟩|(omega;done)|((rw [A];omega);done)|fail) ?_)|refine aS ?_|refine nT_ ?_)
       exact ⟨i+1,⟨h,d⟩,by omega,by repeat' (first|(exact Mz q.symm)|exact wJ|refine And.intro ?_ ?_)⟩
     ·rw [show decide (c≠ -1)=true by simp [N]] at z;have n:c>=0:=by omega
      rw [if_pos z] at a;rw [a,if_neg (by decide)] at d;rw [<- d]
      repeat' ((conv=>whnf);first|exact trivial|refine nr b ?_|refine nr g ?_|(refine nv_ (.agg (uR st[i])) (by first|exact vL h) ?_)|(refine nv_ (.agg (uR (st[i - 1]'j))) (by first|((rw [A];exact vL j);done)|fail) ?_)|refine pC _ (u) ?_|refine nq C ?_|(refine nv_ (.agg (vG vars[k])) (by first|exact yS f) ?_)|(refine nv_ (esT (st.take i)) (by first|exact zO) ?_)|refine pC _ (w) ?_|refine pC _ (J) ?_|refine nr n ?_|refine rix ?_|(refine And.intro (by first|exact vu _|(omega;done)|((rw [A];omega);done)|fail) ?_)|refine aS ?_|refine nT_ ?_)
    ·have g: ¬(i:Int)>0:=by omega
     rw [decide_eq_false M,Bool.false_and] at z;rw [if_neg (by simp [z])] at a;have F: ¬100<=vo (st.take i) st[i].var:=by omega
     rw [if_neg F] at a;rw [a,if_pos rfl] at d;have B: ¬((vo (st.take i) st[i].var:Nat):Int)>=100:=by omega
     repeat' ((conv=>whnf);first|refine nr b ?_|refine nq g ?_|(refine nv_ (.agg (uR st[i])) (by first|exact vL h) ?_)|refine pC _ (u) ?_|refine nq C ?_|(refine nv_ (.agg (vG vars[k])) (by first|exact yS f) ?_)|(refine nv_ (esT (st.take i)) (by first|exact zO) ?_)|refine pC _ (w) ?_|(refine nv_ (I (vo (st.take i) st[i].var:Nat)) (by first|exact p) ?_)|refine nq B ?_|(refine And.intro (by first|exact vu _|exact ⟨rfl,trivial,trivial⟩|exact ⟨rfl,rfl,trivial⟩|exact ⟨rfl,trivial⟩) ?_)|refine aS ?_|refine nT_ ?_)
     exact ⟨i+1,⟨h,d⟩,by omega,by repeat' (first|(exact Mz q.symm)|exact wJ|refine And.intro ?_ ?_)⟩
 ·have b: ¬(i:Int)<(st.length:Int):=by omega
  obtain rfl:i=st.length:=by omega
  rw [<- d,List.drop_length];exact rcZ
theorem MF{i j:Nat}(h:i+j<2^61):IntKind.wrap .i64 ((IntKind.wrap .u64 (IntKind.wrap .i64 ((i:Int)+(j:Int)))).fdiv (2^(min (1:Int).toNat (IntKind.bits .u64))))=(((i+j) / 2:Nat):Int):=by
 rw [oA (n:=(i:Int)+j) (by omega) (by omega)];have b: ∀n:Int,0<=n->n<18446744073709551616->IntKind.wrap .u64 n=n:=fun n c d=>by
  unfold IntKind.wrap;simp [IntKind.bits,IntKind.signed];omega
 rw [b ((i:Int)+j) (by omega) (by omega)];have a:((i:Int)+(j:Int)).fdiv (2^(min (1:Int).toNat (IntKind.bits .u64)))=(((i+j) / 2:Nat):Int):=by
  show ((i:Int)+(j:Int)).fdiv 2=_
  rw [Int.fdiv_eq_ediv_of_nonneg _ (by omega)];omega
 rw [a,oA (by omega) (by omega)]
def isE(st:List RE)(e:RE):Bool:=(vh st e.var e.key).isSome
theorem La{st:List RE}(b:vK st){e:RE}(h:vJ st e<st.length):isE st e=decide (vd st[vJ st e] e=0):=by
 unfold isE;rw [zT b,ggZ h];dsimp only
 by_cases a:vd st[vJ st e] e=0 <;> simp [a]
theorem G9{st:List RE}(a:vK st){e:RE}(h: ¬vJ st e<st.length):isE st e=false:=by
 unfold isE;rw [zT a,List.getElem?_eq_none (by omega)];rfl
theorem Kk(st:List RE)(u:vK st)(E:st.length<2^40)(B: ∀x∈st,kOk x)(e:RE)(A:kOk e):
  DCalls Tryz.prog 118 [esT st,uS e,.clos 29 []] (.tup [I (vJ st e),.bool (isE st e)]):=by
 refine dl2 mixed [.tmp 6,.tmp 7] [I _,.bool _] Tryz.func118 OU.2 ?_;have D:=CY st e;refine rnZ ?_;refine uA (α:=Nat×Nat) (fun p=>{sl:=[(0,.t (esT st)),(2,.t (.clos 29 [])),(4,.ptr 4 0),(8,.t (I st.length)),(9,.t (I p.1)),(10,.t (I p.2))],bx:=[(4,.d 4 (uR e))]})
  (fun p=>p.1<=vJ st e/\vJ st e<=p.2/\p.2<=st.length) (fun p=>p.2 - p.1) (0,st.length) ⟨Nat.zero_le _,D,Nat.le_refl _⟩ ?_ ?_
 ·exact wkZ
 rintro ⟨i,j⟩ ⟨w,y,z⟩;dsimp only at w y z;rcases Nat.lt_or_ge i j with n|n
 ·have a:(i:Int)<(j:Int):=by omega
  have k:=MF (i:=i) (j:=j) (by omega);have b:(i+j) / 2<st.length:=by omega
  have m:=ze st[(i+j) / 2] e (B _ (List.getElem_mem b)) A;have C:=EG u (e:=e) b;have F:=uZ.r st[(i+j) / 2] e;generalize vd st[(i+j) / 2] e=c at *
  by_cases f:c= -1
  ·have g:c<0:=by omega
   have q:=C.1 f
   repeat' ((conv=>whnf);first|refine nr a ?_|(refine nv_ (.agg (uR st[(i+j) / 2])) (by first|((dsimp only;rw [k,Int.toNat_natCast];exact vL b);done)|fail) ?_)|refine pC _ (m) ?_|refine nr g ?_|(refine And.intro (by first|exact vu _|((dsimp only;rw [k];simp;omega);done)|fail) ?_)|refine aS ?_|refine nT_ ?_)
   exact ⟨((i+j) / 2+1,j),⟨q,y,z⟩,by dsimp only;omega,by repeat' (first|(exact leI (by dsimp only;rw [k,oA] <;> omega))|exact wJ|refine And.intro ?_ ?_)⟩
  ·have g: ¬c<0:=by omega
   have q:vJ st e<=(i+j) / 2:=Nat.le_of_not_lt fun h=>f (C.2 h)
   repeat' ((conv=>whnf);first|refine nr a ?_|(refine nv_ (.agg (uR st[(i+j) / 2])) (by first|((dsimp only;rw [k,Int.toNat_natCast];exact vL b);done)|fail) ?_)|refine pC _ (m) ?_|refine nq g ?_|(refine And.intro (by first|exact vu _|((dsimp only;rw [k];simp;omega);done)|fail) ?_)|refine aS ?_|refine nT_ ?_)
   exact ⟨(i,(i+j) / 2),⟨w,q,by dsimp only;omega⟩,by dsimp only;omega,by exact wkZ⟩
 ·have a: ¬(i:Int)<(j:Int):=by omega
  obtain rfl:i=vJ st e:=by omega
  rcases Nat.lt_or_ge (vJ st e) st.length with b|b
  ·have v:((vJ st e:Nat):Int)<(st.length:Int):=by omega
   have m:=ze st[vJ st e] e (B _ (List.getElem_mem b)) A;rw [La u b];generalize vd st[vJ st e] e=c at *
   by_cases f:c=0
   ·rw [decide_eq_true f]
    repeat' ((conv=>whnf);first|exact trivial|refine nq a ?_|refine nr v ?_|(refine nv_ (.agg (uR st[vJ st e])) (by first|exact vL b) ?_)|refine pC _ (m) ?_|refine nv f ?_|refine rb1 ?_|refine rix ?_|(refine And.intro (by first|exact vu _) ?_)|refine aS ?_|refine nT_ ?_)
   ·rw [decide_eq_false f]
    repeat' ((conv=>whnf);first|exact trivial|refine nq a ?_|refine nr v ?_|(refine nv_ (.agg (uR st[vJ st e])) (by first|exact vL b) ?_)|refine pC _ (m) ?_|refine nu f ?_|refine rb0 ?_|refine rix ?_|(refine And.intro (by first|exact vu _) ?_)|refine aS ?_|refine nT_ ?_)
  ·have v: ¬((vJ st e:Nat):Int)<(st.length:Int):=by omega
   rw [G9 u (by omega)];exact rcZ
theorem Hp(st:List RE)(d:vK st)(c:st.length<2^40)(b: ∀x∈st,kOk x)(e:RE)(a:kOk e):
  DCalls Tryz.prog 76 [esT st,uS e,.clos 29 []] (.tup [I (vJ st e),.bool (isE st e)]):=by
 refine dl2 mixed [.tmp 6,.tmp 7] [I _,.bool _] Tryz.func76 l76.2 ?_;have h:=Kk st d c b e a;exact rcZ
abbrev zE:T:=.agg [.str ⟨#[]⟩,.nil,I 0,I 0]
def Jy(o:Option RE):T:=match o with
 |some e=>.tup [uS e,.bool true]
 |none=>.tup [zE,.bool false]
theorem MT(st:List RE)(g:vK st)(k:st.length<2^40)(j: ∀x∈st,kOk x)(v:ByteArray)(key:List Int)(i:key.length<2^60):
  DCalls Tryz.prog 25 [esT st,.str v,.slice 1 (key.map I)] (Jy (vh st v key)):=by
 have h:=Hp st g k j ⟨v,key,0,0⟩ i;have a:=zT g ⟨v,key,0,0⟩;dsimp only at a;have hi:isE st ⟨v,key,0,0⟩=(vh st v key).isSome:=rfl;rw [hi] at h;cases d:vh st v key with
 |none=>
  rw [d] at h;refine dl2 mixed [.cell 6 64,.tmp 7] [zE,.bool false] Tryz.func25 l25.2 ?_;exact rcZ
 |some x=>
  rw [d] at h a;have b:vJ st ⟨v,key,0,0⟩<st.length:=by
   rcases Nat.lt_or_ge (vJ st ⟨v,key,0,0⟩) st.length with c|c
   ·exact c
   ·rw [List.getElem?_eq_none c] at a;cases a
  rw [ggZ b] at a;dsimp only at a;have m:st[vJ st ⟨v,key,0,0⟩]=x:=by
   split at a
   ·exact (Option.some.inj a).symm
   ·cases a
  have f:=vL b;rw [m] at f;refine dl2 mixed [.cell 6 64,.tmp 7] [uS x,.bool true] Tryz.func25 l25.2 ?_;generalize vJ st ⟨v,key,0,0⟩=p at *
  repeat' ((conv=>whnf);first|exact trivial|refine pC _ (h) ?_|(refine nv_ (.agg (uR x)) (by first|exact f) ?_)|refine rb1 ?_|(refine And.intro (by first|exact vu _|((simp;omega);done)|fail) ?_)|refine aS ?_|refine nT_ ?_)
theorem MI(st:List RE)(J:st.length<2^60)(E: ∀x∈st,kOk x)(v:ByteArray)(key:List Int)(C:key.length<2^60):
  DCalls Tryz.prog 26 [esT st,.str v,.slice 1 (key.map I)] (Jy (vh st v key)):=by
 have K:((st.map uS).length:Int)=st.length:=by rw [List.length_map]
 have w: ∀r,wpC Tryz.prog l26.1 (ft [esT st,.str v,.slice 1 (key.map I)]) (oB (du Tryz.prog) [.cell 6 64,.tmp 7] r)->DCalls Tryz.prog 26 [esT st,.str v,.slice 1 (key.map I)] (lF r):=fun r F=>
  oL (rs:=[.cell 6 64,.tmp 7]) mixed Tryz.func26 l26.2 rfl rfl rfl (r:=r) (nlZ rfl) F
 have pre: ∀r,(vh st v key=none->r=[zE,.bool false])->(∀ x,vh st v key=some x->r=[uS x,.bool true])->wpC Tryz.prog l26.1 (ft [esT st,.str v,.slice 1 (key.map I)]) (oB (du Tryz.prog) [.cell 6 64,.tmp 7] r):=fun r G B=>by
  skip
  refine uA (α:=Nat) (fun i=>{sl:=[(0,.t (esT st)),(1,.t (.str v)),(2,.t (.slice 1 (key.map I))),(6,.ptr 6 0),(8,.t (I i))],bx:=[(6,.d 4 [.str ⟨#[]⟩,.nil,I 0,I 0])]})
   (fun i=>i<=st.length/\vh st v key=vh (st.drop i) v key) (fun i=>st.length - i) 0 ⟨by omega,rfl⟩ ?_ ?_
  ·exact wkZ
  rintro i ⟨hi,f⟩;rcases Nat.lt_or_ge i st.length with h|h
  ·have g:(i:Int)<((st.map uS).length:Int):=by omega
   have j:=eqS st[i].var v;have p:=Ef st[i].key key (E _ (List.getElem_mem h)) C;have hd:vh (st.drop i) v key=if st[i].var=v/\st[i].key=key then some st[i] else vh (st.drop (i+1)) v key:=by
    rw [List.drop_eq_getElem_cons h];unfold vh;rw [List.find?_cons]
    by_cases a:st[i].var=v <;> by_cases b:st[i].key=key <;> simp [a,b]
   have n:=za (a:=st[i].key) (b:=key);have H:=vL h;have D:(uR st[i])[1]?.getD .nil= .slice 1 (st[i].key.map I):=rfl
   by_cases k:st[i].var=v
   ·rw [decide_eq_true k] at j
    by_cases m:st[i].key=key
    ·rw [f,hd,if_pos ⟨k,m⟩] at B;obtain rfl:=B _ rfl;have n:=n.2 m;rw [n] at p
     repeat' ((conv=>whnf);first|exact trivial|refine nr g ?_|(refine nv_ (.agg (uR st[i])) (by first|exact vL h) ?_)|refine nb_ _ j ?_|refine pC _ (p) ?_|refine aE1 ?_|refine rb1 ?_|(refine And.intro (by first|exact vu _) ?_)|refine aS ?_|refine nT_ ?_)
    ·rw [hd,if_neg (fun q=>m q.2)] at f;have u:wu st[i].key key≠0:=fun e=>m (n.1 e)
     generalize wu st[i].key key=c at *
     repeat' ((conv=>whnf);first|refine nr g ?_|(refine nv_ (.agg (uR st[i])) (by first|exact vL h) ?_)|refine nb_ _ j ?_|refine pC _ (p) ?_|refine nu u ?_|refine aS ?_|refine nT_ ?_)
     exact ⟨i+1,⟨h,f⟩,by omega,by exact wkZ⟩
   ·rw [decide_eq_false k] at j;rw [hd,if_neg (fun q=>k q.1)] at f
    repeat' ((conv=>whnf);first|refine nr g ?_|(refine nv_ (.agg (uR st[i])) (by first|exact vL h) ?_)|refine nb_ _ j ?_|refine aS ?_|refine nT_ ?_)
    exact ⟨i+1,⟨h,f⟩,by omega,by exact wkZ⟩
  ·have g: ¬(i:Int)<((st.map uS).length:Int):=by omega
   rw [List.drop_eq_nil_of_le h] at f;obtain rfl:=G f;exact rcZ
 cases f:vh st v key with
 |none=>exact w [zE,.bool false] (pre [zE,.bool false] (fun _=>rfl) (fun x z=>by rw [f] at z;cases z))
 |some x=>exact w [uS x,.bool true] (pre [uS x,.bool true] (fun h=>by rw [f] at h;cases h) (fun y A=>by rw [f] at A;cases A;rfl))
theorem Cb(e:RE): ∀(st:List RE) (d:Bool),(vq e d st).length<=st.length+1
 |[],d=>by unfold vq;split <;> simp
 |x::xs,true=>by
  have:=Cb e xs true
  have h:(vq e true xs).length<=xs.length:=by
   clear this
   induction xs with
   |nil=>simp [vq]
   |cons y ys c=>unfold vq;simp only [Bool.true_eq_false,and_false,if_false,List.nil_append,Bool.true_or,List.length_append,List.length_cons];split <;> simp <;> omega
  unfold vq;simp only [Bool.true_eq_false,and_false,if_false,List.nil_append,Bool.true_or,List.length_append,List.length_cons];split <;> simp <;> omega
 |x::xs,false=>by
  have b:=Cb e xs false;have h:(vq e true xs).length<=xs.length:=by
   clear b
   induction xs with
   |nil=>simp [vq]
   |cons y ys c=>unfold vq;simp only [Bool.true_eq_false,and_false,if_false,List.nil_append,Bool.true_or,List.length_append,List.length_cons];split <;> simp <;> omega
  unfold vq;rw [List.length_append,List.length_append,List.length_cons]
  by_cases a:vd x e= -1
  ·rw [if_neg (by simp [a]),if_pos (by omega),show (false||decide (vd x e≠ -1))=false by simp [a]];simp;omega
  ·rw [if_pos ⟨a,rfl⟩,show (false||decide (vd x e≠ -1))=true by simp [a]];split <;> simp <;> omega
theorem FE(o:List RE)(y:RE):(o++[y]).map uS=o.map uS++[uS y]:=by rw [List.map_append];rfl
theorem GU(e x:RE)(xs:List RE)(d:Bool):vq e d (x::xs)=(if vd x e≠ -1/\d=false then [e] else [])++((if vd x e≠0 then [x] else [])++vq e (d||decide (vd x e≠ -1)) xs):=rfl
theorem JQ{st:List RE}{v:ByteArray}{i:Nat}(h:i<st.length):ofE (st.take (i+1)) v=ofE (st.take i) v++if st[i].var=v then [st[i]] else []:=by
 unfold ofE;rw [List.take_succ_eq_append_getElem h,List.filter_append]
 by_cases a:st[i].var=v <;> simp [a]
theorem Qa(st:List RE)(v:ByteArray)(g:st.length<2^40):DCalls Tryz.prog 31 [esT st,.str v] (esT (ofE st v)):=by
 refine dl2 mixed [.tmp 4] [.slice 4 _] Tryz.func31 l31.2 ?_;have j:((st.map uS).length:Int)=st.length:=by rw [List.length_map]
 skip
 refine uA (α:=Nat) (fun i=>{sl:=[(0,.t (esT st)),(1,.t (.str v)),(5,.own 26 64 4 ((ofE (st.take i) v).map uS)),(6,.t (I i))],bx:=[]})
  (fun i=>i<=st.length) (fun i=>st.length - i) 0 (by simp) ?_ ?_
 ·exact wkZ
 rintro i hi;rcases Nat.lt_or_ge i st.length with h|h
 ·have a:(i:Int)<((st.map uS).length:Int):=by omega
  have b:=eqS st[i].var v;have d:=JQ (v:=v) h;have f:(ofE (st.take i) v).length<=i:=by
   have:=AX (st:=st.take i) (v:=v)
   unfold vo at this;rw [List.length_take] at this;omega
  by_cases c:st[i].var=v
  ·rw [decide_eq_true c] at b;rw [if_pos c] at d
   repeat' ((conv=>whnf);first|refine nr a ?_|(refine nv_ (.agg (uR st[i])) (by first|exact vL h) ?_)|refine nb_ _ b ?_|(refine And.intro (by first|exact vu _|((simp only [List.length_map,List.length_append,List.length_cons,List.length_nil];omega);done)|fail) ?_)|refine aS ?_|refine nT_ ?_)
   exact ⟨i+1,h,by omega,by repeat' (first|(exact rM (by rw [d];exact FE _ _))|exact wJ|refine And.intro ?_ ?_)⟩
  ·rw [decide_eq_false c] at b;rw [if_neg c,List.append_nil] at d
   repeat' ((conv=>whnf);first|refine nr a ?_|(refine nv_ (.agg (uR st[i])) (by first|exact vL h) ?_)|refine nb_ _ b ?_|refine aS ?_|refine nT_ ?_)
   exact ⟨i+1,h,by omega,by repeat' (first|(exact rM (by rw [d]))|exact wJ|refine And.intro ?_ ?_)⟩
 ·have a: ¬(i:Int)<((st.map uS).length:Int):=by omega
  obtain rfl:i=st.length:=by omega
  rw [List.take_length];exact rcZ
theorem NW(st:List RE)(G:st.length<2^30)(E: ∀x∈st,kOk x)(e:RE)(C:kOk e):DCalls Tryz.prog 62 [esT st,uS e] (esT (vq e false st)):=by
 refine dl2 mixed [.tmp 4] [.slice 4 _] Tryz.func62 l62.2 ?_;have H:((st.map uS).length:Int)=st.length:=by rw [List.length_map]
 have w:=Cb e st false;refine rnZ ?_;refine tT 0 (α:=Nat×Bool×Nat×List RE) (β:=Bool×Nat×List RE) (fun p=>{sl:=[(0,.t (esT st)),(3,.ptr 3 0),(5,.own p.2.2.1 64 4 (p.2.2.2.map uS)),(6,.t (.bool p.2.1)),(7,.t (I p.1))],bx:=[(3,.d 4 (uR e))]})
  (fun p=>p.1<=st.length/\(p.2.2.1=30\/p.2.2.1=39)/\p.2.2.2++vq e p.2.1 (st.drop p.1)=vq e false st) (fun p=>st.length - p.1)
  (fun q=>{sl:=[(3,.ptr 3 0),(5,.own q.2.1 64 4 (q.2.2.map uS)),(6,.t (.bool q.1))],bx:=[(3,.d 4 (uR e))]}) (fun q=>(q.2.1=30\/q.2.1=39)/\q.2.2++vq e q.1 []=vq e false st) (0,false,30,[]) ⟨by simp,Or.inl rfl,rfl⟩ ?_ ?_ ?_
 ·exact wkZ
 ·rintro ⟨i,d,r,a⟩ ⟨hi,g,f⟩;dsimp only at hi g f;have j:a.length<=st.length+1:=by
   have:=congrArg List.length f
   rw [List.length_append] at this;omega
  rcases Nat.lt_or_ge i st.length with h|h
  ·have v:(i:Int)<((st.map uS).length:Int):=by omega
   rw [List.drop_eq_getElem_cons h,GU] at f;have z:=Fm st[i] e (E _ (List.getElem_mem h)) C;have u:=vL h;obtain ⟨x,F⟩: ∃x,st[i]=x:=⟨_,rfl⟩
   rw [F] at f z u;have B:=uZ.r x e;generalize vd x e=c at *
   clear w;refine rnZ ?_;refine uE (β:=Unit) (fun _=>{sl:=[(0,.t (esT st)),(3,.ptr 3 0),(5,.own r 64 4 (a.map uS)),(6,.t (.bool d)),(7,.t (I i)),(8,.t (I c))],bx:=[(3,.d 4 (uR e))]}) (fun _=>True) ?_ ?_
   ·repeat' ((conv=>whnf);first|(refine nv_ (.agg (uR x)) (by first|exact u) ?_)|refine pC _ (z) ?_|(exact ⟨(),trivial,wkZ⟩)|(refine And.intro (by first|exact vu _) ?_)|refine aS ?_|refine nT_ ?_)
   rintro _ _
   skip
   refine uE (β:=Bool×Nat×List RE) (fun p=>{sl:=[(0,.t (esT st)),(3,.ptr 3 0),(5,.own p.2.1 64 4 (p.2.2.map uS)),(6,.t (.bool p.1)),(7,.t (I i)),(8,.t (I c))],bx:=[(3,.d 4 (uR e))]})
    (fun p=>(p.2.1=30\/p.2.1=39)/\p.2.2.length<=st.length+2/\p.2.2++((if c≠0 then [x] else [])++vq e p.1 (st.drop (i+1)))=vq e false st) ?_ ?_
   ·by_cases A:c>=0
    ·have hd:decide (c≠ -1)=true:=by simp;omega
     rw [hd,Bool.or_true] at f;cases d with
     |false=>
      rw [if_pos ⟨by omega,rfl⟩, <-List.append_assoc] at f;have b:(30=30\/30=39)/\(a++[e]).length<=st.length+2/\(a++[e])++((if c≠0 then [x] else [])++vq e true (st.drop (i+1)))=vq e false st:=⟨Or.inl rfl,by rw [List.length_append,List.length_cons,List.length_nil];omega,f⟩
      clear f;rcases g with rfl|rfl <;> repeat' ((conv=>whnf);first|refine nr A ?_|(exact ⟨(true,30,a++[e]),b,by (repeat' (first|(exact rM (FE a e))|exact wJ|refine And.intro ?_ ?_));done⟩)|refine aS ?_|fail)
     |true=>
      rw [if_neg (by simp),List.nil_append] at f;have b: ∀r,(r=30\/r=39)->(r=30\/r=39)/\a.length<=st.length+2/\a++((if c≠0 then [x] else [])++vq e true (st.drop (i+1)))=vq e false st:=fun r g=>⟨g,by omega,f⟩
      clear f;rcases g with rfl|rfl
      ·refine rnZ ?_;(exact ⟨(true,30,a),b 30 (Or.inl rfl),wkZ⟩)
      ·refine rnZ ?_;(exact ⟨(true,39,a),b 39 (Or.inr rfl),wkZ⟩)
    ·have hd:decide (c≠ -1)=false:=by simp;omega
     rw [hd,Bool.or_false,if_neg (fun D=>D.1 (by omega)),List.nil_append] at f;have b: ∀r,(r=30\/r=39)->(r=30\/r=39)/\a.length<=st.length+2/\a++((if c≠0 then [x] else [])++vq e d (st.drop (i+1)))=vq e false st:=fun r g=>⟨g,by omega,f⟩
     clear f;rcases g with rfl|rfl
     ·refine rnZ ?_;(exact ⟨(d,30,a),b 30 (Or.inl rfl),wkZ⟩)
     ·refine rnZ ?_;(exact ⟨(d,39,a),b 39 (Or.inr rfl),wkZ⟩)
   clear g f j;rintro ⟨d,r,a⟩ ⟨g,j,k⟩;dsimp only at g j k;have m:st.length - (i+1)<st.length - i:=by omega
   by_cases y:c=0
   ·rw [if_neg (by omega),List.nil_append] at k;rcases g with rfl|rfl
    ·have b:i+1<=st.length/\(30=30\/30=39)/\a++vq e d (st.drop (i+1))=vq e false st:=⟨h,Or.inl rfl,k⟩
     clear k;refine rnZ ?_;(exact ⟨(i+1,d,30,a),b,m,wkZ⟩)
    ·have b:i+1<=st.length/\(39=30\/39=39)/\a++vq e d (st.drop (i+1))=vq e false st:=⟨h,Or.inr rfl,k⟩
     clear k;refine rnZ ?_;(exact ⟨(i+1,d,39,a),b,m,wkZ⟩)
   ·rw [if_pos y, <-List.append_assoc] at k;have b:i+1<=st.length/\(39=30\/39=39)/\(a++[x])++vq e d (st.drop (i+1))=vq e false st:=⟨h,Or.inr rfl,k⟩
    clear k;rcases g with rfl|rfl <;> repeat' ((conv=>whnf);first|refine ny y ?_|(refine nv_ (.agg (uR x)) (by first|exact u) ?_)|(exact ⟨(i+1,d,39,a++[x]),b,m,by (repeat' (first|(exact rM (FE a x))|exact wJ|refine And.intro ?_ ?_));done⟩)|(refine And.intro (by first|exact vu _|((simp only [List.length_map,List.length_append,List.length_cons,List.length_nil];omega);done)|fail) ?_)|refine aS ?_|refine nT_ ?_)
  ·have v: ¬(i:Int)<((st.map uS).length:Int):=by omega
   rw [List.drop_eq_nil_of_le h] at f;refine rnZ ?_;(exact ⟨(d,r,a),⟨g,f⟩,wkZ⟩)
 ·rintro ⟨d,r,a⟩ ⟨g,f⟩;dsimp only at g f;have j:a.length<=st.length+1:=by
   have:=congrArg List.length f
   rw [List.length_append] at this;omega
  rw [<- f];cases d with
  |false=>
   have n:vq e false []=[e]:=rfl;rw [n,FE];rcases g with rfl|rfl <;> repeat' ((conv=>whnf);first|refine aS ?_|exact trivial)
  |true=>
   have n:vq e true []=[]:=rfl;rw [n,List.append_nil];rcases g with rfl|rfl <;> repeat' ((conv=>whnf);first|refine aS ?_|exact trivial)
end Go.ST
end
section
namespace Go.ST
open Go Go.DL Go.MM Go.Proofs
abbrev zeV:Value:=.agg #[.string ByteArray.empty,.slice none 0 0,.int .i64 0,.int .i64 0]
theorem Ai:(Tryz.prog.info? 64).map (fun i=>(i.zero,i.size,i.bytes))=some (some zeV,4,56):=by kernel_rfl
theorem wg:Tryz.prog.underlying 25=some (.slice 64):=by kernel_rfl
abbrev u9(k:Nat):Array Value:=Builtin.zeroCells zeV.cells k
theorem Fq(w:World)(ty:TypeId)(base:Option Addr)(n c:Nat)(d:List Value)(f:(Builtin.firstCells 4 n (.slice base n c)).run Tryz.prog w.drew= .ok d.toArray w.drew)(b off m cap:Nat)(a:List Value)(t:a.length=m * 4)
  (q: ∀j u,a[j]? =some u->w.cell? ⟨b,off+j,none⟩=some u) (p: ∀u∈a,u.oneCell'=true) (k:c<n+m) (v:(n+m) * 56<=140737488355328):
  (Builtin.append_ #[25,25] ty #[.slice base n c,.slice (some ⟨b,off,none⟩) m cap]).run Tryz.prog w=
   .ok (.slice (some ⟨w.heap.size,0,none⟩) (n+m) (grownCap w (n+m) c 64)) (w.drew.alloc (.cells ((d++a).toArray++u9 (grownCap w (n+m) c 64 - (n+m))) 64)):=by
 obtain ⟨i0,hi,h,g,i⟩:=info_parts Ai;have x:Src Tryz.prog i0.size 25 (.slice (some ⟨b,off,none⟩) m cap) m a w:=by
  rw [g];exact Src.ofSlice w wg ⟨b,off,none⟩ m cap a t (fun j u r=>by rw [Addr.add_lit];exact q j u r) p
 exact run_append_grow_src w 25 25 ty 64 i0 zeV wg hi h base n c d (by rw [g];exact f) _ m a x k (by omega) (by rw [i];exact growslice_fits k v)
theorem nil_eq(w:World)(a:Option Addr)(n c d b:Nat):(binOp .eql 25 (.slice a n c) (.slice none d b)).run Tryz.prog w= .ok (.bool a.isNone) w:=Lib.run_eql_slice_nil w _ _ a n c d b wg
theorem G2(b off n cap:Nat)(a:List Value)(w:World)(r:0<n)(m:a.length=n * 4)(t:n * 56<=140737488355328)(k: ∀j u,a[j]? =some u->w.cell? ⟨b,off+j,none⟩=some u)(i: ∀u∈a,u.oneCell'=true):
  Calls Tryz.prog 114 #[.slice (some ⟨b,off,none⟩) n cap] w fun e w'=> ∃G,n<=G/\G<=maxLen/\e= .returned (.slice (some ⟨w.heap.size+1,0,none⟩) n G)/\
   w'=((w.alloc (.cells #[] 64)).drew.alloc (.cells (a.toArray++u9 (G - n)) 64)):=by
 have p:=nil_eq;have q: ∀w,Sem.run Tryz.prog (underlying 25) w= .ok (TypeDesc.slice 64) w:=run_underlying wg;have mx:=mixed;have c:=fun ty=>Fq (w.alloc (.cells #[] 64)) ty (some ⟨w.heap.size,0,none⟩) 0 0 [] (run_firstCells_some (P:=Tryz.prog) (w.alloc (.cells #[] 64)).drew 4 0 ⟨w.heap.size,0,none⟩ 0 0 [] rfl (fun j v f=>by simp at f)) b off n cap a m (fun j u f=>Lib.cell?_alloc_some _ (k j u f)) i (by omega) (by omega)
 simp only [Nat.zero_add,List.nil_append] at c;have d:=grownCap_ge (w.alloc (.cells #[] 64)) n 0 64;have g:=grownCap_le_maxLen (w.alloc (.cells #[] 64)) n 0 64 (by unfold maxLen;omega);generalize grownCap (w.alloc (.cells #[] 64)) n 0 64=G at *
 have h:(w.alloc (.cells #[] 64)).heap.size=w.heap.size+1:=Array.size_push _;rw [h] at c
 go_enter Tryz.func114,Tryz.ntmps114
 go_wp2_with (at_builtin;refine Lib.wpList_append_run _ rfl _ _ _ _ rfl _ _ rfl rfl _ _ (c _) ?_)
 go_ret
 exact ⟨G,d,g,rfl,rfl⟩
theorem FQ(a:Option Addr)(cap:Nat)(w:World):Calls Tryz.prog 114 #[.slice a 0 cap] w fun e w'=> ∃b,e= .returned (.slice b 0 0)/\(w'=w\/w'=w.alloc (.cells #[] 64)):=by
 have i:=nil_eq;have k: ∀w,Sem.run Tryz.prog (underlying 25) w= .ok (TypeDesc.slice 64) w:=run_underlying wg;have mx:=mixed;obtain ⟨i0,hi,f,g,h⟩:=info_parts Ai;cases a with
 |none=>
  go_enter Tryz.func114,Tryz.ntmps114
  go_wp2
  go_ret
  exact ⟨_,rfl,Or.inl rfl⟩
 |some a=>
  have d:=fun ty=>run_append_room_src (P:=Tryz.prog) (w.alloc (.cells #[] 64)) 25 25 ty 64 i0 wg hi w.heap.size 0 0 0 (.slice (some a) 0 cap) 0 [] (Src.ofSlice (P:=Tryz.prog) (size:=i0.size) (w.alloc (.cells #[] 64)) wg a 0 cap [] (by simp) (fun j u c=>by simp at c) (by simp)) (by omega) (fun j c=>by simp at c) (fun j c=>by simp at c)
  go_enter Tryz.func114,Tryz.ntmps114
  go_wp2_with (at_builtin;refine Lib.wpList_append_run _ rfl _ _ _ _ rfl _ _ rfl rfl _ _ (d _) ?_)
  go_ret
  exact ⟨_,rfl,Or.inr rfl⟩
theorem Bz{P:Program}{b:Array Oper}{o:Oper}{a:Act}{w:World}{K:Act->World->Prop}{Q:Exit->Act->World->Prop}{E:Prop}
  (i:o.guard=none) (d x:Operand) (f sT:TypeId) (c:o.op=Op.call {callee:=Callee.builtin Builtin.copy,args:= #[d,x],argTypes:= #[f,sT]})
  (v u:Value) (hd:a.eval d=v) (m:a.eval x=u) {g:Value} {w':World} (j:(Builtin.copy_ #[f,sT] o.type #[v,u]).run P w= .ok g w') (h:K (a.put o.dst g) w'):
  if Region.wanted o (yielded b a.tmps)=true then Oper.wp P o a w K Q else E:=by
 have k:Region.wanted o (yielded b a.tmps)=true:=by simp [Region.wanted,i]
 rw [if_pos k];unfold Oper.wp;simp [execOp,c,resolve,invoke,builtin,hd,m,j,Result.andThen];exact h
theorem wZ(b:Nat)(vs:List Value)(o:Nat)(w:World)(h: ∀j,j<vs.length->(w.cell? ⟨b,o+j,none⟩).isSome=true)(k:Nat)(c:(w.cell? ⟨b,k,none⟩).isSome=true):((w.setCells b o vs).cell? ⟨b,k,none⟩).isSome=true:=by
 by_cases a:o<=k/\k<o+vs.length
 ·have:=World.cell?_setCells_in b vs o w h (k - o) (by omega)
  rw [show o+(k - o)=k by omega] at this;rw [this];rfl
 ·rw [World.cell?_setCells_out b vs o w ⟨b,k,none⟩ (fun _ _=>by show k<o\/o+vs.length<=k;omega)];exact c
theorem szE:(Tryz.prog.info? 64).map (·.size)=some 4:=by
 obtain ⟨i0,hi,b,a,c⟩:=info_parts Ai;rw [hi];simp [a]
theorem LF(w:World):(Go.sizeOf 64).run Tryz.prog w= .ok 4 w:=by
 obtain ⟨i0,hi,b,a,c⟩:=info_parts Ai;simp [Go.sizeOf,typeInfo,hi,a]
theorem IM(b off n c i vb a vc:Nat)(cs vs:List Value)(w:World)(hi:i<n)(bA:n+1<=c)(Oo:c<=9223372036854775807)(t:vb≠b)
  (B:cs.length=n * 4) (K:vs.length=4)
  (C: ∀j v,cs[j]? =some v->w.cell? ⟨b,off+j,none⟩=some v) (g: ∀j,j<(n+1) * 4->(w.cell? ⟨b,off+j,none⟩).isSome=true) (q: ∀j,j<(n+1) * 4->w.frozen? ⟨b,off+j,none⟩=false)
  (L: ∀j v,vs[j]? =some v->w.cell? ⟨vb,a+j,none⟩=some v) (y: ∀v∈cs,v.oneCell'=true) (z: ∀v∈vs,v.oneCell'=true)
  (S T:TypeId) (M N:Nat) (I:w.shape? vb=some (S,M)) (J:w.shape? b=some (T,N)) (G:N≠0) (E:w.frozen? ⟨vb,a,none⟩=false) (F:w.frozen? ⟨vb,M,none⟩=false):
  Calls Tryz.prog 176 #[.slice (some ⟨b,off,none⟩) n c,.int .i64 i,.slice (some ⟨vb,a,none⟩) 1 vc] w fun e w'=>
   e= .returned (.slice (some ⟨b,off,none⟩) (n+1) c)/\w'=(w.drew.setCells b (off+(i+1) * 4) (cs.drop (i * 4))).setCells b (off+i * 4) vs:=by
 have u24: ∀w,Sem.run Tryz.prog (underlying 25) w= .ok (TypeDesc.slice 64) w:=run_underlying wg;have mx:=mixed;have hz2: ¬((i:Int)=(n:Int)):=by omega
 have r:=szE;have H: ∀O u,(callFunc 192 #[.slice (some ⟨vb,a,none⟩) 1 vc,.slice (some ⟨b,off+(i+1) * 4,none⟩) O u]).run Tryz.prog w= .ok (.value (.bool false)) w:=fun O u=>by
  rw [run_callFunc_extern Tryz.func192 (by kernel_rfl) (by kernel_rfl) (by kernel_rfl) (e:=Extern.SlicesOverlaps.overlaps #[25,25] #[4]) (by kernel_rfl),
   Lib.run_overlaps_apart w 25 4 64 wg 4 LF ⟨vb,a,none⟩ ⟨b,off+(i+1) * 4,none⟩ 1 vc O u t S T M N I J G E F]
  rfl
 have D:(cs.drop (i * 4)).length=(n - i) * 4:=by rw [List.length_drop,B];omega
 have Q: ∀ty dc P,(Builtin.copy_ #[25,25] ty #[.slice (some ⟨b,off+(i+1) * 4,none⟩) (n - i) dc,.slice (some ⟨b,off+i * 4,none⟩) (n+1 - i) P]).run Tryz.prog w.drew= .ok (goInt (Nat.min (n+1 - i) (n - i))) (w.drew.setCells b (off+(i+1) * 4) (cs.drop (i * 4))):=fun ty dc P=>
  tj w.drew _ _ ty 64 4 b (off+(i+1) * 4) (n - i) dc ⟨b,off+i * 4,none⟩ (n+1 - i) P (cs.drop (i * 4)) wg r (by rw [D];simp only [Nat.min_def];split <;> omega)
   (fun j v f=>by rw [Addr.add_lit,Nat.add_assoc];exact C (i * 4+j) v (by rwa [List.getElem?_drop] at f))
   (fun j f=>by rw [Nat.add_assoc];exact g _ (by omega)) (fun j f=>by rw [Nat.add_assoc];exact q _ (by omega)) (fun v hv=>y v (List.mem_of_mem_drop hv))
 obtain ⟨m,d⟩: ∃m,m=w.drew.setCells b (off+(i+1) * 4) (cs.drop (i * 4)):=⟨_,rfl⟩
 have U: ∀k,k<(n+1) * 4->(m.cell? ⟨b,off+k,none⟩).isSome=true:=fun k hk=>by
  rw [d];exact wZ b _ _ _ (fun j f=>by rw [Nat.add_assoc];exact g _ (by omega)) _ (g k hk)
 have V: ∀(W:World),(∀ x,W.cell? x=m.cell? x)->(∀ x,W.frozen? x=m.frozen? x)-> ∀ty dc,(Builtin.copy_ #[25,25] ty #[.slice (some ⟨b,off+i * 4,none⟩) (n+1 - i) dc,.slice (some ⟨vb,a,none⟩) 1 vc]).run Tryz.prog W= .ok (goInt (Nat.min 1 (n+1 - i))) (W.setCells b (off+i * 4) vs):=fun W p A ty dc=>
  tj W _ _ ty 64 4 b (off+i * 4) (n+1 - i) dc ⟨vb,a,none⟩ 1 vc vs wg r (by rw [K];simp only [Nat.min_def];split <;> omega)
   (fun j v f=>by
    rw [Addr.add_lit,p,d,World.cell?_setCells_out b _ _ _ _ (fun h _=>absurd h t)];exact L j v f)
   (fun j f=>by rw [p,Nat.add_assoc];exact U _ (by omega)) (fun j f=>by rw [A,d,World.frozen?_setCells,Nat.add_assoc];exact q _ (by omega)) z
 rw [<- d] at Q;have hw1:IntKind.i64.wrap ((i:Int)+1)=(i:Int)+1:=by rw [IntKind.wrap_i64];omega
 have hw2:IntKind.i64.wrap ((n:Int)+1)=(n:Int)+1:=by rw [IntKind.wrap_i64];omega
 have X:(0:Int)<=(i:Int)+1:=by omega
 have hin:i<=n:=by omega
 have htn:((i:Int)+1).toNat=i+1:=by omega
 have Qz:((n:Int)+1).toNat=n+1:=by omega
 have Y: ¬(c=i+1):=by omega
 have Z:(i:Int)<=(n:Int)+1:=by omega
 have hb4: ¬(c=i):=by omega
 go_enter Tryz.func176,Tryz.ntmps176
 go_wp2_with (simp only [H])
 go_region_law_o (refine Bz rfl _ _ 25 25 rfl _ _ (by simp [Act.eval,Act.put]) (by simp [Act.eval,Act.put]) (Q _ _ _) ?_)
 go_wp2_with (at_builtin;refine wpList_copy_run' _ rfl _ _ 25 25 rfl _ _ rfl rfl (V _ (fun _=>rfl) (fun _=>rfl) _ _) ?_)
 go_ret
 first|exact ⟨rfl,rfl⟩|exact ⟨rfl,by rw [d]⟩
theorem JJ(b off n c vb a vc:Nat)(vs:List Value)(w:World)(p:n+1<=c)(z:c<=9223372036854775807)
  (f:vs.length=4) (i: ∀j,j<4->(w.cell? ⟨b,off+n * 4+j,none⟩).isSome=true) (h: ∀j,j<4->w.frozen? ⟨b,off+n * 4+j,none⟩=false)
  (k: ∀j v,vs[j]? =some v->w.cell? ⟨vb,a+j,none⟩=some v) (g: ∀v∈vs,v.oneCell'=true):
  Calls Tryz.prog 176 #[.slice (some ⟨b,off,none⟩) n c,.int .i64 n,.slice (some ⟨vb,a,none⟩) 1 vc] w fun e w'=>
   e= .returned (.slice (some ⟨b,off,none⟩) (n+1) c)/\w'=w.setCells b (off+n * 4) vs:=by
 have x: ∀w,Sem.run Tryz.prog (underlying 25) w= .ok (TypeDesc.slice 64) w:=run_underlying wg;have mx:=mixed;obtain ⟨i0,hi,r,d,t⟩:=info_parts Ai;have y:Src Tryz.prog i0.size 25 (.slice (some ⟨vb,a,none⟩) 1 vc) 1 vs w:=by
  rw [d];exact Src.ofSlice w wg ⟨vb,a,none⟩ 1 vc vs (by omega) (fun j u q=>by rw [Addr.add_lit];exact k j u q) g
 have m:=fun ty=>run_append_room_src w 25 25 ty 64 i0 wg hi b off n c _ 1 vs y p (by rw [f,d];exact i) (by rw [f,d];exact h)
 rw [d] at m
 go_enter Tryz.func176,Tryz.ntmps176
 go_wp2_with (at_builtin;refine Lib.wpList_append_run _ rfl _ _ _ _ rfl _ _ rfl rfl _ _ (m _) ?_)
 go_ret
 exact ⟨rfl,rfl⟩
theorem Ff(base:Option Addr)(n c vb b vc:Nat)(cs vs:List Value)(w:World)(k:c<n+1)(p:(n+1) * 56<=140737488355328)
  (m:vs.length=4) (d:(Builtin.firstCells 4 n (.slice base n c)).run Tryz.prog w.drew= .ok cs.toArray w.drew)
  (g: ∀j v,vs[j]? =some v->w.cell? ⟨vb,b+j,none⟩=some v) (f: ∀v∈vs,v.oneCell'=true):
  Calls Tryz.prog 176 #[.slice base n c,.int .i64 n,.slice (some ⟨vb,b,none⟩) 1 vc] w fun e w'=>
   e= .returned (.slice (some ⟨w.heap.size,0,none⟩) (n+1) (grownCap w (n+1) c 64))/\
   w'=w.drew.alloc (.cells ((cs++vs).toArray++u9 (grownCap w (n+1) c 64 - (n+1))) 64):=by
 have q: ∀w,Sem.run Tryz.prog (underlying 25) w= .ok (TypeDesc.slice 64) w:=run_underlying wg;have mx:=mixed;have h:=fun ty=>Fq w ty base n c cs d vb b 1 vc vs (by omega) g f k p
 go_enter Tryz.func176,Tryz.ntmps176
 cases base with
 |none=>
  go_wp2_with (at_builtin;refine Lib.wpList_append_run _ rfl _ _ _ _ rfl _ _ rfl rfl _ _ (h _) ?_)
  all_goals (go_ret;exact ⟨rfl,rfl⟩)
 |some a=>
  obtain ⟨r,t,i⟩:=a
  go_wp2_with (at_builtin;refine Lib.wpList_append_run _ rfl _ _ _ _ rfl _ _ rfl rfl _ _ (h _) ?_)
  all_goals (go_ret;exact ⟨rfl,rfl⟩)
theorem JI(b off n c i vb d vc:Nat)(cs vs:List Value)(w:World)(hi:i<n)(hnc:n<=c)(bA:c<n+1)(iV:(n+1) * 56<=140737488355328)
  (Y:cs.length=n * 4) (hvl:vs.length=4)
  (y: ∀j v,cs[j]? =some v->w.cell? ⟨b,off+j,none⟩=some v)
  (D: ∀j v,vs[j]? =some v->w.cell? ⟨vb,d+j,none⟩=some v) (K: ∀v∈cs,v.oneCell'=true) (L: ∀v∈vs,v.oneCell'=true):
  Calls Tryz.prog 176 #[.slice (some ⟨b,off,none⟩) n c,.int .i64 i,.slice (some ⟨vb,d,none⟩) 1 vc] w fun e w'=>
   e= .returned (.slice (some ⟨w.heap.size,0,none⟩) (n+1) (grownCap w (n+1) c 64))/\
   w'=(((w.alloc (.cells ((cs.take (i * 4)).toArray++u9 (n+1 - i)++u9 (grownCap w (n+1) c 64 - (n+1))) 64)).drew.setCells w.heap.size (i * 4) vs).drew).setCells w.heap.size ((i+1) * 4) (cs.drop (i * 4)):=by
 have u24: ∀w,Sem.run Tryz.prog (underlying 25) w= .ok (TypeDesc.slice 64) w:=run_underlying wg;have mx:=mixed;obtain ⟨i0,hi0,hz0,hzs,E⟩:=info_parts Ai;have hz2: ¬((i:Int)=(n:Int)):=by omega
 have hz3:(c:Int)<(n:Int)+1:=by omega
 have C:=szE;have X:b<w.heap.size:=block_lt_of_cell (y 0 _ (ggZ (by omega)));have hvw:vb<w.heap.size:=block_lt_of_cell (D 0 _ (ggZ (by omega)));have B:(n:Int)+1 - (i:Int)=((n+1 - i:Nat):Int):=by omega
 have z:i+(n+1 - i)=n+1:=by omega
 have r:(Builtin.firstCells i0.size i (.slice (some ⟨b,off,none⟩) i c)).run Tryz.prog w.drew= .ok (cs.take (i * 4)).toArray w.drew:=by
  rw [hzs];exact run_firstCells_some w.drew 4 i ⟨b,off,none⟩ i c (cs.take (i * 4)) (by rw [List.length_take];omega) (fun j v g=>by
   rw [Addr.add_lit];rw [List.getElem?_take] at g;split at g
   ·exact y j v g
   ·cases g)
 have H:Tryz.prog.underlying 3=some (.int .i64):=by kernel_rfl
 have q: ∀ty,(Builtin.append_ #[25,3] ty #[.slice (some ⟨b,off,none⟩) i c,.int .i64 ((n:Int)+1 - (i:Int))]).run Tryz.prog w=
   .ok (.slice (some ⟨w.heap.size,0,none⟩) (n+1) (grownCap w (n+1) c 64)) (w.drew.alloc (.cells ((cs.take (i * 4)).toArray++u9 (n+1 - i)++u9 (grownCap w (n+1) c 64 - (n+1))) 64)):=fun ty=>by
  have h:=Lib.run_append_grow_zeros w 25 3 ty 64 i0 _ .i64 .i64 wg H hi0 hz0 (some ⟨b,off,none⟩) i c (cs.take (i * 4)) r (n+1 - i) (by omega) (by omega) (by omega) (by omega) (by rw [E];omega) (by rw [E,z];exact growslice_fits bA iV);rw [z] at h;rw [B];exact h
 obtain ⟨G,I⟩: ∃G,G=grownCap w (n+1) c 64:=⟨_,rfl⟩
 obtain ⟨a,J⟩: ∃a:Array Value,a=(cs.take (i * 4)).toArray++u9 (n+1 - i)++u9 (G - (n+1)):=⟨_,rfl⟩
 rw [<- I] at q ⊢;rw [<- J] at q ⊢;have F: ∀k,(u9 k).size=k * 4:=fun k=>by simp [u9,Builtin.zeroCells,Value.cells]
 have U:(n+1) * 4<=a.size:=by
  rw [J,Array.size_append,Array.size_append,F,F,List.size_toArray,List.length_take];omega
 obtain ⟨p,f⟩: ∃p,p=w.drew.alloc (.cells a 64):=⟨_,rfl⟩
 rw [<- f] at q;have Q: ∀j,j<(n+1) * 4->(p.cell? ⟨w.heap.size,j,none⟩).isSome=true:=fun j g=>by
  rw [f,World.cell?_alloc_at (w:=w.drew) a _ w.heap.size j rfl,Array.getElem?_eq_getElem (by omega)];rfl
 have A: ∀j,p.frozen? ⟨w.heap.size,j,none⟩=false:=fun j=>by rw [f];exact World.frozen?_alloc_at (w:=w.drew) a _ w.heap.size j rfl
 have S: ∀j v,w.cell? ⟨b,j,none⟩=some v->p.cell? ⟨b,j,none⟩=some v:=fun j v h=>by rw [f,World.cell?_alloc_past (w:=w.drew) _ b j X];exact h
 have T: ∀j v,w.cell? ⟨vb,j,none⟩=some v->p.cell? ⟨vb,j,none⟩=some v:=fun j v h=>by rw [f,World.cell?_alloc_past (w:=w.drew) _ vb j hvw];exact h
 have Ot: ∀(W:World),(∀ x,W.cell? x=p.cell? x)->(∀ x,W.frozen? x=p.frozen? x)-> ∀ty dc,(Builtin.copy_ #[25,25] ty #[.slice (some ⟨w.heap.size,i * 4,none⟩) (n+1 - i) dc,.slice (some ⟨vb,d,none⟩) 1 vc]).run Tryz.prog W= .ok (goInt (Nat.min 1 (n+1 - i))) (W.setCells w.heap.size (i * 4) vs):=fun W m u ty dc=>
  tj W _ _ ty 64 4 w.heap.size (i * 4) (n+1 - i) dc ⟨vb,d,none⟩ 1 vc vs wg C (by rw [hvl];simp only [Nat.min_def];split <;> omega)
   (fun j v g=>by rw [Addr.add_lit,m];exact T _ v (D j v g))
   (fun j g=>by rw [m];exact Q _ (by omega)) (fun j g=>by rw [u];exact A _) L
 have hGn:n+1<=G:=by rw [I];exact grownCap_ge w _ _ _
 have Qp:G<=9223372036854775807:=by
  have:=grownCap_le_maxLen w (n+1) c 64 (by unfold maxLen;omega)
  rw [<- I] at this;unfold maxLen at this;omega
 have hGi: ¬(G=i):=by omega
 have Qq: ¬(G=i+1):=by omega
 have hci: ¬(c=i):=by omega
 have V:b≠w.heap.size:=by omega
 have Z:(cs.drop (i * 4)).length=(n - i) * 4:=by rw [List.length_drop,Y];omega
 have Md: ∀(W:World),(∀ x,W.cell? x=(p.setCells w.heap.size (i * 4) vs).cell? x)->(∀ x,W.frozen? x=(p.setCells w.heap.size (i * 4) vs).frozen? x)-> ∀ty dc sc,(Builtin.copy_ #[25,25] ty #[.slice (some ⟨w.heap.size,(i+1) * 4,none⟩) (n - i) dc,.slice (some ⟨b,off+i * 4,none⟩) (n - i) sc]).run Tryz.prog W= .ok (goInt (Nat.min (n - i) (n - i))) (W.setCells w.heap.size ((i+1) * 4) (cs.drop (i * 4))):=fun W m u ty dc sc=>
  tj W _ _ ty 64 4 w.heap.size ((i+1) * 4) (n - i) dc ⟨b,off+i * 4,none⟩ (n - i) sc (cs.drop (i * 4)) wg C (by rw [Z];simp only [Nat.min_def];split <;> omega)
   (fun j v g=>by
    rw [Addr.add_lit,m,World.cell?_setCells_out _ _ _ _ _ (fun h _=>absurd h V),Nat.add_assoc];exact S _ v (y (i * 4+j) v (by rwa [List.getElem?_drop] at g)))
   (fun j g=>by rw [m];exact wZ _ _ _ _ (fun t ht=>Q _ (by omega)) _ (Q _ (by omega)))
   (fun j g=>by rw [u,World.frozen?_setCells];exact A _) (fun v hv=>K v (List.mem_of_mem_drop hv))
 subst f;have M: ∀x,((w.alloc (.cells a 64)).drew).cell? x=(w.drew.alloc (.cells a 64)).cell? x:=fun x=>rfl
 have N: ∀x,((w.alloc (.cells a 64)).drew).frozen? x=(w.drew.alloc (.cells a 64)).frozen? x:=fun x=>rfl
 have O: ∀x,(((w.alloc (.cells a 64)).drew.setCells w.heap.size (i * 4) vs).drew).cell? x=((w.drew.alloc (.cells a 64)).setCells w.heap.size (i * 4) vs).cell? x:=fun x=>rfl
 have P: ∀x,(((w.alloc (.cells a 64)).drew.setCells w.heap.size (i * 4) vs).drew).frozen? x=((w.drew.alloc (.cells a 64)).setCells w.heap.size (i * 4) vs).frozen? x:=fun x=>rfl
 have hw1:IntKind.i64.wrap ((i:Int)+1)=(i:Int)+1:=by rw [IntKind.wrap_i64];omega
 have hw2:IntKind.i64.wrap ((n:Int)+1)=(n:Int)+1:=by rw [IntKind.wrap_i64];omega
 have hw3:IntKind.i64.wrap ((n:Int)+1 - (i:Int))=(n:Int)+1 - (i:Int):=by rw [IntKind.wrap_i64];omega
 have hb1:(0:Int)<=(i:Int)+1:=by omega
 have hin:i<=n:=by omega
 have htn:((i:Int)+1).toNat=i+1:=by omega
 have hb3:(i:Int)<=(n:Int):=by omega
 clear B z r J I U
 go_enter Tryz.func176,Tryz.ntmps176
 go_wp2_with (first
  |(at_builtin;refine Lib.wpList_append_run _ rfl _ _ _ _ rfl _ _ rfl rfl _ _ (q _) ?_)
  |(at_builtin;refine wpList_copy_run' _ rfl _ _ 25 25 rfl _ _ rfl rfl (Ot _ M N _ _) ?_)
  |(at_builtin;refine wpList_copy_run' _ rfl _ _ 25 25 rfl _ _ rfl rfl (Md _ (fun _=>rfl) (fun _=>rfl) _ _ _) ?_))
 go_region_law_o (refine Bz rfl _ _ 25 25 rfl (.slice (some ⟨w.heap.size,(i+1) * 4,none⟩) (n - i) (G - (i+1))) (.slice (some ⟨b,off+i * 4,none⟩) (n - i) (c - i)) (by simp [Act.eval,Act.put]) (by simp [Act.eval,Act.put]) (Md _ O P 3 (G - (i+1)) (c - i)) ?_)
 go_wp2
 go_ret
 exact ⟨rfl,rfl⟩
theorem wh{B:Nat}{a:World}(b:Nat)(c:B<=b): ∀(vs:List Value) (o:Nat) (w:World),DL.Below B a w->DL.Below B a (w.setCells b o vs)
 |[],_,_,h=>h
 |v::r,o,w,h=>wh b c r (o+1) _ ⟨h.toBelow.setCell (p:=⟨b,o,none⟩) c v,h.dr⟩
theorem Cm{w:World}{r i n:Nat}{cs vs:List Value}(k:cs.length=n * 4)(c:vs.length=4)(hi:i<=n)(f: ∀(j:Nat) (v:Value),j<i * 4->cs[j]? =some v->w.cell? ⟨r,j,none⟩=some v)(g: ∀(j:Nat) (v:Value),vs[j]? =some v->w.cell? ⟨r,i * 4+j,none⟩=some v)
  (h: ∀(j:Nat) (v:Value),(cs.drop (i * 4))[j]? =some v->w.cell? ⟨r,(i+1) * 4+j,none⟩=some v): ∀(j:Nat) (u:Value),(cs.take (i * 4)++(vs++cs.drop (i * 4)))[j]? =some u->w.cell? ⟨r,j,none⟩=some u:=by
 intro j u a;have b:(cs.take (i * 4)).length=i * 4:=by rw [List.length_take];omega
 by_cases d:j<i * 4
 ·rw [List.getElem?_append_left (by omega),List.getElem?_take_of_lt d] at a;exact f j u d a
 ·rw [List.getElem?_append_right (by omega),b] at a
  by_cases m:j - i * 4<4
  ·rw [List.getElem?_append_left (by omega)] at a
   have:=g _ u a
   rwa [show i * 4+(j - i * 4)=j by omega] at this
  ·rw [List.getElem?_append_right (by omega),c] at a
   have:=h _ u a
   rwa [show (i+1) * 4+(j - i * 4 - 4)=j by omega] at this
theorem K9{W:World}{base g n G i vb:Nat}{z:Array Value}{cs vs:List Value}(S:W.heap[g]? =some (.cells z 64 (0,0)))(eb:z.size=G * 4)(H: ∀(j:Nat) (v:Value),cs[j]? =some v->z[j]? =some v)(p:cs.length=n * 4)
  (a:W.heap[vb]? =some (.cells vs.toArray 64 (0,0))) (q:vs.length=4) (Z:vb≠g) (hn:0<n) (Y:n<=G) (hG:G<=9223372036854775807) (hi:i<=n) (iV:(n+1) * 56<=140737488355328)
  (M: ∀v∈cs,v.oneCell'=true) (A: ∀v∈vs,v.oneCell'=true) (x:base<=g) (t:base<=W.heap.size):
  Calls Tryz.prog 176 #[.slice (some ⟨g,0,none⟩) n G,.int .i64 i,.slice (some ⟨vb,0,none⟩) 1 1] W fun e w'=> ∃r c,e= .returned (.slice (some ⟨r,0,none⟩) (n+1) c)/\n+1<=c/\base<=r/\r<w'.heap.size/\DL.Below base W w'/\
   ∀(j:Nat) (u:Value),(cs.take (i * 4)++(vs++cs.drop (i * 4)))[j]? =some u->w'.cell? ⟨r,j,none⟩=some u:=by
 have Q: ∀j,W.cell? ⟨g,j,none⟩=z[j]? :=fun j=>cell_of_row _ _ _ _ _ _ S
 have cv: ∀j,W.cell? ⟨vb,j,none⟩=vs[j]? :=fun j=>by rw [cell_of_row _ _ _ _ _ _ a];simp
 have fg: ∀j,W.frozen? ⟨g,j,none⟩=false:=fun j=>by unfold World.frozen?;simp [S]
 have fv: ∀j,W.frozen? ⟨vb,j,none⟩=false:=fun j=>by unfold World.frozen?;simp [a]
 have N:g<W.heap.size:=(Array.getElem?_eq_some_iff.1 S).1;have U: ∀j v,cs[j]? =some v->W.cell? ⟨g,0+j,none⟩=some v:=fun j v h=>by rw [Nat.zero_add,Q];exact H j v h
 have P: ∀j v,vs[j]? =some v->W.cell? ⟨vb,0+j,none⟩=some v:=fun j v h=>by rw [Nat.zero_add,cv];exact h
 have sg:W.shape? g=some (64,G * 4):=by unfold World.shape?;simp [S,eb]
 have sv:W.shape? vb=some (64,4):=by unfold World.shape?;simp [a,q]
 have f: ∀j,j<G * 4->(W.cell? ⟨g,j,none⟩).isSome=true:=fun j d=>by rw [Q,Array.getElem?_eq_getElem (by omega)];rfl
 have y: ∀(w:World) b o (vs:List Value),(w.setCells b o vs).heap.size=w.heap.size:=by
  intro w b o vs
  induction vs generalizing w o with
  |nil=>rfl
  |cons v r ih=>rw [World.setCells,ih];simp [World.setCell]
 rcases Nat.lt_or_ge i n with J|J
 ·rcases Nat.lt_or_ge n G with K|K
  ·refine (IM g 0 n G i vb 0 1 cs vs W J K hG Z p q U (fun j d=>by rw [Nat.zero_add];exact f j (by omega)) (fun j _=>by rw [Nat.zero_add];exact fg j) P M A _ _ _ _ sv sg (by omega) (fv 0) (fv 4)).mono ?_;rintro e w' ⟨rfl,rfl⟩;simp only [Nat.zero_add];refine ⟨g,G,rfl,K,x,by rw [y,y];exact N,wh g x _ _ _ (wh g x _ _ _ (DL.Below.refl _ _).drew),?_⟩;have X:(cs.drop (i * 4)).length=(n - i) * 4:=by rw [List.length_drop,p];omega
   have s1: ∀k,k<G * 4->((W.drew.setCells g ((i+1) * 4) (cs.drop (i * 4))).cell? ⟨g,k,none⟩).isSome=true:=fun k D=>wZ g (cs.drop (i * 4)) ((i+1) * 4) W.drew (fun j d=>f ((i+1) * 4+j) (by omega)) k (f k D)
   refine Cm p q hi (fun j v d a=>?_) (fun j v a=>?_) (fun j v a=>?_)
   ·rw [World.cell?_setCells_out _ _ _ _ _ (fun _ _=>by left;show j<i * 4;omega),World.cell?_setCells_out _ _ _ _ _ (fun _ _=>by left;show j<(i+1) * 4;omega)];show W.cell? _=_
    rw [Q];exact H j v a
   ·have d:=(gsZ a).1
    have:=World.cell?_setCells_in g vs (i * 4) _ (fun k D=>s1 _ (by omega)) j d
    rw [this, <-a,ggZ d]
   ·have d:=(gsZ a).1;rw [World.cell?_setCells_out _ _ _ _ _ (fun _ _=>by right;show i * 4+vs.length<=(i+1) * 4+j;omega)]
    have:=World.cell?_setCells_in g (cs.drop (i * 4)) ((i+1) * 4) W.drew (fun k D=>f _ (by omega)) j d
    rw [this, <-a,ggZ d]
  ·refine (JI g 0 n G i vb 0 1 cs vs W J Y (by omega) iV p q U P M A).mono ?_;rintro e w' ⟨rfl,rfl⟩;have I:=grownCap_ge W (n+1) G 64;generalize grownCap W (n+1) G 64=C at *
   have L: ∀k,(u9 k).size=k * 4:=fun k=>by simp [u9,Builtin.zeroCells,Value.cells]
   obtain ⟨m,T⟩: ∃m:Array Value,m=(cs.take (i * 4)).toArray++u9 (n+1 - i)++u9 (C - (n+1)):=⟨_,rfl⟩
   rw [<- T];have hRl:(n+1) * 4<=m.size:=by
    rw [T,Array.size_append,Array.size_append,L,L,List.size_toArray,List.length_take];omega
   have V: ∀j v,j<i * 4->cs[j]? =some v->m[j]? =some v:=fun j v d a=>by
    rw [T,Array.getElem?_append_left (by rw [Array.size_append,L,List.size_toArray,List.length_take];omega),Array.getElem?_append_left (by rw [List.size_toArray,List.length_take];omega),List.getElem?_toArray,List.getElem?_take_of_lt d];exact a
   have hsz:(W.alloc (.cells m 64)).heap.size=W.heap.size+1:=Array.size_push _;have hN: ∀j,(W.alloc (.cells m 64)).drew.cell? ⟨W.heap.size,j,none⟩=m[j]? :=fun j=>World.cell?_alloc_at m _ W.heap.size j rfl
   have F: ∀j,j<(n+1) * 4->((W.alloc (.cells m 64)).drew.cell? ⟨W.heap.size,j,none⟩).isSome=true:=fun j d=>by rw [hN,Array.getElem?_eq_getElem (by omega)];rfl
   refine ⟨W.heap.size,C,rfl,I,t,?_,wh _ t _ _ _ (wh _ t _ _ _ (((DL.Below.refl _ _).alloc t _).drew)).drew,?_⟩
   ·rw [y];show _<(World.setCells _ _ _ _).heap.size
    rw [y];show _<(W.alloc _).heap.size
    rw [hsz];omega
   have X:(cs.drop (i * 4)).length=(n - i) * 4:=by rw [List.length_drop,p];omega
   obtain ⟨E,B⟩: ∃E,E=(W.alloc (.cells m 64)).drew.setCells W.heap.size (i * 4) vs:=⟨_,rfl⟩
   rw [<- B];have s1: ∀k,k<(n+1) * 4->(E.drew.cell? ⟨W.heap.size,k,none⟩).isSome=true:=fun k D=>by
    show (E.cell? _).isSome=true
    rw [B];exact wZ W.heap.size vs (i * 4) _ (fun j d=>F (i * 4+j) (by omega)) k (F k D)
   refine Cm p q hi (fun j v d a=>?_) (fun j v a=>?_) (fun j v a=>?_)
   ·rw [World.cell?_setCells_out _ _ _ _ _ (fun _ _=>by left;show j<(i+1) * 4;omega)];show E.cell? _=_
    rw [B,World.cell?_setCells_out _ _ _ _ _ (fun _ _=>by left;show j<i * 4;omega),hN];exact V j v d a
   ·have d:=(gsZ a).1;rw [World.cell?_setCells_out _ _ _ _ _ (fun _ _=>by left;show i * 4+j<(i+1) * 4;omega)];show E.cell? _=_
    rw [B]
    have:=World.cell?_setCells_in W.heap.size vs (i * 4) _ (fun k D=>F _ (by omega)) j d
    rw [this, <-a,ggZ d]
   ·have d:=(gsZ a).1
    have:=World.cell?_setCells_in W.heap.size (cs.drop (i * 4)) ((i+1) * 4) E.drew (fun k D=>s1 _ (by omega)) j d
    rw [this, <-a,ggZ d]
 ·obtain rfl:i=n:=by omega
  have ht:cs.take (i * 4)=cs:=List.take_of_length_le (by omega);have hd:cs.drop (i * 4)=[]:=List.drop_eq_nil_of_le (by omega);rcases Nat.lt_or_ge i G with K|K
  ·refine (JJ g 0 i G vb 0 1 vs W K hG q (fun j d=>by rw [Nat.zero_add];exact f _ (by omega)) (fun j _=>fg _) P A).mono ?_;rintro e w' ⟨rfl,rfl⟩;simp only [Nat.zero_add];refine ⟨g,G,rfl,K,x,by rw [y];exact N,wh g x _ _ _ (DL.Below.refl _ _),?_⟩;refine Cm p q hi (fun j v d a=>?_) (fun j v a=>?_) (fun j v a=>?_)
   ·rw [World.cell?_setCells_out _ _ _ _ _ (fun _ _=>by left;show j<i * 4;omega),Q];exact H j v a
   ·have d:=(gsZ a).1
    have:=World.cell?_setCells_in g vs (i * 4) W (fun k D=>f _ (by omega)) j d
    rw [this, <-a,ggZ d]
   ·rw [hd] at a;simp at a
  ·have O:(Builtin.firstCells 4 i (.slice (some ⟨g,0,none⟩) i G)).run Tryz.prog W.drew= .ok cs.toArray W.drew:=
    run_firstCells_some W.drew 4 i ⟨g,0,none⟩ i G cs p (fun j v d=>by rw [Addr.add_lit];exact U j v d)
   refine (Ff (some ⟨g,0,none⟩) i G vb 0 1 cs vs W (by omega) iV q O P A).mono ?_;rintro e w' ⟨rfl,rfl⟩;have I:=grownCap_ge W (i+1) G 64;generalize grownCap W (i+1) G 64=C at *
   refine ⟨W.heap.size,C,rfl,I,t,?_,(DL.Below.refl _ _).drew.alloc t _,?_⟩
   ·show _<(W.drew.alloc _).heap.size
    have:(W.drew.alloc (.cells ((cs++vs).toArray++u9 (C - (i+1))) 64)).heap.size=W.heap.size+1:=Array.size_push _
    rw [this];omega
   ·intro j u hu;rw [ht,hd,List.append_nil] at hu;rw [World.cell?_alloc_at (w:=W.drew) _ _ W.heap.size j rfl,Array.getElem?_append_left (by rw [List.size_toArray];exact (gsZ hu).1),List.getElem?_toArray];exact hu
theorem Lp(v0:Value)(g i m t:Value)(Z: ∀x∈[g,i,m,t],x.oneCell'=true)(b off n cap:Nat)(a:List Value)(w:World)(p:Nat)(Q:0<n)(hp:p<=n)(J:a.length=n * 4)(iV:(n+1) * 56<=140737488355328)
  (L:v0= .slice (some ⟨b,off,none⟩) n cap) (O: ∀j u,a[j]? =some u->w.cell? ⟨b,off+j,none⟩=some u) (P: ∀u∈a,u.oneCell'=true)
  (yd:Calls Tryz.prog 76 #[v0,.agg #[g,i,m,t],.func (.func 29) #[] #[]] (w.alloc (.cells #[g,i,m,t] 64)) fun e w'=>e= .returned (.tuple #[.int .i64 p,.bool false])/\DL.Below (w.heap.size+1) (w.alloc (.cells #[g,i,m,t] 64)) w'):
  Calls Tryz.prog 139 #[v0,.agg #[g,i,m,t]] w fun e w'=> ∃r c,e= .returned (.slice (some ⟨r,0,none⟩) (n+1) c)/\n+1<=c/\w.heap.size<=r/\r<w'.heap.size/\DL.Below w.heap.size w w'/\
   ∀(j:Nat) (u:Value),(a.take (p * 4)++([g,i,m,t]++a.drop (p * 4)))[j]? =some u->w'.cell? ⟨r,j,none⟩=some u:=by
 have mx:=mixed;have q22:=nil_eq;have u22: ∀w,Sem.run Tryz.prog (underlying 25) w= .ok (TypeDesc.slice 64) w:=run_underlying wg;subst L;have Y:b<w.heap.size:=block_lt_of_cell (O 0 _ (ggZ (by omega)));have zk: ∀d,DL.Below (w.heap.size+1) (w.alloc (.cells #[g,i,m,t] 64)) d-> ∀j u,a[j]? =some u->d.cell? ⟨b,off+j,none⟩=some u:=fun d h j u K=>by
  rw [h.toBelow.cell (p:=⟨b,off+j,none⟩) (by show b<w.heap.size+1;omega)];exact Lib.cell?_alloc_some _ (O j u K)
 have T: ∀d f G,DL.Below (w.heap.size+1) (w.alloc (.cells #[g,i,m,t] 64)) d->f=(d.alloc (.cells #[] 64)).drew.alloc (.cells (a.toArray++u9 (G - n)) 64)->
   f.cell? ⟨w.heap.size,0,none⟩=some g/\f.cell? ⟨w.heap.size,1,none⟩=some i/\f.cell? ⟨w.heap.size,2,none⟩=some m/\f.cell? ⟨w.heap.size,3,none⟩=some t/\DL.Below w.heap.size w f/\w.heap.size<d.heap.size/\f.heap.size=d.heap.size+2/\f.heap[d.heap.size+1]? =some (.cells (a.toArray++u9 (G - n)) 64 (0,0)):=by
  intro d f G E D;have hs0:(w.alloc (.cells #[g,i,m,t] 64)).heap.size=w.heap.size+1:=Array.size_push _;have F:w.heap.size<d.heap.size:=by have:=E.toBelow.size;omega
  have B:(d.alloc (.cells #[] 64)).heap.size=d.heap.size+1:=Array.size_push _;have H:f.heap.size=d.heap.size+2:=by
   rw [D]
   have:((d.alloc (.cells #[] 64)).drew.alloc (.cells (a.toArray++u9 (G - n)) 64)).heap.size=(d.alloc (.cells #[] 64)).heap.size+1:=Array.size_push _
   rw [this,B]
  have I: ∀(j:Nat) (u:Value), #[g,i,m,t][j]? =some u->f.cell? ⟨w.heap.size,j,none⟩=some u:=fun j u K=>by
   rw [D];refine Lib.cell?_alloc_some _ ?_;show (d.alloc (.cells #[] 64)).cell? _=_
   refine Lib.cell?_alloc_some _ ?_;rw [E.toBelow.cell (p:=⟨w.heap.size,j,none⟩) (by show w.heap.size<w.heap.size+1;omega),World.cell?_alloc_at _ _ w.heap.size j rfl];exact K
  refine ⟨I 0 g rfl,I 1 i rfl,I 2 m rfl,I 3 t rfl,?_,F,H,?_⟩
  ·rw [D];exact (((((DL.Below.refl _ w).alloc (Nat.le_refl _) _).trans (E.mono (Nat.le_succ _))).alloc (by omega) _).drew).alloc (by show w.heap.size<=(d.alloc _).heap.size;rw [B];omega) _
  ·rw [D];show (((d.alloc (.cells #[] 64)).heap.push (.cells (a.toArray++u9 (G - n)) 64)))[d.heap.size+1]? =_
   rw [<- B];exact Array.getElem?_push_size
 have N: ∀k,(u9 k).size=k * 4:=fun k=>by simp [u9,Builtin.zeroCells,Value.cells]
 have V: ∀d f G,n<=G->G<=maxLen->DL.Below (w.heap.size+1) (w.alloc (.cells #[g,i,m,t] 64)) d->f=(d.alloc (.cells #[] 64)).drew.alloc (.cells (a.toArray++u9 (G - n)) 64)->
   Calls Tryz.prog 176 #[.slice (some ⟨d.heap.size+1,0,none⟩) n G,.int .i64 p,.slice (some ⟨f.heap.size,0,none⟩) 1 1] (f.alloc (.cells #[g,i,m,t] 64)) fun e w'=> ∃r c,e= .returned (.slice (some ⟨r,0,none⟩) (n+1) c)/\n+1<=c/\w.heap.size<=r/\r<w'.heap.size/\DL.Below w.heap.size w w'/\
    ∀(j:Nat) (u:Value),(a.take (p * 4)++([g,i,m,t]++a.drop (p * 4)))[j]? =some u->w'.cell? ⟨r,j,none⟩=some u:=by
  intro d f G y z E D;obtain ⟨-, -, -, -,X,F,H,mW⟩:=T d f G E D;have W:(f.alloc (.cells #[g,i,m,t] 64)).heap[d.heap.size+1]? =some (.cells (a.toArray++u9 (G - n)) 64 (0,0)):=by
   rw [DL.Below.heap_alloc _ _ _ (by omega)];exact mW
  have M:(f.alloc (.cells #[g,i,m,t] 64)).heap[f.heap.size]? =some (.cells [g,i,m,t].toArray 64 (0,0)):=Array.getElem?_push_size;have hsv:(f.alloc (.cells #[g,i,m,t] 64)).heap.size=f.heap.size+1:=Array.size_push _;refine (K9 (base:=w.heap.size) W (by rw [Array.size_append,N,List.size_toArray,J];omega) (fun j v S=>by rw [Array.getElem?_append_left (by rw [List.size_toArray];exact (gsZ S).1),List.getElem?_toArray];exact S) J M rfl (by omega) Q y (by unfold maxLen at z;omega) hp iV P Z (by omega) (by omega)).mono ?_;rintro e w' ⟨r,c,rfl,q1,q2,q3,q4,q5⟩;exact ⟨r,c,rfl,q1,q2,q3,(X.alloc (by omega) _).trans q4,q5⟩
 go_enter Tryz.func139,Tryz.ntmps139
 go_wp2_with (first
  |(go_at_call 76;refine yd.mono ?_;rintro e d ⟨rfl,A⟩)
  |(go_at_call 114;refine (G2 b off n cap a d Q J (by omega) (zk d A) P).mono ?_;rintro e f ⟨G,y,z,rfl,C⟩;obtain ⟨k0,k1,k2,k3, -⟩:=T d f G A C;have U:Aside (f=(d.alloc (.cells #[] 64)).drew.alloc (.cells (a.toArray++u9 (G - n)) 64)):=C;clear C)
  |(go_at_call 176;refine (V d f G y z A U.out).mono ?_;rintro e w3 ⟨r,c,rfl,q⟩))
 go_ret
 exact ⟨r,c,rfl,q⟩
theorem Lq(d f g h:Value)(I: ∀x∈[d,f,g,h],x.oneCell'=true)(a:Option Addr)(cap:Nat)(w:World)
  (U:Calls Tryz.prog 76 #[.slice a 0 cap,.agg #[d,f,g,h],.func (.func 29) #[] #[]] (w.alloc (.cells #[d,f,g,h] 64)) fun e w'=>e= .returned (.tuple #[.int .i64 0,.bool false])/\DL.Below (w.heap.size+1) (w.alloc (.cells #[d,f,g,h] 64)) w'):
  Calls Tryz.prog 139 #[.slice a 0 cap,.agg #[d,f,g,h]] w fun e w'=> ∃r c,e= .returned (.slice (some ⟨r,0,none⟩) 1 c)/\1<=c/\w.heap.size<=r/\r<w'.heap.size/\DL.Below w.heap.size w w'/\
   ∀(j:Nat) (u:Value),[d,f,g,h][j]? =some u->w'.cell? ⟨r,j,none⟩=some u:=by
 have mx:=mixed;have Q:=nil_eq;have T: ∀w,Sem.run Tryz.prog (underlying 25) w= .ok (TypeDesc.slice 64) w:=run_underlying wg;have S: ∀i b:World,DL.Below (w.heap.size+1) (w.alloc (.cells #[d,f,g,h] 64)) i->(b=i\/b=i.alloc (.cells #[] 64))->
   b.cell? ⟨w.heap.size,0,none⟩=some d/\b.cell? ⟨w.heap.size,1,none⟩=some f/\b.cell? ⟨w.heap.size,2,none⟩=some g/\b.cell? ⟨w.heap.size,3,none⟩=some h/\DL.Below w.heap.size w b:=by
  intro i b B J;have M:(w.alloc (.cells #[d,f,g,h] 64)).heap.size=w.heap.size+1:=Array.size_push _;have N:w.heap.size<i.heap.size:=by have:=B.toBelow.size;omega
  have z: ∀(j:Nat) (u:Value), #[d,f,g,h][j]? =some u->i.cell? ⟨w.heap.size,j,none⟩=some u:=fun j u k=>by
   rw [B.toBelow.cell (p:=⟨w.heap.size,j,none⟩) (by show w.heap.size<w.heap.size+1;omega),World.cell?_alloc_at _ _ w.heap.size j rfl];exact k
  have m:DL.Below w.heap.size w i:=((DL.Below.refl _ w).alloc (Nat.le_refl _) _).trans (B.mono (Nat.le_succ _));rcases J with rfl|rfl
  ·exact ⟨z 0 d rfl,z 1 f rfl,z 2 g rfl,z 3 h rfl,m⟩
  ·have A: ∀(j:Nat) (u:Value), #[d,f,g,h][j]? =some u->(i.alloc (.cells #[] 64)).cell? ⟨w.heap.size,j,none⟩=some u:=fun j u k=>Lib.cell?_alloc_some _ (z j u k)
   exact ⟨A 0 d rfl,A 1 f rfl,A 2 g rfl,A 3 h rfl,m.alloc (by omega) _⟩
 have H: ∀(b:World) (base:Option Addr),DL.Below w.heap.size w b->
   Calls Tryz.prog 176 #[.slice base 0 0,.int .i64 0,.slice (some ⟨b.heap.size,0,none⟩) 1 1] (b.alloc (.cells #[d,f,g,h] 64)) fun e w'=> ∃r c,e= .returned (.slice (some ⟨r,0,none⟩) 1 c)/\1<=c/\w.heap.size<=r/\r<w'.heap.size/\DL.Below w.heap.size w w'/\
    ∀(j:Nat) (u:Value),[d,f,g,h][j]? =some u->w'.cell? ⟨r,j,none⟩=some u:=by
  intro b base F;have L:w.heap.size<=b.heap.size:=F.toBelow.size;have O:(b.alloc (.cells #[d,f,g,h] 64)).heap.size=b.heap.size+1:=Array.size_push _;have t:(Builtin.firstCells 4 0 (.slice base 0 0)).run Tryz.prog (b.alloc (.cells #[d,f,g,h] 64)).drew= .ok ([]:List Value).toArray (b.alloc (.cells #[d,f,g,h] 64)).drew:=by
   cases base with
   |none=>exact run_firstCells_none _ 4 0 0 0
   |some a=>exact run_firstCells_some _ 4 0 a 0 0 [] rfl (fun j v K=>by simp at K)
  refine (Ff base 0 0 b.heap.size 0 1 [] [d,f,g,h] _ (by omega) (by omega) rfl t (fun j v P=>by rw [Nat.zero_add,World.cell?_alloc_at _ _ b.heap.size j rfl, <-P];simp) I).mono ?_;rintro e w' ⟨rfl,rfl⟩;have E:=grownCap_ge (b.alloc (.cells #[d,f,g,h] 64)) (0+1) 0 64;generalize grownCap (b.alloc (.cells #[d,f,g,h] 64)) (0+1) 0 64=C at *
  refine ⟨_,C,rfl,E,by omega,?_,(((F.alloc (by omega) _).drew).alloc (by show w.heap.size<=(b.alloc _).heap.size;omega) _),?_⟩
  ·show _<(((b.alloc (.cells #[d,f,g,h] 64)).drew).alloc _).heap.size
   have:(((b.alloc (.cells #[d,f,g,h] 64)).drew).alloc (.cells (([]++[d,f,g,h]).toArray++u9 (C - (0+1))) 64)).heap.size=(b.alloc (.cells #[d,f,g,h] 64)).heap.size+1:=Array.size_push _
   rw [this];omega
  ·intro j u k;rw [World.cell?_alloc_at (w:=(b.alloc (.cells #[d,f,g,h] 64)).drew) _ _ (b.alloc (.cells #[d,f,g,h] 64)).heap.size j rfl,Array.getElem?_append_left (by rw [List.size_toArray];exact (gsZ k).1),List.getElem?_toArray];exact k
 go_enter Tryz.func139,Tryz.ntmps139
 go_wp2_with (first
  |(go_at_call 76;refine U.mono ?_;rintro e i ⟨rfl,D⟩)
  |(go_at_call 114;refine (FQ a cap i).mono ?_;rintro e b ⟨bs,rfl,y⟩;obtain ⟨V,k1,k2,W,n⟩:=S i b D y;have G:Aside (DL.Below w.heap.size w b):=n;clear y n)
  |(go_at_call 176;refine (H b bs G.out).mono ?_;rintro e X ⟨r,c,rfl,q⟩))
 go_ret
 exact ⟨r,c,rfl,q⟩
theorem size_setCells(b:Nat)(vs:List Value): ∀(w:World) (o:Nat),(w.setCells b o vs).heap.size=w.heap.size:=by
 induction vs with
 |nil=>intro w o;rfl
 |cons v r a=>intro w o;rw [World.setCells,a];simp [World.setCell]
theorem Cc(W:World)(g o:Nat)(v:Value)(a:v.oneCell'=true)(c:(W.cell? ⟨g,o,none⟩).isSome=true)(b:W.frozen? ⟨g,o,none⟩=false):(store ⟨g,o,none⟩ v).run Tryz.prog W= .ok () (W.setCell ⟨g,o,none⟩ v):=by
 obtain ⟨u,d⟩:=Option.isSome_iff_exists.1 c;rw [run_store Tryz.prog W _ v _ a];simp [d,b]
theorem MR(f i m q:Value)(w: ∀x∈[f,i,m,q],x.oneCell'=true)(W:World)(g p n:Nat)(c:List Value)(I:p<n)(H:c.length=n * 4)(r: ∀(j:Nat) (u:Value),c[j]? =some u->W.cell? ⟨g,j,none⟩=some u)(y: ∀j,W.frozen? ⟨g,j,none⟩=false):
  ∃C D E z:World,(store ⟨g,p * 4,none⟩ f).run Tryz.prog W= .ok () C/\(store ⟨g,p * 4+1,none⟩ i).run Tryz.prog C= .ok () D/\(store ⟨g,p * 4+2,none⟩ m).run Tryz.prog D= .ok () E/\(store ⟨g,p * 4+3,none⟩ q).run Tryz.prog E= .ok () z/\
   z=W.setCells g (p * 4) [f,i,m,q]/\ ∀(j:Nat) (u:Value),(c.take (p * 4)++([f,i,m,q]++c.drop ((p+1) * 4)))[j]? =some u->z.cell? ⟨g,j,none⟩=some u:=by
 have t: ∀j,j<n * 4->(W.cell? ⟨g,j,none⟩).isSome=true:=fun j G=>by rw [r j _ (ggZ (by omega))];rfl
 have b: ∀(V:World) (a:Addr) (v:Value) (j:Nat),(V.cell? ⟨g,j,none⟩).isSome=true->((V.setCell a v).cell? ⟨g,j,none⟩).isSome=true:=fun V a v j h=>by
  obtain ⟨u,d⟩:=Option.isSome_iff_exists.1 h
  by_cases e:a=⟨g,j,none⟩
  ·subst e;rw [World.cell?_setCell_same _ _ _ d];rfl
  ·rw [World.cell?_setCell_other _ _ _ _ e];exact h
 refine ⟨_,_,_,_,Cc W g (p * 4) f (w _ (by simp)) (t _ (by omega)) (y _),Cc _ g (p * 4+1) i (w _ (by simp)) (b _ _ _ _ (t _ (by omega))) (by rw [World.frozen?_setCell];exact y _),
  Cc _ g (p * 4+2) m (w _ (by simp)) (b _ _ _ _ (b _ _ _ _ (t _ (by omega)))) (by rw [World.frozen?_setCell,World.frozen?_setCell];exact y _),Cc _ g (p * 4+3) q (w _ (by simp)) (b _ _ _ _ (b _ _ _ _ (b _ _ _ _ (t _ (by omega))))) (by rw [World.frozen?_setCell,World.frozen?_setCell,World.frozen?_setCell];exact y _),rfl,?_⟩
 show ∀(j:Nat) (u:Value),_->(W.setCells g (p * 4) [f,i,m,q]).cell? _=_
 intro j u d;have B:(c.take (p * 4)).length=p * 4:=by rw [List.length_take];omega
 by_cases F:j<p * 4
 ·rw [List.getElem?_append_left (by omega),List.getElem?_take_of_lt F] at d;rw [World.cell?_setCells_out _ _ _ _ _ (fun _ _=>by left;exact F)];exact r j u d
 ·rw [List.getElem?_append_right (by omega),B] at d
  by_cases A:j - p * 4<4
  ·rw [List.getElem?_append_left (by simpa using A)] at d
   have:=World.cell?_setCells_in g [f,i,m,q] (p * 4) W (fun k r=>t _ (by simp at r;omega)) (j - p * 4) (by simpa using A)
   rw [show p * 4+(j - p * 4)=j by omega] at this;rw [this, <-d,ggZ (by simpa using A)]
  ·rw [List.getElem?_append_right (by simp;omega),List.getElem?_drop] at d;rw [World.cell?_setCells_out _ _ _ _ _ (fun _ _=>by right;show p * 4+4<=j;omega)];refine r j u ?_;rw [<- d]
   congr 1
   simp;omega
theorem Lr(v0:Value)(g i m q:Value)(W: ∀x∈[g,i,m,q],x.oneCell'=true)(b off n cap:Nat)(a:List Value)(w:World)(p:Nat)(X:p<n)(N:a.length=n * 4)(iV:n * 56<=140737488355328)
  (I:v0= .slice (some ⟨b,off,none⟩) n cap) (L: ∀j u,a[j]? =some u->w.cell? ⟨b,off+j,none⟩=some u) (T: ∀u∈a,u.oneCell'=true)
  (yd:Calls Tryz.prog 76 #[v0,.agg #[g,i,m,q],.func (.func 29) #[] #[]] (w.alloc (.cells #[g,i,m,q] 64)) fun e w'=>e= .returned (.tuple #[.int .i64 p,.bool true])/\DL.Below (w.heap.size+1) (w.alloc (.cells #[g,i,m,q] 64)) w'):
  Calls Tryz.prog 139 #[v0,.agg #[g,i,m,q]] w fun e w'=> ∃r c,e= .returned (.slice (some ⟨r,0,none⟩) n c)/\n<=c/\w.heap.size<=r/\r<w'.heap.size/\DL.Below w.heap.size w w'/\
   ∀(j:Nat) (u:Value),(a.take (p * 4)++([g,i,m,q]++a.drop ((p+1) * 4)))[j]? =some u->w'.cell? ⟨r,j,none⟩=some u:=by
 have mx:=mixed;have q22:=nil_eq;have u22: ∀w,Sem.run Tryz.prog (underlying 25) w= .ok (TypeDesc.slice 64) w:=run_underlying wg;subst I;have V:b<w.heap.size:=block_lt_of_cell (L 0 _ (ggZ (by omega)));have zk: ∀d,DL.Below (w.heap.size+1) (w.alloc (.cells #[g,i,m,q] 64)) d-> ∀j u,a[j]? =some u->d.cell? ⟨b,off+j,none⟩=some u:=fun d h j u y=>by
  rw [h.toBelow.cell (p:=⟨b,off+j,none⟩) (by show b<w.heap.size+1;omega)];exact Lib.cell?_alloc_some _ (L j u y)
 have Z: ∀k,(u9 k).size=k * 4:=fun k=>by simp [u9,Builtin.zeroCells,Value.cells]
 have qC: ∀d f G,n<=G->DL.Below (w.heap.size+1) (w.alloc (.cells #[g,i,m,q] 64)) d->f=(d.alloc (.cells #[] 64)).drew.alloc (.cells (a.toArray++u9 (G - n)) 64)->
   f.cell? ⟨w.heap.size,0,none⟩=some g/\f.cell? ⟨w.heap.size,1,none⟩=some i/\f.cell? ⟨w.heap.size,2,none⟩=some m/\f.cell? ⟨w.heap.size,3,none⟩=some q/\DL.Below w.heap.size w f/\w.heap.size<d.heap.size/\f.heap.size=d.heap.size+2/\(∀ j,f.frozen? ⟨d.heap.size+1,j,none⟩=false)/\
   (∀ (j:Nat) (u:Value),a[j]? =some u->f.cell? ⟨d.heap.size+1,j,none⟩=some u):=by
  intro d f G hG E B;have Y:(w.alloc (.cells #[g,i,m,q] 64)).heap.size=w.heap.size+1:=Array.size_push _;have F:w.heap.size<d.heap.size:=by have:=E.toBelow.size;omega
  have t:(d.alloc (.cells #[] 64)).heap.size=d.heap.size+1:=Array.size_push _;have H:f.heap.size=d.heap.size+2:=by
   rw [B]
   have:((d.alloc (.cells #[] 64)).drew.alloc (.cells (a.toArray++u9 (G - n)) 64)).heap.size=(d.alloc (.cells #[] 64)).heap.size+1:=Array.size_push _
   rw [this,t]
  have D: ∀(j:Nat) (u:Value), #[g,i,m,q][j]? =some u->f.cell? ⟨w.heap.size,j,none⟩=some u:=fun j u y=>by
   rw [B];refine Lib.cell?_alloc_some _ ?_;show (d.alloc (.cells #[] 64)).cell? _=_
   refine Lib.cell?_alloc_some _ ?_;rw [E.toBelow.cell (p:=⟨w.heap.size,j,none⟩) (by show w.heap.size<w.heap.size+1;omega),World.cell?_alloc_at _ _ w.heap.size j rfl];exact y
  refine ⟨D 0 g rfl,D 1 i rfl,D 2 m rfl,D 3 q rfl,?_,F,H,fun j=>?_,fun j u y=>?_⟩
  ·rw [B];exact (((((DL.Below.refl _ w).alloc (Nat.le_refl _) _).trans (E.mono (Nat.le_succ _))).alloc (by omega) _).drew).alloc (by show w.heap.size<=(d.alloc _).heap.size;rw [t];omega) _
  ·rw [B, <-t];exact World.frozen?_alloc_at (w:=(d.alloc (.cells #[] 64)).drew) _ _ _ j rfl
  ·rw [B, <-t,World.cell?_alloc_at (w:=(d.alloc (.cells #[] 64)).drew) _ _ (d.alloc (.cells #[] 64)).heap.size j rfl,Array.getElem?_append_left (by rw [List.size_toArray];exact (gsZ y).1),List.getElem?_toArray];exact y
 go_enter Tryz.func139,Tryz.ntmps139
 go_wp2_with (first
  |(go_at_call 76;refine yd.mono ?_;rintro e d ⟨rfl,A⟩)
  |(go_at_call 114;refine (G2 b off n cap a d (by omega) N (by omega) (zk d A) T).mono ?_;rintro e f ⟨G,z,U,rfl,v⟩;obtain ⟨k0,k1,k2,k3,C,J,kT,P,O⟩:=qC d f G z A v;have Q:Aside (DL.Below w.heap.size w f/\w.heap.size<d.heap.size/\f.heap.size=d.heap.size+2):=⟨C,J,kT⟩;clear C J kT;have A2:Aside (f=(d.alloc (.cells #[] 64)).drew.alloc (.cells (a.toArray++u9 (G - n)) 64)):=v;clear v;obtain ⟨Wa,Wb,Wc,S,s0,s1,s2,s3,M,kD⟩:=MR g i m q W f (d.heap.size+1) p n a X N O P;have K:Aside (S=f.setCells (d.heap.size+1) (p * 4) [g,i,m,q]):=M;clear M P O))
 go_ret
 obtain ⟨C,J,kT⟩:=Q.out;refine ⟨d.heap.size+1,G,rfl,z,by omega,?_,?_,kD⟩
 ·rw [K.out,size_setCells];omega
 ·rw [K.out];exact wh _ (by omega) _ _ _ C
structure Al {α β:Type} (R:α->β->Prop) (xs:List α) (ts:List β):Prop where
 len:xs.length=ts.length
 at_: ∀(i:Nat) (x:α) (t:β),xs[i]? =some x->ts[i]? =some t->R x t
section
variable {α β:Type}{R:α->β->Prop}{xs ys:List α}{ts us:List β}
theorem Al.take(h:Al R xs ts)(k:Nat):Al R (xs.take k) (ts.take k):=⟨by rw [List.length_take,List.length_take,h.len],fun i x t a b=>by
 rw [List.getElem?_take] at a b;split at a
 ·rename_i c;rw [if_pos c] at b;exact h.at_ i x t a b
 ·cases a⟩
theorem Al.drop(h:Al R xs ts)(k:Nat):Al R (xs.drop k) (ts.drop k):=⟨by rw [List.length_drop,List.length_drop,h.len],fun i x t b a=>by
 rw [List.getElem?_drop] at b a;exact h.at_ _ x t b a⟩
theorem Al.append(h:Al R xs ts)(k:Al R ys us):Al R (xs++ys) (ts++us):=⟨by rw [List.length_append,List.length_append,h.len,k.len],fun i x t b a=>by
 by_cases hi:i<xs.length
 ·rw [List.getElem?_append_left hi] at b;rw [List.getElem?_append_left (by rw [<- h.len];exact hi)] at a;exact h.at_ i x t b a
 ·rw [List.getElem?_append_right (by omega)] at b;rw [List.getElem?_append_right (by rw [<- h.len];omega), <-h.len] at a;exact k.at_ _ x t b a⟩
end
theorem Ag(st:List RE):(st.map uS).flatMap T.cells=st.flatMap uR:=by
 induction st with
 |nil=>rfl
 |cons x xs a=>rw [List.map_cons,List.flatMap_cons,List.flatMap_cons,a];rfl
theorem wI(st:List RE):(st.flatMap uR).length=st.length * 4:=by
 induction st with
 |nil=>rfl
 |cons x xs a=>rw [List.flatMap_cons,List.length_append,a,List.length_cons];show 4+_=_;omega
theorem BO(st:List RE)(k:Nat):(st.take k).flatMap uR=(st.flatMap uR).take (k * 4):=by
 induction st generalizing k with
 |nil=>simp
 |cons x xs a=>
  cases k with
  |zero=>simp
  |succ k=>
   rw [List.take_succ_cons,List.flatMap_cons,List.flatMap_cons,a,show (k+1) * 4=(uR x).length+k * 4 by show _=4+k * 4;omega,List.take_append,List.take_of_length_le (l:=uR x) (Nat.le_add_right _ _),Nat.add_sub_cancel_left]
theorem BN(st:List RE)(k:Nat):(st.drop k).flatMap uR=(st.flatMap uR).drop (k * 4):=by
 induction st generalizing k with
 |nil=>simp
 |cons x xs a=>
  cases k with
  |zero=>simp
  |succ k=>
   rw [List.drop_succ_cons,List.flatMap_cons,a,show (k+1) * 4=(uR x).length+k * 4 by show _=4+k * 4;omega,List.drop_append];simp
theorem Gm(st:List RE): ∀t∈st.flatMap uR,t.one=true:=fun t a=>by
 obtain ⟨e,_,h⟩:=List.mem_flatMap.1 a;simp only [uR,List.mem_cons,List.not_mem_nil,or_false] at h;rcases h with rfl|rfl|rfl|rfl <;> rfl
theorem MP{S:ar}{w:World}{r n c:Nat}{L:List Value}{st:List RE}(h:st.length=n)(g:n<=c)(b:Al (fun x t=>Rep S w x t) L (st.flatMap uR))(d: ∀(j:Nat) (u:Value),L[j]? =some u->w.cell? ⟨r,j,none⟩=some u)(f: ∀o,S r o):
  Rep S w (.slice (some ⟨r,0,none⟩) n c) (esT st):=by
 refine Rep.slice (some ⟨r,0,none⟩) r 0 n c 4 (st.map uS) (fun i=>L[i]?.getD undef) (by rw [List.length_map,h]) g (fun x k=>?_) (fun t a=>?_) (fun _=>rfl) (fun i hi=>?_) (fun i t a=>?_)
 ·obtain ⟨e,_,rfl⟩:=List.mem_map.1 k;rfl
 ·rw [Ag] at a;exact Gm st t a
 ·rw [Ag, <-b.len] at hi;rw [Nat.zero_add,d i L[i] (ggZ hi),ggZ hi];exact ⟨rfl,f i⟩
 ·rw [Ag] at a;have hi:=(gsZ a).1;rw [<- b.len] at hi;show Rep S w (L[i]?.getD undef) t
  rw [ggZ hi];exact b.at_ i _ t (ggZ hi) a
theorem N6(st:List RE)(f:vK st)(V:st.length<2^40)(D: ∀x∈st,kOk x)(e:RE)(he:kOk e):DCalls Tryz.prog 139 [esT st,uS e] (esT (vQ e st)):=by
 refine ⟨cP Tryz.func139 rfl rfl,fun S w vs hS hG W aq=>?_⟩;obtain ⟨v0,v1,rfl⟩: ∃v0 v1,vs=[v0,v1]:=by
  match vs,W with
  |[a,b],_=>exact ⟨a,b,rfl⟩
 have r0:=aq 0 v0 _ rfl rfl;have r1:=aq 1 v1 _ rfl rfl;obtain ⟨m,p,q,y,rfl⟩: ∃m p q y,v1= .agg #[m,p,q,y]:=by
  cases r1 with
  |agg cs ts f B h=>
   have f:cs.size=4:=f;refine ⟨cs[0],cs[1],cs[2],cs[3],?_⟩
   congr 1
   apply Array.ext
   ·simp [f]
   ·intro i B h2
    match i,B with
    |0,_|1,_|2,_|3,_=>rfl
    |i+4,B=>omega
 have J:Al (fun x t=>Rep S w x t) [m,p,q,y] (uR e):=by
  cases r1 with
  |agg cs ts f B h=>exact ⟨rfl,fun i x t A z=>h i x t (by rw [<- A];simp) z⟩
 have I: ∀x∈[m,p,q,y],x.oneCell'=true:=fun x A=>by
  obtain ⟨i,hi,rfl⟩:=List.getElem_of_mem A;have C:i<(uR e).length:=hi;exact (J.at_ i _ _ (ggZ hi) (ggZ C)).one (Gm [e] _ (by simp [List.getElem_mem]))
 have Y:(w.alloc (.cells #[m,p,q,y] 64)).heap.size=w.heap.size+1:=Array.size_push _;have Q:DL.Below w.heap.size w (w.alloc (.cells #[m,p,q,y] 64)):=(DL.Below.refl _ w).alloc (Nat.le_refl _) _;have up: ∀{x:Value} {t:T},Rep S w x t->Rep S (w.alloc (.cells #[m,p,q,y] 64)) x t:=fun h=>h.mono (fun _ _ f=>f) (fun b o f=>aC.cY Q (hS b o f))
 have hpl:=(Hp st f V D e he).2 S (w.alloc (.cells #[m,p,q,y] 64)) [v0,.agg #[m,p,q,y],.func (.func 29) #[] #[]] (fun b o h=>by rw [Y];have:=hS b o h;omega) (hG.up (fun _ _ h=>h) Q) rfl (fun i v t E z=>by
  match i,E,z with
  |0,E,z=>cases E;cases z;exact up r0
  |1,E,z=>cases E;cases z;exact up r1
  |2,E,z=>cases E;cases z;exact .clos _ #[] [] rfl (fun i x t A=>by simp at A)
  |i+3,E,_=>simp at E)
 have M:Calls Tryz.prog 76 #[v0,.agg #[m,p,q,y],.func (.func 29) #[] #[]] (w.alloc (.cells #[m,p,q,y] 64)) fun N w'=>N= .returned (.tuple #[.int .i64 (vJ st e:Nat),.bool (isE st e)])/\DL.Below (w.heap.size+1) (w.alloc (.cells #[m,p,q,y] 64)) w':=by
  refine hpl.mono ?_;rintro N w' ⟨v,rfl,U,hr⟩;rw [Y] at U;refine ⟨congrArg _ ?_,U⟩;cases hr with
  |tup cs ts f h=>
   have f:cs.size=2:=f;have e0:=h 0 cs[0] _ (Array.getElem?_eq_getElem (by omega)) rfl;have e1:=h 1 cs[1] _ (Array.getElem?_eq_getElem (by omega)) rfl;have e0:=e0.aA;have e1:=e1.aT
   congr 1
   apply Array.ext
   ·simp [f]
   ·intro i B h2
    match i,B with
    |0,_=>exact e0
    |1,_=>exact e1
    |i+2,B=>omega
 have JG:=CY st e;have F: ∀(w':World) (r n c:Nat) (d:List Value) (k:Nat),Al (fun x t=>Rep S w x t) d (st.flatMap uR)->(st.take (vJ st e)++e::st.drop k).length=n->n<=c->w.heap.size<=r->r<w'.heap.size->DL.Below w.heap.size w w'->
   vQ e st=st.take (vJ st e)++e::st.drop k->(∀ (j:Nat) (u:Value),(d.take (vJ st e * 4)++([m,p,q,y]++d.drop (k * 4)))[j]? =some u->w'.cell? ⟨r,j,none⟩=some u)->
   ∃v,Ending.returned (.slice (some ⟨r,0,none⟩) n c)= .returned v/\DL.Below w.heap.size w w'/\Rep (fun b o=>S b o\/(w.heap.size<=b/\b<w'.heap.size)) w' v (esT (vQ e st)):=by
  intro w' r n c d k H hn hc hr hr2 U G cr;refine ⟨_,rfl,U,?_⟩;rw [G];have Z: ∀{x:Value} {t:T},Rep S w x t->Rep (fun b o=>S b o\/(w.heap.size<=b/\b<w'.heap.size)) w' x t:=fun h=>h.mono (fun _ _ f=>Or.inl f) (fun b o f=>aC.cY U (hS b o f))
  refine MP (L:=d.take (vJ st e * 4)++([m,p,q,y]++d.drop (k * 4))) hn hc ?_ cr (fun o=>Or.inr ⟨hr,hr2⟩);rw [List.flatMap_append,List.flatMap_cons,BO,BN];have P:Al (fun x t=>Rep (fun b o=>S b o\/(w.heap.size<=b/\b<w'.heap.size)) w' x t) d (st.flatMap uR):=⟨H.len,fun i x t A z=>Z (H.at_ i x t A z)⟩
  have sM:Al (fun x t=>Rep (fun b o=>S b o\/(w.heap.size<=b/\b<w'.heap.size)) w' x t) [m,p,q,y] (uR e):=⟨J.len,fun i x t A z=>Z (J.at_ i x t A z)⟩
  exact (P.take _).append (sM.append (P.drop _))
 have G:=Gn f e;have Oy:(vh st e.var e.key).isSome=isE st e:=rfl;rw [Oy] at G
 by_cases h0:st=[]
 ·subst h0;obtain ⟨a,cap,rfl⟩: ∃a cap,v0= .slice a 0 cap:=by
   cases r0 with
   |slice a b o len cap n xs g V hc K B ha hg h=>
    have:len=0:=by simpa using V.symm
    subst this;exact ⟨a,cap,rfl⟩
  have hp0:vJ [] e=0:=rfl;have hi0:isE [] e=false:=rfl;rw [hi0] at M;refine (Lq m p q y I a cap w M).mono ?_;rintro N w' ⟨r,c,rfl,q1,q2,q3,q4,q5⟩;exact F w' r 1 c [] 0 ⟨rfl,fun i x t A=>by simp at A⟩ rfl q1 q2 q3 q4 rfl (fun j u K=>q5 j u (by simpa using K))
 ·have hn:0<st.length:=List.length_pos_iff.2 h0;obtain ⟨b,off,cap,d,hv0,X,IJ,H⟩: ∃b off cap d,v0= .slice (some ⟨b,off,none⟩) st.length cap/\d.length=st.length * 4/\(∀ (j:Nat) (u:Value),d[j]? =some u->w.cell? ⟨b,off+j,none⟩=some u)/\Al (fun x t=>Rep S w x t) d (st.flatMap uR):=by
   cases r0 with
   |slice a b o len cap n xs g V hc K B ha hg h=>
    rw [Ag] at ha hg h;have hle:len=st.length:=by simpa using V.symm
    subst hle;have hfl:=wI st;rw [ha (by omega)];refine ⟨b,o,cap,(List.range (st.length * 4)).map g,rfl,by simp,fun j u K=>?_,by simp [hfl],fun i x t A z=>?_⟩
    ·obtain ⟨k,D,rfl⟩:=List.getElem?_map .. ▸K |> Option.map_eq_some_iff.1
     have hj:j<st.length * 4:=by
      have:=(gsZ D).1
      simpa using this
     have:k=j:=by rw [List.getElem?_range hj] at D;exact (Option.some.inj D).symm
     subst this;exact (hg k (by omega)).1
    ·obtain ⟨k,D,rfl⟩:=List.getElem?_map .. ▸A |> Option.map_eq_some_iff.1
     have hj:i<st.length * 4:=by
      have:=(gsZ D).1
      simpa using this
     have:k=i:=by rw [List.getElem?_range hj] at D;exact (Option.some.inj D).symm
     subst this;exact h k t z
  have O: ∀u∈d,u.oneCell'=true:=fun u K=>by
   obtain ⟨i,hi,rfl⟩:=List.getElem_of_mem K;have C:i<(st.flatMap uR).length:=by rw [<- H.len];exact hi
   exact (H.at_ i _ _ (ggZ hi) (ggZ C)).one (Gm st _ (List.getElem_mem C))
  cases hi:isE st e with
  |false=>
   rw [hi] at M G;refine (Lp v0 m p q y I b off st.length cap d w (vJ st e) hn JG X (by omega) hv0 IJ O M).mono ?_;rintro N w' ⟨r,c,rfl,q1,q2,q3,q4,q5⟩;exact F w' r (st.length+1) c d (vJ st e) H (by rw [List.length_append,List.length_take,List.length_cons,List.length_drop];omega) q1 q2 q3 q4 G q5
  |true=>
   rw [hi] at M G;have hlt:vJ st e<st.length:=by
    rcases Nat.lt_or_ge (vJ st e) st.length with h|h
    ·exact h
    ·rw [G9 f (by omega)] at hi;cases hi
   refine (Lr v0 m p q y I b off st.length cap d w (vJ st e) hlt X (by omega) hv0 IJ O M).mono ?_;rintro N w' ⟨r,c,rfl,q1,q2,q3,q4,q5⟩;exact F w' r st.length c d (vJ st e+1) H (by rw [List.length_append,List.length_take,List.length_cons,List.length_drop];omega) q1 q2 q3 q4 G q5
end Go.ST
end
section
namespace Go.ST0
open Go Go.DL Go.Proofs
def l71:LWZ Tryz.prog Tryz.f71 9 []:=⟨_,lrZ⟩
def JL:LWZ Tryz.prog Tryz.f113 42 []:=⟨_,lrZ⟩
end Go.ST0
end
section
namespace Go.ST
open Go Go.DL Go.MM Go.Proofs
open Go.TY hiding Fd
theorem Kb:DCalls Tryz.prog 114 [esT []] (esT []):=by
 refine ⟨cP Tryz.func114 rfl rfl,fun S w vs r q c d=>?_⟩;obtain ⟨v0,rfl⟩: ∃v0,vs=[v0]:=by
  match vs,c with
  |[a],_=>exact ⟨a,rfl⟩
 have m:=d 0 v0 _ rfl rfl;obtain ⟨a,cap,rfl⟩: ∃a cap,v0= .slice a 0 cap:=by
  cases m with
  |slice a b o len cap n xs g f v y p u x h=>
   have:len=0:=by simpa using f.symm
   subst this;exact ⟨a,cap,rfl⟩
 refine (FQ a cap w).mono ?_;rintro e w' ⟨b,rfl,k⟩;refine ⟨_,rfl,?_,?_⟩
 ·rcases k with rfl|rfl
  ·exact DL.Below.refl _ _
  ·exact (DL.Below.refl _ _).alloc (Nat.le_refl _) _
 ·exact Rep.slice b 0 0 0 0 4 [] (fun _=>undef) rfl (Nat.le_refl _) (by simp) (by simp) (by simp) (fun i hi=>by simp at hi) (fun i t j=>by simp at j)
theorem Fv(x:RE)(f:FuncId)(c:T)(b:Bool)(a:DCalls Tryz.prog f [uS x,c] (.bool b)):DCalls Tryz.prog 115 [uS x,.cptr [.clos f [c]] 0] (.bool !b):=by
 refine dl2 mixed [.tmp 3] [.bool _] Tryz.func115 OR.2 ?_;exact rcZ
theorem Cn(st:List RE):chunk 4 st.length (st.flatMap uR)=st.map uS:=by
 induction st with
 |nil=>rfl
 |cons x xs a=>
  rw [List.flatMap_cons,List.length_cons,List.map_cons];show DL.elemOf 4 (List.take 4 (uR x++xs.flatMap uR))::chunk 4 xs.length (List.drop 4 (uR x++xs.flatMap uR))=_
  rw [show List.drop 4 (uR x++xs.flatMap uR)=xs.flatMap uR from rfl,a];rfl
theorem EX: ∀(n:Nat) (a b:List T),n * 4<=a.length->chunk 4 n (a++b)=chunk 4 n a:=by
 intro n
 induction n with
 |zero=>intro a b _;rfl
 |succ n c=>
  intro a b h;show DL.elemOf 4 ((a++b).take 4)::chunk 4 n ((a++b).drop 4)=DL.elemOf 4 (a.take 4)::chunk 4 n (a.drop 4)
  rw [List.take_append_of_le_length (by omega),List.drop_append_of_le_length (by omega),c _ _ (by rw [List.length_drop];omega)]
theorem KW(st:List RE)(k:Nat)(b:k<=st.length):chunk 4 k (st.flatMap uR)=(st.take k).map uS:=by
 have h:=EX;have e:st.flatMap uR=(st.take k).flatMap uR++(st.drop k).flatMap uR:=by rw [<- List.flatMap_append,List.take_append_drop]
 have a:(st.take k).length=k:=by rw [List.length_take];omega
 rw [e,h k _ _ (by rw [wI,a];omega)]
 have:=Cn (st.take k)
 rwa [a] at this
theorem Hu{L:List RE}{j:Nat}(h:j<L.length):((L.flatMap uR).drop (j * 4)).take 4=uR L[j]:=by
 rw [<- BN,List.drop_eq_getElem_cons h];rfl
theorem JV{L:List RE}{i:Nat}(h:i<L.length)(e:RE):aP (L.flatMap uR) (i * 4) 4 (uR e)=(L.set i e).flatMap uR:=by
 unfold aP;rw [<- BO,show i * 4+4=(i+1) * 4 by omega, <-BN,List.set_eq_take_append_cons_drop,if_pos h,List.flatMap_append,List.flatMap_cons]
theorem Lj{ks:List Nat}{bx:Nat->Option BX}{n off a b size:Nat}(h:a=b):LeV ks bx (.view n off a size) (.view n off b size):=by rw [h];exact .same _
theorem My{ks:List Nat}{bx:Nat->Option BX}{n m:Nat}{ts us:List T}(a:n=m)(h:ts=us):LeB ks bx (.d n ts) (some (.d m us)):=by rw [h,a];exact .same _
theorem LY{L:List RE}{i n:Nat}(hi:i<=n)(a:L.length=n):aP (L.flatMap uR) (i * 4) ((n - i) * 4) (List.replicate (n - i) [T.str ⟨#[]⟩,.nil,I 0,I 0]).flatten=(L.take i).flatMap uR++(List.replicate (n - i) [T.str ⟨#[]⟩,.nil,I 0,I 0]).flatten:=by
 unfold aP;rw [<- BO,List.drop_eq_nil_of_le (by rw [wI,a];omega),List.append_nil]
theorem HT{α:Type}{p:α->Bool}{xs:List α}{i:Nat}(h:xp p xs=i): ∀j (c:j<xs.length),j<i->p xs[j]=false:=by
 unfold xp at h;cases a:xs.findIdx? p with
 |none=>rw [a] at h;dsimp only at h;omega
 |some k=>
  rw [a] at h;obtain ⟨f,g,b⟩:=List.findIdx?_eq_some_iff_getElem.1 a;dsimp only at h;intro j c d
  have:=b j (by omega)
  simpa using this
theorem Kh(st:List RE)(hl:st.length<2^40)(f:FuncId)(c:T)(p:RE->Bool)(hf: ∀x∈st,DCalls Tryz.prog f [uS x,c] (.bool (p x))):
  DCalls Tryz.prog 71 [esT st,.clos f [c]] (esT (st.filter p)):=by
 have A:=Dp st 115 (.cptr [.clos f [c]] 0) (fun x=> !p x) (by omega) fun i h=>Fv st[i] f c (p st[i]) (hf _ (List.getElem_mem h))
 rcases st with _|⟨x0,X⟩
 ·refine dl2 mixed [.tmp 4] [.slice 4 _] Tryz.func71 ST0.l71.2 ?_;have hD:DCalls Tryz.prog 113 [esT [],.clos 115 [.cptr [.clos f [c]] 0]] (esT []):=by
   refine dl2 mixed [.tmp 4] [.slice 4 _] Tryz.func113 ST0.JL.2 ?_;have e:xp (fun x=> !p x) ([]:List RE)= -1:=rfl;rw [e] at A;exact rcZ
  refine rnZ ?_;refine pC _ (Kb) ?_;exact rcZ
 generalize S:x0::X=st at *
 have aI:0<st.length:=by rw [<- S];simp
 have hfl:0<((st.map uS).flatMap T.cells).length:=by rw [Ag,wI];omega
 refine dl2 mixed [.tmp 4] [.slice 4 _] Tryz.func71 l71.2 ?_;refine rnZ ?_;refine uF mixed Tryz.func114 OQ.2 rfl rfl (rs:=[.tmp 2]) rfl 500 (nlZ rfl) ?_;have hap:4=4/\0<(st.map uS).length/\(st.map uS).length * 56<=140737488355328:=⟨rfl,by rw [List.length_map];exact aI,by rw [List.length_map];omega⟩
 refine rnZ ?_;refine ⟨_,rfl,?_⟩
 skip
 refine uF mixed Tryz.func113 JL.2 rfl rfl (rs:=[.tmp 4]) rfl 700 (nlZ rfl) ?_;have C: ∀(bx:Nat->Option BX),bx 507=some (.d ((st.map uS).length * 4) ((st.map uS).flatMap T.cells))->conv bx (.view 507 0 (st.map uS).length 4)=some (esT st,[507]):=fun bx v=>by
  have:conv bx (.view 507 0 (st.map uS).length 4)=(match bx 507 with|some (.d m ts)=>cond (Nat.blt 0 4&&Nat.ble (0+(st.map uS).length * 4) m) (some (T.slice 4 (chunk 4 (st.map uS).length (ts.drop 0)),[507])) none|_=>none):=rfl
  rw [this,v];simp only;have u:Nat.ble (0+(st.map uS).length * 4) ((st.map uS).length * 4)=true:=Nat.ble_eq_true_of_le (by omega);rw [u,List.drop_zero,Ag,List.length_map,Cn];rfl
 have hcv: ∀(bx:Nat->Option BX) (L:List RE) (k:Nat),bx 507=some (.d (st.length * 4) (L.flatMap uR))->L.length=st.length->k<=L.length->conv bx (.view 507 0 k 4)=some (esT (L.take k),[507]):=fun bx L k v hL D=>by
  have:conv bx (.view 507 0 k 4)=(match bx 507 with|some (.d m ts)=>cond (Nat.blt 0 4&&Nat.ble (0+k * 4) m) (some (T.slice 4 (chunk 4 k (ts.drop 0)),[507])) none|_=>none):=rfl
  rw [this,v];simp only;have u:Nat.ble (0+k * 4) (st.length * 4)=true:=Nat.ble_eq_true_of_le (by omega);rw [u,List.drop_zero,KW L k D];rfl
 conv=>whnf
 split
 ·rename_i ts b;have e:=b.symm.trans (tD (C _ rfl) rfl);cases e
 rotate_left
 ·rename_i b;have e:=b.symm.trans (tD (C _ rfl) rfl);cases e
 rename_i ts r0 rs b;have e:=b.symm.trans (tD (C _ rfl) rfl);cases e;refine ⟨_,A,rfl,?_⟩;clear b;rcases Cw (fun x=> !p x) st with ⟨g,O⟩|⟨k,D,g,J⟩
 ·have Ox:st.filter p=st:=by
   rw [List.filter_eq_self];intro x g
   have:=List.find?_eq_none.1 O x g
   simpa using this
  rw [Ox];have hE:xp (fun x=> !p x) st= -1:=g;refine rnZ ?_;refine ⟨_,rfl,?_⟩
  skip
  refine ⟨?_,trivial⟩;have P: ∀bx:Nat->Option BX,bx 507=some (.d ((st.map uS).length * 4) ((st.map uS).flatMap T.cells))->Option.map (fun x=>x.1) (oJ bx (.view 507 0 (st.map uS).length 4))=some (esT st):=fun bx v=>congrArg (Option.map Prod.fst) (C bx v)
  refine P _ ?_;rfl
 ·have M:p st[k]=false:=by simpa using List.find?_some J
  have Om:(st.take (k+1)).filter p=st.take k:=by
   rw [List.take_succ_eq_append_getElem D,List.filter_append];have u:(st.take k).filter p=st.take k:=by
    rw [List.filter_eq_self];intro x V;obtain ⟨j,r,rfl⟩:=List.getElem_of_mem V;rw [List.length_take] at r;rw [List.getElem_take]
    have:=HT g j (by omega) (by omega)
    simpa using this
   rw [u];simp [M]
  have hE:xp (fun x=> !p x) st≠ -1:=by rw [g];omega
  have hA:((k:Nat):Int)=xp (fun x=> !p x) st:=g.symm;have hB:((k+1:Nat):Int)=IntKind.wrap .i64 (xp (fun x=> !p x) st+1):=by rw [g,oA] <;> omega
  have F:st.length=(st.map uS).length:=by rw [List.length_map]
  have G:st.length * 4=(st.map uS).length * 4:=by rw [List.length_map]
  have H: ∀x∈st,DCalls Tryz.prog 115 [uS x,.cptr [.clos f [c]] 0] (.bool !(p x)):=fun x g=>Fv x f c (p x) (hf x g)
  refine rnZ ?_;refine tT 0 (α:=Nat×Nat×List RE) (β:=Nat×List RE) (fun q=>{sl:=[(0,.view 507 0 st.length 4),(1,.fn 115 [.ptr 3 0]),(5,.t (I q.1)),(6,.t (I ((q.2.1+1:Nat):Int)))],bx:=[(3,.d 1 [.clos f [c]]),(507,.d (st.length * 4) (q.2.2.flatMap uR))],gh:=[],off:=700})
   (fun q=>q.1<q.2.1+1/\q.2.1+1<=st.length/\q.2.2.length=st.length/\q.2.2.take q.1=(st.take (q.2.1+1)).filter p/\q.2.2.drop (q.2.1+1)=st.drop (q.2.1+1)) (fun q=>st.length - q.2.1)
   (fun q=>{sl:=[(0,.view 507 0 st.length 4),(5,.t (I q.1))],bx:=[(507,.d (st.length * 4) (q.2.flatMap uR))],gh:=[],off:=700}) (fun q=>q.1<st.length/\q.2.length=st.length/\q.2.take q.1=st.filter p) (k,k,st) ⟨Nat.lt_succ_self k,D,rfl,Om.symm,rfl⟩ ?_ ?_ ?_
  ·repeat' (first|(exact leI hA)|(exact leI hB)|(exact Lj F)|(exact My G (Ag st).symm)|exact wJ|refine And.intro ?_ ?_)
  ·rintro ⟨i,a,L⟩ ⟨W,q2,y,z,E⟩;dsimp only at W q2 y z E;rcases Nat.lt_or_ge (a+1) st.length with r|r
   ·have N:((a+1:Nat):Int)<(st.length:Int):=by omega
    have w:a+1<L.length:=by omega
    have U:L[a+1]=st[a+1]:=by
     have e:L[a+1]? =st[a+1]? :=by have:=congrArg List.head? E;simpa [List.head?_drop] using this
     rw [ggZ w,ggZ r] at e;exact Option.some.inj e
    have ic:T.agg (((L.flatMap uR).drop (0+((a+1:Nat):Int).toNat * 4)).take 4)= .agg (uR st[a+1]):=by
     rw [Int.toNat_natCast,Nat.zero_add,Hu w,U]
    have Z:=H st[a+1] (List.getElem_mem r);have n:(st.take (a+1+1)).filter p=L.take i++(if p st[a+1] then [st[a+1]] else []):=by
     rw [List.take_succ_eq_append_getElem r,List.filter_append,z];cases h:p st[a+1] <;> simp [h]
    have Y:L.drop (a+1+1)=st.drop (a+1+1):=by
     rw [List.drop_eq_getElem_cons w,List.drop_eq_getElem_cons r] at E;exact (List.cons.inj E).2
    have hJ:((a+1+1:Nat):Int)=IntKind.wrap .i64 (((a+1:Nat):Int)+1):=by rw [oA] <;> omega
    have hI:((i+1:Nat):Int)=IntKind.wrap .i64 ((i:Int)+1):=by rw [oA] <;> omega
    generalize hxx:st[a+1]=x at *
    cases hp:p x with
    |false=>
     rw [hp] at n Z;refine rnZ ?_;exact ⟨(i,a+1,L),⟨by dsimp only;omega,r,y,by rw [n];simp,Y⟩,by dsimp only;omega,by exact wkZ⟩
    |true=>
     rw [hp] at n Z;have hi:i<L.length:=by omega
     have uo:=JV hi x;have Qo:(L.set i x).flatMap uR=aP (L.flatMap uR) (0+((i:Nat):Int).toNat * 4) 4 (uR x):=by rw [Int.toNat_natCast,Nat.zero_add,uo]
     have Qx:(aP [T.str ⟨#[]⟩,.nil,I 0,I 0] 0 4 (uR x)).length=4/\0+((i:Nat):Int).toNat * 4+4<=st.length * 4:=⟨rfl,by rw [Int.toNat_natCast];omega⟩
     refine rnZ ?_;refine ⟨(i+1,a+1,L.set i x),⟨by dsimp only;omega,r,by simpa using y,?_,?_⟩,by dsimp only;omega,by exact wkZ⟩
     ·rw [n,List.take_set,List.take_succ_eq_append_getElem hi,List.set_append_right _ _ (by simp;omega)];simp [List.length_take,Nat.min_eq_left (Nat.le_of_lt hi)]
     ·show (L.set i x).drop (a+1+1)=_
      rw [List.drop_set_of_lt (by omega)];exact Y
   ·have N: ¬((a+1:Nat):Int)<(st.length:Int):=by omega
    have K:a+1=st.length:=by omega
    rw [K,List.take_length] at z;refine rnZ ?_;exact ⟨(i,L),⟨by dsimp only;omega,y,z⟩,by exact wkZ⟩
  ·rintro ⟨i,L⟩ ⟨W,y,z⟩;dsimp only at W y z;have hz:aP (L.flatMap uR) (0+((i:Nat):Int).toNat * 4) ((((st.length:Nat):Int).toNat - ((i:Nat):Int).toNat) * 4) (List.replicate (((st.length:Nat):Int).toNat - ((i:Nat):Int).toNat) [T.str ⟨#[]⟩,.nil,I 0,I 0]).flatten=(L.take i).flatMap uR++(List.replicate (st.length - i) [T.str ⟨#[]⟩,.nil,I 0,I 0]).flatten:=by
    rw [Int.toNat_natCast,Int.toNat_natCast,Nat.zero_add];exact LY (by omega) y
   have Q: ∀bx:Nat->Option BX,bx 507=some (.d (st.length * 4) (aP (L.flatMap uR) (0+((i:Nat):Int).toNat * 4) ((((st.length:Nat):Int).toNat - ((i:Nat):Int).toNat) * 4) (List.replicate (((st.length:Nat):Int).toNat - ((i:Nat):Int).toNat) [T.str ⟨#[]⟩,.nil,I 0,I 0]).flatten))->Option.map (fun x=>x.1) (oJ bx (.view 507 0 i 4))=some (esT (st.filter p)):=fun bx v=>by
    have h0:oJ bx (.view 507 0 i 4)=(match bx 507 with|some (.d m ts)=>cond (Nat.blt 0 4&&Nat.ble (0+i * 4) m) (some (T.slice 4 (chunk 4 i (ts.drop 0)),[507])) none|_=>none):=rfl;rw [h0,v];simp only;have u:Nat.ble (0+i * 4) (st.length * 4)=true:=Nat.ble_eq_true_of_le (by omega);have B:(L.take i).length=i:=by rw [List.length_take];omega
    have h2:=Cn (L.take i);rw [B] at h2;rw [u,List.drop_zero,hz,EX i _ _ (by rw [wI,B];omega),h2,z];rfl
   refine And.intro (by dsimp only;simp only [Int.toNat_natCast];omega) ?_
   conv=>whnf
   refine And.intro (by dsimp only;omega) ?_
   conv=>whnf
   refine And.intro (by dsimp only;omega) ?_
   conv=>whnf
   refine ⟨_,rfl,?_⟩
   conv=>whnf
   refine And.intro ?_ trivial;refine Q _ ?_;rfl
end Go.ST
end
section
namespace Go.ST1
open Go Go.DL Go.Proofs
def l22:LWZ Tryz.prog Tryz.f22 8 [6000000]:=⟨_,lrZ⟩
end Go.ST1
end
section
namespace Go.ST
open Go Go.DL Go.MM Go.Proofs
open Go.TY hiding Fd
theorem N2(x:RE)(v:ByteArray):DCalls Tryz.prog 72 [uS x,.cptr [.str v] 0] (.bool (decide (x.var=v))):=by
 refine dl2 mixed [.tmp 3] [.bool _] Tryz.func72 l72.2 ?_;have h:=eqS x.var v;exact rcZ
theorem Qk(st:List RE)(v:ByteArray)(b:st.length<2^40):DCalls Tryz.prog 22 [esT st,.str v] (esT (ofE st v)):=by
 refine dl2 mixed [.tmp 4] [.slice 4 _] Tryz.func22 Go.ST1.l22.2 ?_;have h:=Kh st b 72 (.cptr [.str v] 0) (fun e=>decide (e.var=v)) fun x _=>N2 x v
 refine uE (β:=Unit) (fun _=>{sl:=[(0,.t (esT st)),(3,.t (.cptr [.str v] 0))],bx:=[]}) (fun _=>True) ?_ ?_
 ·refine rnZ ?_;(exact ⟨(),trivial,by (repeat' (first|(exact LeV.conv _ _ _ rfl (fun n _ a=>absurd (show n∈([]:List Nat) from a) (by simp)))|exact wJ|refine And.intro ?_ ?_));done⟩)
 rintro _ _;exact rcZ
end Go.ST
end
section
namespace Go.Proofs
open Go.Shelf
def Tryz.D6:Go.Shelf.Ren:=⟨fun|4=>119|n=>n,fun|22=>25|25=>64|3=>3|4=>4|9=>9|20=>20|0=>0|n=>n,fun|n=>n⟩
theorem Tryz.Dc:Go.Proofs.Lays8.n4 Tryz.prog Tryz.D6:={
 mixed:=by kernel_rfl
 f4:=⟨Tryz.f119.name,by decide,Tryz.func119.trans (congrArg some (by kernel_rfl))⟩
 t0:=Tryz.underlying0
 a0:=Tryz.isAgg0
 z0:=Tryz.sizeOf0
 v0:=Tryz.zeroValue0
 t3:=Tryz.underlying3
 a3:=Tryz.isAgg3
 z3:=Tryz.sizeOf3
 v3:=Tryz.zeroValue3
 t4:=Tryz.underlying4
 a4:=Tryz.isAgg4
 z4:=Tryz.sizeOf4
 v4:=Tryz.zeroValue4
 t9:=Tryz.underlying9
 a9:=Tryz.isAgg9
 z9:=Tryz.sizeOf9
 v9:=Tryz.zeroValue9
 t20:=Tryz.underlying20
 a20:=Tryz.isAgg20
 z20:=Tryz.sizeOf20
 v20:=Tryz.zeroValue20
 t22:=Tryz.underlying25
 a22:=Tryz.isAgg25
 z22:=Tryz.sizeOf25
 v22:=Tryz.zeroValue25 }
end Go.Proofs
end
section
namespace Go.ST
open Go Go.DL Go.MM Go.Proofs Go.Shelf Go.RowKit
theorem LH(w:World)(p:Option Addr)(n c:Nat)(b:List Value)(g:b.length=n * 4)(h:p=none->n=0)(f: ∀a,p=some a-> ∀(j:Nat) (u:Value),b[j]? =some u->w.cell? (a.add j)=some u)(d: ∀u∈b,u.oneCell'=true):
  Src Tryz.prog 4 25 (.slice p n c) n b w:=by
 cases p with
 |none=>
  have:=h rfl
  subst this
  have:b=[]:=List.eq_nil_of_length_eq_zero (by omega)
  subst this;exact Src.ofNil w wg c
 |some a=>exact Src.ofSlice w wg a n c b g (f a rfl) d
theorem Nq(w:World):Calls Tryz.prog 119 #[.slice none 0 0,.int .i64 0] w fun e w'=>e= .returned (.slice none 0 0)/\w'=w:=
 Any8.slices_Grow_room Tryz.Dc none 0 0 0 w (Nat.le_refl _) (by omega) (by omega) (by omega)
theorem Nr(w:World)(n:Nat)(m:Int)(d:m=n)(h:0<n)(g:n<2^40):Calls Tryz.prog 119 #[.slice none 0 0,.int .i64 m] w fun e w'=> ∃G,n<=G/\e= .returned (.slice (some ⟨w.heap.size,0,none⟩) 0 G)/\w'=w.drew.alloc (.cells (u9 n++u9 (G - n)) 64):=by
 subst d;obtain ⟨i0,hi,b,f,c⟩:=info_parts Ai;refine (Any8.slices_Grow_grow Tryz.Dc i0 zeV hi b (by omega) none 0 0 n [] w (Nat.le_refl _) (by omega) (by rw [c];omega) (by omega) (by simp) (fun _=>rfl) (fun a h=>by cases h)).mono ?_;rintro e w' ⟨rfl,rfl⟩;refine ⟨_,Nat.le_trans (Nat.le_of_eq (Nat.zero_add n).symm) (grownCap_ge _ _ _ _),rfl,?_⟩;simp;rfl
theorem Fs(w:World)(ty:TypeId)(g n G m:Nat)(x:Value)(a:List Value)(c:Src Tryz.prog 4 25 x m a w)(d:n+m<=G)(f: ∀j,j<G * 4->(w.cell? ⟨g,j,none⟩).isSome=true)(h: ∀j,w.frozen? ⟨g,j,none⟩=false):
  (Builtin.append_ #[25,25] ty #[.slice (some ⟨g,0,none⟩) n G,x]).run Tryz.prog w= .ok (.slice (some ⟨g,0,none⟩) (n+m) G) (w.setCells g (n * 4) a):=by
 obtain ⟨i0,hi,i,b,k⟩:=info_parts Ai
 have:=run_append_room_src (P:=Tryz.prog) w 25 25 ty 64 i0 wg hi g 0 n G x m a (by rw [b];exact c) d (fun j p=>by rw [b];exact f _ (by have:=c.newsLen;omega)) (fun j _=>h _)
 rw [b,Nat.zero_add] at this;exact this
theorem K1(W:World)(vb cap a x b y:Nat)(C D:Option Addr)(A B:List Value)(H:W.cell? ⟨vb,0,none⟩=some (.slice C a x))(k1:W.cell? ⟨vb,1,none⟩=some (.slice D b y))(T:a<2^30)(U:b<2^30)
  (J: ∀w',DL.Below W.heap.size W w'->Src Tryz.prog 4 25 (.slice C a x) a A w') (sB: ∀w',DL.Below W.heap.size W w'->Src Tryz.prog 4 25 (.slice D b y) b B w') (Q:0<a+b):
  Calls Tryz.prog 77 #[.slice (some ⟨vb,0,none⟩) 2 cap] W fun e w'=> ∃G,a+b<=G/\e= .returned (.slice (some ⟨W.heap.size,0,none⟩) (a+b) G)/\
   w'=((W.drew.alloc (.cells (u9 (a+b)++u9 (G - (a+b))) 64)).setCells W.heap.size 0 A).setCells W.heap.size (a * 4) B:=by
 have X:=nil_eq;have Y: ∀w,Sem.run Tryz.prog (underlying 25) w= .ok (TypeDesc.slice 64) w:=run_underlying wg;have mx:=mixed;have w1:wrap64 (a:Int)=a:=by unfold wrap64;omega
 have w2:wrap64 ((a:Int)+b)=((a+b:Nat):Int):=by unfold wrap64;omega
 have n1: ¬((a:Int)<0):=by omega
 have n2: ¬(((a+b:Nat):Int)<0):=by omega
 have Z:W.drew.heap.size=W.heap.size:=rfl;have i: ∀G,DL.Below W.heap.size W (W.drew.alloc (.cells (u9 (a+b)++u9 (G - (a+b))) 64)):=fun G=>((DL.Below.refl _ _).drew).alloc (Nat.le_refl _) _
 have q:vb<W.heap.size:=block_lt_of_cell H;have r: ∀w',DL.Below W.heap.size W w'->w'.cell? ⟨vb,0,none⟩=some (.slice C a x):=fun w' h=>by rw [h.toBelow.cell (p:=⟨vb,0,none⟩) q];exact H
 have u: ∀w',DL.Below W.heap.size W w'->w'.cell? ⟨vb,1,none⟩=some (.slice D b y):=fun w' h=>by rw [h.toBelow.cell (p:=⟨vb,1,none⟩) q];exact k1
 have v: ∀k,(u9 k).size=k * 4:=fun k=>by simp [u9,Builtin.zeroCells,Value.cells]
 have L: ∀G,a+b<=G-> ∀j,j<G * 4->((W.drew.alloc (.cells (u9 (a+b)++u9 (G - (a+b))) 64)).cell? ⟨W.heap.size,j,none⟩).isSome=true:=fun G F j N=>by
  rw [World.cell?_alloc_at (w:=W.drew) _ _ W.heap.size j rfl,Array.getElem?_eq_getElem (by rw [Array.size_append,v,v];omega)];rfl
 have M: ∀G j,(W.drew.alloc (.cells (u9 (a+b)++u9 (G - (a+b))) 64)).frozen? ⟨W.heap.size,j,none⟩=false:=fun G j=>World.frozen?_alloc_at (w:=W.drew) _ _ W.heap.size j rfl
 go_enter Tryz.func77,Tryz.ntmps77
 go_wp2
 refine wp_loop_rounds 3 ?_;rw [rounds_succ]
 go_wp2
 rw [rounds_succ]
 go_wp2
 rw [rounds_succ]
 go_wp2_with (go_at_call 119;refine (Nr W (a+b) _ (by omega) Q (by omega)).mono ?_;rintro e w' ⟨G,F,rfl,c⟩;have K:Aside (w'=W.drew.alloc (.cells (u9 (a+b)++u9 (G - (a+b))) 64)):=c;clear c)
 have c:=K.out;have g:=i G;have m:=L G F;have z:=M G;rw [<- c] at g m z;have n: ∀j,j<G * 4->((w'.setCells W.heap.size 0 A).cell? ⟨W.heap.size,j,none⟩).isSome=true:=fun j N=>by
  have S:=(J W (DL.Below.refl _ _)).newsLen;exact wZ _ A 0 w' (fun t ht=>by rw [Nat.zero_add];exact m t (by omega)) j (m j N)
 have d:DL.Below W.heap.size W (w'.setCells W.heap.size 0 A):=wh _ (Nat.le_refl _) _ _ _ g;have I:=fun ty=>Fs w' ty W.heap.size 0 G a (.slice C a x) A (J w' g) (by omega) m z
 have O:=fun ty=>Fs (w'.setCells W.heap.size 0 A) ty W.heap.size a G b (.slice D b y) B (sB _ d) (by omega) n (fun j=>by rw [World.frozen?_setCells];exact z j)
 have q0:=r w' g;have V:=u _ d;simp only [Nat.zero_add,Nat.zero_mul] at I;clear c g d m n z i L M r u J sB H k1;obtain ⟨E,f⟩: ∃E,E=w'.setCells W.heap.size 0 A:=⟨_,rfl⟩
 rw [<- f] at I O V;have P:Aside (E=w'.setCells W.heap.size 0 A):=f;clear f;refine wp_loop_rounds 3 ?_;rw [rounds_succ]
 go_wp2_with (at_builtin;refine Lib.wpList_append_run _ rfl _ _ _ _ rfl _ _ rfl rfl _ _ (I _) ?_)
 rw [rounds_succ]
 go_wp2_with (at_builtin;refine Lib.wpList_append_run _ rfl _ _ _ _ rfl _ _ rfl rfl _ _ (O _) ?_)
 rw [rounds_succ]
 go_wp2
 go_ret
 exact ⟨G,F,rfl,by rw [P.out,K.out]⟩
theorem Gy(w:World)(ty:TypeId)(x:Value)(a:Src Tryz.prog 4 25 x 0 [] w):(Builtin.append_ #[25,25] ty #[.slice none 0 0,x]).run Tryz.prog w= .ok (.slice none 0 0) w:=by
 obtain ⟨i0,hi,g,b,h⟩:=info_parts Ai;have d:=a.cells;have f:=a.cellsD;rcases a.kind with ⟨e',c⟩|c <;> simp [Builtin.append_,run_underlying wg,run_underlying c,sizeOf,typeInfo,hi,b,a.len,d,f]
theorem KZ(W:World)(vb cap a b:Nat)(c d:Option Addr)(k:W.cell? ⟨vb,0,none⟩=some (.slice c 0 a))(k1:W.cell? ⟨vb,1,none⟩=some (.slice d 0 b))
  (i:Src Tryz.prog 4 25 (.slice c 0 a) 0 [] W) (sB:Src Tryz.prog 4 25 (.slice d 0 b) 0 [] W):
  Calls Tryz.prog 77 #[.slice (some ⟨vb,0,none⟩) 2 cap] W fun e w'=>e= .returned (.slice none 0 0)/\w'=W:=by
 have f:=nil_eq;have j: ∀w,Sem.run Tryz.prog (underlying 25) w= .ok (TypeDesc.slice 64) w:=run_underlying wg;have mx:=mixed;have g:=fun ty=>Gy W ty _ i
 have h:=fun ty=>Gy W ty _ sB
 go_enter Tryz.func77,Tryz.ntmps77
 go_wp2
 refine wp_loop_rounds 3 ?_;rw [rounds_succ]
 go_wp2
 rw [rounds_succ]
 go_wp2
 rw [rounds_succ]
 go_wp2_with (go_at_call 119;refine (Nq W).mono ?_;rintro e w' ⟨rfl,rfl⟩)
 refine wp_loop_rounds 3 ?_;rw [rounds_succ]
 go_wp2_with (at_builtin;refine Lib.wpList_append_run _ rfl _ _ _ _ rfl _ _ rfl rfl _ _ (g _) ?_)
 rw [rounds_succ]
 go_wp2_with (at_builtin;refine Lib.wpList_append_run _ rfl _ _ _ _ rfl _ _ rfl rfl _ _ (h _) ?_)
 rw [rounds_succ]
 go_wp2
 go_ret
 exact ⟨rfl,rfl⟩
end Go.ST
end
section
namespace Go.ST
open Go Go.DL Go.MM Go.Proofs
theorem zZ(b:Nat)(e:TypeId)(s:Nat×Nat): ∀(vs:List Value) (o:Nat) (w:World) (c:Array Value),w.heap[b]? =some (.cells c e s)-> ∃a,(w.setCells b o vs).heap[b]? =some (.cells a e s)/\a.size=c.size
 |[],_,_,c,h=>⟨c,h,rfl⟩
 |v::vs,o,w,c,h=>by
  have g:(w.setCell ⟨b,o,none⟩ v).heap[b]? =some (.cells (c.setIfInBounds o v) e s):=by
   unfold World.setCell;simp [Array.getElem?_modify,h]
  obtain ⟨a,d,f⟩:=zZ b e s vs (o+1) _ _ g;exact ⟨a,d,by rw [f,Array.size_setIfInBounds]⟩
theorem Ja{S:ar}{w:World}{v:Value}{L:List RE}(h:Rep S w v (esT L)): ∃(a:Option Addr) (cap:Nat) (c:List Value),v= .slice a L.length cap/\c.length=L.length * 4/\(a=none->L.length=0)/\
  (∀ k,a=some k-> ∀(j:Nat) (u:Value),c[j]? =some u->w.cell? (k.add j)=some u)/\Al (fun x t=>Rep S w x t) c (L.flatMap uR):=by
 cases h with
 |slice a b o len cap n xs g A E F D y z h=>
  rw [Ag] at *
  have f:len=L.length:=by rw [<- A,List.length_map]
  subst f;refine ⟨a,cap,(List.range (L.length * 4)).map g,rfl,by simp,fun B=>?_,fun k m j u p=>?_,⟨by rw [wI];simp,fun i x t q C=>?_⟩⟩
  ·rcases Nat.eq_zero_or_pos L.length with r|r
   ·exact r
   ·have:=y (by rw [wI];omega)
    rw [B] at this;cases this
  ·have d:=(gsZ p).1;rw [List.length_map,List.length_range] at d
   have:=y (by rw [wI];omega)
   rw [m] at this;cases this;rw [List.getElem?_map,List.getElem?_range d] at p;cases p;rw [Addr.add_lit];exact (z j (by rw [wI];exact d)).1
  ·have hi:=(gsZ q).1;rw [List.length_map,List.length_range] at hi;rw [List.getElem?_map,List.getElem?_range hi] at q;cases q;exact h i t C
theorem Iq(a b:List RE)(ha:a.length<2^30)(hb:b.length<2^30){st:St}{r d:Nat}{K:St->Prop}(hq:st.bx (d+st.off)=none)(mU:a++b=[]->K (st.set (some d) (.t .nil)))
  (hk:0<(a++b).length->K ({st with bx:=upd st.bx (d+st.off) (some (.d ((a++b).length * 4) ((a++b).flatMap uR)))}.set (some d) (.view (d+st.off) 0 (a++b).length 4))):
  WC Tryz.prog 77 [.own r 25 1 [esT a,esT b]] (some d) st K:=by
 refine ⟨cP Tryz.func77 rfl rfl,fun N w0 S0 E t vs h hlen hv hd=>?_⟩;have hsz:vs.size=1:=hlen;have hvs:vs= #[vs[0]]:=by
  apply Array.ext
  ·simp [hsz]
  ·intro i h1 h2
   match i,h1 with
   |0,_=>rfl
   |i+1,h1=>omega
 have ho:=(hv 0 vs[0] _ (by simp [hsz]) rfl).fl;generalize vs[0]=v0 at *
 subst hvs;obtain ⟨cells,k1,k2,k3⟩:=ho.ex;rcases k1.2 with ⟨rfl,hn⟩|⟨g,cap,cur,rfl,hbg,hg,cB,hm,P,htk⟩
 ·cases hn
 have hcl:cells.length=2:=k2;obtain ⟨va,vb,rfl⟩: ∃va vb,cells=[va,vb]:=by
  match cells,hcl with
  |[x,y],_=>exact ⟨x,y,rfl⟩
 obtain ⟨pa,ca,A,rfl,C,U,V,D⟩:=Ja (k3 0 va (esT a) rfl rfl);obtain ⟨pb,cb,B,rfl,H,W,X,I⟩:=Ja (k3 1 vb (esT b) rfl rfl);have Z:E.w.cell? ⟨g,0,none⟩=some (.slice pa a.length ca):=by
  rw [cell_of_row _ _ _ _ _ _ hg]
  have:=congrArg (fun l:List Value=>l[0]?) htk
  simpa using this
 have hc1:E.w.cell? ⟨g,1,none⟩=some (.slice pb b.length cb):=by
  rw [cell_of_row _ _ _ _ _ _ hg]
  have:=congrArg (fun l:List Value=>l[1]?) htk
  simpa using this
 have one: ∀{l:List Value} {L:List RE},Al (fun x t=>Rep E.S E.w x t) l (L.flatMap uR)-> ∀u∈l,u.oneCell'=true:=fun {l L} h u M=>by
  obtain ⟨i,hi,rfl⟩:=List.getElem_of_mem M;have hi':i<(L.flatMap uR).length:=by rw [<- h.len];exact hi
  exact (h.at_ i _ _ (ggZ hi) (ggZ hi')).one (Gm L _ (List.getElem_mem hi'))
 have n: ∀{l:List Value} {L:List RE} {p:Option Addr} {c:Nat},l.length=L.length * 4->(p=none->L.length=0)->(∀ Q,p=some Q-> ∀(j:Nat) (u:Value),l[j]? =some u->E.w.cell? (Q.add j)=some u)->Al (fun x t=>Rep E.S E.w x t) l (L.flatMap uR)-> ∀w',DL.Below E.w.heap.size E.w w'->
   Src Tryz.prog 4 25 (.slice p L.length c) L.length l w':=fun h1 h2 h3 h4 w' hb=>LH w' _ _ _ _ h1 h2 (fun Q had j u hj=>by
  have:=h3 Q had j u hj
  have hlt:(Q.add j).block<E.w.heap.size:=block_lt_of_cell this;rw [hb.toBelow.cell hlt];exact this) (one h4)
 rcases Nat.eq_zero_or_pos (a++b).length with T|T
 ·rw [List.length_append] at T;have ha0:a=[]:=List.eq_nil_of_length_eq_zero (by omega);have hb0:b=[]:=List.eq_nil_of_length_eq_zero (by omega);subst ha0;subst hb0;have hA0:A=[]:=List.eq_nil_of_length_eq_zero C;have hB0:B=[]:=List.eq_nil_of_length_eq_zero H;have s1:=n C U V D (c:=ca) E.w (DL.Below.refl _ _);have s2:=n H W X I (c:=cb) E.w (DL.Below.refl _ _);rw [hA0] at s1;rw [hB0] at s2;refine (KZ E.w g cap ca cb pa pb Z hc1 s1 s2).mono ?_;rintro e w' ⟨rfl,rfl⟩;exact ⟨_,rfl,E,_,rfl,mU rfl,dI h hd (.t _ _ .nil)⟩
 have hk:=hk T;rw [List.length_append] at T;refine (K1 E.w g cap a.length ca b.length cb pa pb A B Z hc1 ha hb (n C U V D) (n H W X I) T).mono ?_;rintro e w' ⟨G,hG,rfl,O⟩;have f: ∀k,(u9 k).size=k * 4:=fun k=>by simp [u9,Builtin.zeroCells,Value.cells]
 have Y:DL.Below E.w.heap.size E.w w':=by
  rw [O];exact wh _ (Nat.le_refl _) _ _ _ (wh _ (Nat.le_refl _) _ _ _ (((DL.Below.refl _ _).drew).alloc (Nat.le_refl _) _))
 obtain ⟨z,HJ,Ou⟩: ∃v,w'.heap[E.w.heap.size]? =some (.cells v 64 (0,0))/\v.size=G * 4:=by
  obtain ⟨c1,g1,z1⟩:=zZ E.w.heap.size 64 (0,0) A 0 (E.w.drew.alloc (.cells (u9 (a.length+b.length)++u9 (G - (a.length+b.length))) 64)) _ (heap_alloc_new E.w.drew _);obtain ⟨c2,g2,z2⟩:=zZ E.w.heap.size 64 (0,0) B (a.length * 4) _ _ g1;rw [O];exact ⟨c2,g2,by rw [z2,z1,Array.size_append,f,f, <-Nat.add_mul];congr 1;omega⟩
 have cr: ∀(j:Nat) (u:Value),(A++B)[j]? =some u->z[j]? =some u:=fun j u M=>by
  have c1: ∀j,j<G * 4->((E.w.drew.alloc (.cells (u9 (a.length+b.length)++u9 (G - (a.length+b.length))) 64)).cell? ⟨E.w.heap.size,j,none⟩).isSome=true:=fun j hj=>by
   rw [World.cell?_alloc_at (w:=E.w.drew) _ _ E.w.heap.size j rfl,Array.getElem?_eq_getElem (by rw [Array.size_append,f,f];omega)];rfl
  rw [<- cell_of_row _ _ _ _ _ _ HJ,O];have hj:=(gsZ M).1;rw [List.length_append] at hj
  by_cases J:j<A.length
  ·rw [List.getElem?_append_left J] at M;rw [World.cell?_setCells_out _ _ _ _ _ (fun _ _=>by left;show j<a.length * 4;omega)]
   have:=World.cell?_setCells_in E.w.heap.size A 0 (E.w.drew.alloc (.cells (u9 (a.length+b.length)++u9 (G - (a.length+b.length))) 64)) (fun k hk=>c1 _ (by omega)) j J
   rw [Nat.zero_add] at this;rw [this, <-M,ggZ J]
  ·rw [List.getElem?_append_right (by omega)] at M
   have:=World.cell?_setCells_in E.w.heap.size B (a.length * 4) ((E.w.drew.alloc (.cells (u9 (a.length+b.length)++u9 (G - (a.length+b.length))) 64)).setCells E.w.heap.size 0 A) (fun k hk=>wZ _ A 0 _ (fun t ht=>by rw [Nat.zero_add];exact c1 t (by omega)) _ (c1 _ (by omega))) (j - A.length) (by omega)
   rw [show a.length * 4+(j - A.length)=j by omega] at this;rw [this, <-M,ggZ (by omega)]
 have h':SR N w0 S0 {E with w:=w' } st t:=h.world Y E.S (fun b o=>⟨.inl,fun hh=>hh.elim id fun k=>k.1⟩);have klt: ∀m,E.live m=true->E.κ m<E.w.heap.size:=fun m hm=>kL (a:=⟨t,[]⟩) h hm
 have F:Al (fun x t=>Rep E.S E.w x t) (A++B) ((a++b).flatMap uR):=by rw [List.flatMap_append];exact D.append I
 have Ku:(A++B).length=(a++b).length * 4:=by rw [F.len,wI]
 have hgl:E.w.heap.size<w'.heap.size:=(Array.getElem?_eq_some_iff.1 HJ).1;have h2:=h'.mr (q:=d+st.off) (g:=E.w.heap.size) hq (fun m hm=>by have:=klt m hm;show E.κ m≠_;omega) (fun r' hr=>by have:=(h.rows r' _ hr).2.1;omega)
  (bx:=.d ((a++b).length * 4) ((a++b).flatMap uR)) ⟨by show E.B<=E.w.heap.size;rw [h.base];exact h.below.size,fun o P=>absurd (h.lt _ o P) (by omega),_,HJ,.cells z 64 _ <| .d _ _ (wI _) (by rw [Ou,List.length_append];exact Nat.mul_le_mul_right _ hG) fun i x u hx ht=>by
   have hi:i<(A++B).length:=by rw [F.len];exact (gsZ ht).1
   have hx':=cr i _ (ggZ hi);rw [hx] at hx';have hR:=F.at_ i x u (by rw [ggZ hi];exact hx'.symm) ht;exact ⟨hR.mono (fun _ _ P=>P) (fun b o P=>aC.cY Y (h.lt b o P)),Gm _ _ (List.mem_of_getElem? ht)⟩⟩
 refine ⟨_,rfl,_,_,rfl,hk,dI h2 hd ?_⟩
 have:=VR.view (E:={E with w:=w',κ:=upd E.κ (d+st.off) E.w.heap.size,live:=upd E.live (d+st.off) true }) (d+st.off) 0 (a++b).length 4 G (by show upd E.live _ true _=true;exact ai _ _ _) (by rw [List.length_append];exact hG)
 have hκ:upd E.κ (d+st.off) E.w.heap.size (d+st.off)=E.w.heap.size:=ai _ _ _;simp only [hκ,List.length_append] at this;rw [List.length_append];exact this
end Go.ST
end
section
namespace Go.Proofs
open Go.Shelf
def Tryz.ED:Go.Shelf.Ren:=⟨fun|6=>78|15=>121|14=>120|28=>154|29=>155|20=>146|21=>147|22=>148|23=>149|24=>150|25=>151|26=>152|27=>153|46=>177|47=>178|48=>179|49=>180|50=>181|57=>194|n=>n,fun|22=>25|24=>64|25=>73|3=>3|39=>163|0=>0|53=>198|55=>183|4=>4|46=>192|45=>191|50=>124|5=>5|9=>9|66=>220|70=>219|76=>233|77=>234|n=>n,fun|n=>n⟩
theorem Tryz.HU:Go.Proofs.SlLaysF0.n6 Tryz.prog Tryz.ED:={
 mixed:=by kernel_rfl
 f6:=⟨Tryz.f78.name,by decide,Tryz.func78.trans (congrArg some (by kernel_rfl))⟩
 f14:=⟨Tryz.f120.name,by decide,Tryz.func120.trans (congrArg some (by kernel_rfl))⟩
 f15:=Tryz.func121.trans (congrArg some (by kernel_rfl))
 f20:=⟨Tryz.f146.name,by decide,Tryz.func146.trans (congrArg some (by kernel_rfl))⟩
 f21:=⟨Tryz.f147.name,by decide,Tryz.func147.trans (congrArg some (by kernel_rfl))⟩
 f22:=⟨Tryz.f148.name,by decide,Tryz.func148.trans (congrArg some (by kernel_rfl))⟩
 f23:=⟨Tryz.f149.name,by decide,Tryz.func149.trans (congrArg some (by kernel_rfl))⟩
 f24:=⟨Tryz.f150.name,by decide,Tryz.func150.trans (congrArg some (by kernel_rfl))⟩
 f25:=⟨Tryz.f151.name,by decide,Tryz.func151.trans (congrArg some (by kernel_rfl))⟩
 f26:=⟨Tryz.f152.name,by decide,Tryz.func152.trans (congrArg some (by kernel_rfl))⟩
 f27:=⟨Tryz.f153.name,by decide,Tryz.func153.trans (congrArg some (by kernel_rfl))⟩
 f28:=Tryz.func154.trans (congrArg some (by kernel_rfl))
 f29:=Tryz.func155.trans (congrArg some (by kernel_rfl))
 f46:=⟨Tryz.f177.name,by decide,Tryz.func177.trans (congrArg some (by kernel_rfl))⟩
 f47:=Tryz.func178.trans (congrArg some (by kernel_rfl))
 f48:=Tryz.func179.trans (congrArg some (by kernel_rfl))
 f49:=⟨Tryz.f180.name,by decide,Tryz.func180.trans (congrArg some (by kernel_rfl))⟩
 f50:=⟨Tryz.f181.name,by decide,Tryz.func181.trans (congrArg some (by kernel_rfl))⟩
 f57:=⟨Tryz.f194.name,by decide,Tryz.func194.trans (congrArg some (by kernel_rfl))⟩
 t0:=Tryz.underlying0
 a0:=Tryz.isAgg0
 z0:=Tryz.sizeOf0
 v0:=Tryz.zeroValue0
 t3:=Tryz.underlying3
 a3:=Tryz.isAgg3
 z3:=Tryz.sizeOf3
 v3:=Tryz.zeroValue3
 t4:=Tryz.underlying4
 a4:=Tryz.isAgg4
 z4:=Tryz.sizeOf4
 v4:=Tryz.zeroValue4
 t5:=Tryz.underlying5
 a5:=Tryz.isAgg5
 z5:=Tryz.sizeOf5
 v5:=Tryz.zeroValue5
 t9:=Tryz.underlying9
 a9:=Tryz.isAgg9
 z9:=Tryz.sizeOf9
 v9:=Tryz.zeroValue9
 t22:=Tryz.underlying25
 a22:=Tryz.isAgg25
 z22:=Tryz.sizeOf25
 v22:=Tryz.zeroValue25
 t25:=Tryz.underlying73
 a25:=Tryz.isAgg73
 z25:=Tryz.sizeOf73
 v25:=Tryz.zeroValue73
 t39:=Tryz.underlying163
 a39:=Tryz.isAgg163
 z39:=Tryz.sizeOf163
 v39:=Tryz.zeroValue163
 t45:=Tryz.underlying191
 a45:=Tryz.isAgg191
 z45:=Tryz.sizeOf191
 v45:=Tryz.zeroValue191
 t46:=Tryz.underlying192
 a46:=Tryz.isAgg192
 z46:=Tryz.sizeOf192
 v46:=Tryz.zeroValue192
 t50:=Tryz.underlying124
 a50:=Tryz.isAgg124
 z50:=Tryz.sizeOf124
 v50:=Tryz.zeroValue124
 t53:=Tryz.underlying198
 a53:=Tryz.isAgg198
 z53:=Tryz.sizeOf198
 v53:=Tryz.zeroValue198
 t55:=Tryz.underlying183
 a55:=Tryz.isAgg183
 z55:=Tryz.sizeOf183
 v55:=Tryz.zeroValue183
 t66:=Tryz.underlying220
 a66:=Tryz.isAgg220
 z66:=Tryz.sizeOf220
 v66:=Tryz.zeroValue220
 t70:=Tryz.underlying219
 a70:=Tryz.isAgg219
 z70:=Tryz.sizeOf219
 v70:=Tryz.zeroValue219
 t76:=Tryz.underlying233
 a76:=Tryz.isAgg233
 z76:=Tryz.sizeOf233
 v76:=Tryz.zeroValue233
 t77:=Tryz.underlying234
 a77:=Tryz.isAgg234
 z77:=Tryz.sizeOf234
 v77:=Tryz.zeroValue234 }
end Go.Proofs
end
section
namespace Go.ST2
open Go Go.DL Go.Proofs
def l27:LWZ Tryz.prog Tryz.f27 36 [77,78]:=⟨_,lrZ⟩
end Go.ST2
end
section
namespace Go.ST
open Go Go.DL Go.MM Go.Proofs
theorem Jc:mq Tryz.prog 78 4:=
 mq.of Tryz.HU 4 (fun w=>Tryz.isAgg64 w) (fun w=>Tryz.sizeOf64 w) (cP Tryz.func78 rfl rfl)
theorem GL{P:Program}{f:FuncId}{k:Nat}{u:V}{d:Option Nat}{st:St}{K:St->Prop}(q:mq P f k)(r:K (st.set d (.t (.tup [])))):WC P f [.t .nil,u] d st K:=by
 refine ⟨q.callable,fun N B S0 E a vs h b y hd=>?_⟩;have c:vs.size=2:=b;have g:=(y 0 vs[0] _ (by simp [c]) rfl).ax;have m:vs= #[vs[0],vs[1]]:=by
  apply Array.ext
  ·simp [c]
  ·intro i p A
   match i,p with
   |0,_=>rfl
   |1,_=>rfl
   |i+2,p=>omega
 have j:vs[0]= .slice none 0 0:=by
  generalize vs[0]=v at g;cases g;rfl
 have n:=q.none_ none 0 vs[1] E.w;rw [<- j, <-m] at n;refine n.mono ?_;rintro e' w' ⟨rfl,rfl⟩;exact ⟨_,rfl,_,_,rfl,r,dI h hd (.t _ _ (.tup #[] [] rfl fun i x t z=>by simp at z))⟩
def unI:T->Int
 |.int _ i=>i
 |_=>0
def unE:T->RE
 |.agg [.str v,.slice _ ks,.int _ n,.int _ t]=>⟨v,ks.map unI,n,t⟩
 |_=>⟨⟨#[]⟩,[],0,0⟩
theorem C2(e:RE):unE (uS e)=e:=by
 obtain ⟨v,k,n,t⟩:=e;show RE.mk v ((k.map I).map unI) n t=_
 rw [List.map_map,show unI ∘ I=id from rfl,List.map_id]
def cfE(x y:T):Int:=vd (unE x) (unE y)
theorem yB(a b:RE):cfE (uS a) (uS b)=vd a b:=by unfold cfE;rw [C2,C2]
theorem I0{a:List RE}{ys:List T}(h:ys.Perm (a.map uS)): ∃us:List RE,us.Perm a/\ys=us.map uS:=by
 refine ⟨ys.map unE,?_,?_⟩
 ·have:=h.map unE
  rw [List.map_map] at this;rwa [show unE ∘ uS=id from funext C2,List.map_id] at this
 ·rw [List.map_map]
  have:ys.map (uS ∘ unE)=ys.map id:=List.map_congr_left fun y b=>by
   obtain ⟨z,_,rfl⟩:=List.mem_map.1 (h.mem_iff.1 b);show uS (unE (uS z))=uS z
   rw [C2]
  rw [this,List.map_id]
theorem H3{l:List RE}(h: ∃(i:Nat) (hi:i+1<l.length),vd l[i] l[i+1]≠ -1):yt l=false:=by
 cases b:yt l with
 |false=>rfl
 |true=>
  obtain ⟨i,hi,a⟩:=h;exact absurd (List.pairwise_iff_getElem.1 (zC.1 b) i (i+1) (by omega) hi (by omega)) a
theorem IY{l:List RE}(h: ∀(i:Nat) (hi:i+1<l.length),vd l[i] l[i+1]= -1):yt l=true:=by
 induction l with
 |nil=>rfl
 |cons a r c=>
  cases r with
  |nil=>rfl
  |cons b r=>
   show (decide (vd a b= -1)&&yt (b::r))=true
   rw [Bool.and_eq_true];exact ⟨decide_eq_true (h 0 (by simp)),c fun i hi=>h (i+1) (by simpa using hi)⟩
theorem yw{cs vs:List T}{n:Nat}(h:cs.length=n):aP cs 0 n vs=vs:=by
 unfold aP;rw [List.take_zero,List.nil_append,List.drop_eq_nil_of_le (by omega),List.append_nil]
def Qc:Option (List RE)->T
 |some a=>.tup [esT a,I 0]
 |none=>.tup [.nil,I 10]
theorem Kx(a b:List RE)(ha:a.length<2^30)(P:b.length<2^30)(Q: ∀x∈a,kOk x)(S: ∀x∈b,kOk x)(r:T)(e:Int)
  (X: ∀c:List RE,c.Perm (a++b)->(c.Pairwise fun x y=>vd y x≠ -1)->(yt c=true->r=esT c/\e=0)/\(yt c=false->r= .nil/\e=10)):DCalls Tryz.prog 27 [esT a,esT b] (.tup [r,I e]):=by
 refine dl2 mixed [.tmp 4,.tmp 5] [r,I e] Tryz.func27 Go.ST2.l27.2 ?_;have Mg: ∀x∈a++b,kOk x:=fun x u=>(List.mem_append.1 u).elim (Q x) (S x)
 have hlen:(a++b).length<2^31:=by rw [List.length_append];omega
 repeat' ((conv=>whnf);first|refine Iq a b ha P rfl (fun h0=>?_) (fun h0=>?_)|refine aS ?_|fail)
 ·have:=X [] (by rw [h0]) List.Pairwise.nil
  obtain ⟨rfl,rfl⟩:=this.1 rfl;refine rnZ ?_;refine GL Jc ?_;refine rnZ ?_;refine tT 0 (α:=Unit) (β:=Unit) (fun _=>{sl:=[(6,.t .nil),(15,.t (I 0)),(16,.t (I 0))],bx:=[]}) (fun _=>True) (fun _=>0) (fun _=>{sl:=[(6,.t (esT []))],bx:=[]}) (fun _=>True) () trivial ?_ ?_ ?_
  ·exact wkZ
  ·rintro - -;refine rnZ ?_;(exact ⟨(),trivial,by (repeat' (first|(exact LeV.empty 4)|exact wJ|refine And.intro ?_ ?_));done⟩)
  ·rintro - -;exact rcZ
 ·have hfl:=wI (a++b);have q:chunk 4 (a++b).length (((a++b).flatMap uR).drop 0)=(a++b).map uS:=by rw [List.drop_zero];exact Cn _
  have p: ∀x∈(a++b).map uS, ∃e:RE,x=uS e/\kOk e:=fun x u=>by
   obtain ⟨e,K,rfl⟩:=List.mem_map.1 u;exact ⟨e,rfl,Mg e K⟩
  repeat' ((conv=>whnf);first|refine uB (n:=11) (off:=0) (len:=(a++b).length) (k:=4) (m:=(a++b).length * 4) (ts:=(a++b).flatMap uR) Jc rfl (by omega) (by decide) (by omega) (.inl rfl) (cP Tryz.func29 rfl rfl) cfE ?_ ?_ ?_ ?_ (fun ys w D=>?_)|fail)
  ·rw [q];intro x u y w;obtain ⟨e,rfl,K⟩:=p x u;obtain ⟨f,rfl,hf⟩:=p y w;rw [yB];exact ze e f K hf
  ·rw [q];intro x u;obtain ⟨e,rfl,K⟩:=p x u;rw [yB,uZ.refl];decide
  ·rw [q];intro x u y w z M;obtain ⟨e,rfl, -⟩:=p x u;obtain ⟨f,rfl, -⟩:=p y w;obtain ⟨g,rfl, -⟩:=p z M;rw [yB,yB,yB];intro N h2
   have:=uZ.t e f g (by have:=uZ.r e f;omega) (by have:=uZ.r f g;omega)
   omega
  ·rw [q];intro x u y w z M;obtain ⟨e,rfl, -⟩:=p x u;obtain ⟨f,rfl, -⟩:=p y w;obtain ⟨g,rfl, -⟩:=p z M;rw [yB,yB,yB];intro N h2 O;have H:=uZ.r e f;have J:=uZ.r f g;have r3:=uZ.r e g;have s1:=uZ.s e f;have s2:=uZ.s f g;rcases H with H|H|H
   ·omega
   ·have:=uZ.z e f H g;omega
   ·rcases J with J|J|J
    ·omega
    ·have:=uZ.z' J e;omega
    ·have:=uZ.t g f e (by omega) (by omega)
     have:=uZ.s e g
     omega
  ·rw [q] at w;obtain ⟨c,W,rfl⟩:=I0 w;have E:c.Pairwise fun x y=>vd y x≠ -1:=by
    refine (List.pairwise_map.1 D).imp fun {x y} h=>?_
    rw [yB] at h;omega
   obtain ⟨hrt,Z⟩:=X c W E;have G:c.length=(a++b).length:=W.length_eq;have F: ∀x∈c,kOk x:=fun x u=>Mg x (W.mem_iff.1 u)
   have fq:c.flatMap uR=aP ((a++b).flatMap uR) 0 ((a++b).length * 4) ((c.map uS).flatMap T.cells):=by rw [yw (wI _),Ag]
   clear X q p D w;generalize (a++b).length=n at *
   generalize (a++b).flatMap uR=cs at *
   have Y: ∀bx:Nat->Option BX,bx 11=some (.d (n * 4) (aP cs 0 (n * 4) ((c.map uS).flatMap T.cells)))->conv bx (.view 11 0 n 4)=some (esT c,[11]):=fun bx P=>by
    have:conv bx (.view 11 0 n 4)=(match bx 11 with|some (.d m ts)=>cond (Nat.blt 0 4&&Nat.ble (0+n * 4) m) (some (T.slice 4 (chunk 4 n (ts.drop 0)),[11])) none|_=>none):=rfl
    rw [this,P, <-fq];simp only;have N:Nat.ble (0+n * 4) (n * 4)=true:=Nat.ble_eq_true_of_le (by omega);rw [N,List.drop_zero, <-G,Cn c];rfl
   have Mj:((c.map uS).length:Int)=(n:Int):=by rw [List.length_map,G]
   refine tT 0 (α:=Nat) (β:=Unit) (fun i=>{sl:=[(6,.t (esT c)),(15,.t (I n)),(16,.t (I i))],bx:=[]})
    (fun i=>i<=n/\ ∀j (h:j+1<c.length),j+1<i->vd c[j] c[j+1]= -1) (fun i=>n - i)
    (fun _=>{sl:=[(6,.t (esT c))],bx:=[]}) (fun _=>yt c=true) 0 ⟨Nat.zero_le _,fun j _ h=>by omega⟩ ?_ ?_ ?_
   ·repeat' (first|(exact LeV.conv _ _ _ (Y _ rfl) (fun n _ L=>absurd (show n∈([]:List Nat) from L) (by simp)))|exact wJ|refine And.intro ?_ ?_)
   ·rintro i ⟨hi,A⟩;rcases Nat.lt_or_ge i n with h|h
    ·have U:(i:Int)<(n:Int):=by omega
     have C:((i+1:Nat):Int)=IntKind.wrap .i64 ((i:Int)+1):=by rw [oA] <;> omega
     cases i with
     |zero=>
      refine rnZ ?_;(exact ⟨1,⟨h,fun j _ hj=>by omega⟩,(by omega),by (repeat' (first|(exact leI C)|exact wJ|refine And.intro ?_ ?_));done⟩)
     |succ j=>
      have hgt:((j+1:Nat):Int)>0:=by omega
      have B:j<c.length:=by omega
      have v:j+1<c.length:=by omega
      have hw:IntKind.wrap .i64 (((j+1:Nat):Int) - 1)=(j:Int):=by rw [oA] <;> omega
      have hg0:(c.map uS)[(IntKind.wrap .i64 (((j+1:Nat):Int) - 1)).toNat]?.getD .nil= .agg (uR c[j]):=by
       rw [hw,Int.toNat_natCast,vL B]
      have hg1:(c.map uS)[((j+1:Nat):Int).toNat]?.getD .nil= .agg (uR c[j+1]):=by
       rw [Int.toNat_natCast,vL v]
      have hb0:0<=IntKind.wrap .i64 (((j+1:Nat):Int) - 1)/\IntKind.wrap .i64 (((j+1:Nat):Int) - 1)<((c.map uS).length:Int):=by rw [hw,Mj];omega
      have hb1:0<=((j+1:Nat):Int)/\((j+1:Nat):Int)<((c.map uS).length:Int):=by rw [Mj];omega
      have hC:=ze c[j] c[j+1] (F _ (List.getElem_mem B)) (F _ (List.getElem_mem v));have hcr:=uZ.r c[j] c[j+1];have hne:=List.pairwise_iff_getElem.1 E j (j+1) B v (by omega);have hcs:=uZ.s c[j] c[j+1]
      by_cases M:vd c[j] c[j+1]=0
      ·obtain ⟨rfl,rfl⟩:=Z (H3 ⟨j,v,by omega⟩);exact rcZ
      ·have Nu: ∀k (L:k+1<c.length),k+1<j+1+1->vd c[k] c[k+1]= -1:=fun k L hk2=>by
        rcases Nat.lt_or_ge (k+1) (j+1) with O|O
        ·exact A k L O
        ·have:k=j:=by omega
         subst this;omega
       refine rnZ ?_;(exact ⟨j+1+1,⟨h,Nu⟩,(by omega),by (repeat' (first|(exact leI C)|exact wJ|refine And.intro ?_ ?_));done⟩)
    ·have U: ¬(i:Int)<(n:Int):=by omega
     have V:yt c=true:=IY fun j hj=>A j hj (by omega)
     refine rnZ ?_;(exact ⟨(),V,wkZ⟩)
   ·rintro - V;obtain ⟨rfl,rfl⟩:=hrt V;exact rcZ
theorem MU(a b:List RE)(m:vK a)(n:vK b)(p:a.length<2^30)(q:b.length<2^30)(g: ∀x∈a,kOk x)(i: ∀x∈b,kOk x):DCalls Tryz.prog 27 [esT a,esT b] (Qc (D3 a b)):=by
 have k:=fun (f:List RE) (c:f.Perm (a++b)) d=>GO m n c d
 cases h:D3 a b with
 |none=>
  refine Kx a b p q g i .nil 10 fun f c d=>⟨fun j=>?_,fun _=>⟨rfl,rfl⟩⟩
  have:=k f c d
  rw [h,if_pos j] at this;cases this
 |some w=>
  refine Kx a b p q g i (esT w) 0 fun f c d=>⟨fun j=>?_,fun j=>?_⟩
  ·have:=k f c d
   rw [h,if_pos j] at this;cases this;exact ⟨rfl,rfl⟩
  ·have:=k f c d
   rw [h,if_neg (by simp [j])] at this;cases this
end Go.ST
end
section
end
section
namespace Go.ST4
open Go Go.DL Go.Proofs
def l58:LWZ Tryz.prog Tryz.f58 35 [8000031]:=⟨_,lrZ⟩
def l20:LWZ Tryz.prog Tryz.f20 36 [8000033]:=⟨_,lrZ⟩
def Bg:LWZ Tryz.prog Tryz.f106 31 []:=⟨_,lrZ⟩
def w9:LWZ Tryz.prog Tryz.f105 34 []:=⟨_,lrZ⟩
def l52:LWZ Tryz.prog Tryz.f52 37 [105,106]:=⟨_,lrZ⟩
def l53:LWZ Tryz.prog Tryz.f53 13 [105]:=⟨_,lrZ⟩
def l54:LWZ Tryz.prog Tryz.f54 25 []:=⟨_,lrZ⟩
def l55:LWZ Tryz.prog Tryz.f55 90 [105,106]:=⟨_,lrZ⟩
def ON:LWZ Tryz.prog Tryz.f110 19 []:=⟨_,lrZ⟩
def l57:LWZ Tryz.prog Tryz.f57 104 [105]:=⟨_,lrZ⟩
def l61:LWZ Tryz.prog Tryz.f61 31 []:=⟨_,lrZ⟩
def l63:LWZ Tryz.prog Tryz.f63 49 []:=⟨_,lrZ⟩
def l64:LWZ Tryz.prog Tryz.f64 46 []:=⟨_,lrZ⟩
def l59:LWZ Tryz.prog Tryz.f59 78 []:=⟨_,lrZ⟩
def l12:LWZ Tryz.prog Tryz.f12 169 []:=⟨_,lrZ⟩
end Go.ST4
end
section
namespace Go.ST
open Go Go.DL Go.MM Go.Proofs
open Go.TY hiding Fd
abbrev fdc(l:List Fd)(k:ByteArray):T:=.agg [.str (fld l k).name,I (fld l k).a,I (fld l k).w]
theorem ER(l:List Fd)(b:LOk l)(k:ByteArray):DCalls Tryz.prog 107 [fds l,.str k] (.tup [fdc l k,.bool (vf l k)]):=by
 have h:=t74 l k b.len;unfold xB at h;unfold fdc fld vf;cases a:findF l k with
 |none=>rw [a] at h;exact h
 |some F=>rw [a] at h;exact h
theorem CZ(l:List Fd)(b:LOk l)(k:ByteArray):DCalls Tryz.prog 17 [fds l,.str k] (.tup [fdc l k,.bool (vf l k)]):=by
 have h:=t51 l k b.len;unfold xB at h;unfold fdc fld vf;cases a:findF l k with
 |none=>rw [a] at h;exact h
 |some F=>rw [a] at h;exact h
theorem zU{l:List Fd}(b:LOk l){k:ByteArray}(h:vf l k=true):FOk (fld l k):=by
 unfold vf at h;obtain ⟨F,a⟩:=Option.isSome_iff_exists.1 h;rw [xN a];exact b.find a
theorem ten{h:List Int}(m:HOk h): ∃a b c d e f g i j k,h=[a,b,c,d,e,f,g,i,j,k]:=by
 have n:=m.len
 match h,n with
 |[a,b,c,d,e,f,g,i,j,k],_=>exact ⟨a,b,c,d,e,f,g,i,j,k,rfl⟩
theorem D4(l:List Fd)(ks:List ByteArray)(h:List Int){i:Nat}(hi:i<ks.length):(keyOf l (ks.take (i+1)) h).map I=(keyOf l (ks.take i) h).map I++[I (vD (fld l ks[i]) h)]:=by
 unfold keyOf;rw [List.take_succ_eq_append_getElem hi,List.map_append,List.map_append];rfl
theorem N1(l:List Fd)(w:LOk l)(ks:List ByteArray)(y: ∀k∈ks,vf l k=true)(z:ks.length<2^40)(h:List Int)(v:HOk h):DCalls Tryz.prog 58 [fds l,.slice 1 (ks.map .str),hd h] (.tup [.slice 1 ((keyOf l ks h).map I),.bool true]):=by
 refine dl2 mixed [.tmp 6,.tmp 7] [.slice 1 _,.bool true] Tryz.func58 Go.ST4.l58.2 ?_;have A:((ks.map T.str).length:Int)=ks.length:=by rw [List.length_map]
 have x: ∀f,FOk f->DCalls Tryz.prog 108 [fd f,hd h] (I (vD f h)):=fun f b=>t78 f b h v
 obtain ⟨x0,x1,x2,x3,x4,x5,x6,x7,x8,x9,rfl⟩:=ten v;refine rnZ ?_;refine tT 0 (α:=Nat×Nat) (β:=Nat) (fun q=>{sl:=[(0,.t (fds l)),(5,.ptr 5 0),(8,.own q.2 3 1 ((keyOf l (ks.take q.1) [x0,x1,x2,x3,x4,x5,x6,x7,x8,x9]).map I)),(13,.t (.slice 1 (ks.map .str))),(14,.t (I ks.length)),(15,.t (I q.1))],bx:=[(5,.d 10 ([x0,x1,x2,x3,x4,x5,x6,x7,x8,x9].map I))]})
  (fun q=>q.1<=ks.length/\(q.2=8\/q.2=32)) (fun q=>ks.length - q.1) (fun q=>{sl:=[(8,.own q 3 1 ((keyOf l ks [x0,x1,x2,x3,x4,x5,x6,x7,x8,x9]).map I))],bx:=[]}) (fun q=>q=8\/q=32) (0,8) ⟨Nat.zero_le _,Or.inl rfl⟩ ?_ ?_ ?_
 ·exact wkZ
 ·rintro ⟨i,q⟩ ⟨hi,c⟩;dsimp only at hi c;rcases Nat.lt_or_ge i ks.length with h|h
  ·have a:(i:Int)<(ks.length:Int):=by omega
   have b:=y ks[i] (List.getElem_mem h);have u:=ER l w ks[i];rw [b] at u;have j:=x _ (zU w b);have n:((i+1:Nat):Int)=IntKind.wrap .i64 ((i:Int)+1):=by rw [oA] <;> omega
   have p:=D4 l ks [x0,x1,x2,x3,x4,x5,x6,x7,x8,x9] h;have B:((keyOf l (ks.take i) [x0,x1,x2,x3,x4,x5,x6,x7,x8,x9]).map I).length<=2^40:=by unfold keyOf;simp only [List.length_map,List.length_take];omega
   have r:(ks.map T.str)[((i:Int)).toNat]?.getD .nil= .str ks[i]:=by simp [h]
   generalize (keyOf l (ks.take i) [x0,x1,x2,x3,x4,x5,x6,x7,x8,x9]).map I=out at *
   generalize vD (fld l ks[i]) [x0,x1,x2,x3,x4,x5,x6,x7,x8,x9]=g at *
   rcases c with rfl|rfl <;> repeat' ((conv=>whnf);first|refine nr a ?_|(refine nv_ (.str ks[i]) (by first|exact r) ?_)|refine pC _ (u) ?_|refine pC _ (j) ?_|(exact ⟨(i+1,32),⟨h,Or.inr rfl⟩,(by dsimp only;omega),by (repeat' (first|(exact leI n)|(exact rM p)|exact wJ|refine And.intro ?_ ?_));done⟩)|(refine And.intro (by first|((simp only [List.length_cons,List.length_nil];omega);done)|fail) ?_)|refine aS ?_|refine nT_ ?_)
  ·have a: ¬(i:Int)<(ks.length:Int):=by omega
   have m:i=ks.length:=by omega
   have e0:(keyOf l ks [x0,x1,x2,x3,x4,x5,x6,x7,x8,x9]).map I=(keyOf l (ks.take i) [x0,x1,x2,x3,x4,x5,x6,x7,x8,x9]).map I:=by rw [m,List.take_length]
   refine rnZ ?_;(exact ⟨q,c,by (repeat' (first|(exact rM e0)|exact wJ|refine And.intro ?_ ?_));done⟩)
 ·rintro q c;exact rcZ
theorem NV(l:List Fd)(w:LOk l)(ks:List ByteArray)(y: ∀k∈ks,vf l k=true)(z:ks.length<2^40)(h:List Int)(v:HOk h):DCalls Tryz.prog 20 [fds l,.slice 1 (ks.map .str),hd h] (.tup [.slice 1 ((keyOf l ks h).map I),.bool true]):=by
 refine dl2 mixed [.tmp 6,.tmp 7] [.slice 1 _,.bool true] Tryz.func20 Go.ST4.l20.2 ?_;have A:((ks.map T.str).length:Int)=ks.length:=by rw [List.length_map]
 have x: ∀f,FOk f->DCalls Tryz.prog 18 [fd f,hd h] (I (vD f h)):=fun f b=>t57 f b h v
 obtain ⟨x0,x1,x2,x3,x4,x5,x6,x7,x8,x9,rfl⟩:=ten v;refine rnZ ?_;refine tT 0 (α:=Nat×Nat) (β:=Nat) (fun q=>{sl:=[(0,.t (fds l)),(1,.t (.slice 1 (ks.map .str))),(5,.ptr 5 0),(8,.own q.2 3 1 ((keyOf l (ks.take q.1) [x0,x1,x2,x3,x4,x5,x6,x7,x8,x9]).map I)),(9,.t (I q.1))],bx:=[(5,.d 10 ([x0,x1,x2,x3,x4,x5,x6,x7,x8,x9].map I))]})
  (fun q=>q.1<=ks.length/\(q.2=8\/q.2=34)) (fun q=>ks.length - q.1) (fun q=>{sl:=[(8,.own q 3 1 ((keyOf l ks [x0,x1,x2,x3,x4,x5,x6,x7,x8,x9]).map I))],bx:=[]}) (fun q=>q=8\/q=34) (0,8) ⟨Nat.zero_le _,Or.inl rfl⟩ ?_ ?_ ?_
 ·exact wkZ
 ·rintro ⟨i,q⟩ ⟨hi,c⟩;dsimp only at hi c;rcases Nat.lt_or_ge i ks.length with h|h
  ·have a:(i:Int)<((ks.map T.str).length:Int):=by omega
   have b:=y ks[i] (List.getElem_mem h);have u:=CZ l w ks[i];rw [b] at u;have j:=x _ (zU w b);have n:((i+1:Nat):Int)=IntKind.wrap .i64 ((i:Int)+1):=by rw [oA] <;> omega
   have p:=D4 l ks [x0,x1,x2,x3,x4,x5,x6,x7,x8,x9] h;have B:((keyOf l (ks.take i) [x0,x1,x2,x3,x4,x5,x6,x7,x8,x9]).map I).length<=2^40:=by unfold keyOf;simp only [List.length_map,List.length_take];omega
   have r:(ks.map T.str)[((i:Int)).toNat]?.getD .nil= .str ks[i]:=by simp [h]
   generalize (keyOf l (ks.take i) [x0,x1,x2,x3,x4,x5,x6,x7,x8,x9]).map I=out at *
   generalize vD (fld l ks[i]) [x0,x1,x2,x3,x4,x5,x6,x7,x8,x9]=g at *
   rcases c with rfl|rfl <;> repeat' ((conv=>whnf);first|refine nr a ?_|(refine nv_ (.str ks[i]) (by first|exact r) ?_)|refine pC _ (u) ?_|refine pC _ (j) ?_|(exact ⟨(i+1,34),⟨h,Or.inr rfl⟩,(by dsimp only;omega),by (repeat' (first|(exact leI n)|(exact rM p)|exact wJ|refine And.intro ?_ ?_));done⟩)|(refine And.intro (by first|((simp only [List.length_cons,List.length_nil];omega);done)|fail) ?_)|refine aS ?_|refine nT_ ?_)
  ·have a: ¬(i:Int)<((ks.map T.str).length:Int):=by omega
   have m:i=ks.length:=by omega
   have e0:(keyOf l ks [x0,x1,x2,x3,x4,x5,x6,x7,x8,x9]).map I=(keyOf l (ks.take i) [x0,x1,x2,x3,x4,x5,x6,x7,x8,x9]).map I:=by rw [m,List.take_length]
   refine rnZ ?_;(exact ⟨q,c,by (repeat' (first|(exact rM e0)|exact wJ|refine And.intro ?_ ?_));done⟩)
 ·rintro q c;exact rcZ
end Go.ST
end
noncomputable section
namespace Go.ST3
open Go Go.DL Go.Proofs
theorem mx:Tryz.prog.follows .mixedOrders=true:=by kernel_rfl
def b11:Code:=(Tryz.f11.body).getD .skip
theorem Ma:Tryz.f11.body=some b11:=by kernel_rfl
def H8:Code:=jd [0] b11
def KD:aQ:=(rgQ [oo 6 (.box 6 (tm 1)),oo 8 (.box 10 (tm 3)),oo 10 (.alloc [Z0,Z0,Z0,Z0,Z0,Z0,Z0,Z0,Z0,Z0]),oo 11 (.mov kF),oo 12 (.mov (.const .nil))])
theorem NN:bo Tryz.prog 84 [] H8=some KD:=by kernel_rfl
theorem KA[Glb]{st:St}{Q:aF->St->Prop}(a:wpC Tryz.prog KD st Q):bV Tryz.prog 84 H8 st Q:=bV.low mx NN (by kernel_rfl) (by kernel_rfl) a
def H9:Code:=jd [1,0] b11
def KE:aQ:=(sr [fa 17 0 6,ld 18 17,oo 19 (.bin .eql (tm 18) (Kc 0))] (.cond (tm 19) (sr [lA 20 10 8,mv 21 2,o0 (.store 10 (tm 10) (tm 20)),oo 11 (.mov kT),mv 12 21] .ret) .skip))
theorem NO:bo Tryz.prog 84 [] H9=some KE:=by kernel_rfl
theorem KB[Glb]{st:St}{Q:aF->St->Prop}(a:wpC Tryz.prog KE st Q):bV Tryz.prog 84 H9 st Q:=bV.low mx NO (by kernel_rfl) (by kernel_rfl) a
def Ia:Code:=jd [1,1,0] b11
def KF:aQ:=(rgQ [oo 22 (.build [.nilfn,.nilfn,.nilfn,.nilfn,.nilfn,.nilfn,.nilfn] [(0,1,(.const .nilfn)),(1,1,(.const (.clos 52 []))),(2,1,(.const (.clos 53 []))),(3,1,(.const (.clos 54 []))),(4,1,(.const (.clos 55 []))),(5,1,(.const (.clos 56 []))),(6,1,(.const (.clos 57 [])))]),oo 13 (.alloc [.nilfn,.nilfn,.nilfn,.nilfn,.nilfn,.nilfn,.nilfn]),o0 (.store 7 (tm 13) (tm 22))])
theorem NP:bo Tryz.prog 84 [] Ia=some KF:=by kernel_rfl
theorem ND[Glb]{st:St}{Q:aF->St->Prop}(a:wpC Tryz.prog KF st Q):bV Tryz.prog 84 Ia st Q:=bV.low mx NP (by kernel_rfl) (by kernel_rfl) a
def Ib:Code:=jd [1,1,1,0] b11
def KG:aQ:=(rgQ [mv 24 0,fa 25 2 6,ld 26 25,lA 27 10 8,oo 28 (.call 58 [(tm 24),(tm 26),(tm 27)]),mv 23 28,oo 29 (.ext (tm 23) 0),oo 30 (.ext (tm 23) 1),mv 14 29,mv 15 30])
theorem NQ:bo Tryz.prog 84 [] Ib=some KG:=by kernel_rfl
theorem NF[Glb]{st:St}{Q:aF->St->Prop}(a:wpC Tryz.prog KG st Q):bV Tryz.prog 84 Ib st Q:=bV.low mx NQ (by kernel_rfl) (by kernel_rfl) a
def Ic:Code:=jd [1,1,1,1,0] b11
def KH:aQ:=(rgQ [mv 31 0,lA 32 6 6,mv 33 2,lA 34 10 8,mv 35 4,⟨some 36,.build [.nil,Z0,S0,.nil,S0,Z0,Z0,.nil,Z0,Z0,Z0,Z0,Z0,Z0,Z0,Z0,Z0,Z0,Z0,S0,.nil,Z0,Z0,(.bool false)] [(0,1,(tm 31)),(1,6,(tm 32)),(7,1,(tm 33)),(8,10,(tm 34)),(18,1,(tm 35))],none,[]⟩,oo 37 (.box 24 (tm 36)),mv 16 37])
theorem NR:bo Tryz.prog 84 [] Ic=some KH:=by kernel_rfl
theorem NG[Glb]{st:St}{Q:aF->St->Prop}(a:wpC Tryz.prog KH st Q):bV Tryz.prog 84 Ic st Q:=bV.low mx NR (by kernel_rfl) (by kernel_rfl) a
def Ie:Code:=jd [1,1,1,1,1,0] b11
def KI:aQ:=(sr [mv 39 16,mv 40 16,mv 41 2,fa 42 1 6,ld 43 42,mv 44 14,oo 45 (.call 25 [(tm 41),(tm 43),(tm 44)]),mv 38 45,oo 46 (.ext (tm 38) 0),oo 47 (.ext (tm 38) 1),oo 48 (.nilck (tm 39)),fa 49 19 48,o0 (.store 4 (tm 49) (tm 46)),oo 50 (.nilck (tm 40)),fa 51 23 50,o0 (.store 1 (tm 51) (tm 47))] (sr [mv 52 16,oo 53 (.nilck (tm 52)),fa 54 23 53,ld 55 54,oo 56 (.not (tm 55))] (.cond (tm 56) (rgQ [mv 57 16,fa 58 1 6,ld 59 58,mv 60 14,⟨some 61,.build [S0,.nil,Z0,Z0] [(0,1,(tm 59)),(1,1,(tm 60))],none,[]⟩,oo 62 (.nilck (tm 57)),fa 63 19 62,o0 (.store 4 (tm 63) (tm 61))]) .skip)))
theorem NS:bo Tryz.prog 84 [] Ie=some KI:=by kernel_rfl
theorem NH[Glb]{st:St}{Q:aF->St->Prop}(a:wpC Tryz.prog KI st Q):bV Tryz.prog 84 Ie st Q:=bV.low mx NS (by kernel_rfl) (by kernel_rfl) a
def yP:Code:=jd [1,1,1,1,1,1,0,0] b11
theorem Nl:yP= .region 9 (uQ yP) false:=by kernel_rfl
theorem Cf[Glb]{st:St}{Q:aF->St->Prop}(b:bp Tryz.prog [⟨some 64,.offA 0 (.tmp 6),none,[]⟩,⟨some 65,.load 1 false (.tmp 64),none,[]⟩,⟨some 66,.idxA 7 1 (.tmp 13) (.tmp 65),none,[]⟩,⟨some 67,.load 1 false (.tmp 66),none,[]⟩,⟨some 68,.mov (.tmp 16),none,[]⟩] st fun a=>lj Tryz.prog (ev a.sl (.tmp 67)) (List.map (ev a.sl) [(.tmp 68)]) (some 69) a fun s1=>bp Tryz.prog [⟨some 70,.not (.tmp 69),none,[]⟩] s1 (Q .normal)):bV Tryz.prog 84 yP st Q:=by
 rw [Nl];exact bV.uI (k1:=[0,1,2,3,4]) (k:=5) (k2:=[6]) (by kernel_rfl) (by kernel_rfl) (by kernel_rfl) (by kernel_rfl) (by kernel_rfl) (X:=.tmp 67) (az:= #[.tmp 68]) (ats:= #[105]) (d:=69) (by kernel_rfl) rfl rfl (by decide) b
def Eg:Code:=jd [1,1,1,1,1,1,0,1] b11
def KJ:aQ:=(.cond (tm 70) (.seq (.region [lA 71 10 8,mv 72 16,oo 73 (.nilck (tm 72)),fa 74 7 73,ld 75 74,o0 (.store 10 (tm 10) (tm 71)),oo 11 (.mov kF),mv 12 75] [[],[],[],[],[],[4],[],[]]) .ret) .skip)
theorem NT:bo Tryz.prog 84 [] Eg=some KJ:=by kernel_rfl
theorem NI[Glb]{st:St}{Q:aF->St->Prop}(a:wpC Tryz.prog KJ st Q):bV Tryz.prog 84 Eg st Q:=bV.low mx NT (by kernel_rfl) (by kernel_rfl) a
def Eh:Code:=jd [1,1,1,1,1,1,1] b11
def KK:aQ:=(.seq (.region [mv 76 16,oo 77 (.nilck (tm 76)),fa 78 8 77,lA 79 10 78,mv 80 16,oo 81 (.nilck (tm 80)),fa 82 7 81,ld 83 82,o0 (.store 10 (tm 10) (tm 79)),oo 11 (.mov kT),mv 12 83] [[],[],[],[],[],[],[],[],[7],[],[]]) .ret)
theorem NU:bo Tryz.prog 84 [] Eh=some KK:=by kernel_rfl
theorem NJ[Glb]{st:St}{Q:aF->St->Prop}(a:wpC Tryz.prog KK st Q):bV Tryz.prog 84 Eh st Q:=bV.low mx NU (by kernel_rfl) (by kernel_rfl) a
theorem k11:b11=(.seq H8 (.seq H9 (.seq Ia (.seq Ib (.seq Ic (.seq Ie (.seq (.seq yP Eg) Eh))))))):=by kernel_rfl
end Go.ST3
end
section
namespace Go.ST
open Go Go.DL Go.MM Go.Proofs
open Go.TY hiding Fd
theorem WC.toM{P:Program}{f:FuncId}{us:List V}{d:Option Nat}{st:St}{K:St->Prop}(h:WC P f us d st K):WCM P f us d st K:=by
 refine ⟨h.1,fun N n S0 E a vs k b m hd=>(h.2 N n S0 E a vs k b m hd).mono ?_⟩;rintro e w' ⟨v,rfl,c,st',g,i,j⟩;exact ⟨v,rfl,S0,c,st',Ext.refl _,g,i,j⟩
abbrev dL(l:List Fd)(s:RS)(st:List RE)(x0 x1 x2 x3 x4 x5 x6 x7 x8 x9 tick:Int)(e:RE)(is:Bool):List T:=
 [fds l,I s.kind,.str s.var,.slice 1 (s.key.map .str),.str s.field,I s.n,I s.m,esT st,I x0,I x1,I x2,I x3,I x4,I x5,I x6,I x7,I x8,I x9,I tick,.str e.var,.slice 1 (e.key.map I),I e.n,I e.at_,.bool is]
abbrev Mt:List T:=[.nilfn,.clos 52 [],.clos 53 [],.clos 54 [],.clos 55 [],.clos 56 [],.clos 57 []]
abbrev z10:List T:=[I 0,I 0,I 0,I 0,I 0,I 0,I 0,I 0,I 0,I 0]
section
variable (l:List Fd)(s:RS)(st:List RE)(x0 x1 x2 x3 x4 x5 x6 x7 x8 x9 tick:Int)(e:RE)(is:Bool)
abbrev S0:Wk:={sl:=[(6,.ptr 6 0),(8,.ptr 8 0),(10,.ptr 10 0),(13,.ptr 13 0),(16,.ptr 37 0)],bx:=[(6,.d 6 (uX s)),(8,.d 10 [I x0,I x1,I x2,I x3,I x4,I x5,I x6,I x7,I x8,I x9]),(10,.d 10 z10),(13,.d 7 Mt),(37,.d 24 (dL l s st x0 x1 x2 x3 x4 x5 x6 x7 x8 x9 tick e is))]}
abbrev S1(st':List RE)(y0 y1 y2 y3 y4 y5 y6 y7 y8 y9:Int)(e':RE)(pass:Bool):Wk:={sl:=[(8,.ptr 8 0),(10,.ptr 10 0),(16,.ptr 37 0),(70,.t (.bool (!pass)))],bx:=[(8,.d 10 [I x0,I x1,I x2,I x3,I x4,I x5,I x6,I x7,I x8,I x9]),(10,.d 10 z10),(37,.d 24 (dL l s st' y0 y1 y2 y3 y4 y5 y6 y7 y8 y9 tick e' is))]}
end
variable {l:List Fd}{s:RS}{st:List RE}{x0 x1 x2 x3 x4 x5 x6 x7 x8 x9 tick:Int}{e:RE}{is:Bool}
attribute [local irreducible] bV WCM YC
theorem Lb(f:s.kind=3)(b:Bool)(a:b=(is&&decide (e.at_>=tick - s.n)))(p: -2^40<tick/\tick<2^40)(i: -2^40<s.n/\s.n<2^40):
  bV Tryz.prog 84 Go.ST3.yP (S0 l s st x0 x1 x2 x3 x4 x5 x6 x7 x8 x9 tick e is).mk' (fun h s'=>h= .normal/\bX (S1 l s x0 x1 x2 x3 x4 x5 x6 x7 x8 x9 tick is st x0 x1 x2 x3 x4 x5 x6 x7 x8 x9 e b) s'):=by
 obtain ⟨q,k,key,d,n,m⟩:=s;dsimp only at f i a;subst f;have g:IntKind.wrap .i64 (tick - n)=tick - n:=oA (by omega) (by omega);refine Go.ST3.Cf ?_;cases is with
 |false=>
  subst a;refine rnZ ?_;refine WC.toM (uF mixed Tryz.func54 Go.ST4.l54.2 rfl rfl (rs:=[.tmp 2]) rfl 3000 (nlZ rfl) ?_);refine rnZ ?_;refine ⟨_,rfl,?_⟩
  repeat' ((conv=>whnf);first|(exact ⟨rfl,wkZ⟩))
 |true=>
  by_cases c:e.at_>=tick - n
  ·have j:e.at_>=IntKind.wrap .i64 (tick - n):=by rw [g];exact c
   obtain rfl:b=true:=by rw [a,decide_eq_true c];rfl
   refine rnZ ?_;refine WC.toM (uF mixed Tryz.func54 Go.ST4.l54.2 rfl rfl (rs:=[.tmp 2]) rfl 3000 (nlZ rfl) ?_);refine rnZ ?_;refine ⟨_,rfl,?_⟩
   repeat' ((conv=>whnf);first|(exact ⟨rfl,wkZ⟩))
  ·have j: ¬e.at_>=IntKind.wrap .i64 (tick - n):=by rw [g];exact c
   obtain rfl:b=false:=by rw [a,decide_eq_false c];rfl
   refine rnZ ?_;refine WC.toM (uF mixed Tryz.func54 Go.ST4.l54.2 rfl rfl (rs:=[.tmp 2]) rfl 3000 (nlZ rfl) ?_);refine rnZ ?_;refine ⟨_,rfl,?_⟩
   repeat' ((conv=>whnf);first|(exact ⟨rfl,wkZ⟩))
end Go.ST
end
section
namespace Go.ST
open Go Go.DL Go.MM Go.Proofs
open Go.TY hiding Fd
variable {l:List Fd}{s:RS}{st st' o:List RE}{x0 x1 x2 x3 x4 x5 x6 x7 x8 x9 tick:Int}{e:RE}{is:Bool}
attribute [local irreducible] bV WCM YC
theorem Mr(g:s.kind=2)(d:DCalls Tryz.prog 22 [esT st,.str s.var] (esT o))(p:DCalls Tryz.prog 139 [esT st,uS ⟨e.var,e.key,e.n,tick⟩] (esT st'))(a:Bool)(f:a=(!is&&decide (100<=o.length))):
  bV Tryz.prog 84 Go.ST3.yP (S0 l s st x0 x1 x2 x3 x4 x5 x6 x7 x8 x9 tick e is).mk' (fun h s'=>h= .normal/\bX (S1 l s x0 x1 x2 x3 x4 x5 x6 x7 x8 x9 tick is (if a then st else st') x0 x1 x2 x3 x4 x5 x6 x7 x8 x9 ⟨e.var,e.key,e.n,tick⟩ (!a)) s'):=by
 obtain ⟨q,k,key,b,n,m⟩:=s;dsimp only at g d;subst g;have j:((o.map uS).length:Int)=o.length:=by rw [List.length_map]
 refine Go.ST3.Cf ?_;cases is with
 |true=>
  obtain rfl:a=false:=by rw [f];rfl
  refine rnZ ?_;refine WC.toM (uF mixed Tryz.func53 Go.ST4.l53.2 rfl rfl (rs:=[.tmp 2]) rfl 3000 (nlZ rfl) ?_);refine rnZ ?_;refine rnZ ?_;refine uF mixed Tryz.func105 Go.ST4.w9.2 rfl rfl (rs:=[.tmp 2]) rfl 3100 (nlZ rfl) ?_;refine rnZ ?_;refine rnZ ?_;refine ⟨_,rfl,?_⟩
  skip
  refine ⟨_,rfl,?_⟩
  repeat' ((conv=>whnf);first|(exact ⟨rfl,wkZ⟩))
 |false=>
  by_cases c:100<=o.length
  ·obtain rfl:a=true:=by rw [f,decide_eq_true c];rfl
   have i:((o.map uS).length:Int)>=100:=by omega
   refine rnZ ?_;refine WC.toM (uF mixed Tryz.func53 Go.ST4.l53.2 rfl rfl (rs:=[.tmp 2]) rfl 3000 (nlZ rfl) ?_);refine rnZ ?_;refine rnZ ?_;refine uF mixed Tryz.func105 Go.ST4.w9.2 rfl rfl (rs:=[.tmp 2]) rfl 3100 (nlZ rfl) ?_;refine rnZ ?_;refine rnZ ?_;refine ⟨_,rfl,?_⟩
   skip
   refine ⟨_,rfl,?_⟩
   repeat' ((conv=>whnf);first|(exact ⟨rfl,wkZ⟩))
  ·obtain rfl:a=false:=by rw [f,decide_eq_false c];rfl
   have i: ¬((o.map uS).length:Int)>=100:=by omega
   refine rnZ ?_;refine WC.toM (uF mixed Tryz.func53 Go.ST4.l53.2 rfl rfl (rs:=[.tmp 2]) rfl 3000 (nlZ rfl) ?_);refine rnZ ?_;refine rnZ ?_;refine uF mixed Tryz.func105 Go.ST4.w9.2 rfl rfl (rs:=[.tmp 2]) rfl 3100 (nlZ rfl) ?_;refine rnZ ?_;refine rnZ ?_;refine ⟨_,rfl,?_⟩
   skip
   refine ⟨_,rfl,?_⟩
   repeat' ((conv=>whnf);first|(exact ⟨rfl,wkZ⟩))
end Go.ST
end
section
namespace Go.ST
open Go Go.DL Go.MM Go.Proofs
open Go.TY hiding Fd
variable {l:List Fd}{s:RS}{st st' o:List RE}{x0 x1 x2 x3 x4 x5 x6 x7 x8 x9 y0 y1 y2 y3 y4 y5 y6 y7 y8 y9 tick:Int}{e:RE}{is:Bool}
attribute [local irreducible] bV WCM YC
abbrev Ht(w:Nat)(n:Int):Int:=if ((2^w - 1:Nat):Int)<n then ((2^w - 1:Nat):Int) else n
theorem FM(w:Nat)(n:Int):Ht w n=min n ((2^w - 1:Nat):Int):=by
 unfold Ht;split <;> omega
structure Wr (l:List Fd) (field:ByteArray) (h h':List Int) (n:Int):Prop where
 find:DCalls Tryz.prog 107 [fds l,.str field] (.tup [fdc l field,.bool (vf l field)])
 max:vf l field=true->DCalls Tryz.prog 141 [fdc l field] (I ((2^(fld l field).w - 1:Nat):Int))
 set:vf l field=true->DCalls Tryz.prog 140 [fdc l field,hd h,I (Ht (fld l field).w n)] (hd h')
 no:vf l field=false->h'=h
theorem Im{l:List Fd}(c:LOk l)(a:ByteArray){h:List Int}(f:HOk h){n:Int}(g:0<=n):Wr l a h (wrF l h a n) n:=by
 refine ⟨ER l c a,fun b=>t97 _ (zU c b),fun b=>?_,fun b=>?_⟩
 ·have i:=Nat.two_pow_pos (fld l a).w;have d:=t98 _ (zU c b) h f (min n ((2^(fld l a).w - 1:Nat):Int)).toNat (by omega);unfold wrF;rw [if_pos b,FM];rwa [Int.toNat_of_nonneg (by omega)] at d
 ·unfold wrF;rw [b];rfl
theorem Lc(r:s.kind=1)(i:DCalls Tryz.prog 22 [esT st,.str s.var] (esT o))(N:Int)(v:(if (65535:Int)<IntKind.wrap .i64 (e.n+1) then 65535 else IntKind.wrap .i64 (e.n+1))=N)(y:DCalls Tryz.prog 139 [esT st,uS ⟨e.var,e.key,N,tick⟩] (esT st'))(a:Bool)(g:a=(!is&&decide (100<=o.length)))
  (t:Wr l s.field [x0,x1,x2,x3,x4,x5,x6,x7,x8,x9] [y0,y1,y2,y3,y4,y5,y6,y7,y8,y9] N):
  bV Tryz.prog 84 Go.ST3.yP (S0 l s st x0 x1 x2 x3 x4 x5 x6 x7 x8 x9 tick e is).mk' (fun u s'=>u= .normal/\((a=true/\bX (S1 l s x0 x1 x2 x3 x4 x5 x6 x7 x8 x9 tick is st x0 x1 x2 x3 x4 x5 x6 x7 x8 x9 ⟨e.var,e.key,N,tick⟩ false) s')\/(a=false/\bX (S1 l s x0 x1 x2 x3 x4 x5 x6 x7 x8 x9 tick is st' y0 y1 y2 y3 y4 y5 y6 y7 y8 y9 ⟨e.var,e.key,N,tick⟩ true) s'))):=by
 obtain ⟨z,x,key,d,n,m⟩:=s;dsimp only at r i t;subst r;subst v;have w:((o.map uS).length:Int)=o.length:=by rw [List.length_map]
 obtain ⟨k,p,q,f⟩:=t;refine Go.ST3.Cf ?_
 by_cases c:a=true
 ·subst c;cases is with
  |true=>cases g
  |false=>
   have c:100<=o.length:=by
    by_cases c:100<=o.length
    ·exact c
    ·rw [decide_eq_false c] at g;cases g
   have j:((o.map uS).length:Int)>=100:=by omega
   refine rnZ ?_;refine WC.toM (uF mixed Tryz.func52 Go.ST4.l52.2 rfl rfl (rs:=[.tmp 2]) rfl 3000 (nlZ rfl) ?_);refine rnZ ?_;refine rnZ ?_;refine uF mixed Tryz.func105 Go.ST4.w9.2 rfl rfl (rs:=[.tmp 2]) rfl 3100 (nlZ rfl) ?_;refine rnZ ?_;refine rnZ ?_;refine ⟨_,rfl,?_⟩
   skip
   refine ⟨_,rfl,?_⟩
   repeat' ((conv=>whnf);first|(exact ⟨rfl,Or.inl ⟨rfl,wkZ⟩⟩))
 ·have c:a=false:=by simpa using c
  subst c;have h:(is=true)\/(is=false/\ ¬((o.map uS).length:Int)>=100):=by
   cases is with
   |true=>exact Or.inl rfl
   |false=>
    refine Or.inr ⟨rfl,fun j=>?_⟩;rw [decide_eq_true (by omega)] at g;cases g
  cases b:vf l d with
  |true=>
   have p:=p b;have q:=q b;rw [b] at k;rcases h with rfl|⟨rfl,j⟩
   ·refine rnZ ?_;refine WC.toM (uF mixed Tryz.func52 Go.ST4.l52.2 rfl rfl (rs:=[.tmp 2]) rfl 3000 (nlZ rfl) ?_);refine rnZ ?_;refine rnZ ?_;refine uF mixed Tryz.func105 Go.ST4.w9.2 rfl rfl (rs:=[.tmp 2]) rfl 3100 (nlZ rfl) ?_;refine rnZ ?_;refine rnZ ?_;refine ⟨_,rfl,?_⟩;refine rnZ ?_;refine uF mixed Tryz.func106 Go.ST4.Bg.2 rfl rfl (rs:=[]) rfl 3200 (nlZ rfl) ?_;refine rnZ ?_;refine rnZ ?_;refine ⟨_,rfl,?_⟩
    skip
    refine ⟨_,rfl,?_⟩
    repeat' ((conv=>whnf);first|(exact ⟨rfl,Or.inr ⟨rfl,wkZ⟩⟩))
   ·refine rnZ ?_;refine WC.toM (uF mixed Tryz.func52 Go.ST4.l52.2 rfl rfl (rs:=[.tmp 2]) rfl 3000 (nlZ rfl) ?_);refine rnZ ?_;refine rnZ ?_;refine uF mixed Tryz.func105 Go.ST4.w9.2 rfl rfl (rs:=[.tmp 2]) rfl 3100 (nlZ rfl) ?_;refine rnZ ?_;refine rnZ ?_;refine ⟨_,rfl,?_⟩;refine rnZ ?_;refine uF mixed Tryz.func106 Go.ST4.Bg.2 rfl rfl (rs:=[]) rfl 3200 (nlZ rfl) ?_;refine rnZ ?_;refine rnZ ?_;refine ⟨_,rfl,?_⟩
    skip
    refine ⟨_,rfl,?_⟩
    repeat' ((conv=>whnf);first|(exact ⟨rfl,Or.inr ⟨rfl,wkZ⟩⟩))
  |false=>
   have f:=f b;cases f;rw [b] at k;rcases h with rfl|⟨rfl,j⟩
   ·refine rnZ ?_;refine WC.toM (uF mixed Tryz.func52 Go.ST4.l52.2 rfl rfl (rs:=[.tmp 2]) rfl 3000 (nlZ rfl) ?_);refine rnZ ?_;refine rnZ ?_;refine uF mixed Tryz.func105 Go.ST4.w9.2 rfl rfl (rs:=[.tmp 2]) rfl 3100 (nlZ rfl) ?_;refine rnZ ?_;refine rnZ ?_;refine ⟨_,rfl,?_⟩;refine rnZ ?_;refine uF mixed Tryz.func106 Go.ST4.Bg.2 rfl rfl (rs:=[]) rfl 3200 (nlZ rfl) ?_;refine rnZ ?_;refine rnZ ?_;refine ⟨_,rfl,?_⟩
    skip
    refine ⟨_,rfl,?_⟩
    repeat' ((conv=>whnf);first|(exact ⟨rfl,Or.inr ⟨rfl,wkZ⟩⟩))
   ·refine rnZ ?_;refine WC.toM (uF mixed Tryz.func52 Go.ST4.l52.2 rfl rfl (rs:=[.tmp 2]) rfl 3000 (nlZ rfl) ?_);refine rnZ ?_;refine rnZ ?_;refine uF mixed Tryz.func105 Go.ST4.w9.2 rfl rfl (rs:=[.tmp 2]) rfl 3100 (nlZ rfl) ?_;refine rnZ ?_;refine rnZ ?_;refine ⟨_,rfl,?_⟩;refine rnZ ?_;refine uF mixed Tryz.func106 Go.ST4.Bg.2 rfl rfl (rs:=[]) rfl 3200 (nlZ rfl) ?_;refine rnZ ?_;refine rnZ ?_;refine ⟨_,rfl,?_⟩
    skip
    refine ⟨_,rfl,?_⟩
    repeat' ((conv=>whnf);first|(exact ⟨rfl,Or.inr ⟨rfl,wkZ⟩⟩))
end Go.ST
end
section
namespace Go.ST
open Go Go.DL Go.MM Go.Proofs
open Go.TY hiding Fd
variable {l:List Fd}{s:RS}{st st' o:List RE}{x0 x1 x2 x3 x4 x5 x6 x7 x8 x9 tick:Int}{e:RE}{is:Bool}
attribute [local irreducible] bV WCM YC
abbrev W64(n:Int):Int:=IntKind.wrap .i64 n
abbrev wV(tick a m:Int):Int:=W64 ((if W64 (tick - a)>0 then W64 (tick - a) else 0).tdiv m)
abbrev Kl(n m tick b a:Int):Int×Int:=if W64 (b+wV tick a m)>=n then (n,tick) else (W64 (b+wV tick a m),W64 (a+W64 (wV tick a m * m)))
theorem Ld(w:s.kind=6)(z:s.m≠0)(p k g h:Int)(r:p=if is then e.n else s.n)(j:k=if is then e.at_ else tick)(f:Kl s.n s.m tick p k=(g,h))(v:Int)(b:v=if g>0 then W64 (g - 1) else g)
  (t:DCalls Tryz.prog 22 [esT st,.str s.var] (esT o)) (C:DCalls Tryz.prog 139 [esT st,uS ⟨e.var,e.key,v,h⟩] (esT st')) (d:Bool) (u:d=(!is&&decide (100<=o.length))):
  bV Tryz.prog 84 Go.ST3.yP (S0 l s st x0 x1 x2 x3 x4 x5 x6 x7 x8 x9 tick e is).mk' (fun y s'=>y= .normal/\bX (S1 l s x0 x1 x2 x3 x4 x5 x6 x7 x8 x9 tick is (if d then st else st') x0 x1 x2 x3 x4 x5 x6 x7 x8 x9 ⟨e.var,e.key,v,h⟩ (!d&&decide (g>0))) s'):=by
 obtain ⟨D,B,key,q,n,m⟩:=s;dsimp only at w t z r j f;subst w;have A:((o.map uS).length:Int)=o.length:=by rw [List.length_map]
 refine Go.ST3.Cf ?_;cases is with
 |true=>
  obtain rfl:d=false:=by rw [u];rfl
  obtain rfl:p=e.n:=r;obtain rfl:k=e.at_:=j
  by_cases i:W64 (e.n+wV tick e.at_ m)>=n
  ·have f:(n,tick)=(g,h):=by rw [<- f];exact (if_pos i).symm
   obtain ⟨rfl,rfl⟩:=Prod.mk.injEq .. ▸f
   by_cases a:n>0
   ·rw [if_pos a] at b;subst b;rw [decide_eq_true a];refine rnZ ?_;refine WC.toM (uF mixed Tryz.func57 Go.ST4.l57.2 rfl rfl (rs:=[.tmp 2]) rfl 3000 (nlZ rfl) ?_);refine rnZ ?_;refine rnZ ?_;refine uF mixed Tryz.func105 Go.ST4.w9.2 rfl rfl (rs:=[.tmp 2]) rfl 3100 (nlZ rfl) ?_;refine rnZ ?_;refine rnZ ?_;refine ⟨_,rfl,?_⟩
    skip
    refine ⟨_,rfl,?_⟩
    repeat' ((conv=>whnf);first|(exact ⟨rfl,wkZ⟩))
   ·rw [if_neg a] at b;subst b;rw [decide_eq_false a];refine rnZ ?_;refine WC.toM (uF mixed Tryz.func57 Go.ST4.l57.2 rfl rfl (rs:=[.tmp 2]) rfl 3000 (nlZ rfl) ?_);refine rnZ ?_;refine rnZ ?_;refine uF mixed Tryz.func105 Go.ST4.w9.2 rfl rfl (rs:=[.tmp 2]) rfl 3100 (nlZ rfl) ?_;refine rnZ ?_;refine rnZ ?_;refine ⟨_,rfl,?_⟩
    skip
    refine ⟨_,rfl,?_⟩
    repeat' ((conv=>whnf);first|(exact ⟨rfl,wkZ⟩))
  ·have f:(W64 (e.n+wV tick e.at_ m),W64 (e.at_+W64 (wV tick e.at_ m * m)))=(g,h):=by rw [<- f];exact (if_neg i).symm
   obtain ⟨rfl,rfl⟩:=Prod.mk.injEq .. ▸f
   by_cases a:W64 (e.n+wV tick e.at_ m)>0
   ·rw [if_pos a] at b;subst b;rw [decide_eq_true a];refine rnZ ?_;refine WC.toM (uF mixed Tryz.func57 Go.ST4.l57.2 rfl rfl (rs:=[.tmp 2]) rfl 3000 (nlZ rfl) ?_);refine rnZ ?_;refine rnZ ?_;refine uF mixed Tryz.func105 Go.ST4.w9.2 rfl rfl (rs:=[.tmp 2]) rfl 3100 (nlZ rfl) ?_;refine rnZ ?_;refine rnZ ?_;refine ⟨_,rfl,?_⟩
    skip
    refine ⟨_,rfl,?_⟩
    repeat' ((conv=>whnf);first|(exact ⟨rfl,wkZ⟩))
   ·rw [if_neg a] at b;subst b;rw [decide_eq_false a];refine rnZ ?_;refine WC.toM (uF mixed Tryz.func57 Go.ST4.l57.2 rfl rfl (rs:=[.tmp 2]) rfl 3000 (nlZ rfl) ?_);refine rnZ ?_;refine rnZ ?_;refine uF mixed Tryz.func105 Go.ST4.w9.2 rfl rfl (rs:=[.tmp 2]) rfl 3100 (nlZ rfl) ?_;refine rnZ ?_;refine rnZ ?_;refine ⟨_,rfl,?_⟩
    skip
    refine ⟨_,rfl,?_⟩
    repeat' ((conv=>whnf);first|(exact ⟨rfl,wkZ⟩))
 |false=>
  obtain rfl:n=p:=r.symm;obtain rfl:tick=k:=j.symm
  by_cases c:100<=o.length
  ·have x:((o.map uS).length:Int)>=100:=by omega
   obtain rfl:d=true:=by rw [u,decide_eq_true c];rfl
   by_cases i:W64 (n+wV tick tick m)>=n
   ·have f:(n,tick)=(g,h):=by rw [<- f];exact (if_pos i).symm
    obtain ⟨rfl,rfl⟩:=Prod.mk.injEq .. ▸f
    by_cases a:n>0
    ·rw [if_pos a] at b;subst b;rw [decide_eq_true a];refine rnZ ?_;refine WC.toM (uF mixed Tryz.func57 Go.ST4.l57.2 rfl rfl (rs:=[.tmp 2]) rfl 3000 (nlZ rfl) ?_);refine rnZ ?_;refine rnZ ?_;refine uF mixed Tryz.func105 Go.ST4.w9.2 rfl rfl (rs:=[.tmp 2]) rfl 3100 (nlZ rfl) ?_;refine rnZ ?_;refine rnZ ?_;refine ⟨_,rfl,?_⟩
     skip
     refine ⟨_,rfl,?_⟩
     repeat' ((conv=>whnf);first|(exact ⟨rfl,wkZ⟩))
    ·rw [if_neg a] at b;subst b;rw [decide_eq_false a];refine rnZ ?_;refine WC.toM (uF mixed Tryz.func57 Go.ST4.l57.2 rfl rfl (rs:=[.tmp 2]) rfl 3000 (nlZ rfl) ?_);refine rnZ ?_;refine rnZ ?_;refine uF mixed Tryz.func105 Go.ST4.w9.2 rfl rfl (rs:=[.tmp 2]) rfl 3100 (nlZ rfl) ?_;refine rnZ ?_;refine rnZ ?_;refine ⟨_,rfl,?_⟩
     skip
     refine ⟨_,rfl,?_⟩
     repeat' ((conv=>whnf);first|(exact ⟨rfl,wkZ⟩))
   ·have f:(W64 (n+wV tick tick m),W64 (tick+W64 (wV tick tick m * m)))=(g,h):=by rw [<- f];exact (if_neg i).symm
    obtain ⟨rfl,rfl⟩:=Prod.mk.injEq .. ▸f
    by_cases a:W64 (n+wV tick tick m)>0
    ·rw [if_pos a] at b;subst b;rw [decide_eq_true a];refine rnZ ?_;refine WC.toM (uF mixed Tryz.func57 Go.ST4.l57.2 rfl rfl (rs:=[.tmp 2]) rfl 3000 (nlZ rfl) ?_);refine rnZ ?_;refine rnZ ?_;refine uF mixed Tryz.func105 Go.ST4.w9.2 rfl rfl (rs:=[.tmp 2]) rfl 3100 (nlZ rfl) ?_;refine rnZ ?_;refine rnZ ?_;refine ⟨_,rfl,?_⟩
     skip
     refine ⟨_,rfl,?_⟩
     repeat' ((conv=>whnf);first|(exact ⟨rfl,wkZ⟩))
    ·rw [if_neg a] at b;subst b;rw [decide_eq_false a];refine rnZ ?_;refine WC.toM (uF mixed Tryz.func57 Go.ST4.l57.2 rfl rfl (rs:=[.tmp 2]) rfl 3000 (nlZ rfl) ?_);refine rnZ ?_;refine rnZ ?_;refine uF mixed Tryz.func105 Go.ST4.w9.2 rfl rfl (rs:=[.tmp 2]) rfl 3100 (nlZ rfl) ?_;refine rnZ ?_;refine rnZ ?_;refine ⟨_,rfl,?_⟩
     skip
     refine ⟨_,rfl,?_⟩
     repeat' ((conv=>whnf);first|(exact ⟨rfl,wkZ⟩))
  ·have x: ¬((o.map uS).length:Int)>=100:=by omega
   obtain rfl:d=false:=by rw [u,decide_eq_false c];rfl
   by_cases i:W64 (n+wV tick tick m)>=n
   ·have f:(n,tick)=(g,h):=by rw [<- f];exact (if_pos i).symm
    obtain ⟨rfl,rfl⟩:=Prod.mk.injEq .. ▸f
    by_cases a:n>0
    ·rw [if_pos a] at b;subst b;rw [decide_eq_true a];refine rnZ ?_;refine WC.toM (uF mixed Tryz.func57 Go.ST4.l57.2 rfl rfl (rs:=[.tmp 2]) rfl 3000 (nlZ rfl) ?_);refine rnZ ?_;refine rnZ ?_;refine uF mixed Tryz.func105 Go.ST4.w9.2 rfl rfl (rs:=[.tmp 2]) rfl 3100 (nlZ rfl) ?_;refine rnZ ?_;refine rnZ ?_;refine ⟨_,rfl,?_⟩
     skip
     refine ⟨_,rfl,?_⟩
     repeat' ((conv=>whnf);first|(exact ⟨rfl,wkZ⟩))
    ·rw [if_neg a] at b;subst b;rw [decide_eq_false a];refine rnZ ?_;refine WC.toM (uF mixed Tryz.func57 Go.ST4.l57.2 rfl rfl (rs:=[.tmp 2]) rfl 3000 (nlZ rfl) ?_);refine rnZ ?_;refine rnZ ?_;refine uF mixed Tryz.func105 Go.ST4.w9.2 rfl rfl (rs:=[.tmp 2]) rfl 3100 (nlZ rfl) ?_;refine rnZ ?_;refine rnZ ?_;refine ⟨_,rfl,?_⟩
     skip
     refine ⟨_,rfl,?_⟩
     repeat' ((conv=>whnf);first|(exact ⟨rfl,wkZ⟩))
   ·have f:(W64 (n+wV tick tick m),W64 (tick+W64 (wV tick tick m * m)))=(g,h):=by rw [<- f];exact (if_neg i).symm
    obtain ⟨rfl,rfl⟩:=Prod.mk.injEq .. ▸f
    by_cases a:W64 (n+wV tick tick m)>0
    ·rw [if_pos a] at b;subst b;rw [decide_eq_true a];refine rnZ ?_;refine WC.toM (uF mixed Tryz.func57 Go.ST4.l57.2 rfl rfl (rs:=[.tmp 2]) rfl 3000 (nlZ rfl) ?_);refine rnZ ?_;refine rnZ ?_;refine uF mixed Tryz.func105 Go.ST4.w9.2 rfl rfl (rs:=[.tmp 2]) rfl 3100 (nlZ rfl) ?_;refine rnZ ?_;refine rnZ ?_;refine ⟨_,rfl,?_⟩
     skip
     refine ⟨_,rfl,?_⟩
     repeat' ((conv=>whnf);first|(exact ⟨rfl,wkZ⟩))
    ·rw [if_neg a] at b;subst b;rw [decide_eq_false a];refine rnZ ?_;refine WC.toM (uF mixed Tryz.func57 Go.ST4.l57.2 rfl rfl (rs:=[.tmp 2]) rfl 3000 (nlZ rfl) ?_);refine rnZ ?_;refine rnZ ?_;refine uF mixed Tryz.func105 Go.ST4.w9.2 rfl rfl (rs:=[.tmp 2]) rfl 3100 (nlZ rfl) ?_;refine rnZ ?_;refine rnZ ?_;refine ⟨_,rfl,?_⟩
     skip
     refine ⟨_,rfl,?_⟩
     repeat' ((conv=>whnf);first|(exact ⟨rfl,wkZ⟩))
end Go.ST
end
section
namespace Go.ST5
open Go Go.DL Go.Proofs
def l56:LWZ Tryz.prog Tryz.f56 62 [106,109]:=⟨_,lrZ⟩
end Go.ST5
end
section
namespace Go.ST
open Go Go.DL Go.MM
open Go.TY hiding Fd
def Ql(n m N A t:Int):Int×Int:=if N+(if t>A then (t - A).tdiv m else 0)>=n then (n,t) else (N+(if t>A then (t - A).tdiv m else 0),A+(if t>A then (t - A).tdiv m else 0) * m)
theorem Ji{n m N A t:Int}(r:1<=n)(p:1<=m)(j:0<=N)(k:0<=A)(g:A<=t): ∃q:Int,0<=q/\q * m<=t - A/\(m<=t - A->1<=q)/\t - A<(q+1) * m/\Ql n m N A t=(if N+q>=n then (n,t) else (N+q,A+q * m)):=by
 refine ⟨if t>A then (t - A).tdiv m else 0,?_,?_,?_,?_,rfl⟩
 all_goals
  by_cases h:t>A
  ·rw [if_pos h,Int.tdiv_eq_ediv_of_nonneg (by omega)];have d:=Int.ediv_nonneg (a:=t - A) (b:=m) (by omega) (by omega);have f:=Int.ediv_mul_le (t - A) (b:=m) (by omega);have c:=Int.lt_ediv_add_one_mul_self (t - A) (b:=m) (by omega)
   first
    |exact d
    |exact f
    |exact c
    |(intro u
      generalize (t - A) / m=q at *
      by_cases i:q<=0
      ·have:q=0:=by omega
       subst this;simp at c;omega
      ·omega)
  ·rw [if_neg h]
   first|omega|(simp;omega)
structure CM (l:List Fd) (vars:List RV) (s:RS):Prop where
 k0:1<=s.kind
 k1:s.kind<=6
 keys: ∀k∈s.key,vf l k=true
 klen:s.key.length<=1000
 var: ∃v,varOf vars s.var=some v/\v.fam=wU s.kind/\v.ws=vI l s/\(s.kind=4->v.n=s.n/\v.m=s.m)/\(s.kind=6->v.n=s.n)
 k3:s.kind=3->0<=s.n/\s.n<=1073741824
 k4:s.kind=4->0<=s.n/\s.n<=65535/\s.n<=s.m/\s.m<=65535/\vf l s.field=true/\s.m<=((2^(fld l s.field).w - 1:Nat):Int)
 k5:s.kind=5->vf l s.field=true
 k6:s.kind=6->1<=s.n/\s.n<=65535/\1<=s.m/\s.m<=1073741824
theorem JN{l:List Fd}(h:LOk l){k:ByteArray}(a:vf l k=true):FOk (MM.fld l k):=by
 unfold vf at a;obtain ⟨f,a⟩:=Option.isSome_iff_exists.1 a;rw [xN a];exact h.find a
theorem F2{l:List Fd}{h:List Int}: ∀(a:List ByteArray),wX (keyOf l a h) (a.map fun k=>((fld l k).w:Int))=true
 |[]=>rfl
 |k::ks=>by
  have b:=Ey (fld l k) h;show wX ((vD (fld l k) h:Int)::keyOf l ks h) (((fld l k).w:Int)::ks.map fun k=>((fld l k).w:Int))=true
  rw [wX,F2 ks,Int.toNat_natCast];simp only [Bool.and_true,Bool.and_eq_true,decide_eq_true_eq];refine ⟨by omega,?_⟩
  have:((2^(fld l k).w:Nat):Int)=2^(fld l k).w:=by simp
  omega
theorem Kp{l:List Fd}{vars:List RV}{s:RS}{st:List RE}{h:List Int}{tick:Int}(z:LOk l)(m:vf l ⟨#[]⟩=false)(y:HOk h)(j:OkS vars st)(k:st.length<=1000000)(q:0<=tick)(r:tick<=1073741824)(f:CM l vars s):DO l s st h tick:=by
 refine ⟨z,m,y,j.inc,k,fun e g=>⟨(j.fit e g).n0,(j.fit e g).n1,(j.fit e g).a0,(j.fit e g).a1⟩,q,r,by have:=f.k0;omega,f.k1,f.keys,f.klen,f.k3,fun t=>?_,fun u=>⟨f.k5 u,fun e g A=>?_⟩,f.k6⟩
 ·obtain ⟨a,b,c,d, -, -⟩:=f.k4 t;exact ⟨a,b,c,d⟩
 ·obtain ⟨v,D,G,E, -⟩:=f.var;obtain ⟨w,p,F, -⟩:=(j.fit e g).ex;rw [A,D] at p;cases p;obtain ⟨n,C⟩:=Dv.1 F;refine ⟨by rw [n,E];unfold vI;simp,fun x B=>?_⟩;obtain ⟨i,hi,rfl⟩:=List.getElem_of_mem B;exact (C i e.key[i] (v.ws[i]'(by rw [<- n];exact hi)) (ggZ hi) (ggZ _)).1
theorem yN{l:List Fd}(c:LOk l){h:List Int}(a:HOk h){name:ByteArray}{n:Int}(d:0<=n):HOk (wrF l h name n):=by
 unfold wrF;cases b:vf l name with
 |false=>simpa using a
 |true=>
  rw [if_pos rfl]
  have:=Nat.two_pow_pos (fld l name).w
  exact a.set (JN c b) (by omega)
theorem Aw{l:List Fd}(a:LOk l): ∀{ks:List ByteArray} {vs:List Int} {h:List Int},HOk h->(∀ x∈vs,0<=x)->HOk (xZ l ks vs h)
 |[],_,h,hh,_=>hh
 |_::_,[],h,hh,_=>hh
 |k::ks,v::vs,h,hh,hv=>show HOk (xZ l ks vs (wrF l h k v)) from Aw a (yN a hh (hv v (by simp))) fun x b=>hv x (by simp [b])
theorem LO{l:List Fd}{vars:List RV}{s:RS}{st:List RE}{tick:Int}{key:List Int}(C:OkS vars st)(g:CM l vars s)(f:s.kind=6)(P:0<=tick)(Q:tick<=1073741824):
  0<=(yZ s (vh st s.var key) key tick).n/\(yZ s (vh st s.var key) key tick).n<=s.n/\0<=(yZ s (vh st s.var key) key tick).at_/\(yZ s (vh st s.var key) key tick).at_<=1073741824:=by
 obtain ⟨F,T,G,U⟩:=g.k6 f;have d: ∀(e:RE),0<=e.n->0<=e.at_->e.at_<=1073741824->e.n<=s.n->0<=(xi s e tick).n/\(xi s e tick).n<=s.n/\0<=(xi s e tick).at_/\(xi s e tick).at_<=1073741824:=by
  intro e e0 p L M
  by_cases i:tick>e.at_
  ·obtain ⟨q,V,W,X,Y,Z⟩:=Ji (n:=s.n) (m:=s.m) (N:=e.n) (A:=e.at_) (t:=tick) F G e0 p (by omega);have S:(if tick>e.at_ then (tick - e.at_).tdiv s.m else 0)=q\/True:=Or.inr trivial;have D:=Int.ediv_nonneg (a:=tick - e.at_) (b:=s.m) (by omega) (by omega);have E:=Int.ediv_mul_le (tick - e.at_) (b:=s.m) (by omega);unfold xi;dsimp only;rw [if_pos i,Int.tdiv_eq_ediv_of_nonneg (by omega)];generalize (tick - e.at_) / s.m=k at *
   have z:=Int.mul_nonneg D (show (0:Int)<=s.m by omega);split <;> (dsimp only;omega)
  ·unfold xi;dsimp only;rw [if_neg i];split <;> (dsimp only;omega)
 unfold yZ;cases y:vh st s.var key with
 |none=>exact d _ (by dsimp [Option.getD];omega) (by dsimp [Option.getD];omega) (by dsimp [Option.getD];omega) (by dsimp [Option.getD];omega)
 |some e=>
  obtain ⟨r,u,O⟩:=xA y;have c:=C.fit e r;obtain ⟨v,H,I,v3,v4,J⟩:=g.var;obtain ⟨w,j,w2,w3,w4,K⟩:=c.ex;rw [u,H] at j;cases j;have x:v.fam=4:=by rw [I,f];decide
  have B:e.n<=s.n:=by
   have:=J f
   rcases K x with h|h <;> omega
  exact d e c.n0 c.a0 c.a1 B
theorem Iy{l:List Fd}{vars:List RV}{s:RS}{st:List RE}{h:List Int}{tick:Int}(L:LOk l)(t:HOk h)(z:OkS vars st)(u:0<=tick)(K:tick<=1073741824)(I:CM l vars s):
  OkS vars (doE l s st h tick).st/\HOk (doE l s st h tick).h/\xY (doE l s st h tick).st s.var=xY st s.var/\((doE l s st h tick).pass=false->(doE l s st h tick).h=h):=by
 obtain ⟨v,M,T,v3,v4,v5⟩:=I.var;have hk:=F2 (l:=l) (h:=h) s.key;rw [show (s.key.map fun k=>((fld l k).w:Int))=v.ws from v3.symm] at hk;have put: ∀(n a:Int),0<=n->n<=65535->0<=a->a<=1073741824->(v.fam=2->n=0)->(v.fam=3->v.n<=n/\n<=v.m)->(v.fam=4->v.n=0\/n<=v.n)->wa (vh st s.var (keyOf l s.key h)) (ofE st s.var)=false->
   (v.fam=3-> ∀x∈st,x.var=s.var->vd x ⟨s.var,keyOf l s.key h,n,a⟩≠0->x.n≠n)->OkS vars (vQ ⟨s.var,keyOf l s.key h,n,a⟩ st)/\xY (vQ ⟨s.var,keyOf l s.key h,n,a⟩ st) s.var=xY st s.var:=by
  intro n a n0 n1 a0 a1 f2 f3 f4 f hun;refine ⟨z.put ⟨⟨v,M,hk,f2,f3,f4⟩,n0,n1,a0,a1⟩ ?_ ?_,GJ z.inc rfl⟩
  ·unfold wa at f;cases p:vh st s.var (keyOf l s.key h) with
   |some x=>exact Or.inl rfl
   |none=>
    rw [p] at f;right;simp at f;exact f
  ·rintro ⟨v',N,U⟩ x F d y;have e:some v'=some v:=N.symm.trans M;cases e;exact hun U x F d y
 have G: ∀e,vh st s.var (keyOf l s.key h)=some e->e∈st/\e.var=s.var/\e.key=keyOf l s.key h/\0<=e.n/\e.n<=65535/\(v.fam=2->e.n=0)/\(v.fam=3->v.n<=e.n/\e.n<=v.m):=by
  intro e p;obtain ⟨Q,A,X⟩:=xA p;have C:=z.fit e Q;obtain ⟨w,N,U,w3,w4,w5⟩:=C.ex;rw [A,M] at N;cases N;exact ⟨Q,A,X,C.n0,C.n1,w3,w4⟩
 have c: ∀(b:Bool),OkS vars st/\HOk h/\xY st s.var=xY st s.var/\(b=false->h=h):=fun b=>⟨z,t,rfl,fun _=>rfl⟩
 have k0:=I.k0;have k1:=I.k1;unfold doE xO doR;rw [if_neg (by omega)]
 by_cases V:s.kind=1
 ·rw [if_pos V];unfold do1;cases f:wa (vh st s.var (keyOf l s.key h)) (ofE st s.var) with
  |true=>exact c false
  |false=>
   have p:v.fam=1:=by rw [T,V];decide
   have E:0<=((vh st s.var (keyOf l s.key h)).map (·.n)).getD 0:=by
    cases p:vh st s.var (keyOf l s.key h) with
    |none=>exact Int.le_refl _
    |some e=>exact (G e p).2.2.2.1
   generalize ((vh st s.var (keyOf l s.key h)).map (·.n)).getD 0=n at *
   obtain ⟨q,r⟩:=put (min (n+1) 65535) tick (by omega) (by omega) u K (by omega) (by omega) (by omega) f (by omega);exact ⟨q,yN L t (by omega),r,fun g=>by cases g⟩
 rw [if_neg V]
 by_cases W:s.kind=2
 ·rw [if_pos W];unfold do2;cases f:wa (vh st s.var (keyOf l s.key h)) (ofE st s.var) with
  |true=>exact c false
  |false=>
   have Z:v.fam=2:=by rw [T,W];decide
   have E:((vh st s.var (keyOf l s.key h)).map (·.n)).getD 0=0:=by
    cases p:vh st s.var (keyOf l s.key h) with
    |none=>rfl
    |some e=>exact (G e p).2.2.2.2.2.1 Z
   rw [E];obtain ⟨q,r⟩:=put 0 tick (by omega) (by omega) u K (by omega) (by omega) (by omega) f (by omega);exact ⟨q,t,r,fun g=>by cases g⟩
 rw [if_neg W]
 by_cases c3:s.kind=3
 ·rw [if_pos c3];exact c _
 rw [if_neg c3]
 by_cases J:s.kind=4
 ·rw [if_pos J];unfold do4;have B:v.fam=3:=by rw [T,J];decide
  obtain ⟨e1,e2⟩:=v4 J;obtain ⟨m1,m2,m3,m4,m5,m6⟩:=I.k4 J;cases f:wa (vh st s.var (keyOf l s.key h)) (ofE st s.var) with
  |true=>exact c false
  |false=>
   rw [Bool.false_or];cases p:vh st s.var (keyOf l s.key h) with
   |some e=>
    obtain ⟨Q,A,X,g4,g5,g6,g7⟩:=G e p;rw [show ((some e).isNone&&decide (xw s (some e) (ofE st s.var)>s.m))=false from rfl];obtain ⟨q,r⟩:=put e.n tick g4 g5 u K (by omega) (fun _=>g7 B) (by omega) f (fun _ x F d y E=>by
     have Y:vd x e≠0:=fun u=>y (by
      rw [xQ] at u ⊢;exact ⟨u.1.trans A,u.2.trans X⟩)
     obtain ⟨i,hi,rfl⟩:=List.getElem_of_mem F;obtain ⟨j,hj,rfl⟩:=List.getElem_of_mem Q;have hij:i≠j:=fun t=>Y (by subst t;exact uZ.refl _)
     have H:=List.pairwise_iff_getElem.1 z.tr;rcases Nat.lt_or_gt_of_ne hij with D|D
     ·exact H i j hi hj D (d.trans A.symm) ⟨v,by rw [d];exact M,B⟩ E
     ·exact H j i hj hi D (A.trans d.symm) ⟨v,by rw [A];exact M,B⟩ E.symm)
    exact ⟨q,yN L t g4,r,fun g=>by cases g⟩
   |none=>
    have wC:xw s none (ofE st s.var)=wM (ofE st s.var) (ofE st s.var).length s.n:=rfl
    by_cases S:xw s none (ofE st s.var)>s.m
    ·rw [show ((none:Option RE).isNone&&decide (xw s none (ofE st s.var)>s.m))=true by simp [S]];exact c false
    ·rw [show ((none:Option RE).isNone&&decide (xw s none (ofE st s.var)>s.m))=false by simp [S]];obtain ⟨q1,q2,q3⟩:=zi (ofE st s.var) (ofE st s.var).length s.n;have O:=BQ (ofE st s.var) s.n;rw [<- wC] at q1 O;generalize xw s none (ofE st s.var)=n at *
     rw [p] at put f;obtain ⟨q,r⟩:=put n tick (by omega) (by omega) u K (by omega) (by omega) (by omega) f (fun _ x F d y E=>by
      unfold vS at O;rw [List.any_eq_false] at O;exact O x (List.mem_filter.2 ⟨F,by simpa using d⟩) (by simpa using E))
     exact ⟨q,yN L t (by omega),r,fun g=>by cases g⟩
 rw [if_neg J]
 by_cases c5:s.kind=5
 ·rw [if_pos c5];unfold do5;split
  ·rename_i e he;have S:=List.mem_of_find?_eq_some he;obtain ⟨hm1,hm2⟩:=List.mem_filter.1 S;have H:=(Kp (h:=h) (tick:=tick) L (s:=s) (st:=st) (vars:=vars))
   refine ⟨z,Aw L t fun x F=>?_,rfl,fun g=>by cases g⟩;obtain ⟨w,N,U, -⟩:=(z.fit e hm1).ex;obtain ⟨q1,q2⟩:=Dv.1 U;obtain ⟨i,hi,rfl⟩:=List.getElem_of_mem F;exact (q2 i e.key[i] (w.ws[i]'(by rw [<- q1];exact hi)) (ggZ hi) (ggZ _)).1
  ·exact c false
 rw [if_neg c5];have P:s.kind=6:=by omega
 unfold do6;have hf4:v.fam=4:=by rw [T,P];decide
 obtain ⟨m1,m2,m3,m4⟩:=I.k6 P;obtain ⟨t1,t2,t3,t4⟩:=LO (key:=keyOf l s.key h) z I P u K;have hvn:=v5 P;cases f:wa (vh st s.var (keyOf l s.key h)) (ofE st s.var) with
 |true=>exact c false
 |false=>
  generalize yZ s (vh st s.var (keyOf l s.key h)) (keyOf l s.key h) tick=e at *
  by_cases H:e.n>0
  ·rw [if_pos H];obtain ⟨q,r⟩:=put (e.n - 1) e.at_ (by omega) (by omega) t3 t4 (by omega) (by omega) (by omega) f (by omega);exact ⟨q,t,r,fun g=>by cases g⟩
  ·rw [if_neg H];obtain ⟨q,r⟩:=put e.n e.at_ (by omega) (by omega) t3 t4 (by omega) (by omega) (by omega) f (by omega);exact ⟨q,t,r,fun _=>rfl⟩
end Go.ST
end
section
namespace Go.ST
open Go Go.DL Go.MM Go.Proofs
open Go.TY hiding Fd
theorem DCalls.IX{P:Program}{f:FuncId}{ts:List T}{r:T}(h:DCalls P f ts r)(d:r.flat=true):sD P f ts r:=by
 refine ⟨h.1,fun w vs b g i=>(h.2 (eA w) w vs (fun _ _ j=>j) b g i).mono ?_⟩;rintro e w' ⟨v,rfl,c,a⟩;exact ⟨v,rfl,c,a.of_flat d⟩
theorem GG(xs:List RE)(f:FuncId)(d g:T)(p:RE->Bool)(r:xs.length<2^60)(n: ∀(i:Nat) (h:i<xs.length),DCalls Tryz.prog f [.agg (uR xs[i]),d,g] (.bool (p xs[i]))):
  DCalls Tryz.prog 109 [esT xs,.clos f [d,g]] (I (xp p xs)):=by
 refine dl2 mixed [.tmp 4] [.int _ _] Tryz.func109 Mu.2 ?_
 skip
 refine uA (α:=Nat) (fun i=>{sl:=[(0,.t (esT xs)),(1,.t (.clos f [d,g])),(6,.t (esT xs)),(7,.t (I xs.length)),(8,.t (I i))],bx:=[]})
  (fun i=>i<=xs.length/\ ∀j (h:j<xs.length),j<i->p xs[j]=false) (fun i=>xs.length - i) 0 (by simp) ?_ ?_
 ·exact wkZ
 rintro i ⟨hi,k⟩;rcases Nat.lt_or_ge i xs.length with h|h
 ·have a:=n i h;cases b:p xs[i] with
  |true=>
   rw [b] at a;rw [CU h b k]
   repeat' ((conv=>whnf);first|exact trivial|(refine nv_ (.agg (uR xs[i])) (by first|exact vL h) ?_)|refine pC _ (a) ?_|refine aD1 ?_|refine rix ?_|(refine And.intro (by first|exact vu _) ?_)|refine aS ?_|refine nT_ ?_)
  |false=>
   rw [b] at a
   repeat' ((conv=>whnf);first|(refine nv_ (.agg (uR xs[i])) (by first|exact vL h) ?_)|refine pC _ (a) ?_|refine aD1 ?_|(refine And.intro (by first|exact vu _) ?_)|refine aS ?_|refine nT_ ?_)
   refine ⟨i+1,⟨h,fun j c q=>?_⟩,by omega,?_⟩
   ·rcases Nat.lt_or_ge j i with m|m
    ·exact k j c m
    ·obtain rfl:j=i:=by omega
     exact b
   ·exact wkZ
 ·have:i=xs.length:=by omega
  subst this;rw [CV fun j c=>k j c c];exact rcZ
structure H10 where
 x0:Int
 x1:Int
 x2:Int
 x3:Int
 x4:Int
 x5:Int
 x6:Int
 x7:Int
 x8:Int
 x9:Int
abbrev H10.ls(q:H10):List Int:=[q.x0,q.x1,q.x2,q.x3,q.x4,q.x5,q.x6,q.x7,q.x8,q.x9]
theorem CL(l:List Fd)(k:ByteArray)(v:Int): ∀(a:List ByteArray) (b:List Int) (h:List Int),a.length=b.length->xZ l (a++[k]) (b++[v]) h=wrF l (xZ l a b h) k v
 |[],[],h,_=>rfl
 |x::a,y::b,h,e=>by
  show xZ l (a++[k]) (b++[v]) (wrF l h x y)=_
  rw [CL l k v a b _ (by simpa using e)];rfl
 |[],_::_,_,e=>by simp at e
 |_::_,[],_,e=>by simp at e
variable {l:List Fd}{s:RS}{st st' o:List RE}{x0 x1 x2 x3 x4 x5 x6 x7 x8 x9 y0 y1 y2 y3 y4 y5 y6 y7 y8 y9 tick:Int}{e:RE}{is:Bool}
theorem LM(x:RE)(g:Int):DCalls Tryz.prog 110 [.agg (uR x),.cptr [.cptr (dL l s st x0 x1 x2 x3 x4 x5 x6 x7 x8 x9 tick e is) 0] 0,.cptr [I g] 0] (.bool (decide (x.var=s.var)&&decide (x.n=g))):=by
 refine dl2 mixed [.tmp 4] [.bool _] Tryz.func110 Go.ST4.ON.2 ?_;have h:=eqS x.var s.var
 by_cases c:x.var=s.var
 ·rw [decide_eq_true c] at h ⊢
  by_cases a:x.n=g
  ·rw [decide_eq_true a];exact rcZ
  ·rw [decide_eq_false a];exact rcZ
 ·rw [decide_eq_false c] at h ⊢;exact rcZ
attribute [local irreducible] bV WCM YC
theorem Mq(u:s.kind=5)(J:LOk l)(hlen:st.length<2^40)(U:s.key.length<2^40)(hh:HOk [x0,x1,x2,x3,x4,x5,x6,x7,x8,x9])(g:vf l s.field=true)
  (O: ∀x∈st,x.var=s.var->x.key.length=s.key.length/\ ∀v∈x.key,0<=v) (f:Option RE) (y:f=st.find? fun x=>decide (x.var=s.var)&&decide (x.n=(vD (fld l s.field) [x0,x1,x2,x3,x4,x5,x6,x7,x8,x9]:Int))):
  bV Tryz.prog 84 Go.ST3.yP (S0 l s st x0 x1 x2 x3 x4 x5 x6 x7 x8 x9 tick e is).mk' (fun ex s'=>ex= .normal/\((f=none/\bX (S1 l s x0 x1 x2 x3 x4 x5 x6 x7 x8 x9 tick is st x0 x1 x2 x3 x4 x5 x6 x7 x8 x9 e false) s')\/
   (∃ (x:RE) (q:H10),f=some x/\q.ls=xZ l s.key x.key [x0,x1,x2,x3,x4,x5,x6,x7,x8,x9]/\bX (S1 l s x0 x1 x2 x3 x4 x5 x6 x7 x8 x9 tick is st q.x0 q.x1 q.x2 q.x3 q.x4 q.x5 q.x6 q.x7 q.x8 q.x9 e true) s'))):=by
 have qH:=GG st 110 (.cptr [.cptr (dL l s st x0 x1 x2 x3 x4 x5 x6 x7 x8 x9 tick e is) 0] 0) (.cptr [I (vD (fld l s.field) [x0,x1,x2,x3,x4,x5,x6,x7,x8,x9])] 0) (fun x=>decide (x.var=s.var)&&decide (x.n=(vD (fld l s.field) [x0,x1,x2,x3,x4,x5,x6,x7,x8,x9]:Int))) (by omega) (fun i h=>LM st[i] _);have hF:=ER l J s.field;rw [g] at hF;have hG:=t78 _ (zU J g) _ hh;obtain ⟨kk,c,key,a,n,m⟩:=s;dsimp only at u hF hG qH O y U g;subst u;rcases Cw (fun x=>decide (x.var=c)&&decide (x.n=(vD (fld l a) [x0,x1,x2,x3,x4,x5,x6,x7,x8,x9]:Int))) st with ⟨Y,W⟩|⟨k,u,Y,F⟩
 ·rw [W] at y;have D:=DCalls.IX qH rfl;rw [Y] at D;refine Go.ST3.Cf ?_;refine rnZ ?_;refine WC.toM (uF mixed Tryz.func56 Go.ST5.l56.2 rfl rfl (rs:=[.tmp 2]) rfl 3000 (nlZ rfl) ?_);refine rnZ ?_;refine rnZ ?_;refine uG rfl D ?_;refine rnZ ?_;refine ⟨_,rfl,?_⟩
  repeat' ((conv=>whnf);first|(exact ⟨rfl,Or.inl ⟨y,wkZ⟩⟩))
 ·rw [F] at y;have D:=DCalls.IX qH rfl;rw [Y] at D;have Z:st[k]∈st:=List.getElem_mem u;have hxv:st[k].var=c:=by
   have:=List.find?_some F
   rw [Bool.and_eq_true] at this;exact of_decide_eq_true this.1
  obtain ⟨V,S⟩:=O st[k] Z hxv;have hgk:=vL u;have P:=ggZ u;have hn:((st.map uS).length:Int)=st.length:=by rw [List.length_map]
  have hm:((key.map T.str).length:Int)=key.length:=by rw [List.length_map]
  have Ab: ¬(k:Int)<0:=by omega
  have hgx:((uR st[k])[1]?.getD .nil)= .slice 1 (st[k].key.map I):=rfl;have Qr:(T.agg (uR st[k])).cells[1]?.getD .nil= .slice 1 (st[k].key.map I):=rfl;have hk2:(k:Int)<((st.map uS).length:Int):=by omega
  generalize hxx:st[k]=x at *
  obtain ⟨xv,b,xn,xa⟩:=x;dsimp only at V S;have hxl:((b.map I).length:Int)=key.length:=by rw [List.length_map];omega
  refine Go.ST3.Cf ?_;refine rnZ ?_;refine WC.toM (uF mixed Tryz.func56 Go.ST5.l56.2 rfl rfl (rs:=[.tmp 2]) rfl 3000 (nlZ rfl) ?_);refine rnZ ?_;refine rnZ ?_;refine uG rfl D ?_;refine rnZ ?_;refine tT 0 (α:=Nat×H10) (β:=H10) (fun q=>{sl:=[(1,.ptr 3001 0),(6,.t (I k)),(40,.t (.slice 1 (key.map .str))),(41,.t (I key.length)),(42,.t (I q.1))],bx:=[(8,.d 10 [I x0,I x1,I x2,I x3,I x4,I x5,I x6,I x7,I x8,I x9]),(10,.d 10 z10),(3001,.v [.ptr 37 0]),(37,.d 24 (dL l ⟨5,c,key,a,n,m⟩ st q.2.x0 q.2.x1 q.2.x2 q.2.x3 q.2.x4 q.2.x5 q.2.x6 q.2.x7 q.2.x8 q.2.x9 tick e is))],gh:=[(0,[(8,.ptr 8 0),(10,.ptr 10 0),(16,.ptr 37 0)])],off:=3000})
   (fun q=>q.1<=key.length/\q.2.ls=xZ l (key.take q.1) (b.take q.1) [x0,x1,x2,x3,x4,x5,x6,x7,x8,x9]) (fun q=>key.length - q.1)
   (fun q=>{sl:=[],bx:=[(8,.d 10 [I x0,I x1,I x2,I x3,I x4,I x5,I x6,I x7,I x8,I x9]),(10,.d 10 z10),(37,.d 24 (dL l ⟨5,c,key,a,n,m⟩ st q.x0 q.x1 q.x2 q.x3 q.x4 q.x5 q.x6 q.x7 q.x8 q.x9 tick e is))],gh:=[(0,[(8,.ptr 8 0),(10,.ptr 10 0),(16,.ptr 37 0)])],off:=3000})
   (fun q=>q.ls=xZ l key b [x0,x1,x2,x3,x4,x5,x6,x7,x8,x9]) (0,⟨x0,x1,x2,x3,x4,x5,x6,x7,x8,x9⟩) ⟨Nat.zero_le _,rfl⟩ ?_ ?_ ?_
  ·exact wkZ
  ·rintro ⟨i,q⟩ ⟨hi,w⟩;dsimp only at hi w;rcases Nat.lt_or_ge i key.length with h|h
   ·have p:(i:Int)<(key.length:Int):=by omega
    have K:((i+1:Nat):Int)=IntKind.wrap .i64 ((i:Int)+1):=by rw [oA] <;> omega
    have j:i<b.length:=by omega
    have B:HOk q.ls:=by rw [w];exact Aw J hh fun v hv=>S v (List.mem_of_mem_take hv)
    have L:0<=b[i]:=S _ (List.getElem_mem j);have hW:=Im J key[i] B L;have r:xZ l (key.take (i+1)) (b.take (i+1)) [x0,x1,x2,x3,x4,x5,x6,x7,x8,x9]=wrF l q.ls key[i] b[i]:=by
     rw [List.take_succ_eq_append_getElem h,List.take_succ_eq_append_getElem j,CL _ _ _ _ _ _ (by rw [List.length_take,List.length_take];omega),w]
    have M:(key.map T.str)[((i:Int)).toNat]?.getD .nil= .str key[i]:=by simp [h]
    have N:(b.map I)[((i:Int)).toNat]?.getD .nil=I b[i]:=by simp [j]
    obtain ⟨y0,y1,y2,y3,y4,y5,y6,y7,y8,y9,hy⟩:=ten (yN J B (name:=key[i]) L);rw [hy] at hW r;obtain ⟨A,C,E,Q⟩:=hW;have G:0<=(i:Int)/\(i:Int)<((b.map I).length:Int):=by omega
    have H:0<=(k:Int)/\(k:Int)<((st.map uS).length:Int):=by omega
    generalize key[i]=nm at *
    generalize b[i]=vl at *
    obtain ⟨z0,z1,z2,z3,z4,z5,z6,z7,z8,z9⟩:=q;cases z:vf l nm with
    |true=>
     rw [z] at A;have C:=C z;have E:=E z
     repeat' ((conv=>whnf);first|refine nr p ?_|(refine nv_ (.str nm) (by first|exact M) ?_)|(refine nv_ (.slice 1 (b.map I)) (by first|(simp [P,uS,uR,T.cells];done)|fail) ?_)|(refine nv_ (I vl) (by first|exact N) ?_)|refine uF mixed Tryz.func106 Go.ST4.Bg.2 rfl rfl (rs:=[]) rfl 3200 (nlZ rfl) ?_|(refine And.intro (by first|exact G|exact H|((simp [P,uS,uR,T.cells]);done)|fail) ?_)|refine aS ?_|refine nT_ ?_)
     refine rnZ ?_;refine ⟨_,rfl,?_⟩;refine rnZ ?_;(exact ⟨(i+1,⟨y0,y1,y2,y3,y4,y5,y6,y7,y8,y9⟩),⟨h,r.symm⟩,(by dsimp only;omega),by (repeat' (first|(exact leI K)|exact wJ|refine And.intro ?_ ?_));done⟩)
    |false=>
     rw [z] at A;have Q:=Q z;cases Q
     repeat' ((conv=>whnf);first|refine nr p ?_|(refine nv_ (.str nm) (by first|exact M) ?_)|(refine nv_ (.slice 1 (b.map I)) (by first|(simp [P,uS,uR,T.cells];done)|fail) ?_)|(refine nv_ (I vl) (by first|exact N) ?_)|refine uF mixed Tryz.func106 Go.ST4.Bg.2 rfl rfl (rs:=[]) rfl 3200 (nlZ rfl) ?_|(refine And.intro (by first|exact G|exact H|((simp [P,uS,uR,T.cells]);done)|fail) ?_)|refine aS ?_|refine nT_ ?_)
     refine rnZ ?_;refine ⟨_,rfl,?_⟩;refine rnZ ?_;(exact ⟨(i+1,⟨_,_,_,_,_,_,_,_,_,_⟩),⟨h,r.symm⟩,(by dsimp only;omega),by (repeat' (first|(exact leI K)|exact wJ|refine And.intro ?_ ?_));done⟩)
   ·have p: ¬(i:Int)<(key.length:Int):=by omega
    have X:q.ls=xZ l key b [x0,x1,x2,x3,x4,x5,x6,x7,x8,x9]:=by rw [w,List.take_of_length_le h,List.take_of_length_le (by omega)]
    refine rnZ ?_;(exact ⟨q,X,wkZ⟩)
  ·rintro q w
   skip
   refine ⟨_,rfl,?_⟩
   repeat' ((conv=>whnf);first|(exact ⟨rfl,Or.inr ⟨_,q,y,w,wkZ⟩⟩))
end Go.ST
end
section
namespace Go.ST
open Go Go.DL Go.MM Go.Proofs
open Go.TY hiding Fd
def esU(ns:List Int):List (T×T):=ns.map fun n=>(I n,T.bool true)
def Bk(n:Int):List Int->List Int
 |[]=>[n]
 |x::xs=>if x=n then n::xs else x::Bk n xs
theorem G3(a b:Int):eqL (I a).cells (I b).cells=decide (a=b):=by
 show ((a==b)&&true)=_
 rw [Bool.and_true]
 by_cases h:a=b <;> simp [h]
theorem IV(n:Int): ∀ns:List Int,bF (I n) (.bool true) (esU ns)=esU (Bk n ns)
 |[]=>rfl
 |x::xs=>by
  have a:=IV n xs;show cond (eqL (I n).cells (I x).cells) _ _=esU (Bk n (x::xs))
  rw [G3];unfold Bk
  by_cases h:x=n
  ·rw [decide_eq_true h.symm,if_pos h];rfl
  ·rw [decide_eq_false (fun e=>h e.symm),if_neg h,cond_false];show (I x,T.bool true)::bF (I n) (.bool true) (esU xs)=_
   rw [a];rfl
theorem Gg{n m:Int}: ∀{ns:List Int},m∈Bk n ns↔m=n\/m∈ns
 |[]=>by simp [Bk]
 |x::xs=>by
  unfold Bk
  by_cases h:x=n
  ·rw [if_pos h];subst h;simp
  ·rw [if_neg h,List.mem_cons,Gg (ns:=xs),List.mem_cons];constructor
   ·rintro (a|a|a) <;> simp [a]
   ·rintro (a|a|a) <;> simp [a]
theorem Hb(n:Int): ∀ns:List Int,oW (.bool false) false (eH (I n).cells (esU ns))= .bool (decide (n∈ns))
 |[]=>by simp;rfl
 |x::xs=>by
  have a:=Hb n xs;show oW (.bool false) false (cond (eqL (I n).cells (I x).cells) (some (T.bool true)) (eH (I n).cells (esU xs)))=_
  rw [G3]
  by_cases h:n=x
  ·rw [decide_eq_true h,cond_true,decide_eq_true (by simp [h])];rfl
  ·rw [decide_eq_false h,cond_false,a]
   congr 1
   simp [h]
def yF(o:List RE):List Int:=o.foldl (fun ns e=>Bk e.n ns) []
theorem Fi{m:Int}: ∀{o:List RE} {ns:List Int},m∈o.foldl (fun ns e=>Bk e.n ns) ns↔m∈ns\/vS o m=true
 |[],ns=>by simp [vS]
 |e::o,ns=>by
  rw [List.foldl_cons,Fi (o:=o),Gg];unfold vS;rw [List.any_cons,Bool.or_eq_true,decide_eq_true_eq];constructor
  ·rintro ((h|h)|h)
   ·exact Or.inr (Or.inl h.symm)
   ·exact Or.inl h
   ·exact Or.inr (Or.inr h)
  ·rintro (h|h|h)
   ·exact Or.inl (Or.inr h)
   ·exact Or.inl (Or.inl h.symm)
   ·exact Or.inr h
theorem H0(o:List RE)(m:Int):decide (m∈yF o)=vS o m:=by
 have:=Fi (m:=m) (o:=o) (ns:=[])
 unfold yF;cases h:vS o m with
 |true=>exact decide_eq_true (this.2 (Or.inr h))
 |false=>
  refine decide_eq_false fun b=>?_
  rcases this.1 b with a|a
  ·cases a
  ·rw [h] at a;cases a
theorem HZ(o:List RE){i:Nat}(h:i<o.length):yF (o.take (i+1))=Bk o[i].n (yF (o.take i)):=by
 unfold yF;rw [List.take_succ_eq_append_getElem h,List.foldl_append];rfl
theorem Ky{ks:List Nat}{bx:Nat->Option BX}{b:Bool}{d:List Sh}{c a:List (T×T)}(h:c=a):LeB ks bx (.m b d c none) (some (.m b d a none)):=by rw [h];exact .same _
variable {l:List Fd}{s:RS}{st st' o:List RE}{x0 x1 x2 x3 x4 x5 x6 x7 x8 x9 y0 y1 y2 y3 y4 y5 y6 y7 y8 y9 tick:Int}{e:RE}{is:Bool}
attribute [local irreducible] bV WCM YC
theorem GP(Q:s.kind=4)(hol:o.length<2^40)(hs:0<=s.n/\s.n<=65535)(H:DCalls Tryz.prog 22 [esT st,.str s.var] (esT o))(N:Int)(z:N=if is then e.n else wM o o.length s.n)
  (fq:DCalls Tryz.prog 139 [esT st,uS ⟨e.var,e.key,N,tick⟩] (esT st')) (g:Bool) (F:g=(!is&&decide (100<=o.length))) (p:Bool) (D:p=(!is&&decide (N>s.m)))
  (S:Wr l s.field [x0,x1,x2,x3,x4,x5,x6,x7,x8,x9] [y0,y1,y2,y3,y4,y5,y6,y7,y8,y9] N):
  bV Tryz.prog 84 Go.ST3.yP (S0 l s st x0 x1 x2 x3 x4 x5 x6 x7 x8 x9 tick e is).mk' (fun Y s'=>Y= .normal/\(((g||p)=true/\bX (S1 l s x0 x1 x2 x3 x4 x5 x6 x7 x8 x9 tick is st x0 x1 x2 x3 x4 x5 x6 x7 x8 x9 ⟨e.var,e.key,N,tick⟩ false) s')\/((g||p)=false/\bX (S1 l s x0 x1 x2 x3 x4 x5 x6 x7 x8 x9 tick is st' y0 y1 y2 y3 y4 y5 y6 y7 y8 y9 ⟨e.var,e.key,N,tick⟩ true) s'))):=by
 obtain ⟨kk,f,key,a,n,m⟩:=s;dsimp only at Q H S hs z D;subst Q;have hoL:((o.map uS).length:Int)=o.length:=by rw [List.length_map]
 obtain ⟨r,B,C,k⟩:=S;refine Go.ST3.Cf ?_;cases is with
 |true=>
  obtain rfl:g=false:=by rw [F];rfl
  obtain rfl:p=false:=by rw [D];rfl
  obtain rfl:N=e.n:=z;cases b:vf l a with
  |true=>
   have B:=B b;have C:=C b;rw [b] at r;refine rnZ ?_;refine WC.toM (uF mixed Tryz.func55 Go.ST4.l55.2 rfl rfl (rs:=[.tmp 2]) rfl 3000 (nlZ rfl) ?_);refine rnZ ?_;refine rnZ ?_;refine uF mixed Tryz.func105 Go.ST4.w9.2 rfl rfl (rs:=[.tmp 2]) rfl 3100 (nlZ rfl) ?_;refine rnZ ?_;refine rnZ ?_;refine ⟨_,rfl,?_⟩;refine rnZ ?_;refine uF mixed Tryz.func106 Go.ST4.Bg.2 rfl rfl (rs:=[]) rfl 3200 (nlZ rfl) ?_;refine rnZ ?_;refine rnZ ?_;refine ⟨_,rfl,?_⟩
   skip
   refine ⟨_,rfl,?_⟩
   repeat' ((conv=>whnf);first|(exact ⟨rfl,Or.inr ⟨rfl,wkZ⟩⟩))
  |false=>
   have k:=k b;cases k;rw [b] at r;refine rnZ ?_;refine WC.toM (uF mixed Tryz.func55 Go.ST4.l55.2 rfl rfl (rs:=[.tmp 2]) rfl 3000 (nlZ rfl) ?_);refine rnZ ?_;refine rnZ ?_;refine uF mixed Tryz.func105 Go.ST4.w9.2 rfl rfl (rs:=[.tmp 2]) rfl 3100 (nlZ rfl) ?_;refine rnZ ?_;refine rnZ ?_;refine ⟨_,rfl,?_⟩;refine rnZ ?_;refine uF mixed Tryz.func106 Go.ST4.Bg.2 rfl rfl (rs:=[]) rfl 3200 (nlZ rfl) ?_;refine rnZ ?_;refine rnZ ?_;refine ⟨_,rfl,?_⟩
   skip
   refine ⟨_,rfl,?_⟩
   repeat' ((conv=>whnf);first|(exact ⟨rfl,Or.inr ⟨rfl,wkZ⟩⟩))
 |false=>
  have z:N=wM o o.length n:=z;have qE:(vf l a=true/\DCalls Tryz.prog 107 [fds l,.str a] (.tup [fdc l a,.bool true])/\DCalls Tryz.prog 141 [fdc l a] (I ((2^(fld l a).w - 1:Nat):Int))/\DCalls Tryz.prog 140 [fdc l a,hd [x0,x1,x2,x3,x4,x5,x6,x7,x8,x9],I (Ht (fld l a).w N)] (hd [y0,y1,y2,y3,y4,y5,y6,y7,y8,y9]))\/
    (DCalls Tryz.prog 107 [fds l,.str a] (.tup [fdc l a,.bool false])/\[y0,y1,y2,y3,y4,y5,y6,y7,y8,y9]=[x0,x1,x2,x3,x4,x5,x6,x7,x8,x9]):=by
   cases b:vf l a with
   |true=>rw [b] at r;exact Or.inl ⟨rfl,r,B b,C b⟩
   |false=>rw [b] at r;exact Or.inr ⟨r,k b⟩
  have V:(N>m/\p=true)\/(¬ N>m/\p=false):=by
   by_cases c:N>m
   ·exact Or.inl ⟨c,by rw [D,decide_eq_true c];rfl⟩
   ·exact Or.inr ⟨c,by rw [D,decide_eq_false c];rfl⟩
  have U:(((o.map uS).length:Int)>=100/\g=true)\/(¬ ((o.map uS).length:Int)>=100/\g=false):=by
   by_cases c:100<=o.length
   ·exact Or.inl ⟨by omega,by rw [F,decide_eq_true c];rfl⟩
   ·exact Or.inr ⟨by omega,by rw [F,decide_eq_false c];rfl⟩
  have P:=BQ o n;rw [<- z] at P;clear r B C k D F;refine rnZ ?_;refine WC.toM (uF mixed Tryz.func55 Go.ST4.l55.2 rfl rfl (rs:=[.tmp 2]) rfl 3000 (nlZ rfl) ?_);refine rnZ ?_;refine rnZ ?_;refine tT 0 (α:=Nat) (β:=Unit) (fun i=>{sl:=[(0,.ptr 37 0),(3,.mp 3019),(29,.t (esT o)),(30,.t (I o.length)),(31,.t (I i))],bx:=[(8,.d 10 [I x0,I x1,I x2,I x3,I x4,I x5,I x6,I x7,I x8,I x9]),(10,.d 10 z10),(3019,.m false [.int .i64] (esU (yF (o.take i))) none),(37,.d 24 (dL l ⟨4,f,key,a,n,m⟩ st x0 x1 x2 x3 x4 x5 x6 x7 x8 x9 tick ⟨e.var,e.key,e.n,tick⟩ false))],gh:=[(0,[(8,.ptr 8 0),(10,.ptr 10 0),(16,.ptr 37 0)])],off:=3000})
   (fun i=>i<=o.length) (fun i=>o.length - i)
   (fun _=>{sl:=[(0,.ptr 37 0),(3,.mp 3019)],bx:=[(8,.d 10 [I x0,I x1,I x2,I x3,I x4,I x5,I x6,I x7,I x8,I x9]),(10,.d 10 z10),(3019,.m false [.int .i64] (esU (yF o)) none),(37,.d 24 (dL l ⟨4,f,key,a,n,m⟩ st x0 x1 x2 x3 x4 x5 x6 x7 x8 x9 tick ⟨e.var,e.key,e.n,tick⟩ false))],gh:=[(0,[(8,.ptr 8 0),(10,.ptr 10 0),(16,.ptr 37 0)])],off:=3000}) (fun _=>True) 0 (Nat.zero_le _) ?_ ?_ ?_
  ·exact wkZ
  ·rintro i hi;rcases Nat.lt_or_ge i o.length with h|h
   ·have K:(i:Int)<(o.length:Int):=by omega
    have L:((i+1:Nat):Int)=IntKind.wrap .i64 ((i:Int)+1):=by rw [oA] <;> omega
    have Z:=vL h;have M:esU (yF (o.take (i+1)))=bF (I o[i].n) (.bool true) (esU (yF (o.take i))):=by rw [IV,HZ o h]
    have hir:0<=(i:Int)/\(i:Int)<((o.map uS).length:Int):=by omega
    have hst:(o.map uS)[((i:Int)).toNat]?.getD .nil= .agg (uR o[i]):=by rw [Int.toNat_natCast];exact Z
    generalize o[i]=x at *
    have y:aV false [.int .i64] (I x.n):=⟨rfl,rfl,trivial⟩
    refine rnZ ?_;(exact ⟨i+1,h,(by omega),by (repeat' (first|(exact leI L)|(exact Ky M)|exact wJ|refine And.intro ?_ ?_));done⟩)
   ·have K: ¬(i:Int)<(o.length:Int):=by omega
    have e0:esU (yF o)=esU (yF (o.take i)):=by rw [List.take_of_length_le h]
    refine rnZ ?_;(exact ⟨(),trivial,by (repeat' (first|(exact Ky e0)|exact wJ|refine And.intro ?_ ?_));done⟩)
  ·rintro - -;refine rnZ ?_;refine tT 2 (α:=Nat) (β:=Unit) (fun j=>{sl:=[(0,.ptr 37 0),(3,.mp 3019)],bx:=[(8,.d 10 [I x0,I x1,I x2,I x3,I x4,I x5,I x6,I x7,I x8,I x9]),(10,.d 10 z10),(3019,.m false [.int .i64] (esU (yF o)) none),(37,.d 24 (dL l ⟨4,f,key,a,n,m⟩ st x0 x1 x2 x3 x4 x5 x6 x7 x8 x9 tick ⟨e.var,e.key,n+(j:Int),tick⟩ false))],gh:=[(0,[(8,.ptr 8 0),(10,.ptr 10 0),(16,.ptr 37 0)])],off:=3000})
    (fun j=>j<=o.length/\wM o (o.length - j) (n+j)=N) (fun j=>o.length - j)
    (fun _=>{sl:=[(0,.ptr 37 0)],bx:=[(8,.d 10 [I x0,I x1,I x2,I x3,I x4,I x5,I x6,I x7,I x8,I x9]),(10,.d 10 z10),(37,.d 24 (dL l ⟨4,f,key,a,n,m⟩ st x0 x1 x2 x3 x4 x5 x6 x7 x8 x9 tick ⟨e.var,e.key,N,tick⟩ false))],gh:=[(0,[(8,.ptr 8 0),(10,.ptr 10 0),(16,.ptr 37 0)])],off:=3000}) (fun _=>True) 0 ⟨Nat.zero_le _,by rw [z];simp⟩ ?_ ?_ ?_
   ·have h0:(dL l ⟨4,f,key,a,n,m⟩ st x0 x1 x2 x3 x4 x5 x6 x7 x8 x9 tick ⟨e.var,e.key,n+((0:Nat):Int),tick⟩ false)=(dL l ⟨4,f,key,a,n,m⟩ st x0 x1 x2 x3 x4 x5 x6 x7 x8 x9 tick ⟨e.var,e.key,n,tick⟩ false):=by rw [show n+((0:Nat):Int)=n by omega]
    exact wkZ
   ·rintro j ⟨hj,u⟩;have E:oW (.bool false) false (eH (I (n+(j:Int))).cells (esU (yF o)))= .bool (vS o (n+j)):=by rw [Hb,H0]
    have y:aV false [.int .i64] (I (n+(j:Int))):=⟨rfl,rfl,trivial⟩
    cases A:vS o (n+j) with
    |true=>
     rw [A] at E;have J:j<o.length:=by
      rcases Nat.lt_or_ge j o.length with h|h
      ·exact h
      ·rw [show o.length - j=0 by omega] at u
       have:n+(j:Int)=N:=u
       rw [this,P] at A;cases A
     have T:wM o (o.length - (j+1)) (n+((j+1:Nat):Int))=N:=by
      rw [<- u,show o.length - j=(o.length - (j+1))+1 by omega]
      conv=>rhs;unfold wM
      rw [if_pos A,show n+((j+1:Nat):Int)=n+j+1 by omega]
     have O:n+((j+1:Nat):Int)=IntKind.wrap .i64 (n+(j:Int)+1):=by rw [oA (by omega) (by omega)];omega
     have v:(dL l ⟨4,f,key,a,n,m⟩ st x0 x1 x2 x3 x4 x5 x6 x7 x8 x9 tick ⟨e.var,e.key,n+((j+1:Nat):Int),tick⟩ false)=(dL l ⟨4,f,key,a,n,m⟩ st x0 x1 x2 x3 x4 x5 x6 x7 x8 x9 tick ⟨e.var,e.key,IntKind.wrap .i64 (n+(j:Int)+1),tick⟩ false):=by rw [O]
     repeat' ((conv=>whnf);first|(refine nv_ (.bool true) (by first|exact E) ?_)|(exact ⟨j+1,⟨J,T⟩,(by omega),by (repeat' (first|(exact uv v)|exact wJ|refine And.intro ?_ ?_));done⟩)|(refine And.intro (by first|exact y) ?_)|refine aS ?_|refine nT_ ?_)
    |false=>
     rw [A] at E;have G:N=n+(j:Int):=by
      rw [<- u];cases hq:o.length - j with
      |zero=>rfl
      |succ q=>unfold wM;rw [if_neg (by rw [A];simp)]
     have v:(dL l ⟨4,f,key,a,n,m⟩ st x0 x1 x2 x3 x4 x5 x6 x7 x8 x9 tick ⟨e.var,e.key,N,tick⟩ false)=(dL l ⟨4,f,key,a,n,m⟩ st x0 x1 x2 x3 x4 x5 x6 x7 x8 x9 tick ⟨e.var,e.key,n+(j:Int),tick⟩ false):=by rw [G]
     repeat' ((conv=>whnf);first|(refine nv_ (.bool false) (by first|exact E) ?_)|(exact ⟨(),trivial,by (repeat' (first|(exact uv v)|exact wJ|refine And.intro ?_ ?_));done⟩)|(refine And.intro (by first|exact y) ?_)|refine aS ?_|refine nT_ ?_)
   ·rintro - -;rcases V with ⟨W,rfl⟩|⟨W,rfl⟩
    ·refine rnZ ?_;refine ⟨_,rfl,?_⟩
     repeat' ((conv=>whnf);first|(exact ⟨rfl,Or.inl ⟨Bool.or_true _,wkZ⟩⟩))
    ·rcases U with ⟨X,rfl⟩|⟨X,rfl⟩
     ·refine rnZ ?_;refine uF mixed Tryz.func105 Go.ST4.w9.2 rfl rfl (rs:=[.tmp 2]) rfl 3100 (nlZ rfl) ?_;refine rnZ ?_;refine rnZ ?_;refine ⟨_,rfl,?_⟩
      skip
      refine ⟨_,rfl,?_⟩
      repeat' ((conv=>whnf);first|(exact ⟨rfl,Or.inl ⟨rfl,wkZ⟩⟩))
     ·rcases qE with ⟨-,r,B,C⟩|⟨r,k⟩
      ·refine rnZ ?_;refine uF mixed Tryz.func105 Go.ST4.w9.2 rfl rfl (rs:=[.tmp 2]) rfl 3100 (nlZ rfl) ?_;refine rnZ ?_;refine rnZ ?_;refine ⟨_,rfl,?_⟩;refine rnZ ?_;refine uF mixed Tryz.func106 Go.ST4.Bg.2 rfl rfl (rs:=[]) rfl 3200 (nlZ rfl) ?_;refine rnZ ?_;refine rnZ ?_;refine ⟨_,rfl,?_⟩
       skip
       refine ⟨_,rfl,?_⟩
       repeat' ((conv=>whnf);first|(exact ⟨rfl,Or.inr ⟨rfl,wkZ⟩⟩))
      ·cases k;refine rnZ ?_;refine uF mixed Tryz.func105 Go.ST4.w9.2 rfl rfl (rs:=[.tmp 2]) rfl 3100 (nlZ rfl) ?_;refine rnZ ?_;refine rnZ ?_;refine ⟨_,rfl,?_⟩;refine rnZ ?_;refine uF mixed Tryz.func106 Go.ST4.Bg.2 rfl rfl (rs:=[]) rfl 3200 (nlZ rfl) ?_;refine rnZ ?_;refine rnZ ?_;refine ⟨_,rfl,?_⟩
       skip
       refine ⟨_,rfl,?_⟩
       repeat' ((conv=>whnf);first|(exact ⟨rfl,Or.inr ⟨rfl,wkZ⟩⟩))
end Go.ST
end
section
namespace Go.ST
open Go Go.DL Go.MM Go.Proofs
open Go.TY hiding Fd
variable {l:List Fd}{s:RS}{st st':List RE}{x0 x1 x2 x3 x4 x5 x6 x7 x8 x9 y0 y1 y2 y3 y4 y5 y6 y7 y8 y9 tick:Int}{e e':RE}{is pass:Bool}
attribute [local irreducible] bV WCM YC
theorem L8{s':St}(b:bX (S1 l s x0 x1 x2 x3 x4 x5 x6 x7 x8 x9 tick is st' y0 y1 y2 y3 y4 y5 y6 y7 y8 y9 e' pass) s')(r:List T)
  (a:r=[hd (if pass then [y0,y1,y2,y3,y4,y5,y6,y7,y8,y9] else [x0,x1,x2,x3,x4,x5,x6,x7,x8,x9]),.bool pass,esT st']):
  bV Tryz.prog 84 Go.ST3.Eg s' (fun e s=>match e with
   |.normal=>bV Tryz.prog 84 Go.ST3.Eh s (tz Tryz.prog [.cell 10 27,.tmp 11,.tmp 12] r)
   |.exit id=>tz Tryz.prog [.cell 10 27,.tmp 11,.tmp 12] r (.exit id) s
   |.ret=>tz Tryz.prog [.cell 10 27,.tmp 11,.tmp 12] r .ret s):=by
 subst a;refine bV.bX b (Go.ST3.NI ?_);cases pass with
 |false=>
  refine rnZ ?_;refine ⟨?_,fun _ _=>trivial⟩;exact rcZ
 |true=>
  skip
  refine Go.ST3.NJ ?_;refine rnZ ?_;refine ⟨?_,fun _ _=>trivial⟩;exact rcZ
theorem N0(d:LOk l){h:List Int}(t:HOk h)(w: ∀k∈s.key,vf l k=true)(A:s.key.length<=1000)(E:vK st)(a:st.length<2^40)(c: ∀x∈st,kOk x)(z:s.kind≠0)
  (f:Option RE) (y:f=vh st s.var (keyOf l s.key h)) (r:List T)
  (u: ∀(x0 x1 x2 x3 x4 x5 x6 x7 x8 x9:Int),h=[x0,x1,x2,x3,x4,x5,x6,x7,x8,x9]-> ∃(st':List RE) (y0 y1 y2 y3 y4 y5 y6 y7 y8 y9:Int) (e':RE) (pass:Bool),
   bV Tryz.prog 84 Go.ST3.yP (S0 l s st x0 x1 x2 x3 x4 x5 x6 x7 x8 x9 tick (f.getD ⟨s.var,keyOf l s.key h,0,0⟩) f.isSome).mk' (fun q s'=>q= .normal/\bX (S1 l s x0 x1 x2 x3 x4 x5 x6 x7 x8 x9 tick f.isSome st' y0 y1 y2 y3 y4 y5 y6 y7 y8 y9 e' pass) s')/\
   r=[hd (if pass then [y0,y1,y2,y3,y4,y5,y6,y7,y8,y9] else [x0,x1,x2,x3,x4,x5,x6,x7,x8,x9]),.bool pass,esT st']):
  DCalls Tryz.prog 11 [fds l,xK s,esT st,hd h,I tick] (lF r):=by
 refine tE Tryz.func11 Go.ST3.Ma rfl (r:=r) (nlZ rfl) ?_;rw [show Tryz.f11.ntmps=84 from rfl,show Tryz.f11.results.toList=[.cell 10 27,.tmp 11,.tmp 12] from rfl,Go.ST3.k11];have G:=N1 l d s.key w (by omega) h t;have v:(keyOf l s.key h).length<2^60:=by unfold keyOf;rw [List.length_map];omega
 have F:=MT st E a c s.var (keyOf l s.key h) v;rw [<- y] at F;obtain ⟨x0,x1,x2,x3,x4,x5,x6,x7,x8,x9,rfl⟩:=ten t;obtain ⟨st',y0,y1,y2,y3,y4,y5,y6,y7,y8,y9,e',pass,p,B⟩:=u x0 x1 x2 x3 x4 x5 x6 x7 x8 x9 rfl;have j: ∀i:St,bX (S0 l s st x0 x1 x2 x3 x4 x5 x6 x7 x8 x9 tick (f.getD ⟨s.var,keyOf l s.key [x0,x1,x2,x3,x4,x5,x6,x7,x8,x9],0,0⟩) f.isSome) i->bV Tryz.prog 84 (.seq (.seq Go.ST3.yP Go.ST3.Eg) Go.ST3.Eh) i (tz Tryz.prog [.cell 10 27,.tmp 11,.tmp 12] r):=by
  intro i C;refine bV.bX C (bV.seq (bV.seq (bV.mono p ?_)));rintro q s' ⟨rfl,g⟩;exact L8 g r B
 clear p u;generalize keyOf l s.key [x0,x1,x2,x3,x4,x5,x6,x7,x8,x9]=ky at *
 obtain ⟨H,D,key,b,n,m⟩:=s;dsimp only at *
 refine bV.seq (Go.ST3.KA ?_);refine rnZ ?_;refine bV.seq (Go.ST3.KB ?_);refine rnZ ?_;refine bV.seq (Go.ST3.ND ?_);refine rnZ ?_;refine bV.seq (Go.ST3.NF ?_);refine rnZ ?_;refine bV.seq (Go.ST3.NG ?_);refine rnZ ?_;refine bV.seq (Go.ST3.NH ?_);cases f with
 |none=>
  refine rnZ ?_;refine j _ ?_;exact wkZ
 |some x=>
  refine rnZ ?_;refine j _ ?_;exact wkZ
end Go.ST
end
section
namespace Go.ST
open Go Go.DL Go.MM Go.Proofs
open Go.TY hiding Fd
attribute [local irreducible] bV WCM YC
abbrev dnT(d:Dn):T:=.tup [hd d.h,.bool d.pass,esT d.st]
theorem zl{α:Type}(f:Option α):f.isNone= !f.isSome:=by cases f <;> rfl
theorem KN{l:List Fd}{s:RS}{st:List RE}{h:List Int}{tick:Int}(d:HOk h)(a:s.kind=0):DCalls Tryz.prog 11 [fds l,xK s,esT st,hd h,I tick] (dnT (doE l s st h tick)):=by
 have c:doE l s st h tick=⟨h,true,st⟩:=by unfold doE xO doR;rw [if_pos a];rfl
 rw [c];refine tE Tryz.func11 Go.ST3.Ma rfl (r:=[hd h,.bool true,esT st]) (nlZ rfl) ?_;rw [show Tryz.f11.ntmps=84 from rfl,show Tryz.f11.results.toList=[.cell 10 27,.tmp 11,.tmp 12] from rfl,Go.ST3.k11];obtain ⟨x0,x1,x2,x3,x4,x5,x6,x7,x8,x9,rfl⟩:=ten d;obtain ⟨g,f,key,b,n,m⟩:=s;dsimp only at a;refine bV.seq (Go.ST3.KA ?_);refine rnZ ?_;refine bV.seq (Go.ST3.KB ?_);refine rnZ ?_;refine ⟨?_,fun _ _=>trivial⟩;exact rcZ
theorem LP(s:RS)(v:ByteArray)(g:List Int){tick b a:Int}(A:1<=s.n/\s.n<=65535)(z:1<=s.m/\s.m<=1073741824)(B:0<=tick/\tick<=1073741824)(y:0<=b/\b<=65535)(x:0<=a/\a<=1073741824):
  Kl s.n s.m tick b a=((xi s ⟨v,g,b,a⟩ tick).n,(xi s ⟨v,g,b,a⟩ tick).at_):=by
 obtain ⟨m,r⟩: ∃m,m=s.m:=⟨_,rfl⟩
 have i:W64 (tick - a)=tick - a:=oA (by omega) (by omega);have f:wV tick a s.m=if tick>a then (tick - a).tdiv s.m else 0:=by
  unfold wV;rw [i]
  by_cases c:tick>a
  ·rw [if_pos (show tick - a>0 by omega),if_pos c];have d:0<=(tick - a).tdiv s.m:=Int.tdiv_nonneg (by omega) (by omega);have h:(tick - a).tdiv s.m<=tick - a:=Int.tdiv_le_self _ (by omega);exact oA (by omega) (by omega)
  ·rw [if_neg (show ¬tick - a>0 by omega),if_neg c,Int.zero_tdiv];exact oA (by omega) (by omega)
 have w:0<=wV tick a s.m/\wV tick a s.m<=1073741824/\wV tick a s.m * s.m<=1073741824/\0<=wV tick a s.m * s.m:=by
  rw [f];split
  ·have d:0<=(tick - a).tdiv s.m:=Int.tdiv_nonneg (by omega) (by omega);have h:(tick - a).tdiv s.m<=tick - a:=Int.tdiv_le_self _ (by omega);have t:(tick - a).tdiv s.m * s.m<=tick - a:=by
    rw [Int.tdiv_eq_ediv_of_nonneg (by omega)];exact Int.ediv_mul_le _ (by omega)
   have u:0<=(tick - a).tdiv s.m * s.m:=Int.mul_nonneg d (by omega);omega
  ·simp
 unfold Kl;generalize wV tick a s.m=k at *
 have j:W64 (b+k)=b+k:=oA (by omega) (by omega);have p:W64 (k * s.m)=k * s.m:=oA (by omega) (by omega);have q:W64 (a+k * s.m)=a+k * s.m:=oA (by omega) (by omega);unfold xi;dsimp only;rw [j,p,q, <-f];split <;> rfl
theorem MS{l:List Fd}{s:RS}{st:List RE}{h:List Int}{tick:Int}(p:DO l s st h tick)(Q: ∀x∈st,kOk x):DCalls Tryz.prog 11 [fds l,xK s,esT st,hd h,I tick] (dnT (doE l s st h tick)):=by
 by_cases u:s.kind=0
 ·exact KN p.hok u
 obtain ⟨f,Y⟩: ∃f,f=vh st s.var (keyOf l s.key h):=⟨_,rfl⟩
 obtain ⟨o,T⟩: ∃o,o=ofE st s.var:=⟨_,rfl⟩
 obtain ⟨e,H⟩: ∃e,e=f.getD ⟨s.var,keyOf l s.key h,0,0⟩:=⟨_,rfl⟩
 have S:=p.len;have hol:o.length<=1000000:=by rw [T];exact Nat.le_trans (List.length_filter_le _ _) S
 have JD:(keyOf l s.key h).length<=1000:=by unfold keyOf;rw [List.length_map];exact p.klen
 have z:=Qk st s.var (by omega);rw [show ofE st s.var=o from T.symm] at z;have hev:e.var=s.var/\e.key=keyOf l s.key h/\0<=e.n/\e.n<=65535/\0<=e.at_/\e.at_<=1073741824:=by
  cases f with
  |none=>rw [H];exact ⟨rfl,rfl,Int.le_refl 0,(by show (0:Int)<=65535;omega),Int.le_refl 0,(by show (0:Int)<=1073741824;omega)⟩
  |some x=>
   rw [H];obtain ⟨t,d,A⟩:=xA Y.symm;exact ⟨d,A,p.num x t⟩
 obtain ⟨he1,he2,he3,he4,he5,he6⟩:=hev;have W: ∀n a,DCalls Tryz.prog 139 [esT st,uS ⟨e.var,e.key,n,a⟩] (esT (vQ ⟨s.var,keyOf l s.key h,n,a⟩ st)):=fun n a=>by
  rw [he1,he2];exact N6 st p.inc (by omega) Q ⟨s.var,keyOf l s.key h,n,a⟩ (show (keyOf l s.key h).length<2^60 by omega)
 have w:doE l s st h tick=⟨(doR l s f o h tick).1,(doR l s f o h tick).2.1,cL (doR l s f o h tick).2.2 st⟩:=by unfold doE xO;rw [<- Y, <-T]
 have O:(f.map (·.n)).getD 0=e.n:=by rw [H];cases f <;> rfl
 have Z:wa f o=(!f.isSome&&decide (100<=o.length)):=by unfold wa;rw [zl]
 have ht0:=p.t0;have ht1:=p.t1;refine N0 p.lok p.hok p.keys p.klen p.inc (by omega) Q u f Y [hd (doE l s st h tick).h,.bool (doE l s st h tick).pass,esT (doE l s st h tick).st] ?_;intro x0 x1 x2 x3 x4 x5 x6 x7 x8 x9 v;rw [<- H];have hk:=p.k0;have hk':=p.k1;have CT:s.kind=1\/s.kind=2\/s.kind=3\/s.kind=4\/s.kind=5\/s.kind=6:=by omega
 rcases CT with t|d|A|M|h5|h6
 ·have X:(if (65535:Int)<IntKind.wrap .i64 (e.n+1) then 65535 else IntKind.wrap .i64 (e.n+1))=min (e.n+1) 65535:=by rw [oA (by omega) (by omega)];split <;> omega
  obtain ⟨y0,y1,y2,y3,y4,y5,y6,y7,y8,y9,E⟩:=ten (yN p.lok p.hok (name:=s.field) (n:=min (e.n+1) 65535) (by omega));have D:=Im p.lok s.field p.hok (n:=min (e.n+1) 65535) (by omega);rw [E,v] at D;have i:=Lc (x0:=x0) (x1:=x1) (x2:=x2) (x3:=x3) (x4:=x4) (x5:=x5) (x6:=x6) (x7:=x7) (x8:=x8) (x9:=x9) (tick:=tick) (is:=f.isSome) t z _ X (W _ tick) (wa f o) Z D;have g:doR l s f o h tick=do1 l s f o h tick (keyOf l s.key h):=by unfold doR;rw [if_neg u,if_pos t]
  cases b:wa f o with
  |true=>
   have j:doE l s st h tick=⟨h,false,st⟩:=by rw [w,g];unfold do1;rw [b];rfl
   rw [j];rw [b] at i;refine ⟨st,x0,x1,x2,x3,x4,x5,x6,x7,x8,x9,⟨e.var,e.key,min (e.n+1) 65535,tick⟩,false,i.mono ?_,?_⟩
   ·rintro L s' ⟨t,d⟩;rcases d with ⟨-,d⟩|⟨d, -⟩
    ·exact ⟨t,d⟩
    ·cases d
   ·rw [v];rfl
  |false=>
   have j:doE l s st h tick=⟨wrF l h s.field (min (e.n+1) 65535),true,vQ ⟨s.var,keyOf l s.key h,min (e.n+1) 65535,tick⟩ st⟩:=by rw [w,g];unfold do1;rw [b,O];rfl
   rw [j];rw [b] at i;refine ⟨vQ ⟨s.var,keyOf l s.key h,min (e.n+1) 65535,tick⟩ st,y0,y1,y2,y3,y4,y5,y6,y7,y8,y9,⟨e.var,e.key,min (e.n+1) 65535,tick⟩,true,i.mono ?_,?_⟩
   ·rintro L s' ⟨t,d⟩;rcases d with ⟨d, -⟩|⟨-,d⟩
    ·cases d
    ·exact ⟨t,d⟩
   ·dsimp only;rw [E];rfl
 ·have g:doR l s f o h tick=do2 s f o h tick (keyOf l s.key h):=by unfold doR;rw [if_neg u,if_neg (by omega),if_pos d]
  have i:=Mr (x0:=x0) (x1:=x1) (x2:=x2) (x3:=x3) (x4:=x4) (x5:=x5) (x6:=x6) (x7:=x7) (x8:=x8) (x9:=x9) (l:=l) (tick:=tick) (is:=f.isSome) d z (W e.n tick) (wa f o) Z;cases b:wa f o with
  |true=>
   have j:doE l s st h tick=⟨h,false,st⟩:=by rw [w,g];unfold do2;rw [b];rfl
   rw [j];rw [b] at i;exact ⟨st,x0,x1,x2,x3,x4,x5,x6,x7,x8,x9,⟨e.var,e.key,e.n,tick⟩,false,i,by rw [v];rfl⟩
  |false=>
   have j:doE l s st h tick=⟨h,true,vQ ⟨s.var,keyOf l s.key h,e.n,tick⟩ st⟩:=by rw [w,g];unfold do2;rw [b,O];rfl
   rw [j];rw [b] at i;exact ⟨vQ ⟨s.var,keyOf l s.key h,e.n,tick⟩ st,x0,x1,x2,x3,x4,x5,x6,x7,x8,x9,⟨e.var,e.key,e.n,tick⟩,true,i,by rw [v];rfl⟩
 ·have g:doR l s f o h tick=do3 s f h tick:=by unfold doR;rw [if_neg u,if_neg (by omega),if_neg (by omega),if_pos A]
  obtain ⟨K,F⟩:=p.k3 A;have i:=Lb (x0:=x0) (x1:=x1) (x2:=x2) (x3:=x3) (x4:=x4) (x5:=x5) (x6:=x6) (x7:=x7) (x8:=x8) (x9:=x9) (l:=l) (st:=st) (tick:=tick) (e:=e) (is:=f.isSome) A _ rfl ⟨by omega,by omega⟩ ⟨by omega,by omega⟩;have j:doE l s st h tick=⟨h,f.isSome&&decide (e.at_>=tick - s.n),st⟩:=by
   rw [w,g];unfold do3;cases f with
   |none=>rfl
   |some x=>
    have:e=x:=H
    subst this;rfl
  rw [j];refine ⟨st,x0,x1,x2,x3,x4,x5,x6,x7,x8,x9,e,_,i,?_⟩;rw [v];dsimp only;rw [ite_self]
 ·have g:doR l s f o h tick=do4 l s f o h tick (keyOf l s.key h):=by unfold doR;rw [if_neg u,if_neg (by omega),if_neg (by omega),if_neg (by omega),if_pos M]
  obtain ⟨K,F,b3,b4⟩:=p.k4 M;have X:xw s f o=if f.isSome then e.n else wM o o.length s.n:=by
   rw [H];cases f <;> rfl
  have N:0<=xw s f o:=by
   rw [X];split
   ·exact he3
   ·have:=(zi o o.length s.n).1;omega
  obtain ⟨y0,y1,y2,y3,y4,y5,y6,y7,y8,y9,E⟩:=ten (yN p.lok p.hok (name:=s.field) N);have D:=Im p.lok s.field p.hok N;rw [E,v] at D;have i:=GP (x0:=x0) (x1:=x1) (x2:=x2) (x3:=x3) (x4:=x4) (x5:=x5) (x6:=x6) (x7:=x7) (x8:=x8) (x9:=x9) (l:=l) (tick:=tick) (is:=f.isSome) M (by omega) ⟨K,F⟩ z _ X (W _ tick) (wa f o) Z (f.isNone&&decide (xw s f o>s.m)) (by rw [zl]) D;cases b:(wa f o||(f.isNone&&decide (xw s f o>s.m))) with
  |true=>
   have j:doE l s st h tick=⟨h,false,st⟩:=by rw [w,g];unfold do4;rw [b];rfl
   rw [j];rw [b] at i;refine ⟨st,x0,x1,x2,x3,x4,x5,x6,x7,x8,x9,⟨e.var,e.key,xw s f o,tick⟩,false,i.mono ?_,?_⟩
   ·rintro L s' ⟨t,d⟩;rcases d with ⟨-,d⟩|⟨d, -⟩
    ·exact ⟨t,d⟩
    ·cases d
   ·rw [v];rfl
  |false=>
   have j:doE l s st h tick=⟨wrF l h s.field (xw s f o),true,vQ ⟨s.var,keyOf l s.key h,xw s f o,tick⟩ st⟩:=by rw [w,g];unfold do4;rw [b];rfl
   rw [j];rw [b] at i;refine ⟨vQ ⟨s.var,keyOf l s.key h,xw s f o,tick⟩ st,y0,y1,y2,y3,y4,y5,y6,y7,y8,y9,⟨e.var,e.key,xw s f o,tick⟩,true,i.mono ?_,?_⟩
   ·rintro L s' ⟨t,d⟩;rcases d with ⟨d, -⟩|⟨-,d⟩
    ·cases d
    ·exact ⟨t,d⟩
   ·dsimp only;rw [E];rfl
 ·have g:doR l s f o h tick=do5 l s o h:=by unfold doR;rw [if_neg u,if_neg (by omega),if_neg (by omega),if_neg (by omega),if_neg (by omega),if_pos h5]
  obtain ⟨K,F⟩:=p.k5 h5;have P:=p.hok;rw [v] at P;have hfd:(o.find? fun x=>decide (x.n=(vD (fld l s.field) h:Int)))=st.find? fun x=>decide (x.var=s.var)&&decide (x.n=(vD (fld l s.field) [x0,x1,x2,x3,x4,x5,x6,x7,x8,x9]:Int)):=by
   rw [T,v];unfold ofE;rw [List.find?_filter]
   congr 1
   funext a
   simp
  have i:=Mq (x0:=x0) (x1:=x1) (x2:=x2) (x3:=x3) (x4:=x4) (x5:=x5) (x6:=x6) (x7:=x7) (x8:=x8) (x9:=x9) (l:=l) (tick:=tick) (e:=e) (is:=f.isSome) h5 p.lok (by omega) (by have:=p.klen;omega) P K (fun x v hv=>F x v hv) _ hfd;cases b:(o.find? fun x=>decide (x.n=(vD (fld l s.field) h:Int))) with
  |none=>
   have j:doE l s st h tick=⟨h,false,st⟩:=by rw [w,g];unfold do5;rw [b];rfl
   rw [j];rw [b] at i;refine ⟨st,x0,x1,x2,x3,x4,x5,x6,x7,x8,x9,e,false,i.mono ?_,?_⟩
   ·rintro L s' ⟨t,d⟩;rcases d with ⟨-,d⟩|⟨x,q,d, -⟩
    ·exact ⟨t,d⟩
    ·cases d
   ·rw [v];rfl
  |some x=>
   have j:doE l s st h tick=⟨xZ l s.key x.key h,true,st⟩:=by rw [w,g];unfold do5;rw [b];rfl
   rw [j];rw [b] at i;have V:x∈st/\x.var=s.var:=by
    have t:=List.mem_of_find?_eq_some b;rw [T] at t;have d:=List.mem_filter.1 t;exact ⟨d.1,of_decide_eq_true d.2⟩
   obtain ⟨y0,y1,y2,y3,y4,y5,y6,y7,y8,y9,E⟩:=ten (Aw p.lok (ks:=s.key) p.hok (F x V.1 V.2).2);refine ⟨st,y0,y1,y2,y3,y4,y5,y6,y7,y8,y9,e,true,i.mono ?_,?_⟩
   ·rintro L s' ⟨t,d⟩;rcases d with ⟨d, -⟩|⟨x',q,d,A,M⟩
    ·cases d
    ·cases d;rw [<- v,E] at A;obtain ⟨z0,z1,z2,z3,z4,z5,z6,z7,z8,z9⟩:=q;simp only [H10.ls,List.cons.injEq,and_true] at A;obtain ⟨rfl,rfl,rfl,rfl,rfl,rfl,rfl,rfl,rfl,rfl⟩:=A;exact ⟨t,M⟩
   ·dsimp only;rw [E];rfl
 ·have g:doR l s f o h tick=do6 s f o h tick (keyOf l s.key h):=by unfold doR;rw [if_neg u,if_neg (by omega),if_neg (by omega),if_neg (by omega),if_neg (by omega),if_neg (by omega)]
  obtain ⟨K,F,b3,b4⟩:=p.k6 h6;obtain ⟨G,C⟩: ∃G,G=if f.isSome then e.n else s.n:=⟨_,rfl⟩
  obtain ⟨y,B⟩: ∃y,y=if f.isSome then e.at_ else tick:=⟨_,rfl⟩
  have Ow:0<=G/\G<=65535:=by rw [C];split <;> omega
  have Ov:0<=y/\y<=1073741824:=by rw [B];split <;> omega
  have J:yZ s f (keyOf l s.key h) tick=xi s ⟨s.var,keyOf l s.key h,G,y⟩ tick:=by
   unfold yZ;cases f with
   |none=>rw [C,B];rfl
   |some x=>
    have hex:e=x:=H;obtain ⟨g1,g2,g3⟩:=xA Y.symm;rw [C,B];show xi s x tick=xi s ⟨s.var,keyOf l s.key h,e.n,e.at_⟩ tick
    rw [hex, <-g2, <-g3]
  have D:=LP s s.var (keyOf l s.key h) ⟨K,F⟩ ⟨b3,b4⟩ ⟨ht0,ht1⟩ Ow Ov;obtain ⟨r,U⟩: ∃r,r=xi s ⟨s.var,keyOf l s.key h,G,y⟩ tick:=⟨_,rfl⟩
  rw [<- U] at J D;have htb:0<=r.n/\r.n<=65535 * 65536:=by
   rw [U];have u:0<=(if tick>y then (tick - y).tdiv s.m else 0):=by
    split
    ·exact Int.tdiv_nonneg (by omega) (by omega)
    ·exact Int.le_refl 0
   unfold xi;dsimp only;generalize (if tick>y then (tick - y).tdiv s.m else 0)=k at *
   split
   ·exact ⟨by dsimp only;omega,by dsimp only;omega⟩
   ·exact ⟨by dsimp only;omega,by dsimp only;omega⟩
  have i:=Ld (x0:=x0) (x1:=x1) (x2:=x2) (x3:=x3) (x4:=x4) (x5:=x5) (x6:=x6) (x7:=x7) (x8:=x8) (x9:=x9) (l:=l) (tick:=tick) (is:=f.isSome) h6 (by omega) G y r.n r.at_ C B D (if r.n>0 then r.n - 1 else r.n) (by
   split
   ·exact (oA (by omega) (by omega)).symm
   ·rfl) z (W _ _) (wa f o) Z
  cases b:wa f o with
  |true=>
   have j:doE l s st h tick=⟨h,false,st⟩:=by rw [w,g];unfold do6;rw [b];rfl
   rw [j];rw [b] at i;exact ⟨st,x0,x1,x2,x3,x4,x5,x6,x7,x8,x9,_,false,i,by rw [v];rfl⟩
  |false=>
   rw [b] at i
   by_cases c:r.n>0
   ·have j:doE l s st h tick=⟨h,true,vQ ⟨s.var,keyOf l s.key h,r.n - 1,r.at_⟩ st⟩:=by rw [w,g];unfold do6;rw [J,b,if_neg (by simp),if_pos c];rfl
    rw [j];rw [if_pos c,decide_eq_true c] at i;exact ⟨vQ ⟨s.var,keyOf l s.key h,r.n - 1,r.at_⟩ st,x0,x1,x2,x3,x4,x5,x6,x7,x8,x9,⟨e.var,e.key,r.n - 1,r.at_⟩,true,i,by rw [v];rfl⟩
   ·have j:doE l s st h tick=⟨h,false,vQ ⟨s.var,keyOf l s.key h,r.n,r.at_⟩ st⟩:=by rw [w,g];unfold do6;rw [J,b,if_neg (by simp),if_neg c];rfl
    rw [j];rw [if_neg c,decide_eq_false c] at i;exact ⟨vQ ⟨s.var,keyOf l s.key h,r.n,r.at_⟩ st,x0,x1,x2,x3,x4,x5,x6,x7,x8,x9,⟨e.var,e.key,r.n,r.at_⟩,false,i,by rw [v];rfl⟩
end Go.ST
end
section
namespace Go.MM
open Go Go.DL Go.Proofs
theorem Rep.yV{S:ar}{w:World}{v:Value}(n:Nat){bs:List T}(h:Rep S w v (.tup (.nil::bs))):Rep S w v (.tup (.slice n []::bs)):=by
 cases h with
 |tup cs _ c h=>
  refine .tup cs _ (by simpa using c) fun i x t b a=>?_
  cases i with
  |zero=>
   simp at a;subst a;exact Rep.pI n (h 0 x .nil b rfl)
  |succ i=>exact h (i+1) x t b (by simpa using a)
theorem yV{P:Program}{f:FuncId}{ts bs:List T}(n:Nat)(h:DCalls P f ts (.tup (.nil::bs))):DCalls P f ts (.tup (.slice n []::bs)):=h.res fun _ _ _=>Rep.yV n
def H7:Option (List (List Int))->T
 |some x=>.tup [uT x,.bool true]
 |none=>.tup [uT [],.bool false]
def xO:Option (List (List Int))->T
 |some x=>.tup [uT x,I 0]
 |none=>.tup [uT [],I 2]
theorem t82(s:List (List Int))(b:Bool):DCalls Tryz.prog 164 [uT s,.bool b] (H7 (if b then small s else none)):=by
 have a: ∀r,wpC Tryz.prog JM.1 (ft [uT s,.bool b]) (oB (du Tryz.prog) [.tmp 4,.tmp 5] r)->DCalls Tryz.prog 164 [uT s,.bool b] (lF r):=fun r h=>
  oL (rs:=[.tmp 4,.tmp 5]) mixed Tryz.func164 JM.2 rfl rfl rfl (r:=r) (nlZ rfl) h
 cases b with
 |false=>
  refine yV 10 (a [.nil,.bool false] ?_);exact ⟨rfl,rfl,trivial⟩
 |true=>
  unfold small
  by_cases h:s.length>256
  ·rw [if_pos rfl,if_pos h];refine yV 10 (a [.nil,.bool false] ?_);refine uM true trivial (by simp;omega) ?_;exact ⟨rfl,rfl,trivial⟩
  ·rw [if_pos rfl,if_neg h];refine a [uT s,.bool true] ?_;refine uM false trivial (by simp;omega) ?_;exact ⟨rfl,rfl,trivial⟩
theorem t49(s:List (List Int))(b:Bool):DCalls Tryz.prog 124 [uT s,.bool b] (xO (if b then some s else none)):=by
 have a: ∀r,wpC Tryz.prog OW.1 (ft [uT s,.bool b]) (oB (du Tryz.prog) [.tmp 4,.tmp 5] r)->DCalls Tryz.prog 124 [uT s,.bool b] (lF r):=fun r h=>
  oL (rs:=[.tmp 4,.tmp 5]) mixed Tryz.func124 OW.2 rfl rfl rfl (r:=r) (nlZ rfl) h
 cases b with
 |false=>exact yV 10 (a [.nil,I 2] ⟨rfl,rfl,trivial⟩)
 |true=>exact a [uT s,I 0] ⟨rfl,rfl,trivial⟩
theorem t86(all:List (List Int))(h:List Int)(a:SOk all)(b:HOk h):DCalls Tryz.prog 184 [hd h,.cptr [uT all] 0] (.bool (all.contains h)):=by
 refine dl2 mixed [.tmp 3] [.bool (all.contains h)] Tryz.func184 PA.2 ?_;refine And.intro (by simp [b.len]) ?_;refine uP (uT all) (Nat.lt_succ_self 0) rfl ?_;refine pC _ (t16 all h a.srt a.ok.len b.len (by have:=a.len;omega)) ?_;exact ⟨rfl,trivial⟩
def BV(all a:List (List Int)):Int:=match a.findIdx? fun x=>all.contains x with
 |some i=>i
 |none=> -1
theorem t100(all a:List (List Int))(p:SOk all)(v:vP a)(w:a.length<2^60):DCalls Tryz.prog 197 [uT a,.clos 184 [.cptr [uT all] 0]] (I (BV all a)):=by
 refine dl2 mixed [.tmp 4] [I (BV all a)] Tryz.func197 PK.2 ?_;refine uA (α:=Nat) (fun i=>{sl:=[(0,.t (uT a)),(1,.t (.clos 184 [.cptr [uT all] 0])),(7,.t (I a.length)),(8,.t (I i))],bx:=[]}) (fun i=>i<=a.length/\ ∀j (h:j<a.length),j<i->all.contains a[j]=false) (fun i=>a.length - i) 0 (by simp) ?_ ?_
 ·exact ⟨⟨.same _,.same _,leI (by simp),.same _,trivial⟩,trivial,trivial,rfl,fun _ _ _=>trivial,rfl⟩
 rintro i ⟨hi,d⟩;refine uL trivial (fun g=>?_) (fun g=>?_)
 ·have b:i<a.length:=by simpa using g
  have x1:=v _ (List.getElem_mem b);refine uP (hd a[i]) (by simpa using b) (by simp [b]) ?_;refine uP (hd a[i]) (by simpa [hd,T.cells] using x1.len) rfl ?_;refine pC _ (t86 all a[i] p x1) ?_;cases m:all.contains a[i] with
  |true=>
   have:BV all a=i:=by
    unfold BV;rw [List.findIdx?_eq_some_iff_getElem.2 ⟨b,m,fun j c=>by simpa using d j (by omega) c⟩]
   exact ⟨congrArg (fun n=>some (I n)) this.symm,trivial⟩
  |false=>
   refine ⟨i+1,⟨b,fun j c u=>?_⟩,by omega,?_⟩
   ·rcases Nat.lt_or_ge j i with k|k
    ·exact d j c k
    ·obtain rfl:j=i:=by omega
     exact m
   ·exact ⟨⟨.same _,.same _,.same _,leI (by rw [oA] <;> omega),trivial⟩,trivial,trivial,rfl,fun _ _ _=>trivial,rfl⟩
 ·have r:a.length<=i:=by simpa using g
  have:BV all a= -1:=by
   unfold BV;rw [List.findIdx?_eq_none_iff.2 fun f q=>by
    obtain ⟨j,c,rfl⟩:=List.mem_iff_getElem.1 q;exact d j c (by omega)]
  exact ⟨congrArg (fun n=>some (I n)) this.symm,trivial⟩
theorem dA.dc{P:Program}{f:FuncId}{ts:List T}{e:TypeId}{size:Nat}{xs rest:List T}(h:dA P f ts e size xs rest):DCalls P f ts (lF (.slice size xs::rest)):=by
 refine ⟨h.1,fun S w vs G F I K=>(h.2 S w vs G F I K).mono ?_⟩;rintro N w' ⟨v,us,rfl,c,k,a,A⟩;refine ⟨_,rfl,c,?_⟩;have p:Rep (fun b o=>S b o\/(w.heap.size<=b/\b<w'.heap.size)) w' v (.slice size xs):=by
  obtain ⟨cells,q,j,H⟩:=k.ex
  let E:Env:={S:=fun b o=>v.ownBlock=some b/\o<(xs.flatMap T.cells).length,w:=w',B:=w.heap.size,κ:=fun _=>0,ρ:=fun _=>v.ownBlock,live:=fun _=>false }
  have J:bU E v 0 e size xs:=by
   refine ⟨⟨cells,q,j,fun i x t d M=>(H i x t d M).mono (fun _ _ h=>h.elim) (fun _ _ _=>aC.rfl)⟩,k.uni,k.one,fun g n=>⟨n,fun o=>?_⟩⟩;show (v.ownBlock=some g/\_)↔_
   exact ⟨fun h=>h.2,fun h=>⟨n,h⟩⟩
  refine J.rep.mono (fun b o L=>?_) (fun _ _ _=>aC.rfl);obtain ⟨c,_⟩:=L;right;rcases q.2 with ⟨rfl,_⟩|⟨g,cap,z,rfl,C,D,_⟩
  ·simp [Value.ownBlock] at c
  ·simp only [Value.ownBlock,Option.some.injEq] at c;subst c;exact ⟨C,(Array.getElem?_eq_some_iff.1 D).1⟩
 cases us with
 |nil=>
  cases rest with
  |nil=>exact p
  |cons t r=>simp at a
 |cons u us=>
  cases rest with
  |nil=>simp at a
  |cons t r=>
   refine .tup _ _ (by simpa using a) fun i x y d m=>?_
   cases i with
   |zero=>simp at d m;subst d;subst m;exact p
   |succ i=>
    have:=(A i x y (by simpa using d) (by simpa using m)).2
    exact this.mono (fun _ _ h=>h.elim) (fun _ _ _=>aC.rfl)
theorem GF(a b:List (List Int))(c:vF a)(d:vF b)(f:a.length+b.length<2^40):DCalls Tryz.prog 165 [uT a,uT b] (uT (mrg a b)):=dA.dc (t13 a b c d f)
abbrev z5:List T:=[I 0,nm0,I 0,I 0,.slice 5 []]
def ve:Po->T
 |.filter p=>.agg (I 1::((vm p).cells++[nm0,I 0,.slice 9 []]))
 |.set f n=>.agg (I 2::(z5++[.str f,I n,.slice 9 []]))
 |.union a b=>.agg (I 3::(z5++[nm0,I 0,.slice 9 [ve a,ve b]]))
 |.seq a b=>.agg (I 4::(z5++[nm0,I 0,.slice 9 [ve a,ve b]]))
 |.star a=>.agg (I 5::(z5++[nm0,I 0,.slice 9 [ve a]]))
theorem vt(p:Po):T.agg (ve p).cells=ve p/\(ve p).cells.length=9:=by
 cases p with
 |filter p=>
  refine ⟨rfl,?_⟩;show (I 1::((vm p).cells++[nm0,I 0,.slice 9 []])).length=9
  rw [List.length_cons,List.length_append,(vB p).2];rfl
 |_=>exact ⟨rfl,rfl⟩
def G79(l:List Fd)(tick:Int)(p:Po):Prop:= ∀h,HOk h->DCalls Tryz.prog 161 [ve p,hd h,.cptr [W73 l tick 0] 0,.cptr [fds l] 0] (H7 (gives l tick p h))
theorem zS(p:Po): ∃cs,ve p= .agg cs/\cs.length=9:=⟨_,(vt p).1.symm,(vt p).2⟩
theorem DZ(g:List Int->Option (List (List Int)))(h:List Int)(d b:List (List Int)):image g (h::d) b=match g h with
  |none=>none
  |some a=>match small (mrg b a) with
   |none=>none
   |some c=>image g d c:=rfl
theorem t55(l:List Fd)(H:LOk l)(tick:Int)(p:Po)(J:OOk l p)(y:G79 l tick p)(f:List (List Int))(A:vP f)(C:f.length<2^32):
  dA Tryz.prog 166 [W73 l tick 0,ve p,uT f] 27 10 (((image (gives l tick p) f []).getD []).map hd) [.bool (image (gives l tick p) f []).isSome]:=by
 obtain ⟨cs,w,v⟩:=zS p;have E: ∀h s,HOk h->gives l tick p h=some s->SOk s:=fun h s G e=>wq H J G e
 unfold G79 at y;rw [w] at y ⊢;generalize F:gives l tick p=g at *
 refine tG (rs:=[.tmp 6,.tmp 7]) mixed Tryz.func166 Pn.2 rfl rfl rfl (nlZ rfl) ?_;refine And.intro v ?_;refine tT (α:=Nat×List (List Int)) (β:=Option (List (List Int))) 0 (fun q=>{sl:=[(0,.t (W73 l tick 0)),(4,.ptr 4 0),(8,.own 33 27 10 (q.2.map hd)),(9,.t (.bool true)),(14,.t (uT f)),(15,.t (I f.length)),(16,.t (I q.1))],bx:=[(4,.d 9 cs)]})
  (fun q=>q.1<=f.length/\SOk q.2/\image g (f.drop q.1) q.2=image g f []) (fun q=>f.length - q.1)
  (fun o=>{sl:=[(8,match o with|some x=>.own 33 27 10 (x.map hd)|none=>.t .nil),(9,.t (.bool o.isSome))],bx:=[]}) (fun o=>o=image g f []) (0,[]) ⟨by simp,yG,rfl⟩ ?_ ?_ ?_
 ·exact ⟨⟨.same _,.same _,.nil _ _ _,.same _,.same _,leI (by simp),.same _,trivial⟩,⟨.same _,trivial⟩,trivial,rfl,fun _ _ _=>trivial,rfl⟩
 ·rintro ⟨i,c⟩ ⟨hi,k,b⟩;dsimp only at hi k b;refine uL trivial (fun B=>?_) (fun B=>?_)
  ·have r:i<f.length:=by simpa using B
   have x1:=A _ (List.getElem_mem r);rw [List.drop_eq_getElem_cons r] at b;rw [DZ] at b;refine uP (hd f[i]) (by simpa using r) (by simp [r]) ?_;refine uP (hd f[i]) (by simpa [hd,T.cells] using x1.len) rfl ?_;refine And.intro ⟨by simp [x1.len],by decide⟩ ?_;have n:=y f[i] x1;have L:T.agg (aP zt 0 10 (f[i].map I))=hd f[i]:=by simp [aP,hd,x1.len]
   rw [<- L] at n;cases m:g f[i] with
   |none=>
    rw [m] at n b;simp only at b;refine pC _ n ?_;refine uH (ts:=[uT c,uT []]) (rd:=[]) (xs:=(mrg c []).map hd) (rest:=[]) rfl (t13 c [] k.ok.len (fun x K=>by cases K) (by have:=k.len;simp;omega)) ?_;refine uF mixed Tryz.func164 JM.2 rfl rfl (rs:=[.tmp 4,.tmp 5]) rfl 1000 (nlZ rfl) ?_;refine ⟨_,rfl,?_⟩;exact ⟨none,b,⟨.same _,.same _,trivial⟩,trivial,trivial,rfl,fun _ _ _=>trivial,rfl⟩
   |some a=>
    rw [m] at n b;simp only at b;have u:=E _ _ x1 m;refine pC _ n ?_;refine uH (ts:=[uT c,uT a]) (rd:=[]) (xs:=(mrg c a).map hd) (rest:=[]) rfl (t13 c a k.ok.len u.ok.len (by have:=k.len;have:=u.len;omega)) ?_;refine uF mixed Tryz.func164 JM.2 rfl rfl (rs:=[.tmp 4,.tmp 5]) rfl 1000 (nlZ rfl) ?_
    by_cases D:(mrg c a).length>256
    ·have j:small (mrg c a)=none:=by unfold small;rw [if_pos D]
     rw [j] at b;simp only at b;refine uM true trivial (by simp;omega) ?_;refine ⟨_,rfl,?_⟩;exact ⟨none,b,⟨.same _,.same _,trivial⟩,trivial,trivial,rfl,fun _ _ _=>trivial,rfl⟩
    ·have j:small (mrg c a)=some (mrg c a):=by unfold small;rw [if_neg D]
     rw [j] at b;simp only at b;refine uM false trivial (by simp;omega) ?_;refine ⟨_,rfl,?_⟩;refine ⟨(i+1,mrg c a),⟨r,(yY (xP k.ok.len u.ok.len k.srt u.srt) (yo k.ok u.ok) j).1,b⟩,by simp;omega,?_⟩;exact ⟨⟨.same _,.same _,.same _,.same _,.same _,.same _,leI (by rw [oA] <;> simp <;> omega),trivial⟩,⟨.same _,trivial⟩,trivial,rfl,fun _ _ _=>trivial,rfl⟩
  ·have z:f.length<=i:=by simpa using B
   rw [List.drop_eq_nil_of_le z] at b;exact ⟨some c,b,⟨.same _,.same _,trivial⟩,trivial,trivial,rfl,fun _ _ _=>trivial,rfl⟩
 ·rintro o rfl;cases b:image g f [] with
  |none=>exact ⟨BP _,by simp [T.flat],_,rfl,.inr ⟨rfl,rfl⟩⟩
  |some x=>exact ⟨BP _,by simp [T.flat],_,rfl,.inl ⟨33,rfl⟩⟩
def vC(L:List (List Int)):List T:=(L.map hd).flatMap T.cells
theorem yK(x:List Int)(L:List (List Int)):vC (x::L)=x.map I++vC L:=rfl
theorem zY(a b:List (List Int)):vC (a++b)=vC a++vC b:=by simp [vC]
theorem BE: ∀{L:List (List Int)},vF L->(vC L).length=L.length * 10
 |[],_=>rfl
 |x::L,h=>by
  rw [yK,List.length_append,BE fun y a=>h y (by simp [a]),List.length_map,h x (by simp),List.length_cons];omega
theorem zf{L:List (List Int)}(h:vF L)(j:Nat)(a:j<=L.length):(vC L).take (j * 10)=vC (L.take j)/\(vC L).drop (j * 10)=vC (L.drop j):=by
 have e:vC L=vC (L.take j)++vC (L.drop j):=by rw [<- zY,List.take_append_drop]
 have c:(vC (L.take j)).length=j * 10:=by
  rw [BE fun y b=>h y (List.mem_of_mem_take b),List.length_take,Nat.min_eq_left a]
 constructor
 ·rw [e,List.take_append_of_le_length (by omega),List.take_of_length_le (by omega)]
 ·rw [e,List.drop_append_of_le_length (by omega),List.drop_eq_nil_of_le (by omega),List.nil_append]
theorem Hv{L:List (List Int)}(h:vF L)(j:Nat)(a:j<L.length):((vC L).drop (j * 10)).take 10=L[j].map I:=by
 rw [(zf h j (by omega)).2,List.drop_eq_getElem_cons a,yK,List.take_append_of_le_length (by simp [h _ (List.getElem_mem a)]),List.take_of_length_le (by simp [h _ (List.getElem_mem a)])]
theorem Hw{L:List (List Int)}(h:vF L)(i:Nat)(hi:i<L.length)(x:List Int):aP (vC L) (i * 10) 10 (x.map I)=vC (L.set i x):=by
 unfold aP;rw [(zf h i (by omega)).1,show i * 10+10=(i+1) * 10 by omega,(zf h (i+1) hi).2, <-yK, <-zY,List.set_eq_take_append_cons_drop,if_pos hi]
theorem Ix{L:List (List Int)}(h:vF L): ∀(k:Nat),k<=L.length->chunk 10 k (vC L)=(L.take k).map hd
 |0,_=>by simp [chunk]
 |k+1,hk=>by
  cases L with
  |nil=>simp at hk
  |cons x L=>
   have a:=h x (by simp);show DL.elemOf 10 ((vC (x::L)).take 10)::chunk 10 k ((vC (x::L)).drop 10)=_
   rw [yK,List.take_append_of_le_length (by simp [a]),List.take_of_length_le (by simp [a]),List.drop_append_of_le_length (by simp [a]),List.drop_eq_nil_of_le (by simp [a]),List.nil_append,Ix (L:=L) (fun y b=>h y (by simp [b])) k (by simpa using hk)];rfl
theorem yO: ∀{a b:List (List Int)},vF a->vF b->(∀ x∈b, ¬x∈a)->(mrg a b).length=a.length+b.length
 |[],b,_,_,_=>by simp [mrg]
 |x::a,[],_,_,_=>by rw [Ap];simp
 |x::a,y::b,ha,hb,h=>by
  have g:vF a:=fun z c=>ha z (by simp [c])
  have i:vF b:=fun z c=>hb z (by simp [c])
  rcases Int.lt_trichotomy (nx (x::a) (y::b)) 0 with f|f|f
  ·rw [Ea f,List.length_cons,yO g hb fun z c d=>h z c (by simp [d])];simp;omega
  ·exfalso;have e:x=y:=zb ((ha x (by simp)).trans (hb y (by simp)).symm) f;exact h y (by simp) (by simp [e])
  ·rw [D9 f,List.length_cons,yO ha i fun z c d=>h z (by simp [c]) d];simp;omega
termination_by a b=>a.length+b.length
theorem FO{L:List (List Int)}(h:vF L)(i n:Nat)(hi:i<=L.length)(b:L.length=n):aP (vC L) (i * 10) ((n - i) * 10) (List.replicate (n - i) zt).flatten=vC (L.take i++List.replicate (n - i) z10):=by
 unfold aP;have e: ∀m,(List.replicate m zt).flatten=vC (List.replicate m z10):=fun m=>by
  induction m with
  |zero=>rfl
  |succ m a=>rw [List.replicate_succ,List.flatten_cons,a,List.replicate_succ,yK];rfl
 rw [(zf h i hi).1,e,zY]
 have:(vC L).drop (i * 10+(n - i) * 10)=[]:=List.drop_eq_nil_of_le (by rw [BE h];omega)
 rw [this,List.append_nil]
theorem MA{ks:List Nat}{bx:Nat->Option BX}{n off a b size:Nat}(h:a=b):LeV ks bx (.view n off a size) (.view n off b size):=by rw [h];exact .same _
theorem P2{ks:List Nat}{bx:Nat->Option BX}{n m:Nat}{ts us:List T}(a:n=m)(h:ts=us):LeB ks bx (.d n ts) (some (.d m us)):=by rw [h,a];exact .same _
def Qd:Option (List (List Int)×Nat)->T
 |some (x,n)=>.tup [uT x,I n,.bool true]
 |none=>.tup [uT [],I 0,.bool false]
theorem HA{all next:List (List Int)}:(BV all next= -1/\next.filter (fun x=> !all.contains x)=next)\/ ∃(k:Nat) (h:k<next.length),BV all next=k/\all.contains next[k]=true/\(next.take k).filter (fun x=> !all.contains x)=next.take k:=by
 unfold BV;cases c:next.findIdx? fun x=>all.contains x with
 |none=>
  refine .inl ⟨rfl,List.filter_eq_self.2 fun x b=>?_⟩;simpa using List.findIdx?_eq_none_iff.1 c x b
 |some k=>
  obtain ⟨d,f,g⟩:=List.findIdx?_eq_some_iff_getElem.1 c;refine .inr ⟨k,d,rfl,f,List.filter_eq_self.2 fun x b=>?_⟩;obtain ⟨j,i,rfl⟩:=List.mem_iff_getElem.1 b;have a:j<k:=by simp at i;omega
  simpa using g j a
theorem rounds_succ(im:List (List Int)->Option (List (List Int)))(n:Nat)(all b:List (List Int))(r:Nat):rounds im (n+1) all b r=match im b with
  |none=>none
  |some next=>match small (mrg all (next.filter fun x=> !all.contains x)) with
   |none=>none
   |some a=>if (next.filter fun x=> !all.contains x)=[] then some (a,r) else rounds im n a (next.filter fun x=> !all.contains x) (r+1):=rfl
abbrev S4(l:List Fd)(tick:Int)(cs:List T)(all next:List (List Int))(r:Nat)(b:Bool):Wk:=
 {sl:=[(0,.t (W73 l tick 0)),(4,.ptr 4 0),(9,.ptr 9 0),(10,.t (I r)),(12,match next with|[]=>.t (uT [])|_::_=>.view 23 0 next.length 10),(13,.t (.bool b))],bx:=(4,.d 9 cs)::(9,.v [.t (uT all)])::(match next with|[]=>[]|_::_=>[(23,.d (next.length * 10) (vC next))])}
abbrev S5(l:List Fd)(tick:Int)(cs:List T)(all f:List (List Int))(r:Nat)(b:Bool):Wk:=
 {sl:=[(0,.t (W73 l tick 0)),(4,.ptr 4 0),(9,.ptr 9 0),(10,.t (I r)),(11,.t (uT f)),(13,.t (.bool b))],bx:=[(4,.d 9 cs),(9,.v [.t (uT all)])]}
abbrev S85(l:List Fd)(tick:Int)(cs:List T)(all:List (List Int))(n r:Nat)(b:Bool)(i j:Nat)(L:List (List Int)):Wk:=
 {sl:=[(0,.view 23 0 n 10),(1,.fn 184 [.ptr 9 0]),(5,.t (I i)),(6,.t (I j))],bx:=[(4,.d 9 cs),(9,.v [.t (uT all)]),(23,.d (n * 10) (vC L))],gh:=[(0,[(0,.t (W73 l tick 0)),(4,.ptr 4 0),(9,.ptr 9 0),(10,.t (I r)),(13,.t (.bool b))])],off:=1000 }
theorem EC{P:Program}{f:FuncId}{a:List V}{d:Option Nat}{st:St}{K:St->Prop}{ts:List T}(r:T)(b:bt st.bx a=some (ts,[]))(h:DCalls P f ts r)(c:K (st.set d (.t r))):cO P f a d st K:=by
 unfold cO;rw [b];exact ⟨r,h,c⟩
attribute [local irreducible] cO
theorem t56(l:List Fd)(hl:LOk l)(tick:Int)(p:Po)(hp:OOk l p)(hg:G79 l tick p)(h:List Int)(W:HOk h):
  DCalls Tryz.prog 167 [W73 l tick 0,ve p,hd h] (Qd (rounds (fun s=>image (gives l tick p) s []) 300 [h] [h] 0)):=by
 have h55:=t55 l hl tick p hp hg;obtain ⟨cs,hcs,hc9⟩:=zS p;have Dx: ∀h s,HOk h->gives l tick p h=some s->SOk s:=fun h s W e=>wq hl hp W e
 have HO: ∀a s,SOk a->image (gives l tick p) a []=some s->SOk s:=fun a s C e=>AN Dx C.ok yG e
 rw [hcs] at h55 ⊢;generalize gives l tick p=g at *
 have go: ∀r,wpC Tryz.prog Pp.1 (ft [W73 l tick 0,.agg cs,hd h]) (oB (du Tryz.prog) [.tmp 6,.tmp 7,.tmp 8] r)->DCalls Tryz.prog 167 [W73 l tick 0,.agg cs,hd h] (lF r):=fun r hw=>
  oL (rs:=[.tmp 6,.tmp 7,.tmp 8]) mixed Tryz.func167 Pp.2 rfl rfl rfl (r:=r) (nlZ rfl) hw
 generalize hR:rounds (fun s=>image g s []) 300 [h] [h] 0=R
 let rr:List T:=match R with
  |some (x,n)=>[uT x,I n,.bool true]
  |none=>[.nil,I 0,.bool false]
 suffices hs:wpC Tryz.prog Pp.1 (ft [W73 l tick 0,.agg cs,hd h]) (oB (du Tryz.prog) [.tmp 6,.tmp 7,.tmp 8] rr) by
  have:=go rr hs
  cases R with
  |none=>exact yV 10 this
  |some q=>exact this
 refine And.intro hc9 ?_;refine And.intro (by simp [W.len]) ?_;refine And.intro (by simp [W.len]) ?_;refine And.intro (Nat.lt_succ_self 0) ?_;refine uA (α:=Nat×List (List Int)×List (List Int)×Nat) (fun q=>{sl:=[(0,.t (W73 l tick 0)),(4,.ptr 4 0),(9,.ptr 9 0),(10,.t (I q.2.2.2)),(11,.t (uT q.2.2.1))],bx:=[(4,.d 9 cs),(9,.v [.t (uT q.2.1)])]})
  (fun q=>SOk q.2.1/\SOk q.2.2.1/\rounds (fun s=>image g s []) q.1 q.2.1 q.2.2.1 q.2.2.2=R/\301<=q.1+q.2.1.length/\q.1+q.2.2.2=300) (fun q=>q.1) (300,[h],[h],0) ⟨zd W,zd W,hR,by simp,rfl⟩ ?_ ?_
 ·refine ⟨⟨.same _,.same _,.same _,.same _,.conv _ _ [] rfl (by simp),trivial⟩,⟨.same _,.v _ _ ⟨.conv _ _ [] rfl (by simp),trivial⟩,trivial⟩,trivial,rfl,fun _ _ _=>trivial,rfl⟩
 rintro ⟨n,all,w,r⟩ ⟨C,E,c,hn,hnr⟩;dsimp only at C E c hn hnr
 have:=C.len
 obtain ⟨n,rfl⟩: ∃m,n=m+1:=⟨n - 1,by omega⟩
 rw [rounds_succ] at c;have xD:w.length<2^32:=by have:=E.len;omega
 have z:=h55 w E.ok xD;refine uE (β:=List (List Int)×Bool) (fun q=>S4 l tick cs all q.1 r q.2) (fun q=>(image g w []=none/\q.1=[]/\q.2=false)\/(image g w []=some q.1/\q.2=true)) ?_ ?_
 ·cases him:image g w [] with
  |none=>
   rw [him] at z;refine uC (ts:=[W73 l tick 0,.agg cs,uT w]) (rd:=[]) (xs:=[]) (rest:=[.bool false]) (e:=27) (size:=10) rfl z rfl (fun _=>?_) ?_
   ·exact ⟨([],false),.inl ⟨rfl,rfl,rfl⟩,⟨.same _,.same _,.same _,.same _,.empty _,.same _,trivial⟩,⟨.same _,.same _,trivial⟩,trivial,rfl,fun _ _ _=>trivial,rfl⟩
   ·exact ⟨([],false),.inl ⟨rfl,rfl,rfl⟩,⟨.same _,.same _,.same _,.same _,.conv _ _ [23] rfl (by simp [Wk.keys]),.same _,trivial⟩,⟨.same _,.same _,trivial⟩,trivial,rfl,fun _ _ _=>trivial,rfl⟩
  |some next=>
   rw [him] at z;refine uC (ts:=[W73 l tick 0,.agg cs,uT w]) (rd:=[]) (xs:=next.map hd) (rest:=[.bool true]) (e:=27) (size:=10) rfl z rfl (fun y=>?_) ?_
   ·have mU:next=[]:=by simpa using y
    subst mU;exact ⟨([],true),.inr ⟨rfl,rfl⟩,⟨.same _,.same _,.same _,.same _,.empty _,.same _,trivial⟩,⟨.same _,.same _,trivial⟩,trivial,rfl,fun _ _ _=>trivial,rfl⟩
   ·rcases next with _|⟨x,next⟩
    ·exact ⟨([],true),.inr ⟨rfl,rfl⟩,⟨.same _,.same _,.same _,.same _,.conv _ _ [23] rfl (by simp [Wk.keys]),.same _,trivial⟩,⟨.same _,.same _,trivial⟩,trivial,rfl,fun _ _ _=>trivial,rfl⟩
    ·have e1:((x::next).map hd).length=(x::next).length:=by simp
     refine ⟨(x::next,true),.inr ⟨rfl,rfl⟩,⟨.same _,.same _,.same _,.same _,MA ?_,.same _,trivial⟩,⟨.same _,.same _,P2 ?_ rfl,trivial⟩,trivial,rfl,fun _ _ _=>trivial,rfl⟩
     ·exact e1.symm
     ·rw [e1]
 rintro ⟨next,b⟩ A;dsimp only at A;refine uE (β:=List (List Int)) (fun f=>S5 l tick cs all f r b) (fun f=>f=next.filter fun x=> !all.contains x) ?_ ?_
 ·rcases next with _|⟨x0,G⟩
  ·refine uF mixed Tryz.func183 Mx.2 rfl rfl (rs:=[.tmp 4]) rfl 1000 (nlZ rfl) ?_;refine uD (ts:=[uT [],.clos 184 [.cptr [uT all] 0]]) (rd:=[9]) (I (-1)) rfl (t100 all [] C (fun x y=>by cases y) (by decide)) rfl ?_;refine uM true trivial rfl ?_;refine ⟨_,rfl,?_⟩;exact ⟨[],rfl,⟨.same _,.same _,.same _,.same _,.same _,.same _,trivial⟩,⟨.same _,.same _,trivial⟩,trivial,rfl,fun _ _ _=>trivial,rfl⟩
  ·have u:SOk (x0::G):=by
    rcases A with ⟨_,D,_⟩|⟨D,_⟩
    ·cases D
    ·exact HO _ _ E D
   generalize hN:x0::G=N at *
   have hNl:=u.len;have J:=u.ok.len;have hNp:0<N.length:=by rw [<- hN];simp
   have hst:S4 l tick cs all N r b={sl:=[(0,.t (W73 l tick 0)),(4,.ptr 4 0),(9,.ptr 9 0),(10,.t (I r)),(12,.view 23 0 N.length 10),(13,.t (.bool b))],bx:=[(4,.d 9 cs),(9,.v [.t (uT all)]),(23,.d (N.length * 10) (vC N))]}:=by
    rw [<- hN]
   rw [hst];have hch: ∀L:List (List Int),vF L-> ∀k,k<=L.length->T.slice 10 (chunk 10 k ((vC L).drop 0))=uT (L.take k):=fun L hL k X=>by
    rw [List.drop_zero,Ix hL k X];rfl
   have K: ∀(bx:Nat->Option BX) (L:List (List Int)) (k:Nat),bx 23=some (.d (N.length * 10) (vC L))->vF L->L.length=N.length->k<=L.length->conv bx (.view 23 0 k 10)=some (uT (L.take k),[23]):=fun bx L k hb hL hLl X=>by
    have:conv bx (.view 23 0 k 10)=(match bx 23 with|some (.d m ts)=>cond (Nat.blt 0 10&&Nat.ble (0+k * 10) m) (some (T.slice 10 (chunk 10 k (ts.drop 0)),[23])) none|_=>none):=rfl
    rw [this,hb];simp only;have Z:Nat.ble (0+k * 10) (N.length * 10)=true:=Nat.ble_eq_true_of_le (by omega);rw [Z,hch L hL k X];rfl
   have hc:=t100 all N C u.ok (by omega);refine uF mixed Tryz.func183 Mx.2 rfl rfl (rs:=[.tmp 4]) rfl 1000 (nlZ rfl) ?_;rcases HA (all:=all) (next:=N) with ⟨Z,D⟩|⟨k,X,Z,D,h3⟩
   ·rw [Z] at hc;refine uD (ts:=[uT N,.clos 184 [.cptr [uT all] 0]]) (rd:=[23,9]) (I (-1)) ?_ hc rfl ?_
    ·have:=K (fun n=>lk none [(4,some (.d 9 cs)),(9,some (.v [.t (uT all)])),(23,some (.d (N.length * 10) (vC N)))] n) N N.length rfl J rfl (Nat.le_refl _)
     rw [List.take_length] at this;exact tD this rfl
    refine uM true trivial rfl ?_;refine ⟨_,rfl,?_⟩;refine ⟨N,D.symm,⟨.same _,.same _,.same _,.same _,.conv _ _ [23] ?_ (by simp [Wk.keys]),.same _,trivial⟩,⟨.same _,.same _,trivial⟩,trivial,rfl,fun _ _ _=>trivial,rfl⟩
    have:=K (fun n=>lk none [(23,some (.d (N.length * 10) (vC N)))] n) N N.length rfl J rfl (Nat.le_refl _)
    rw [List.take_length] at this;exact this
   ·rw [Z] at hc;refine uD (ts:=[uT N,.clos 184 [.cptr [uT all] 0]]) (rd:=[23,9]) (I k) ?_ hc rfl ?_
    ·have:=K (fun n=>lk none [(4,some (.d 9 cs)),(9,some (.v [.t (uT all)])),(23,some (.d (N.length * 10) (vC N)))] n) N N.length rfl J rfl (Nat.le_refl _)
     rw [List.take_length] at this;exact tD this rfl
    refine uM false trivial (by simp) ?_;refine uA (α:=Nat×Nat×List (List Int)) (fun q=>S85 l tick cs all N.length r b q.1 (q.2.1+1) q.2.2)
     (fun q=>q.1<q.2.1+1/\q.2.1+1<=N.length/\q.2.2.length=N.length/\vF q.2.2/\q.2.2.take q.1=(N.take (q.2.1+1)).filter (fun x=> !all.contains x)/\q.2.2.drop (q.2.1+1)=N.drop (q.2.1+1)) (fun q=>N.length - q.2.1) (k,k,N) ⟨Nat.lt_succ_self k,X,rfl,J,?_,rfl⟩ ?_ ?_
    ·rw [List.take_succ_eq_append_getElem X,List.filter_append,h3];simp;exact List.contains_iff_mem.1 D
    ·exact ⟨⟨.same _,.same _,.same _,leI (by dsimp only;rw [oA] <;> omega),trivial⟩,⟨.same _,.same _,.same _,trivial⟩,⟨⟨.same _,.same _,.same _,.same _,.same _,trivial⟩,trivial⟩,rfl,fun _ _ _=>trivial,rfl⟩
    rintro ⟨i,j',L⟩ ⟨q1,q2,q3,U,q5,V⟩;dsimp only at q1 q2 q3 U q5 V;obtain ⟨j,hjj⟩: ∃j,j=j'+1:=⟨_,rfl⟩
    rw [<- hjj] at q1 q2 q5 V;refine uL trivial (fun hq=>?_) (fun hq=>?_)
    ·have M:j<N.length:=by simp at hq;omega
     have O:j<L.length:=by omega
     have y:L[j]=N[j]:=by
      have e:L[j]? =N[j]? :=by have:=congrArg List.head? V;simpa [List.head?_drop] using this
      rw [ggZ O,ggZ M] at e;exact Option.some.inj e
     have B:=u.ok _ (List.getElem_mem M);refine And.intro (by dsimp only;omega) ?_;refine uP (hd N[j]) (by simp;omega) (by
      show T.agg (((vC L).drop (0+((j'+1:Nat):Int).toNat * 10)).take 10)=_
      rw [<- hjj,Int.toNat_natCast,Nat.zero_add,Hv U j O,y];rfl) ?_
     refine And.intro ⟨by simp [B.len],by decide⟩ ?_;have cU:=t86 all N[j] C B;have qC:T.agg (aP zt 0 10 (N[j].map I))=hd N[j]:=by simp [aP,hd,B.len]
     rw [<- qC] at cU;refine uD (ts:=[T.agg (aP zt 0 10 (N[j].map I)),.cptr [uT all] 0]) (rd:=[9]) _ rfl cU rfl ?_;have hf:(N.take (j+1)).filter (fun x=> !all.contains x)=L.take i++(if all.contains N[j] then [] else [N[j]]):=by
      rw [List.take_succ_eq_append_getElem M,List.filter_append,q5]
      by_cases hc2:N[j]∈all <;> simp [hc2]
     cases hm:all.contains N[j] with
     |true=>
      rw [hm] at hf;refine ⟨(i,j,L),⟨by dsimp only;omega,M,q3,U,by rw [hf];simp,?_⟩,by dsimp only;omega,?_⟩
      ·rw [List.drop_eq_getElem_cons O,List.drop_eq_getElem_cons M] at V;exact (List.cons.inj V).2
      ·exact ⟨⟨.same _,.same _,.same _,leI (show ((j+1:Nat):Int)=IntKind.wrap .i64 (((j'+1:Nat):Int)+1) by rw [oA] <;> omega),trivial⟩,⟨.same _,.same _,.same _,trivial⟩,⟨⟨.same _,.same _,.same _,.same _,.same _,trivial⟩,trivial⟩,rfl,fun _ _ _=>trivial,rfl⟩
     |false=>
      rw [hm] at hf;have hi:i<L.length:=by omega
      refine And.intro (by omega) ?_;refine And.intro ⟨by simp [B.len,aP],by simp;omega⟩ ?_;refine ⟨(i+1,j,L.set i N[j]),⟨by dsimp only;omega,M,by simpa using q3,fun x y=>?_,?_,?_⟩,by dsimp only;omega,?_⟩
      ·rcases List.mem_or_eq_of_mem_set y with y|rfl
       ·exact U x y
       ·exact B.len
      ·rw [hf,List.take_set,List.take_succ_eq_append_getElem hi,List.set_append_right _ _ (by simp;omega)];simp [List.length_take,Nat.min_eq_left (Nat.le_of_lt hi)]
      ·show (L.set i N[j]).drop (j+1)=N.drop (j+1)
       rw [List.drop_set_of_lt (by omega)];rw [List.drop_eq_getElem_cons O,List.drop_eq_getElem_cons M] at V;exact (List.cons.inj V).2
      ·refine ⟨⟨.same _,.same _,leI (show ((i+1:Nat):Int)=IntKind.wrap .i64 ((i:Int)+1) by rw [oA] <;> omega),leI (show ((j+1:Nat):Int)=IntKind.wrap .i64 (((j'+1:Nat):Int)+1) by rw [oA] <;> omega),trivial⟩,⟨.same _,.same _,uv ?_,trivial⟩,⟨⟨.same _,.same _,.same _,.same _,.same _,trivial⟩,trivial⟩,rfl,fun _ _ _=>trivial,rfl⟩
       have:aP zt 0 10 (N[j].map I)=N[j].map I:=by simp [aP,B.len]
       show _=aP (vC L) (0+(i:Int).toNat * 10) 10 (aP zt 0 10 (N[j].map I))
       rw [this,Int.toNat_natCast,Nat.zero_add,Hw U i hi]
    ·have M:j=N.length:=by simp at hq;omega
     subst M;rw [List.take_length] at q5;refine And.intro (by simp;omega) ?_;refine And.intro (by simp;omega) ?_;refine And.intro (by simp;omega) ?_;refine ⟨_,rfl,?_⟩;have hi:i<=L.length:=by omega
     have hL2:(L.take i++List.replicate (N.length - i) z10).length=N.length:=by simp;omega
     have hL3:vF (L.take i++List.replicate (N.length - i) z10):=fun x y=>by
      rcases List.mem_append.1 y with y|y
      ·exact U x (List.mem_of_mem_take y)
      ·rw [List.eq_of_mem_replicate y];rfl
     have hL4:(L.take i++List.replicate (N.length - i) z10).take i=N.filter fun x=> !all.contains x:=by
      rw [List.take_append_of_le_length (by simp;omega),List.take_take,Nat.min_self,q5]
     refine ⟨N.filter fun x=> !all.contains x,rfl,⟨.same _,.same _,.same _,.same _,.conv (.view 23 0 i 10) _ [23] ?_ (by simp [Wk.keys]),.same _,trivial⟩,⟨.same _,.same _,trivial⟩,trivial,rfl,fun _ _ _=>trivial,rfl⟩;rw [<- hL4];refine K _ _ i ?_ hL3 hL2 (by rw [hL2];omega)
     have:=FO U i N.length hi q3
     rw [<- this];show some (BX.d (N.length * 10) (aP (vC L) (0+(i:Int).toNat * 10) (((N.length:Int).toNat - (i:Int).toNat) * 10) (List.replicate ((N.length:Int).toNat - (i:Int).toNat) zt).flatten))=_
     rw [Int.toNat_natCast,Int.toNat_natCast,Nat.zero_add]
 ·rintro f rfl;have u:SOk (next.filter fun x=> !all.contains x):=by
   rcases A with ⟨_,D,_⟩|⟨D,_⟩
   ·subst D;exact yG
   ·exact BL _ (HO _ _ E D)
  generalize hF:(next.filter fun x=> !all.contains x)=F at *
  have hap: ∀x∈F, ¬x∈all:=fun x y hxa=>by
   rw [<- hF,List.mem_filter] at y
   have:=y.2
   rw [List.contains_iff_mem.2 hxa] at this;cases this
  refine EC (ts:=[uT all,uT F]) (uT (mrg all F)) rfl (GF all F C.ok.len u.ok.len (by have:=u.len;omega)) ?_;have h82:=t82 (mrg all F) b;rcases A with ⟨P,hi2,Q⟩|⟨P,Q⟩
  ·subst Q;rw [P] at c;simp only at c;subst c;refine EC (ts:=[uT (mrg all F),.bool false]) _ rfl h82 ?_;refine And.intro (Nat.lt_succ_self 0) ?_;exact ⟨rfl,rfl,rfl,trivial⟩
  ·subst Q;rw [P] at c;simp only at c;rw [hF] at c;refine EC (ts:=[uT (mrg all F),.bool true]) _ rfl h82 ?_;cases S:small (mrg all F) with
   |none=>
    rw [S] at c;simp only at c;subst c;refine And.intro (Nat.lt_succ_self 0) ?_;exact ⟨rfl,rfl,rfl,trivial⟩
   |some Y=>
    rw [S] at c;simp only at c;obtain ⟨HR,he⟩:=yY (xP C.ok.len u.ok.len C.srt u.srt) (yo C.ok u.ok) S;refine And.intro (Nat.lt_succ_self 0) ?_
    by_cases H:F=[]
    ·rw [if_pos H] at c;subst c;refine uM true trivial (by rw [H];rfl) ?_;exact ⟨rfl,rfl,rfl,trivial⟩
    ·rw [if_neg H] at c;have hFl:0<F.length:=List.length_pos_iff.2 H;refine uM false trivial (by simp;omega) ?_;have hlen:=yO C.ok.len u.ok.len hap;refine ⟨(n,Y,F,r+1),⟨HR,u,c,by dsimp only;rw [he];omega,by dsimp only;omega⟩,by dsimp only;omega,?_⟩;exact ⟨⟨.same _,.same _,.same _,leI (show ((r+1:Nat):Int)=IntKind.wrap .i64 ((r:Int)+1) by rw [oA] <;> omega),.same _,trivial⟩,⟨.same _,.same _,trivial⟩,trivial,rfl,fun _ _ _=>trivial,rfl⟩
end Go.MM
end
section
namespace Go.MM
open Go Go.DL Go.Proofs
theorem EL{P:Program}{f:FuncId}{ts:List T}(o:Option (List (List Int)))(h:DCalls P f ts (lF (.slice 10 ((o.getD []).map hd)::[.bool o.isSome]))):DCalls P f ts (H7 o):=by
 cases o with
 |none=>exact h
 |some x=>exact h
def both(a rb:Option (List (List Int))):Option (List (List Int)):=match a,rb with
 |some x,some y=>small (mrg x y)
 |_,_=>none
theorem Ka(s:List (List Int)):DCalls Tryz.prog 164 [uT s,.bool false] (.tup [uT [],.bool false]):=t82 s false
theorem Qj(s:List (List Int)):DCalls Tryz.prog 164 [uT s,.bool true] (H7 (small s)):=t82 s true
theorem t79(l:List Fd)(t:LOk l)(tick:Int): ∀p:Po,OOk l p->G79 l tick p:=by
 intro p
 induction p with
 |filter p=>
  intro N h c;have B: ∀r,wpC Tryz.prog Gf.1 (ft [ve (.filter p),hd h,.cptr [W73 l tick 0] 0,.cptr [fds l] 0]) (oB (du Tryz.prog) [.tmp 6,.tmp 7] r)->DCalls Tryz.prog 161 [ve (.filter p),hd h,.cptr [W73 l tick 0] 0,.cptr [fds l] 0] (lF r):=fun r L=>
   oL (rs:=[.tmp 6,.tmp 7]) mixed Tryz.func161 Gf.2 rfl rfl rfl (r:=r) (nlZ rfl) L
  have pre: ∀r,(holds l tick h p=true->r=[uT [h],.bool true])->(holds l tick h p=false->r=[.nil,.bool true])->wpC Tryz.prog Gf.1 (ft [ve (.filter p),hd h,.cptr [W73 l tick 0] 0,.cptr [fds l] 0]) (oB (du Tryz.prog) [.tmp 6,.tmp 7] r):=fun r C D=>by
   refine And.intro (vt (.filter p)).2 ?_;refine And.intro (by simp [c.len]) ?_;refine uP (I 1) (by decide) rfl ?_;refine uM true trivial rfl ?_;refine uP (W73 l tick 0) (Nat.lt_succ_self 0) rfl ?_;refine uP (vm p) (by decide) (by
    show T.agg (((vm p).cells++[nm0,I 0,.slice 9 []]).take 5)=_
    rw [List.take_append_of_le_length (by rw [(vB p).2];exact Nat.le_refl _),List.take_of_length_le (by rw [(vB p).2];exact Nat.le_refl _),(vB p).1]) ?_
   refine pC _ (t73 l t tick h c p N) ?_;cases g:holds l tick h p with
   |true=>
    rw [C g];refine And.intro (by simp [c.len]) ?_;exact ⟨rfl,rfl,trivial⟩
   |false=>
    rw [D g];exact ⟨rfl,rfl,trivial⟩
  unfold gives;cases g:holds l tick h p with
  |true=>exact B _ (pre _ (fun _=>rfl) (fun h=>by rw [g] at h;cases h))
  |false=>exact yV 10 (B _ (pre [.nil,.bool true] (fun h=>by rw [g] at h;cases h) (fun _=>rfl)))
 |set f n=>
  rintro ⟨F,H,J⟩ h c;have j:=t.find H;have K:=t74 l f t.len;unfold xB at K;rw [H] at K;have C:=HOk.set j zX (BW F F.w);have D:=HOk.set j zX (Nat.lt_of_le_of_lt (Nat.and_le_left (n:=n) (m:=vp F F.w)) J);refine dl2 mixed [.tmp 6,.tmp 7] [uT [wc (fld l f) h n],.bool true] Tryz.func161 Gf.2 ?_;refine And.intro rfl ?_;refine And.intro (by simp [c.len]) ?_;refine uP (I 2) (by decide) rfl ?_;refine uM false trivial rfl ?_;refine uM true trivial rfl ?_;refine uP (fds l) (Nat.lt_succ_self 0) rfl ?_;refine uP (.str f) (by decide) rfl ?_;refine pC _ K ?_;refine And.intro ⟨rfl,by decide⟩ ?_;refine uP (I n) (by decide) rfl ?_;refine pC _ (t81 F j n J) ?_;refine pC _ (t80 _ _ h C D c) ?_;refine And.intro (by simp [xz]) ?_;exact ⟨congrArg (fun x=>some (uT [x])) (by rw [GM j c n J,xN H]),rfl,trivial⟩
 |union a b i v=>
  rintro ⟨k,g⟩ h c;have G:=i k h c;have gb:=v g h c;have A:=fun s (e:gives l tick a h=some s)=>wq t k c e
  have E:=fun s (e:gives l tick b h=some s)=>wq t g c e
  have e:gives l tick (.union a b) h=both (gives l tick a h) (gives l tick b h):=rfl;rw [e];generalize gives l tick a h=ra at *
  generalize gives l tick b h=rb at *
  refine EL _ (oL (rs:=[.tmp 6,.tmp 7]) mixed Tryz.func161 Gf.2 rfl rfl rfl (r:=.slice 10 (((both ra rb).getD []).map hd)::[.bool (both ra rb).isSome]) (nlZ rfl) ?_);refine And.intro rfl ?_;refine And.intro (by simp [c.len]) ?_;refine uP (I 3) (by decide) rfl ?_;refine uM false trivial rfl ?_;refine uM false trivial rfl ?_;refine uM true trivial rfl ?_;refine uP (W73 l tick 0) (Nat.lt_succ_self 0) rfl ?_;refine uP (.slice 9 [ve a,ve b]) (by decide) rfl ?_;refine uP (ve a) (by simp) rfl ?_;refine uP (ve a) (vt a).2 (vt a).1 ?_;refine pC _ G ?_;cases ra with
  |none=>
   refine uP (W73 l tick 0) (Nat.lt_succ_self 0) rfl ?_;refine uP (.slice 9 [ve a,ve b]) (by decide) rfl ?_;refine uP (ve b) (by simp) rfl ?_;refine uP (ve b) (vt b).2 (vt b).1 ?_;refine pC _ gb ?_;cases rb with
   |none=>
    refine pC _ (GF [] [] (fun x d=>by cases d) (fun x d=>by cases d) (by decide)) ?_;refine pC _ (Ka _) ?_;exact ⟨rfl,rfl,trivial⟩
   |some y=>
    have u:=E y rfl;refine pC _ (GF [] y (fun x d=>by cases d) u.ok.len (by have:=u.len;simp;omega)) ?_;refine pC _ (Ka _) ?_;exact ⟨rfl,rfl,trivial⟩
  |some x=>
   have d:=A x rfl;refine uP (W73 l tick 0) (Nat.lt_succ_self 0) rfl ?_;refine uP (.slice 9 [ve a,ve b]) (by decide) rfl ?_;refine uP (ve b) (by simp) rfl ?_;refine uP (ve b) (vt b).2 (vt b).1 ?_;refine pC _ gb ?_;cases rb with
   |none=>
    refine pC _ (GF x [] d.ok.len (fun x d=>by cases d) (by have:=d.len;simp;omega)) ?_;refine pC _ (Ka _) ?_;exact ⟨rfl,rfl,trivial⟩
   |some y=>
    have u:=E y rfl;refine pC _ (GF x y d.ok.len u.ok.len (by have:=d.len;have:=u.len;omega)) ?_;refine pC _ (Qj (mrg x y)) ?_;have M:both (some x) (some y)=small (mrg x y):=rfl;rw [M];cases small (mrg x y) with
    |none=>exact ⟨rfl,rfl,trivial⟩
    |some z=>exact ⟨rfl,rfl,trivial⟩
 |seq a b i v=>
  rintro ⟨k,g⟩ h c;have G:=i k h c;have A:=fun s (e:gives l tick a h=some s)=>wq t k c e
  have e:gives l tick (.seq a b) h=(gives l tick a h).bind fun x=>image (gives l tick b) x []:=by
   show (match gives l tick a h with|some x=>image (gives l tick b) x []|none=>none)=_
   cases gives l tick a h <;> rfl
  rw [e];generalize gives l tick a h=ra at *
  have B: ∀r,wpC Tryz.prog Gf.1 (ft [ve (.seq a b),hd h,.cptr [W73 l tick 0] 0,.cptr [fds l] 0]) (oB (du Tryz.prog) [.tmp 6,.tmp 7] r)->DCalls Tryz.prog 161 [ve (.seq a b),hd h,.cptr [W73 l tick 0] 0,.cptr [fds l] 0] (lF r):=fun r L=>
   oL (rs:=[.tmp 6,.tmp 7]) mixed Tryz.func161 Gf.2 rfl rfl rfl (r:=r) (nlZ rfl) L
  have pre: ∀r,(ra=none->r=[.nil,.bool false])->(∀ x,ra=some x->r= .slice 10 (((image (gives l tick b) x []).getD []).map hd)::[.bool (image (gives l tick b) x []).isSome])->wpC Tryz.prog Gf.1 (ft [ve (.seq a b),hd h,.cptr [W73 l tick 0] 0,.cptr [fds l] 0]) (oB (du Tryz.prog) [.tmp 6,.tmp 7] r):=fun r C D=>by
   refine And.intro rfl ?_;refine And.intro (by simp [c.len]) ?_;refine uP (I 4) (by decide) rfl ?_;refine uM false trivial rfl ?_;refine uM false trivial rfl ?_;refine uM false trivial rfl ?_;refine uM true trivial rfl ?_;refine uP (W73 l tick 0) (Nat.lt_succ_self 0) rfl ?_;refine uP (.slice 9 [ve a,ve b]) (by decide) rfl ?_;refine uP (ve a) (by simp) rfl ?_;refine uP (ve a) (vt a).2 (vt a).1 ?_;refine pC _ G ?_;cases ra with
   |none=>
    rw [C rfl];exact ⟨rfl,rfl,trivial⟩
   |some x=>
    have d:=A x rfl;rw [D x rfl];refine uP (W73 l tick 0) (Nat.lt_succ_self 0) rfl ?_;refine uP (.slice 9 [ve a,ve b]) (by decide) rfl ?_;refine uP (ve b) (by simp) rfl ?_;refine uP (ve b) (vt b).2 (vt b).1 ?_;refine pC _ (dA.dc (t55 l t tick b g (v g) x d.ok (by have:=d.len;omega))) ?_;exact ⟨rfl,rfl,trivial⟩
  cases ra with
  |none=>exact yV 10 (B [.nil,.bool false] (pre _ (fun _=>rfl) (fun x d=>by cases d)))
  |some x=>exact EL _ (B _ (pre _ (fun d=>by cases d) (fun y u=>by cases u;rfl)))
 |star a i=>
  intro k h c;have O:=t56 l t tick a k (i k) h c;have e:gives l tick (.star a) h=(rounds (fun s=>image (gives l tick a) s []) 300 [h] [h] 0).map (·.1):=rfl
  rw [e];generalize rounds (fun s=>image (gives l tick a) s []) 300 [h] [h] 0=R at *
  refine EL _ (oL (rs:=[.tmp 6,.tmp 7]) mixed Tryz.func161 Gf.2 rfl rfl rfl (r:=.slice 10 (((R.map (·.1)).getD []).map hd)::[.bool (R.map (·.1)).isSome]) (nlZ rfl) ?_)
  refine And.intro rfl ?_;refine And.intro (by simp [c.len]) ?_;refine uP (I 5) (by decide) rfl ?_;refine uM false trivial rfl ?_;refine uM false trivial rfl ?_;refine uM false trivial rfl ?_;refine uM false trivial rfl ?_;refine uP (W73 l tick 0) (Nat.lt_succ_self 0) rfl ?_;refine uP (.slice 9 [ve a]) (by decide) rfl ?_;refine uP (ve a) (by simp) rfl ?_;refine uP (ve a) (vt a).2 (vt a).1 ?_;refine pC _ O ?_;cases R with
  |none=>exact ⟨rfl,rfl,trivial⟩
  |some q=>exact ⟨rfl,rfl,trivial⟩
end Go.MM
end
