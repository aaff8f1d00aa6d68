/- Joined by program: parts of a data level over the model, of the program's functions over it, and of the statement's proof. -/
import Derived.Test.YtnfonfjleonbdaaGreatGe
import Derived.Test.YtnfonfjleonbdaaGreatGc
import Derived.Test.YtnfonfjleonbdaaGreatGd
import Derived.Test.YtnfonfjleonbdaaGreatProg
import Derived.KernelRfl
import Derived.Shelf.Sort.Plain
import Derived.Shelf.Slices.In.SortNone
import Derived.Shelf.Lays8
set_option maxRecDepth 100000
set_option maxHeartbeats 8000000
section
namespace Go.MM
open Go Go.DL Go.Proofs
theorem MH{x h:List Int}(b:x.length=h.length)(c: ¬vA x h<0)(a:x≠h):vA h x<0:=by
 have e:=AG x h
 have:vA x h≠0:=fun e=>a (zb b e)
 omega
theorem BZ{h x:List Int}: ∀{l:List (List Int)},x∈wD l h↔x=h\/x∈l
 |[]=>by simp [wD]
 |y::l=>by
  unfold wD;split
  ·rw [List.mem_cons,BZ,List.mem_cons];exact ⟨fun h=>by rcases h with h|h|h <;> simp [h],fun h=>by rcases h with h|h|h <;> simp [h]⟩
  ·split
   ·rename_i e;subst e;simp
   ·simp
theorem GB{h:List Int}(c:h.length=10): ∀{l:List (List Int)},vF l->Srt l->Srt (wD l h)
 |[],_,_=>Ho h
 |y::l,hl,hs=>by
  unfold wD;have e:=hl y (by simp);split
  ·rename_i b;refine List.pairwise_cons.2 ⟨fun z a=>?_,GB c (fun z a=>hl z (by simp [a])) hs.tail⟩;rcases BZ.1 a with rfl|a
   ·exact b
   ·exact hs.head z a
  ·rename_i b;split
   ·exact hs
   ·rename_i g;have f:=MH (e.trans c.symm) b g;refine List.pairwise_cons.2 ⟨fun z a=>?_,hs⟩;rcases List.mem_cons.1 a with rfl|a
    ·exact f
    ·exact zg (c.trans e.symm) (e.trans (hl z (by simp [a])).symm) f (hs.head z a)
theorem IC: ∀{b a:List (List Int)},vF a->vF b->Srt a->Srt b->b.foldl wD a=mrg a b:=by
 have key: ∀{b a:List (List Int)},vF a->vF b->Srt a->(Srt (b.foldl wD a)/\ ∀x,x∈b.foldl wD a↔x∈a\/x∈b):=by
  intro b
  induction b with
  |nil=>exact fun c _ g=>⟨g,fun x=>by simp⟩
  |cons y b o=>
   intro a c f g;have m:=f y (by simp);have k:vF (wD a y):=fun z l=>(BZ.1 l).elim (fun e=>e▸m) (c z)
   obtain ⟨i,j⟩:=o k (fun z l=>f z (by simp [l])) (GB m c g);refine ⟨i,fun x=>?_⟩;rw [List.foldl_cons,j,BZ,List.mem_cons];exact ⟨fun h=>by rcases h with (h|h)|h <;> simp [h],fun h=>by rcases h with h|h|h <;> simp [h]⟩
 intro b a c f g n;obtain ⟨i,j⟩:=key c f g;exact Hn i (xP c f g n) fun x=>by rw [j,zc c f]
theorem J9(a b:List (List Int))(c:SOk a)(e:SOk b):DCalls Tryz.prog 128 [uT a,uT b] (uT (mrg a b)):=by
 have:=t15 a b c.ok.len e.ok.len (by have:=c.len;have:=e.len;omega)
 rwa [IC c.ok.len e.ok.len c.srt e.srt] at this
theorem C0{P:Program}{f:FuncId}{ts:List T}(o:Option (List (List Int)))(h:DCalls P f ts (lF (.slice 10 ((o.getD []).map hd)::[I (if o.isSome then 0 else 2)]))):DCalls P f ts (xO o):=by
 cases o with
 |none=>exact h
 |some x=>exact h
theorem t28(l:List Fd)(f:LOk l)(tick:Int)(p:Po)(g:OOk l p)(h:List Int)(e:HOk h):DCalls Tryz.prog 85 [fds l,ve p,hd h,I tick] (xO (gives l tick p h)):=by
 have c:=t79 l f tick p g h e;obtain ⟨cs,b,a⟩:=zS p;rw [b] at c ⊢;generalize gives l tick p h=R at *
 refine C0 R (oL (rs:=[.tmp 8,.tmp 9]) mixed Tryz.func85 l85.2 rfl rfl rfl (r:=.slice 10 ((R.getD []).map hd)::[I (if R.isSome then 0 else 2)]) (nlZ rfl) ?_);refine And.intro a ?_;refine And.intro (by simp [e.len]) ?_;refine pC _ (t50 l tick) ?_;refine pC _ c ?_;cases R with
 |none=>
  refine pC _ (t49 [] false) ?_;exact ⟨rfl,rfl,trivial⟩
 |some x=>
  refine pC _ (t49 x true) ?_;exact ⟨rfl,rfl,trivial⟩
def FF(l:List Fd)(tick:Int)(p:Po)(h:List Int):Option (List (List Int)×Nat):=rounds (fun s=>image (gives l tick p) s []) 300 [h] [h] 0
theorem t53(s:List (List Int)):DCalls Tryz.prog 127 [uT s] (xO (small s)):=by
 have a: ∀r,wpC Tryz.prog OZ.1 (ft [uT s]) (oB (du Tryz.prog) [.tmp 2,.tmp 3] r)->DCalls Tryz.prog 127 [uT s] (lF r):=fun r h=>
  oL (rs:=[.tmp 2,.tmp 3]) mixed Tryz.func127 OZ.2 rfl rfl rfl (r:=r) (nlZ rfl) h
 unfold small
 by_cases h:s.length>256
 ·rw [if_pos h];refine yV 10 (a [.nil,I 2] ?_);refine uM true trivial (by simp;omega) ?_;exact ⟨rfl,rfl,trivial⟩
 ·rw [if_neg h];refine a [uT s,I 0] ?_;refine uM false trivial (by simp;omega) ?_;exact ⟨rfl,rfl,trivial⟩
def G31(l:List Fd)(tick:Int)(p:Po):Prop:= ∀h,HOk h->DCalls Tryz.prog 86 [fds l,ve p,hd h,I tick] (xO (gives l tick p h))
theorem t33(l:List Fd)(N:LOk l)(tick:Int)(p:Po)(O:OOk l p)(B:G31 l tick p)(c:List (List Int))(D:vP c)(H:c.length<2^32):
  DCalls Tryz.prog 129 [fds l,ve p,uT c,I tick] (xO (image (gives l tick p) c [])):=by
 obtain ⟨cs,A,z⟩:=zS p;have L: ∀h s,HOk h->gives l tick p h=some s->SOk s:=fun h s M e=>wq N O M e
 unfold G31 at B;rw [A] at B ⊢;generalize gives l tick p=g at *
 have G: ∀r,wpC Tryz.prog O1.1 (ft [fds l,.agg cs,uT c,I tick]) (oB (du Tryz.prog) [.tmp 8,.tmp 9] r)->DCalls Tryz.prog 129 [fds l,.agg cs,uT c,I tick] (lF r):=fun r P=>
  oL (rs:=[.tmp 8,.tmp 9]) mixed Tryz.func129 O1.2 rfl rfl rfl (r:=r) (nlZ rfl) P
 have pre: ∀r,(image g c []=none->r=[.nil,I 2])->(∀ x,image g c []=some x->r=[uT x,I 0])->wpC Tryz.prog O1.1 (ft [fds l,.agg cs,uT c,I tick]) (oB (du Tryz.prog) [.tmp 8,.tmp 9] r):=fun r n F=>by
  refine And.intro z ?_;refine uA (α:=Nat×List (List Int)) (fun q=>{sl:=[(0,.t (fds l)),(2,.t (uT c)),(3,.t (I tick)),(5,.ptr 5 0),(10,.t (uT q.2)),(11,.t (I q.1))],bx:=[(5,.d 9 cs)]})
   (fun q=>q.1<=c.length/\SOk q.2/\image g (c.drop q.1) q.2=image g c []) (fun q=>c.length - q.1) (0,[]) ⟨by simp,yG,rfl⟩ ?_ ?_
  ·exact ⟨⟨.same _,.same _,.same _,.same _,.empty _,.same _,trivial⟩,⟨.same _,trivial⟩,trivial,rfl,fun _ _ _=>trivial,rfl⟩
  rintro ⟨i,f⟩ ⟨hi,u,b⟩;dsimp only at hi u b;refine uL trivial (fun E=>?_) (fun E=>?_)
  ·have m:i<c.length:=by simpa using E
   have x1:=D _ (List.getElem_mem m);rw [List.drop_eq_getElem_cons m,DZ] at b;refine uP (hd c[i]) (by simpa using m) (by simp [m]) ?_;refine uP (hd c[i]) (by simpa [hd,T.cells] using x1.len) rfl ?_;have v:=B c[i] x1;cases k:g c[i] with
   |none=>
    rw [k] at v b;simp only at b;rw [n b.symm];refine pC _ v ?_;refine uM true trivial rfl ?_;exact ⟨rfl,rfl,trivial⟩
   |some a=>
    rw [k] at v b;simp only at b;have w:=L _ _ x1 k;refine pC _ v ?_;refine uM false trivial rfl ?_;refine pC _ (J9 f a u w) ?_
    by_cases K:(mrg f a).length>256
    ·have j:small (mrg f a)=none:=by unfold small;rw [if_pos K]
     rw [j] at b;simp only at b;rw [n b.symm];refine uM true trivial (by simp;omega) ?_;exact ⟨rfl,rfl,trivial⟩
    ·have j:small (mrg f a)=some (mrg f a):=by unfold small;rw [if_neg K]
     rw [j] at b;simp only at b;refine uM false trivial (by simp;omega) ?_;refine ⟨(i+1,mrg f a),⟨m,(yY (xP u.ok.len w.ok.len u.srt w.srt) (yo u.ok w.ok) j).1,b⟩,by simp;omega,?_⟩;exact ⟨⟨.same _,.same _,.same _,.same _,.same _,leI (by rw [oA] <;> simp <;> omega),trivial⟩,⟨.same _,trivial⟩,trivial,rfl,fun _ _ _=>trivial,rfl⟩
  ·have C:c.length<=i:=by simpa using E
   rw [List.drop_eq_nil_of_le C] at b;rw [F f b.symm];exact ⟨rfl,rfl,trivial⟩
 cases b:image g c [] with
 |none=>exact yV 10 (G _ (pre [.nil,I 2] (fun _=>rfl) (fun x o=>by rw [b] at o;cases o)))
 |some x=>exact G _ (pre [uT x,I 0] (fun o=>by rw [b] at o;cases o) (fun y J=>by rw [b] at J;cases J;rfl))
def Qb:Option (List (List Int)×Nat)->T
 |some (x,n)=>.tup [uT x,I n,I 0]
 |none=>.tup [uT [],I 0,I 2]
theorem DK(p:List Int->Bool)(l:List (List Int))(j:Nat)(a:j<l.length):(l.take (j+1)).filter p=(l.take j).filter p++(if p l[j] then [l[j]] else []):=by
 rw [List.take_succ_eq_append_getElem a,List.filter_append]
 congr 1
 cases h:p l[j] <;> simp [h]
theorem t54(l:List Fd)(X:LOk l)(tick:Int)(p:Po)(hp:OOk l p)(hg:G31 l tick p)(h:List Int)(v:HOk h):
  DCalls Tryz.prog 130 [fds l,ve p,hd h,I tick] (Qb (FF l tick p h)):=by
 have C:=t33 l X tick p hp hg;obtain ⟨cs,L,K⟩:=zS p;have Dx: ∀h s,HOk h->gives l tick p h=some s->SOk s:=fun h s v e=>wq X hp v e
 have HO: ∀a s,SOk a->image (gives l tick p) a []=some s->SOk s:=fun a s k e=>AN Dx k.ok yG e
 unfold FF;rw [L] at C ⊢;generalize gives l tick p=g at *
 generalize hR:rounds (fun s=>image g s []) 300 [h] [h] 0=R;have W: ∀r,wpC Tryz.prog O2.1 (ft [fds l,.agg cs,hd h,I tick]) (oB (du Tryz.prog) [.tmp 8,.tmp 9,.tmp 10] r)->DCalls Tryz.prog 130 [fds l,.agg cs,hd h,I tick] (lF r):=fun r hw=>
  oL (rs:=[.tmp 8,.tmp 9,.tmp 10]) mixed Tryz.func130 O2.2 rfl rfl rfl (r:=r) (nlZ rfl) hw
 have pre: ∀r,(R=none->r=[.nil,I 0,I 2])->(∀ x n,R=some (x,n)->r=[uT x,I n,I 0])->wpC Tryz.prog O2.1 (ft [fds l,.agg cs,hd h,I tick]) (oB (du Tryz.prog) [.tmp 8,.tmp 9,.tmp 10] r):=fun rr D P=>by
  refine And.intro K ?_;refine And.intro (by simp [v.len]) ?_;refine And.intro (by simp [v.len]) ?_;refine And.intro (by simp [v.len]) ?_;refine uA (α:=Nat×List (List Int)×List (List Int)×Nat) (fun q=>{sl:=[(0,.t (fds l)),(3,.t (I tick)),(5,.ptr 5 0),(11,.t (uT q.2.1)),(12,.t (uT q.2.2.1)),(13,.t (I q.2.2.2))],bx:=[(5,.d 9 cs)]})
   (fun q=>SOk q.2.1/\SOk q.2.2.1/\q.2.2.2<=300/\((q.2.2.1=[]/\R=some (q.2.1,q.2.2.2))\/(q.2.2.1≠[]/\rounds (fun s=>image g s []) q.1 q.2.1 q.2.2.1 q.2.2.2=R/\301<=q.1+q.2.1.length/\q.1+q.2.2.2=300))) (fun q=>q.1) (300,[h],[h],0) ⟨zd v,zd v,by simp,.inr ⟨by simp,hR,by simp,rfl⟩⟩ ?_ ?_
  ·exact ⟨⟨.same _,.same _,.same _,.conv _ _ [] rfl (by simp),.conv _ _ [] rfl (by simp),.same _,trivial⟩,⟨.same _,trivial⟩,trivial,rfl,fun _ _ _=>trivial,rfl⟩
  rintro ⟨n,all,c,r⟩ ⟨k,G,V,S⟩;dsimp only at k G V S;have hal:=k.len;rcases S with ⟨he,H⟩|⟨N,b,hn,hnr⟩
  ·subst he;refine uM false trivial rfl ?_;rw [P _ _ H];exact ⟨rfl,rfl,rfl,trivial⟩
  ·have hfp:0<c.length:=List.length_pos_iff.2 N;obtain ⟨n,rfl⟩: ∃m,n=m+1:=⟨n - 1,by omega⟩
   rw [rounds_succ] at b;refine uM true trivial (by simp;omega) ?_;have f:=C c G.ok (by have:=G.len;omega);cases w:image g c [] with
   |none=>
    rw [w] at f b;simp only at b;refine pC _ f ?_;refine uM true trivial rfl ?_;rw [D b.symm];exact ⟨rfl,rfl,rfl,trivial⟩
   |some next=>
    rw [w] at f b;simp only at b;have z:=HO _ _ G w;have hnl:=z.len;refine pC _ f ?_;refine uM false trivial rfl ?_;refine uA (α:=Nat) (fun j=>{sl:=[(0,.t (fds l)),(3,.t (I tick)),(5,.ptr 5 0),(11,.t (uT all)),(12,.own 56 27 10 (((next.take j).filter fun x=> !all.contains x).map hd)),(13,.t (I r)),(14,.t (uT next)),(16,.t (I j))],bx:=[(5,.d 9 cs)]})
     (fun j=>j<=next.length) (fun j=>next.length - j) 0 (by simp) ?_ ?_
    ·exact ⟨⟨.same _,.same _,.same _,.same _,.nil _ _ _,.same _,.same _,.same _,trivial⟩,⟨.same _,trivial⟩,trivial,rfl,fun _ _ _=>trivial,rfl⟩
    rintro j hj;refine uL trivial (fun O=>?_) (fun O=>?_)
    ·have u:j<next.length:=by simpa using O
     have x1:=z.ok _ (List.getElem_mem u);have E:=DK (fun x=> !all.contains x) next j u;refine uP (hd next[j]) (by simpa using u) (by simp [u]) ?_;refine uP (hd next[j]) (by simpa [hd,T.cells] using x1.len) rfl ?_;refine pC _ (t17 all next[j] k.ok.len x1.len (by omega)) ?_;cases Z:all.contains next[j] with
     |true=>
      refine ⟨j+1,u,by omega,?_⟩;refine ⟨⟨.same _,.same _,.same _,.same _,rM ?_,.same _,.same _,leI (by rw [oA] <;> omega),trivial⟩,⟨.same _,trivial⟩,trivial,rfl,fun _ _ _=>trivial,rfl⟩;rw [E,Z];simp
     |false=>
      refine uP (hd next[j]) (by simpa using u) (by simp [u]) ?_;refine uP (hd next[j]) (by simpa [hd,T.cells] using x1.len) rfl ?_;refine And.intro (by simp [x1.len]) ?_;have hfl:=List.length_filter_le (fun x=> !all.contains x) (next.take j);have htl:(next.take j).length<=256:=by simp;omega
      refine And.intro (.inl rfl) ?_;refine And.intro (show ((((next.take j).filter fun x=> !all.contains x).map hd).length+1) * 80<=140737488355328 by rw [List.length_map];omega) ?_;refine ⟨j+1,u,by omega,?_⟩;refine ⟨⟨.same _,.same _,.same _,.same _,rM ?_,.same _,.same _,leI (by rw [oA] <;> omega),trivial⟩,⟨.same _,trivial⟩,trivial,rfl,fun _ _ _=>trivial,rfl⟩;rw [E,Z];simp [hd]
    ·have M:next.length<=j:=by simpa using O
     rw [List.take_of_length_le M];have A:=BL (fun x=> !all.contains x) z;have J: ∀x∈(next.filter fun x=> !all.contains x), ¬x∈all:=fun x B Q=>by
      rw [List.mem_filter] at B
      have:=B.2
      rw [List.contains_iff_mem.2 Q] at this;cases this
     generalize (next.filter fun x=> !all.contains x)=F at *
     refine pC _ (J9 all F k A) ?_;have Y:=yO k.ok.len A.ok.len J
     by_cases iV:(mrg all F).length>256
     ·have o:small (mrg all F)=none:=by unfold small;rw [if_pos iV]
      rw [o] at b;simp only at b;refine uM true trivial (by simp;omega) ?_;rw [D b.symm];exact ⟨rfl,rfl,rfl,trivial⟩
     ·have o:small (mrg all F)=some (mrg all F):=by unfold small;rw [if_neg iV]
      rw [o] at b;simp only at b;have U:=(yY (xP k.ok.len A.ok.len k.srt A.srt) (yo k.ok A.ok) o).1;refine uM false trivial (by simp;omega) ?_
      by_cases i:F=[]
      ·rw [if_pos i] at b;subst i;refine uM false trivial rfl ?_;refine ⟨(n,mrg all [],[],r),⟨U,yG,V,.inl ⟨rfl,b.symm⟩⟩,by dsimp only;omega,?_⟩;exact ⟨⟨.same _,.same _,.same _,.same _,.data _ _ _ _,.same _,trivial⟩,⟨.same _,trivial⟩,trivial,rfl,fun _ _ _=>trivial,rfl⟩
      ·rw [if_neg i] at b;have hFl:0<F.length:=List.length_pos_iff.2 i;refine uM true trivial (by simp;omega) ?_;refine ⟨(n,mrg all F,F,r+1),⟨U,A,by dsimp only;omega,.inr ⟨i,b,by dsimp only;omega,by dsimp only;omega⟩⟩,by dsimp only;omega,?_⟩;exact ⟨⟨.same _,.same _,.same _,.same _,.data _ _ _ _,leI (show ((r+1:Nat):Int)=IntKind.wrap .i64 ((r:Int)+1) by rw [oA] <;> omega),trivial⟩,⟨.same _,trivial⟩,trivial,rfl,fun _ _ _=>trivial,rfl⟩
 cases R with
 |none=>exact yV 10 (W _ (pre [.nil,I 0,I 2] (fun _=>rfl) (fun x n B=>by cases B)))
 |some q=>exact W _ (pre [uT q.1,I q.2,I 0] (fun B=>by cases B) (fun y n hy=>by cases hy;rfl))
theorem t31(l:List Fd)(u:LOk l)(tick:Int): ∀p:Po,OOk l p->G31 l tick p:=by
 intro p
 induction p with
 |filter p=>
  intro Q h c;have k: ∀r,wpC Tryz.prog l86.1 (ft [fds l,ve (.filter p),hd h,I tick]) (oB (du Tryz.prog) [.tmp 8,.tmp 9] r)->DCalls Tryz.prog 86 [fds l,ve (.filter p),hd h,I tick] (lF r):=fun r E=>
   oL (rs:=[.tmp 8,.tmp 9]) mixed Tryz.func86 l86.2 rfl rfl rfl (r:=r) (nlZ rfl) E
  have pre: ∀r,(holds l tick h p=true->r=[uT [h],I 0])->(holds l tick h p=false->r=[.nil,I 0])->wpC Tryz.prog l86.1 (ft [fds l,ve (.filter p),hd h,I tick]) (oB (du Tryz.prog) [.tmp 8,.tmp 9] r):=fun r A B=>by
   refine And.intro (vt (.filter p)).2 ?_;refine And.intro (by simp [c.len]) ?_;refine uP (I 1) (by decide) rfl ?_;refine uM true trivial rfl ?_;refine uP (vm p) (by decide) (by
    show T.agg (((vm p).cells++[nm0,I 0,.slice 9 []]).take 5)=_
    rw [List.take_append_of_le_length (by rw [(vB p).2];exact Nat.le_refl _),List.take_of_length_le (by rw [(vB p).2];exact Nat.le_refl _),(vB p).1]) ?_
   refine pC _ (t37 l u tick h c p Q) ?_;cases i:holds l tick h p with
   |true=>
    rw [A i];refine And.intro (by simp [c.len]) ?_;exact ⟨rfl,rfl,trivial⟩
   |false=>
    rw [B i];exact ⟨rfl,rfl,trivial⟩
  unfold gives;cases i:holds l tick h p with
  |true=>exact k _ (pre _ (fun _=>rfl) (fun h=>by rw [i] at h;cases h))
  |false=>exact yV 10 (k _ (pre [.nil,I 0] (fun h=>by rw [i] at h;cases h) (fun _=>rfl)))
 |set f n=>
  rintro ⟨F,J,P⟩ h c;have L:=u.find J;have M:=t51 l f u.len;unfold xB at M;rw [J] at M;refine dl2 mixed [.tmp 8,.tmp 9] [uT [wc (fld l f) h n],I 0] Tryz.func86 l86.2 ?_;refine And.intro rfl ?_;refine And.intro (by simp [c.len]) ?_;refine uP (I 2) (by decide) rfl ?_;refine uM false trivial rfl ?_;refine uM true trivial rfl ?_;refine uP (.str f) (by decide) rfl ?_;refine pC _ M ?_;refine And.intro ⟨rfl,by decide⟩ ?_;refine uP (I n) (by decide) rfl ?_;refine pC _ (t52 F L h c n P) ?_;refine And.intro (by simp [xW,c.len]) ?_;exact ⟨congrArg (fun x=>some (uT [x])) (by rw [xN J]),rfl,trivial⟩
 |union a b j v=>
  rintro ⟨t,i⟩ h c;have H:=j t h c;have gb:=v i h c;have w:=fun s (e:gives l tick a h=some s)=>wq u t c e
  have N:=fun s (e:gives l tick b h=some s)=>wq u i c e
  have e:gives l tick (.union a b) h=both (gives l tick a h) (gives l tick b h):=rfl;rw [e];generalize gives l tick a h=ra at *
  generalize gives l tick b h=rb at *
  have k: ∀r,wpC Tryz.prog l86.1 (ft [fds l,ve (.union a b),hd h,I tick]) (oB (du Tryz.prog) [.tmp 8,.tmp 9] r)->DCalls Tryz.prog 86 [fds l,ve (.union a b),hd h,I tick] (lF r):=fun r E=>
   oL (rs:=[.tmp 8,.tmp 9]) mixed Tryz.func86 l86.2 rfl rfl rfl (r:=r) (nlZ rfl) E
  have pre: ∀(r:List T) (o:Option (List (List Int))),((ra=none\/rb=none)->r=[.nil,I 2])->(∀ x y,ra=some x->rb=some y->small (mrg x y)=o/\r= .slice 10 ((o.getD []).map hd)::[I (if o.isSome then 0 else 2)])->wpC Tryz.prog l86.1 (ft [fds l,ve (.union a b),hd h,I tick]) (oB (du Tryz.prog) [.tmp 8,.tmp 9] r):=fun r o A B=>by
   refine And.intro rfl ?_;refine And.intro (by simp [c.len]) ?_;refine uP (I 3) (by decide) rfl ?_;refine uM false trivial rfl ?_;refine uM false trivial rfl ?_;refine uM true trivial rfl ?_;refine uP (.slice 9 [ve a,ve b]) (by decide) rfl ?_;refine uP (ve a) (by simp) rfl ?_;refine uP (ve a) (vt a).2 (vt a).1 ?_;refine pC _ H ?_;cases ra with
   |none=>
    have m:=A (.inl rfl);subst m;refine uP (.slice 9 [ve a,ve b]) (by decide) rfl ?_;refine uP (ve b) (by simp) rfl ?_;refine uP (ve b) (vt b).2 (vt b).1 ?_;refine pC _ gb ?_;cases rb with
    |none=>
     refine uM true trivial rfl ?_;exact ⟨rfl,rfl,trivial⟩
    |some y=>
     refine uM true trivial rfl ?_;exact ⟨rfl,rfl,trivial⟩
   |some x=>
    have g:=w x rfl;refine uP (.slice 9 [ve a,ve b]) (by decide) rfl ?_;refine uP (ve b) (by simp) rfl ?_;refine uP (ve b) (vt b).2 (vt b).1 ?_;refine pC _ gb ?_;cases rb with
    |none=>
     have m:=A (.inr rfl);subst m;refine uM false trivial rfl ?_;refine uM true trivial rfl ?_;exact ⟨rfl,rfl,trivial⟩
    |some y=>
     have G:=N y rfl;obtain ⟨K,m⟩:=B x y rfl rfl;have D:=t53 (mrg x y);rw [K] at D;subst m;refine uM false trivial rfl ?_;refine uM false trivial rfl ?_;refine pC _ (J9 x y g G) ?_;refine pC _ D ?_;cases o with
     |none=>exact ⟨rfl,rfl,trivial⟩
     |some z=>exact ⟨rfl,rfl,trivial⟩
  cases ra with
  |none=>
   have O:both none rb=none:=rfl;rw [O];exact yV 10 (k _ (pre [.nil,I 2] none (fun _=>rfl) (fun x y g=>by cases g)))
  |some x=>
   cases rb with
   |none=>exact yV 10 (k _ (pre [.nil,I 2] none (fun _=>rfl) (fun x y _ g=>by cases g)))
   |some y=>exact C0 _ (k _ (pre _ (small (mrg x y)) (fun g=>by rcases g with g|g <;> cases g) (fun x y g G=>by cases g;cases G;exact ⟨rfl,rfl⟩)))
 |seq a b j v=>
  rintro ⟨t,i⟩ h c;have H:=j t h c;have w:=fun s (e:gives l tick a h=some s)=>wq u t c e
  have e:gives l tick (.seq a b) h=(gives l tick a h).bind fun x=>image (gives l tick b) x []:=by
   show (match gives l tick a h with|some x=>image (gives l tick b) x []|none=>none)=_
   cases gives l tick a h <;> rfl
  rw [e];generalize gives l tick a h=ra at *
  have k: ∀r,wpC Tryz.prog l86.1 (ft [fds l,ve (.seq a b),hd h,I tick]) (oB (du Tryz.prog) [.tmp 8,.tmp 9] r)->DCalls Tryz.prog 86 [fds l,ve (.seq a b),hd h,I tick] (lF r):=fun r E=>
   oL (rs:=[.tmp 8,.tmp 9]) mixed Tryz.func86 l86.2 rfl rfl rfl (r:=r) (nlZ rfl) E
  have pre: ∀(r:List T) (o:Option (List (List Int))),(ra=none->r=[.nil,I 2])->(∀ x,ra=some x->image (gives l tick b) x []=o/\r= .slice 10 ((o.getD []).map hd)::[I (if o.isSome then 0 else 2)])->wpC Tryz.prog l86.1 (ft [fds l,ve (.seq a b),hd h,I tick]) (oB (du Tryz.prog) [.tmp 8,.tmp 9] r):=fun r o A B=>by
   refine And.intro rfl ?_;refine And.intro (by simp [c.len]) ?_;refine uP (I 4) (by decide) rfl ?_;refine uM false trivial rfl ?_;refine uM false trivial rfl ?_;refine uM false trivial rfl ?_;refine uM true trivial rfl ?_;refine uP (.slice 9 [ve a,ve b]) (by decide) rfl ?_;refine uP (ve a) (by simp) rfl ?_;refine uP (ve a) (vt a).2 (vt a).1 ?_;refine pC _ H ?_;cases ra with
   |none=>
    have m:=A rfl;subst m;refine uM true trivial rfl ?_;exact ⟨rfl,rfl,trivial⟩
   |some x=>
    have g:=w x rfl;obtain ⟨K,m⟩:=B x rfl;have C:=t33 l u tick b i (v i) x g.ok (by have:=g.len;omega);rw [K] at C;subst m;refine uM false trivial rfl ?_;refine uP (.slice 9 [ve a,ve b]) (by decide) rfl ?_;refine uP (ve b) (by simp) rfl ?_;refine uP (ve b) (vt b).2 (vt b).1 ?_;refine pC _ C ?_;cases o with
    |none=>exact ⟨rfl,rfl,trivial⟩
    |some z=>exact ⟨rfl,rfl,trivial⟩
  cases ra with
  |none=>exact yV 10 (k _ (pre [.nil,I 2] none (fun _=>rfl) (fun x g=>by cases g)))
  |some x=>exact C0 _ (k _ (pre _ (image (gives l tick b) x []) (fun g=>by cases g) (fun y G=>by cases G;exact ⟨rfl,rfl⟩)))
 |star a j=>
  intro t h c;have S:=t54 l u tick a t (j t) h c;have e:gives l tick (.star a) h=(FF l tick a h).map (·.1):=rfl
  rw [e];generalize FF l tick a h=R at *
  refine C0 _ (oL (rs:=[.tmp 8,.tmp 9]) mixed Tryz.func86 l86.2 rfl rfl rfl (r:=.slice 10 (((R.map (·.1)).getD []).map hd)::[I (if (R.map (·.1)).isSome then 0 else 2)]) (nlZ rfl) ?_)
  refine And.intro rfl ?_;refine And.intro (by simp [c.len]) ?_;refine uP (I 5) (by decide) rfl ?_;refine uM false trivial rfl ?_;refine uM false trivial rfl ?_;refine uM false trivial rfl ?_;refine uM false trivial rfl ?_;refine uP (.slice 9 [ve a]) (by decide) rfl ?_;refine uP (ve a) (by simp) rfl ?_;refine uP (ve a) (vt a).2 (vt a).1 ?_;refine pC _ S ?_;cases R with
  |none=>exact ⟨rfl,rfl,trivial⟩
  |some q=>exact ⟨rfl,rfl,trivial⟩
def Ew:ByteArray:=⟨#[100,115,116]⟩
def DG:ByteArray:=⟨#[115,114,99]⟩
def FB:ByteArray:=⟨#[107,105,110,100]⟩
end Go.MM
end
section
end
section
end
section
end
section
end
section
end
section
end
section
end
section
end
section
end
section
namespace Go.TY
open Go Go.DL Go.MM
def Jw(l:List Fd):RP->Int
 |.mk k f n m _=>if uU f e0 then 0 else match findF l f with
   |none=>4
   |some F=>if (if k=5 then m else n)>((2^F.w - 1:Nat):Int)\/(k=4/\m>F.w) then 1 else 0
def HC(l:List Fd)(r:RP):Int:=vT ((wK r).map (Jw l))
def L9(l:List Fd)(f:ByteArray)(n:Int):Int:=match findF l f with
 |none=>4
 |some F=>if n>((2^F.w - 1:Nat):Int) then 1 else 0
def HB(l:List Fd):RO->Int
 |.mk k p f n _=>if k=1 then HC l p else if k=2 then L9 l f n else 0
def yJ(l:List Fd)(r:RO):Int:=if wH r≠0 then wH r else vT ((wA r).map (HB l))
theorem J3{f:ByteArray}(h:uU f e0=true):f=e0:=by
 unfold uU at h;have h:f.data.toList=[]:=by simpa using h
 exact ByteArray.ext (Array.ext' h)
theorem AQ{f:ByteArray}(h:wz f=true):uU f e0=false:=by
 cases e:uU f e0 with
 |false=>rfl
 |true=>
  rw [J3 e] at h
  have:wz e0=false:=by decide+kernel
  rw [this] at h;cases h
theorem K4{l:List Fd}{k:Int}{f:ByteArray}{n m:Int}{a:List RP}(h:okP k f n m=true):Jw l (.mk k f n m a)=yR l (.mk k f n m a):=by
 simp only [Jw,yR];unfold okP at h
 by_cases b:k=1\/k=2
 ·rw [if_pos b] at h;unfold Ak at h;simp only [Bool.and_eq_true] at h;rw [if_pos h.1.1,if_neg (by omega)]
 rw [if_neg b] at h
 by_cases c:k=3
 ·subst c;simp only [if_true,Bool.and_eq_true] at h;rw [AQ h.1.1];cases findF l f <;> simp
 rw [if_neg c] at h
 by_cases e:k=4
 ·subst e;simp only [if_true,Bool.and_eq_true] at h;rw [AQ h.1.1.1];cases findF l f <;> simp
 rw [if_neg e] at h
 by_cases g:k=5
 ·subst g;simp only [if_true,Bool.and_eq_true] at h;rw [AQ h.1.1.1];cases findF l f <;> simp
 rw [if_neg g] at h
 by_cases i:k=6\/k=7\/k=8
 ·rw [if_pos i] at h;unfold Ak at h;simp only [Bool.and_eq_true] at h;rw [if_pos h.1.1,if_neg (by omega)]
 rw [if_neg i] at h
 by_cases j:k=9
 ·subst j;simp only [if_true,Bool.and_eq_true] at h;rw [if_pos h.1.1.1,if_neg (by omega)]
 ·rw [if_neg j] at h;cases h
mutual
theorem Cj: ∀r:RP,wm r=true-> ∀x∈wK r,wm x=true
 |.mk k f n m a,h,x,b=>by
  rw [wK] at b;rcases List.mem_cons.1 b with rfl|b
  ·exact h
  ·simp only [wm,Bool.and_eq_true] at h;exact Bt a h.2 x b
theorem Bt: ∀l:List RP,vZ l=true-> ∀x∈wB l,wm x=true
 |[],_,x,a=>by simp [wB] at a
 |r::rs,h,x,a=>by
  simp only [vZ,Bool.and_eq_true] at h;rw [wB] at a;rcases List.mem_append.1 a with a|a
  ·exact Cj r h.1 x a
  ·exact Bt rs h.2 x a
end
mutual
theorem Ci: ∀r:RO,vV r=true-> ∀x∈wA r,vV x=true
 |.mk k p f n a,h,x,b=>by
  rw [wA] at b;rcases List.mem_cons.1 b with rfl|b
  ·exact h
  ·simp only [vV,Bool.and_eq_true] at h;exact Bs a h.2 x b
theorem Bs: ∀l:List RO,vY l=true-> ∀x∈wo l,vV x=true
 |[],_,x,a=>by simp [wo] at a
 |r::rs,h,x,a=>by
  simp only [vY,Bool.and_eq_true] at h;rw [wo] at a;rcases List.mem_append.1 a with a|a
  ·exact Ci r h.1 x a
  ·exact Bs rs h.2 x a
end
theorem Jx{l:List Fd}{r:RP}(h:wm r=true):HC l r=fitAll l r:=by
 unfold HC fitAll
 congr 1
 refine List.map_congr_left fun x b=>?_
 have:=Cj r h x b
 obtain ⟨k,f,n,m,a⟩:=x;simp only [wm,Bool.and_eq_true] at this;exact K4 this.1.1
theorem K6{e:Int}{b:Bool}(h:CR e b=0):e=0/\b=true:=by
 unfold CR at h
 by_cases a:e=0
 ·rw [if_pos a] at h;cases b with
  |true=>exact ⟨a,rfl⟩
  |false=>simp at h
 ·rw [if_neg a] at h;exact absurd h a
theorem Jv{l:List Fd}{r:RO}(h:vV r=true):HB l r=xV l r:=by
 obtain ⟨k,p,f,n,a⟩:=r;simp only [HB,xV]
 by_cases b:k=1
 ·subst b;simp only [vV,okO,if_true,Bool.and_eq_true] at h;simp only [if_true];exact Jx h.1.1.1
 ·rw [if_neg b,if_neg b];rfl
theorem He(l:List Fd)(r:RO):yJ l r=DD l r:=by
 unfold yJ DD
 by_cases h:wH r≠0
 ·rw [if_pos h,if_pos h]
 ·rw [if_neg h,if_neg h];have a:=(K6 (Decidable.not_not.1 h)).2
  congr 1
  exact List.map_congr_left fun x b=>Jv (Ci r a x b)
end Go.TY
end
section
end
section
end
section
namespace Go.TY
open Go Go.DL Go.MM Go.Proofs
theorem vr{a b:ByteArray}:uU a b=true↔a=b:=by
 constructor
 ·intro h;unfold uU at h;exact ByteArray.ext (Array.ext' (by simpa using h))
 ·intro h;subst h;unfold uU;simp
end Go.TY
end
section
end
section
namespace Go.TY
open Go Go.DL Go.MM Go.Proofs
def C1(n:Int):Bool:=decide (0<=n)&&decide (n<=1073741824)
end Go.TY
end
section
namespace Go.MM
open Go Go.DL Go.Proofs
theorem C3:Tryz.prog.underlying 34=some (.slice 36):=by kernel_rfl
theorem C4:Tryz.prog.underlying 37=some (.slice 39):=by kernel_rfl
theorem Az:Tryz.prog.cellsOf 3=1:=by kernel_rfl
theorem KR:Tryz.prog.cellsOf 27=10:=by kernel_rfl
theorem xm{us:List T}(h:cE Tryz.prog 3 us): ∃n,us=[I n]/\(Lit.int .i64 n).wf=true:=by
 cases h with
 |int h n a=>rw [Tryz.underlying3] at h;cases h;exact ⟨n,rfl,a⟩
 |bool h|str h|nil h|slice h|struct h|array h=>rw [Tryz.underlying3] at h;cases h
theorem K8{us:List T}(h:cE Tryz.prog 27 us): ∃x:List Int,us=x.map I/\x.length=10/\ ∀n∈x,(Lit.int .i64 n).wf=true:=by
 cases h with
 |array h us a c=>
  rw [Tryz.underlying27] at h;cases h;rw [KR] at a;have key: ∀i,i<10-> ∃n,us[i]? =some (I n)/\(Lit.int .i64 n).wf=true:=fun i hi=>by
   obtain ⟨n,e,w⟩:=xm (c i hi);rw [Az,Nat.mul_one,List.take_one] at e;refine ⟨n,?_,w⟩
   have:(us.drop i).head? =us[i]? :=by rw [List.head?_drop]
   rw [this] at e;cases b:us[i]? with
   |none=>rw [b] at e;cases e
   |some x=>rw [b] at e;cases e;rfl
  refine ⟨us.map fun t=>match t with|.int _ n=>n|_=>0,?_,by simpa using a,fun n f=>?_⟩
  ·refine List.ext_getElem? fun i=>?_
   rcases Nat.lt_or_ge i 10 with hi|hi
   ·obtain ⟨n,e,_⟩:=key i hi;rw [e];simp [e]
   ·rw [List.getElem?_eq_none (by omega),List.getElem?_eq_none (by simp;omega)]
  ·obtain ⟨t,g,rfl⟩:=List.mem_map.1 f;obtain ⟨i,hi⟩:=List.mem_iff_getElem?.1 g;obtain ⟨n,e,w⟩:=key i (by have:=(gsZ hi).1;omega);rw [e] at hi;cases hi;exact w
 |int h|bool h|str h|nil h|slice h|struct h=>rw [Tryz.underlying27] at h;cases h
theorem P3(us:List T):mkT Tryz.prog 27 us= .agg us:=by unfold mkT;rw [Tryz.underlying27]
theorem Bn:Tryz.prog.cellsOf 9=1:=by kernel_rfl
theorem KS:Tryz.prog.cellsOf 34=1:=by kernel_rfl
theorem Er:Tryz.prog.cellsOf 36=5:=by kernel_rfl
theorem KT:Tryz.prog.cellsOf 37=1:=by kernel_rfl
theorem Es:Tryz.prog.cellsOf 39=9:=by kernel_rfl
theorem GZ:Tryz.prog.cellsOf 54=3:=by kernel_rfl
theorem P4(us:List T):mkT Tryz.prog 36 us= .agg us:=by unfold mkT;rw [Tryz.underlying36]
theorem P5(us:List T):mkT Tryz.prog 39 us= .agg us:=by unfold mkT;rw [Tryz.underlying39]
theorem P6(us:List T):mkT Tryz.prog 54 us= .agg us:=by unfold mkT;rw [Tryz.underlying54]
theorem M6:Tryz.prog.underlying 9=some .string:=by kernel_rfl
theorem AK{us:List T}(h:cE Tryz.prog 9 us): ∃s,us=[.str s]:=by
 cases h with
 |str h s a=>exact ⟨s,rfl⟩
 |bool h|int h|nil h|slice h|struct h|array h=>rw [M6] at h;cases h
def RdP(us:List T):Prop:= ∃r:RP,dz us (vR r)/\r.nodes<=aU us/\(aU us<2^62->Cx r)
def Od(us:List T):Prop:= ∃rs:List RP,dz us [.slice 5 (rs.map zh)]/\vM rs+1<=aU us/\(aU us<2^62->Bw rs)
theorem Lw{xs:List (List T)}(h: ∀x∈xs,RdP x): ∃rs:List RP,rs.length=xs.length/\(∀ (i:Nat) (x:List T) (r:RP),xs[i]? =some x->rs[i]? =some r->dz x (vR r))/\vM rs<=aU (xs.map .agg)/\(aU (xs.map .agg)<2^62->Bw rs):=by
 induction xs with
 |nil=>exact ⟨[],rfl,by simp,by simp [vM],fun _=>trivial⟩
 |cons x xs k=>
  obtain ⟨r,f,m,g⟩:=h x (by simp);obtain ⟨rs,k1,k2,n,l⟩:=k fun y j=>h y (by simp [j])
  refine ⟨r::rs,by simp [k1],fun i a b e c=>?_,?_,fun c=>?_⟩
  ·cases i with
   |zero=>simp at e c;subst e;subst c;exact f
   |succ i=>exact k2 i a b (by simpa using e) (by simpa using c)
  ·simp only [vM,List.map_cons,aU,T.bulk];omega
  ·simp only [List.map_cons,aU,T.bulk] at c;exact ⟨g (by omega),l (by omega)⟩
theorem Nz{us:List T}(h:us.length=5): ∃a b c d e,us=[a,b,c,d,e]:=by
 match us,h with
 |[a,b,c,d,e],_=>exact ⟨a,b,c,d,e,rfl⟩
theorem Ly{t:TypeId}{us:List T}(h:cE Tryz.prog t us):(t=36->RdP us)/\(t=34->Od us):=by
 induction h with
 |bool h b=>exact ⟨fun e=>(by subst e;rw [Tryz.underlying36] at h;cases h),fun e=>(by subst e;rw [C3] at h;cases h)⟩
 |int h n N=>exact ⟨fun e=>(by subst e;rw [Tryz.underlying36] at h;cases h),fun e=>(by subst e;rw [C3] at h;cases h)⟩
 |str h s M=>exact ⟨fun e=>(by subst e;rw [Tryz.underlying36] at h;cases h),fun e=>(by subst e;rw [C3] at h;cases h)⟩
 |array h us g f j=>exact ⟨fun e=>(by subst e;rw [Tryz.underlying36] at h;cases h),fun e=>(by subst e;rw [C3] at h;cases h)⟩
 |nil h=>
  refine ⟨fun e=>(by subst e;rw [Tryz.underlying36] at h;cases h),fun e=>?_⟩;exact ⟨[],.cons (Les.nil 5) rfl .nil,by simp [vM,aU,T.bulk],fun _=>trivial⟩
 |slice h xs p g j=>
  refine ⟨fun e=>(by subst e;rw [Tryz.underlying36] at h;cases h),fun e=>?_⟩;subst e;rw [C3] at h;cases h;obtain ⟨rs,k1,k2,O,K⟩:=Lw (xs:=xs) fun x J=>(j x J).1 rfl
  have G:xs.map (mkT Tryz.prog 36)=xs.map .agg:=List.map_congr_left fun x _=>P4 x
  rw [G,Er];refine ⟨rs,.cons (Les.slice (by simp [k1]) fun i x y p E=>?_) rfl .nil,by simp only [aU,T.bulk];omega,fun l=>K (by simp only [aU,T.bulk] at l;omega)⟩;rw [List.getElem?_map] at p E;obtain ⟨L,q,rfl⟩:=Option.map_eq_some_iff.1 p;obtain ⟨F,o,rfl⟩:=Option.map_eq_some_iff.1 E;rw [xg];exact ⟨k2 i L F q o,xd F⟩
 |struct h us g f j=>
  refine ⟨fun e=>?_,fun e=>(by subst e;rw [C3] at h;cases h)⟩;subst e;rw [Tryz.underlying36] at h;cases h;rw [Er] at g;obtain ⟨a,b,c,d,e,rfl⟩:=Nz g;have w:=f ⟨ "Kind",3,0,false, "", "",0⟩ (by simp);have z:=f ⟨ "Field",9,1,false, "", "",8⟩ (by simp);have A:=f ⟨ "N",3,2,false, "", "",24⟩ (by simp);have B:=f ⟨ "M",3,3,false, "", "",32⟩ (by simp);have C:=(j ⟨ "Args",34,4,false, "", "",40⟩ (by simp)).2 rfl;simp only [Az,Bn,KS,List.drop,List.take] at w z A B C;obtain ⟨k,e0,_⟩:=xm w;obtain ⟨s,r⟩:=AK z;obtain ⟨n,u,_⟩:=xm A;obtain ⟨m,v,_⟩:=xm B;obtain ⟨rs,H,I,D⟩:=C;simp only [List.cons.injEq,and_true] at e0 r u v;subst e0;subst r;subst u;subst v;refine ⟨.mk k s n m rs,.cons (Les.refl _) rfl (.cons (Les.refl _) rfl (.cons (Les.refl _) rfl (.cons (Les.refl _) rfl H))),?_,fun l=>?_⟩
  ·simp only [RP.nodes,aU,T.bulk] at I ⊢;omega
  ·simp only [aU,T.bulk] at D l;exact ⟨by omega,D (by omega)⟩
def RdO(us:List T):Prop:= ∃r:RO,dz us (uV r)/\r.wt<=aU us/\(aU us<2^62->AR r)
def Oc(us:List T):Prop:= ∃rs:List RO,dz us [.slice 9 (rs.map yH)]/\wE rs+1<=aU us/\(aU us<2^62->Bv rs)
theorem Lv{xs:List (List T)}(h: ∀x∈xs,RdO x): ∃rs:List RO,rs.length=xs.length/\(∀ (i:Nat) (x:List T) (r:RO),xs[i]? =some x->rs[i]? =some r->dz x (uV r))/\wE rs<=aU (xs.map .agg)/\(aU (xs.map .agg)<2^62->Bv rs):=by
 induction xs with
 |nil=>exact ⟨[],rfl,by simp,by simp [wE],fun _=>trivial⟩
 |cons x xs k=>
  obtain ⟨r,f,m,g⟩:=h x (by simp);obtain ⟨rs,k1,k2,n,l⟩:=k fun y j=>h y (by simp [j])
  refine ⟨r::rs,by simp [k1],fun i a b e c=>?_,?_,fun c=>?_⟩
  ·cases i with
   |zero=>simp at e c;subst e;subst c;exact f
   |succ i=>exact k2 i a b (by simpa using e) (by simpa using c)
  ·simp only [wE,List.map_cons,aU,T.bulk];omega
  ·simp only [List.map_cons,aU,T.bulk] at c;exact ⟨g (by omega),l (by omega)⟩
theorem NB{us:List T}(h:us.length=9): ∃a b c d e f g i j,us=[a,b,c,d,e,f,g,i,j]:=by
 match us,h with
 |[a,b,c,d,e,f,g,i,j],_=>exact ⟨a,b,c,d,e,f,g,i,j,rfl⟩
theorem dz.N7{a b c d e:T}{r:RP}(h:dz [a,b,c,d,e] (vR r)){x y:T}{xs ys:List T}(k:dz (x::xs) (y::ys)):dz (a::b::c::d::e::x::xs) (vR r++y::ys):=dz.append h k
theorem I7{t:TypeId}{us:List T}(h:cE Tryz.prog t us):(t=39->RdO us)/\(t=37->Oc us):=by
 induction h with
 |bool h b=>exact ⟨fun e=>(by subst e;rw [Tryz.underlying39] at h;cases h),fun e=>(by subst e;rw [C4] at h;cases h)⟩
 |int h n S=>exact ⟨fun e=>(by subst e;rw [Tryz.underlying39] at h;cases h),fun e=>(by subst e;rw [C4] at h;cases h)⟩
 |str h s R=>exact ⟨fun e=>(by subst e;rw [Tryz.underlying39] at h;cases h),fun e=>(by subst e;rw [C4] at h;cases h)⟩
 |array h us m l o=>exact ⟨fun e=>(by subst e;rw [Tryz.underlying39] at h;cases h),fun e=>(by subst e;rw [C4] at h;cases h)⟩
 |nil h=>
  refine ⟨fun e=>(by subst e;rw [Tryz.underlying39] at h;cases h),fun e=>?_⟩;exact ⟨[],.cons (Les.nil 9) rfl .nil,by simp [wE,aU,T.bulk],fun _=>trivial⟩
 |slice h xs u m o=>
  refine ⟨fun e=>(by subst e;rw [Tryz.underlying39] at h;cases h),fun e=>?_⟩;subst e;rw [C4] at h;cases h;obtain ⟨rs,k1,k2,U,N⟩:=Lv (xs:=xs) fun x M=>(o x M).1 rfl
  have J:xs.map (mkT Tryz.prog 39)=xs.map .agg:=List.map_congr_left fun x _=>P5 x
  rw [J,Es];refine ⟨rs,.cons (Les.slice (by simp [k1]) fun i x y u G=>?_) rfl .nil,by simp only [aU,T.bulk];omega,fun q=>N (by simp only [aU,T.bulk] at q;omega)⟩;rw [List.getElem?_map] at u G;obtain ⟨Q,v,rfl⟩:=Option.map_eq_some_iff.1 u;obtain ⟨I,r,rfl⟩:=Option.map_eq_some_iff.1 G;rw [wP];exact ⟨k2 i Q I v r,vz I⟩
 |struct h us m l o=>
  refine ⟨fun e=>?_,fun e=>(by subst e;rw [C4] at h;cases h)⟩;subst e;rw [Tryz.underlying39] at h;cases h;rw [Es] at m;obtain ⟨a,b,c,d,e,f,g,i,j,rfl⟩:=NB m;have A:=l ⟨ "Kind",3,0,false, "", "",0⟩ (by simp);have B:=(Ly (l ⟨ "Pred",36,1,false, "", "",8⟩ (by simp))).1 rfl;have C:=l ⟨ "Field",9,6,false, "", "",72⟩ (by simp);have D:=l ⟨ "N",3,7,false, "", "",88⟩ (by simp);have E:=(o ⟨ "Args",37,8,false, "", "",96⟩ (by simp)).2 rfl;simp only [Az,Bn,Er,KT,List.drop,List.take] at A B C D E;obtain ⟨k,e0,_⟩:=xm A;obtain ⟨p,O,P,H⟩:=B;obtain ⟨s,w⟩:=AK C;obtain ⟨n,z,_⟩:=xm D;obtain ⟨rs,K,L,F⟩:=E;simp only [List.cons.injEq,and_true] at e0 w z;subst e0;subst w;subst z;refine ⟨.mk k p s n rs,.cons (Les.refl _) rfl (dz.N7 O (.cons (Les.refl _) rfl (.cons (Les.refl _) rfl K))),?_,fun q=>?_⟩
  ·simp only [RO.wt,aU,T.bulk] at P L ⊢;omega
  ·simp only [aU,T.bulk] at H F q;exact ⟨H (by omega),by omega,F (by omega)⟩
theorem J0{us:List T}(h:cE Tryz.prog 54 us): ∃f:RF,us=xc f/\f.name.size<aU us:=by
 cases h with
 |struct h us o e=>
  rw [Tryz.underlying54] at h;cases h;rw [GZ] at o
  match us,o with
  |[a,b,c],_=>
   have j:=e ⟨ "Name",9,0,false, "", "",0⟩ (by simp);have k:=e ⟨ "At",3,1,false, "", "",16⟩ (by simp);have l:=e ⟨ "Width",3,2,false, "", "",24⟩ (by simp);simp only [Az,Bn,List.drop,List.take] at j k l;obtain ⟨s,e0⟩:=AK j;obtain ⟨n,g,_⟩:=xm k;obtain ⟨m,i,_⟩:=xm l;simp only [List.cons.injEq,and_true] at e0 g i;subst e0;subst g;subst i;exact ⟨⟨s,n,m⟩,rfl,by simp [aU,T.bulk];omega⟩
 |int h|bool h|str h|nil h|slice h|array h=>rw [Tryz.underlying54] at h;cases h
theorem I6{us:List T}(h:cE Tryz.prog 22 us): ∃l:List RF,Les (mkT Tryz.prog 22 us) (zH l)/\l.length<=aU us/\ ∀f∈l,f.name.size<aU us:=by
 have e: ∀t,mkT Tryz.prog 22 [t]=t:=fun t=>by unfold mkT;rw [Tryz.underlying22];rfl
 cases h with
 |nil h=>exact ⟨[],by rw [e];exact Les.nil 3,by simp,by simp⟩
 |slice h xs i m=>
  rw [Tryz.underlying22] at h;cases h;rw [e,GZ];have c:xs.map (mkT Tryz.prog 54)=xs.map .agg:=List.map_congr_left fun x _=>P6 x
  rw [c];have key: ∃l:List RF,l.length=xs.length/\xs.map .agg=l.map xU/\l.length<=aU (xs.map .agg)/\ ∀f∈l,f.name.size<aU (xs.map .agg):=by
   clear m c
   induction xs with
   |nil=>exact ⟨[],rfl,rfl,by simp,by simp⟩
   |cons x xs o=>
    obtain ⟨f,j,q⟩:=J0 (i x (by simp));obtain ⟨l,k1,k2,p,b⟩:=o fun y n=>i y (by simp [n])
    refine ⟨f::l,by simp [k1],by simp only [List.map_cons,k2,j];rfl,by simp only [List.map_cons,aU,T.bulk,List.length_cons];omega,fun g a=>?_⟩;simp only [List.map_cons,aU,T.bulk];rcases List.mem_cons.1 a with rfl|a
    ·omega
    ·have:=b g a;omega
  obtain ⟨l,k1,k2,p,b⟩:=key;refine ⟨l,by rw [k2];exact Les.refl _,by simp only [aU,T.bulk];omega,fun f k=>by simp only [aU,T.bulk];have:=b f k;omega⟩
 |int h|bool h|str h|array h|struct h=>rw [Tryz.underlying22] at h;cases h
end Go.MM
end
section
namespace Go.TY
open Go Go.DL Go.MM Go.Proofs
structure RG where
 pol:RO
 st:RS
def uY(g:RG):List T:=uV g.pol++uX g.st
def vk(g:RG):T:=.agg (uY g)
theorem xT(g:RG):(uY g).length=15:=by simp [uY,vz,uX]
structure SmS (B:Nat) (s:RS):Prop where
 var:s.var.size<B
 field:s.field.size<B
 keys: ∀k∈s.key,k.size<B
 len:s.key.length<B
theorem SmS.mono{B a:Nat}{s:RS}(h:SmS B s)(c:B<=a):SmS a s:=⟨by have:=h.var;omega,by have:=h.field;omega,fun k b=>by have:=h.keys k b;omega,by have:=h.len;omega⟩
structure SmG (B:Nat) (g:RG):Prop where
 st:SmS B g.st
 wt:g.pol.wt<=B
 names:B<=2^61->AR g.pol
theorem Hr:Tryz.prog.underlying 40=some (.slice 9):=by kernel_rfl
theorem ES:Tryz.prog.underlying 24=some (.slice 44):=by kernel_rfl
theorem Hq:Tryz.prog.underlying 59=some (.slice 3):=by kernel_rfl
theorem Iv:Tryz.prog.cellsOf 40=1:=by kernel_rfl
theorem Iu:Tryz.prog.cellsOf 59=1:=by kernel_rfl
theorem EU:Tryz.prog.cellsOf 42=6:=by kernel_rfl
theorem DS:Tryz.prog.cellsOf 44=15:=by kernel_rfl
theorem Ll(us:List T):mkT Tryz.prog 44 us= .agg us:=by unfold mkT;rw [Tryz.underlying44]
theorem mkStr(t:T):mkT Tryz.prog 9 [t]=t:=by unfold mkT;rw [M6];rfl
theorem mkInt(t:T):mkT Tryz.prog 3 [t]=t:=by unfold mkT;rw [Tryz.underlying3];rfl
theorem LB{us:List T}(h:cE Tryz.prog 40 us): ∃l:List ByteArray,dz us [.slice 1 (l.map .str)]/\l.length+1<=aU us/\ ∀s∈l,s.size<aU us:=by
 cases h with
 |nil h=>exact ⟨[],.cons (Les.nil 1) rfl .nil,by simp [aU,T.bulk],by simp⟩
 |slice h xs c e=>
  rw [Hr] at h;cases h;rw [Bn];have key: ∃l:List ByteArray,xs.map (mkT Tryz.prog 9)=l.map .str/\l.length<=aU (xs.map (mkT Tryz.prog 9))/\ ∀s∈l,s.size<aU (xs.map (mkT Tryz.prog 9)):=by
   clear e
   induction xs with
   |nil=>exact ⟨[],rfl,by simp,by simp⟩
   |cons x xs i=>
    obtain ⟨s,rfl⟩:=AK (c x (by simp));obtain ⟨l,k1,k2,b⟩:=i fun y g=>c y (by simp [g])
    refine ⟨s::l,by simp only [List.map_cons,k1,mkStr],?_,fun z a=>?_⟩
    ·simp only [List.map_cons,aU,mkStr,T.bulk,List.length_cons];omega
    ·simp only [List.map_cons,aU,mkStr,T.bulk];rcases List.mem_cons.1 a with rfl|a
     ·omega
     ·have:=b z a;omega
  obtain ⟨l,k1,k2,b⟩:=key;refine ⟨l,by rw [<- k1];exact .cons (Les.refl _) rfl .nil,by simp only [aU,T.bulk];omega,fun s f=>by simp only [aU,T.bulk];have:=b s f;omega⟩
 |int h|bool h|str h|array h|struct h=>rw [Hr] at h;cases h
theorem Lx{us:List T}(h:cE Tryz.prog 59 us): ∃l:List Int,dz us [.slice 1 (l.map I)]/\l.length+1<=aU us:=by
 cases h with
 |nil h=>exact ⟨[],.cons (Les.nil 1) rfl .nil,by simp [aU,T.bulk]⟩
 |slice h xs a b=>
  rw [Hq] at h;cases h;rw [Az];have key: ∃l:List Int,xs.map (mkT Tryz.prog 3)=l.map I/\l.length<=aU (xs.map (mkT Tryz.prog 3)):=by
   clear b
   induction xs with
   |nil=>exact ⟨[],rfl,by simp⟩
   |cons x xs e=>
    obtain ⟨s,rfl,_⟩:=xm (a x (by simp));obtain ⟨l,k1,k2⟩:=e fun y c=>a y (by simp [c])
    refine ⟨s::l,by simp only [List.map_cons,k1,mkInt],?_⟩;simp only [List.map_cons,aU,mkInt,T.bulk,List.length_cons];omega
  obtain ⟨l,k1,k2⟩:=key;refine ⟨l,by rw [<- k1];exact .cons (Les.refl _) rfl .nil,by simp only [aU,T.bulk];omega⟩
 |int h|bool h|str h|array h|struct h=>rw [Hq] at h;cases h
theorem NA{us:List T}(h:us.length=6): ∃a b c d e f,us=[a,b,c,d,e,f]:=by
 match us,h with
 |[a,b,c,d,e,f],_=>exact ⟨a,b,c,d,e,f,rfl⟩
theorem LA{us:List T}(h:cE Tryz.prog 42 us): ∃s:RS,dz us (uX s)/\SmS (aU us) s:=by
 cases h with
 |struct h us A g=>
  rw [Tryz.underlying42] at h;cases h;rw [EU] at A;obtain ⟨a,b,c,d,e,f,rfl⟩:=NA A;have q:=g ⟨ "Kind",3,0,false, "", "",0⟩ (by simp);have r:=g ⟨ "Var",9,1,false, "", "",8⟩ (by simp);have t:=g ⟨ "Key",40,2,false, "", "",24⟩ (by simp);have u:=g ⟨ "Field",9,3,false, "", "",48⟩ (by simp);have w:=g ⟨ "N",3,4,false, "", "",64⟩ (by simp);have x:=g ⟨ "M",3,5,false, "", "",72⟩ (by simp);simp only [Az,Bn,Iv,List.drop,List.take] at q r t u w x;obtain ⟨k,e0,_⟩:=xm q;obtain ⟨v,i⟩:=AK r;obtain ⟨l,B,C,y⟩:=LB t;obtain ⟨s,j⟩:=AK u;obtain ⟨n,o,_⟩:=xm w;obtain ⟨m,p,_⟩:=xm x;simp only [List.cons.injEq,and_true] at e0 i j o p;subst e0;subst i;subst j;subst o;subst p;refine ⟨⟨k,v,l,s,n,m⟩,.cons (Les.refl _) rfl (.cons (Les.refl _) rfl (dz.append (us:=[T.slice 1 (l.map .str)]) B (.cons (Les.refl _) rfl (.cons (Les.refl _) rfl (.cons (Les.refl _) rfl .nil))))),?_⟩;simp only [aU,T.bulk] at C y ⊢;exact ⟨by show v.size<_;omega,by show s.size<_;omega,fun z D=>by have:=y z D;omega,by show l.length<_;omega⟩
 |int h|bool h|str h|nil h|slice h|array h=>rw [Tryz.underlying42] at h;cases h
theorem J1{us:List T}(h:cE Tryz.prog 44 us): ∃g:RG,dz us (uY g)/\SmG (aU us) g:=by
 cases h with
 |struct h us o j=>
  rw [Tryz.underlying44] at h;cases h;rw [DS] at o;have f:=(I7 (j ⟨ "Policy",39,0,false, "", "",0⟩ (by simp))).1 rfl;have i:=LA (j ⟨ "Step",42,9,false, "", "",120⟩ (by simp));rw [Es] at f;rw [EU] at i;obtain ⟨r,k,q,m⟩:=f;obtain ⟨s,s1,s2⟩:=i;dsimp only at k q m s1 s2;have c:us=(us.drop 0).take 9++(us.drop 9).take 6:=by
   rw [List.drop_zero,List.take_of_length_le (l:=us.drop 9) (by simp;omega),List.take_append_drop]
  have e: ∀a b:List T,aU (a++b)=aU a+aU b:=fun a b=>by
   induction a with
   |nil=>simp [aU]
   |cons x xs p=>simp only [List.cons_append,aU,p];omega
  have n:=e ((us.drop 0).take 9) ((us.drop 9).take 6);rw [<- c] at n;refine ⟨⟨r,s⟩,?_,⟨s2.mono (by omega),by show r.wt<=_;omega,fun h=>m (by omega)⟩⟩;rw [c];exact dz.append k s1
 |int h|bool h|str h|nil h|slice h|array h=>rw [Tryz.underlying44] at h;cases h
theorem Lz{us:List T}(h:cE Tryz.prog 24 us): ∃gs:List RG,Les (mkT Tryz.prog 24 us) (.slice 15 (gs.map vk))/\gs.length<=aU us/\ ∀g∈gs,SmG (aU us) g:=by
 have e: ∀t,mkT Tryz.prog 24 [t]=t:=fun t=>by unfold mkT;rw [ES];rfl
 cases h with
 |nil h=>exact ⟨[],by rw [e];exact Les.nil 15,by simp,by simp⟩
 |slice h xs f A=>
  rw [ES] at h;cases h;rw [e,DS];have p:xs.map (mkT Tryz.prog 44)=xs.map .agg:=List.map_congr_left fun x _=>Ll x
  rw [p];have key: ∃gs:List RG,gs.length=xs.length/\(∀ (i:Nat) (x:List T) (r:RG),xs[i]? =some x->gs[i]? =some r->dz x (uY r))/\gs.length<=aU (xs.map .agg)/\ ∀g∈gs,SmG (aU (xs.map .agg)) g:=by
   clear A p
   induction xs with
   |nil=>exact ⟨[],rfl,by simp,by simp,by simp⟩
   |cons x xs C=>
    obtain ⟨g,u,q⟩:=J1 (f x (by simp));obtain ⟨gs,k1,k2,D,o⟩:=C fun y j=>f y (by simp [j])
    have F:=q.st.var;refine ⟨g::gs,by simp [k1],fun i a b k c=>?_,by simp only [List.map_cons,aU,T.bulk,List.length_cons];omega,fun z n=>?_⟩
    ·cases i with
     |zero=>simp at k c;subst k;subst c;exact u
     |succ i=>exact k2 i a b (by simpa using k) (by simpa using c)
    ·have up: ∀{B:Nat} {z:RG},SmG B z->B<=aU ((x::xs).map .agg)->SmG (aU ((x::xs).map .agg)) z:=fun h c=>⟨h.st.mono c,by have:=h.wt;omega,fun w=>h.names (by omega)⟩
     rcases List.mem_cons.1 n with rfl|n
     ·exact up q (by simp only [List.map_cons,aU,T.bulk];omega)
     ·exact up (o z n) (by simp only [List.map_cons,aU,T.bulk];omega)
  obtain ⟨gs,k1,k2,D,o⟩:=key;refine ⟨gs,Les.slice (by simp [k1]) fun i x y f j=>?_,by simp only [aU,T.bulk];omega,fun g v=>?_⟩
  ·rw [List.getElem?_map] at f j;obtain ⟨E,m,rfl⟩:=Option.map_eq_some_iff.1 f;obtain ⟨s,l,rfl⟩:=Option.map_eq_some_iff.1 j;exact ⟨k2 i E s m l,xT s⟩
  ·have h:=o g v;have c:aU (xs.map .agg)<=aU [T.slice 15 (xs.map .agg)]:=by simp only [aU,T.bulk];omega
   exact ⟨h.st.mono c,by have:=h.wt;omega,fun w=>h.names (by omega)⟩
 |int h|bool h|str h|array h|struct h=>rw [ES] at h;cases h
end Go.TY
end
section
end
section
end
section
end
section
namespace Go.TY
open Go Go.DL Go.MM Go.Proofs
def Ao(s:RS):Bool:=(s.kind==0)&&uU s.var e0&&uU s.field e0&&(s.n==0)&&(s.m==0)&&(s.key.length==0)
def yE(k:Int)(a e b:Bool)(n m:Int):Bool:=
 if k=1 then a&&(e||b)
 else if k=2 then a&&e
 else if k=3 then C1 n&&(m==0)&&e
 else if k=4 then b&&yW n&&yW m&&decide (n<=m)
 else if k=5 then a&&b
 else if k=6 then e&&decide (n>=1)&&yW n&&decide (m>=1)&&C1 m
 else false
def okS(s:RS):Bool:=Ao s||(AS s.var&&decide (1<=s.key.length)&&decide (s.key.length<=4)&&s.key.all wz&&yE s.kind ((s.n==0)&&(s.m==0)) (uU s.field e0) (wz s.field) s.n s.m)
def w7(s:RS):Int:=if okS s then 0 else 1
def fz2{α:Type}(f g:α->Int)(xs:List α):Int:=vT (xs.flatMap fun x=>[f x,g x])
theorem HF{α:Type}{f g:α->Int}: ∀{xs:List α} {i:Nat} (h:i<xs.length),(∀ j (h:j<xs.length),j<i->f xs[j]=0/\g xs[j]=0)->f xs[i]≠0->fz2 f g xs=f xs[i]
 |x::xs,0,h,_,h0=>by simp at h0;simp [fz2,vT,h0]
 |x::xs,i+1,h,hz,h0=>by
  have a:=hz 0 (by simp) (by omega);simp only [List.getElem_cons_zero] at a
  have:=HF (f:=f) (g:=g) (xs:=xs) (i:=i) (by simpa using h) (fun j b c=>hz (j+1) (by simpa using b) (by omega)) h0
  unfold fz2 at this ⊢;simp only [List.flatMap_cons,List.cons_append,List.nil_append,vT,a.1,a.2,ne_eq,not_true_eq_false,if_false,List.getElem_cons_succ];exact this
theorem HG{α:Type}{f g:α->Int}: ∀{xs:List α} {i:Nat} (h:i<xs.length),(∀ j (h:j<xs.length),j<i->f xs[j]=0/\g xs[j]=0)->f xs[i]=0->g xs[i]≠0->fz2 f g xs=g xs[i]
 |x::xs,0,h,_,hf,h0=>by simp at h0 hf;simp [fz2,vT,h0,hf]
 |x::xs,i+1,h,hz,hf,h0=>by
  have a:=hz 0 (by simp) (by omega);simp only [List.getElem_cons_zero] at a
  have:=HG (f:=f) (g:=g) (xs:=xs) (i:=i) (by simpa using h) (fun j b c=>hz (j+1) (by simpa using b) (by omega)) hf h0
  unfold fz2 at this ⊢;simp only [List.flatMap_cons,List.cons_append,List.nil_append,vT,a.1,a.2,ne_eq,not_true_eq_false,if_false,List.getElem_cons_succ];exact this
theorem HE{α:Type}{f g:α->Int}: ∀{xs:List α},(∀ j (h:j<xs.length),f xs[j]=0/\g xs[j]=0)->fz2 f g xs=0
 |[],_=>rfl
 |x::xs,hz=>by
  have a:=hz 0 (by simp);simp only [List.getElem_cons_zero] at a
  have:=HE (f:=f) (g:=g) (xs:=xs) fun j b=>hz (j+1) (by simpa using b)
  unfold fz2 at this ⊢;simp only [List.flatMap_cons,List.cons_append,List.nil_append,vT,a.1,a.2,ne_eq,not_true_eq_false,if_false];exact this
def AE(gs:List RG):Int:=if gs.length>8 then 2 else fz2 (fun g=>wH g.pol) (fun g=>w7 g.st) gs
abbrev z15:List T:=[I 0,I 0,.str ⟨#[]⟩,I 0,I 0,.nil,.str ⟨#[]⟩,I 0,.nil,I 0,.str ⟨#[]⟩,.nil,.str ⟨#[]⟩,I 0,I 0]
theorem Jd(g:RG):((aP z15 0 15 (uY g)).drop 0).take 9=uV g.pol:=by
 rw [tR (n:=15) rfl,List.drop_zero];unfold uY;rw [<- vz g.pol,List.take_left]
theorem J4(g:RG):((aP z15 0 15 (uY g)).drop 9).take 6=uX g.st:=by
 rw [tR (n:=15) rfl];unfold uY;have e:(uV g.pol++uX g.st).drop 9=uX g.st:=by
  rw [<- vz g.pol,List.drop_left]
 rw [e];rfl
def wQ(l:List Fd)(s:ByteArray):Bool:=(findF l s).isSome
def BI(ks:List ByteArray)(i:Nat):Bool:=(ks.take i).any fun x=>uU (ks.getD i e0) x
def BJ(ks:List ByteArray):Bool:=(List.range ks.length).any (BI ks)
def HX(l:List Fd)(k:Int)(f:ByteArray)(m:Int):Int:=match findF l f with
 |none=>0
 |some F=>if k=4/\m>((2^F.w - 1:Nat):Int) then 1 else 0
def xH(l:List Fd)(s:RS):Int:=
 if w7 s≠0 then w7 s
 else if s.kind=0 then 0
 else if (!uU s.field e0&& !wQ l s.field)|| !s.key.all (wQ l) then 4
 else if BJ s.key then 1
 else HX l s.kind s.field s.m
theorem Jo{s:RS}(h:w7 s=0)(c:s.kind=4):uU s.field e0=false:=by
 unfold w7 at h;have a:okS s=true:=by
  cases e:okS s with
  |true=>rfl
  |false=>rw [e] at h;simp at h
 unfold okS at a;have f:Ao s=false:=by unfold Ao;rw [c];rfl
 rw [f,Bool.false_or] at a;simp only [Bool.and_eq_true] at a;have b:=a.2;unfold yE at b;rw [c] at b;simp only [show ¬((4:Int)=1) by omega,show ¬((4:Int)=2) by omega,show ¬((4:Int)=3) by omega,if_false,if_true,Bool.and_eq_true] at b;exact AQ b.1.1.1
end Go.TY
end
section
end
section
end
section
namespace Go.TY
open Go Go.DL Go.Proofs
section
variable {α:Type}{enc:α->T}{d:α}
end
def Ii(ks:List ByteArray):List ByteArray:=yu ltS ks
end Go.TY
end
section
namespace Go.TY
open Go Go.DL Go.MM
section
variable {α:Type}[DecidableEq α]
theorem Gl: ∀{l acc:List α},(once acc l).length<=acc.length+l.length
 |[],acc=>Nat.le_refl _
 |x::l,acc=>by
  unfold once
  have:=Gl (l:=l) (acc:=if x∈acc then acc else acc++[x])
  rw [List.length_cons];split at this
  ·rw [if_pos (by assumption)];omega
  ·rw [List.length_append,List.length_singleton] at this;rw [if_neg (by assumption)];omega
end
end Go.TY
end
section
end
section
namespace Go.TY
open Go Go.DL Go.MM Go.Proofs
def A9(l:List Fd)(gs:List RG):Option VS:=C5 l ⟨[],[]⟩ (uW (gs.map (·.st)))
theorem yq{ks:List Nat}{bx:Nat->Option BX}{n e w:Nat}{us xs:List T}(h:us=xs):LeV ks bx (.t (.slice w us)) (.own n e w xs):=by rw [h];exact LeV.data _ _ _ _
theorem Ex{α:Type}{f g:α->Int}: ∀{xs:List α},fz2 f g xs=0-> ∀x∈xs,f x=0/\g x=0
 |[],_,_,hx=>by cases hx
 |x::xs,h,y,c=>by
  have h:vT (f x::g x::xs.flatMap fun x=>[f x,g x])=0:=h;simp only [vT] at h
  by_cases a:f x=0
  ·by_cases b:g x=0
   ·simp only [a,b] at h;rcases List.mem_cons.1 c with rfl|c
    ·exact ⟨a,b⟩
    ·exact Ex (by simpa [fz2] using h) y c
   ·simp [a,b] at h
  ·simp [a] at h
def A4(l:List Fd)(gs:List RG):Int:=
 if AE gs≠0 then AE gs
 else if fz2 (fun g=>yJ l g.pol) (fun g=>xH l g.st) gs≠0 then fz2 (fun g=>yJ l g.pol) (fun g=>xH l g.st) gs
 else if (A9 l gs).isNone then 11 else 0
end Go.TY
end
section
end
section
end
section
end
section
namespace Go.TY
open Go Go.DL Go.MM Go.Proofs
theorem CI{l:List Fd}{gs:List RG}:(A9 l gs).isNone=true↔ ¬PW l (uW (gs.map (·.st))):=by
 unfold A9;have b:=El (ts:=uW (gs.map (·.st))) (Ck.start (l:=l))
 rw [List.nil_append] at b
 by_cases a:PW l (uW (gs.map (·.st)))
 ·obtain ⟨e,c,f⟩:=b.1 a;rw [c];simp [a]
 ·rw [b.2 a];simp [a]
def xE(gs:List RG):List ByteArray:=Ii (once [] ((uW (gs.map (·.st))).map (·.var)))
def v0:RV:=⟨e0,0,[],0,0⟩
def xX(l:List Fd)(gs:List RG):List RV:=(xE gs).map fun s=>(we l (uW (gs.map (·.st))) s).getD v0
theorem Gh{ks:List ByteArray}(a:ks.Nodup){x:ByteArray}:x∈Ii ks↔x∈ks:=by
 unfold Ii;exact BY
theorem EJ{α:Type}[DecidableEq α]{lt:α->α->Bool}{x:α}: ∀{l:List α},(put lt l x).length<=l.length+1
 |[]=>by simp [put]
 |y::l=>by
  have c:=EJ (lt:=lt) (x:=x) (l:=l);have b:=List.length_filter_le (fun a=> !decide (a=x)) (y::l);unfold put;split
  ·simp only [List.length_cons] at *;omega
  ·simp only [List.length_cons] at *;omega
theorem Dh{α:Type}[DecidableEq α]{lt:α->α->Bool}: ∀{l acc:List α},(l.foldl (put lt) acc).length<=acc.length+l.length
 |[],_=>by simp
 |x::l,acc=>by
  have a:=EJ (lt:=lt) (x:=x) (l:=acc);have b:=Dh (lt:=lt) (l:=l) (acc:=put lt acc x);rw [List.foldl_cons,List.length_cons];omega
theorem Ec{α:Type}[DecidableEq α]{lt:α->α->Bool}{l:List α}:(yu lt l).length<=l.length:=by
 have:=Dh (lt:=lt) (l:=l) (acc:=[])
 rw [List.length_nil,Nat.zero_add] at this;exact this
end Go.TY
end
section
namespace Go.TY
open Go Go.DL Go.Proofs
def Py:LWZ Tryz.prog Tryz.f175 26 []:=⟨_,lrZ⟩
def PR:LWZ Tryz.prog Tryz.f203 66 []:=⟨_,lrZ⟩
def l49:LWZ Tryz.prog Tryz.f49 12 []:=⟨_,lrZ⟩
def l50:LWZ Tryz.prog Tryz.f50 30 [8000027]:=⟨_,lrZ⟩
def l51:LWZ Tryz.prog Tryz.f51 11 []:=⟨_,lrZ⟩
def O6:LWZ Tryz.prog Tryz.f134 47 []:=⟨_,lrZ⟩
def l48:LWZ Tryz.prog Tryz.f48 48 [5000004,5000006,8000026,8000039,8000045]:=⟨_,lrZ⟩
def l10:LWZ Tryz.prog Tryz.f10 94 [8000091]:=⟨_,lrZ⟩
def O5:LWZ Tryz.prog Tryz.f133 93 [5000005,6000021,8000034]:=⟨_,lrZ⟩
def l94:LWZ Tryz.prog Tryz.f94 87 [6000019,6000020,2000028000009]:=⟨_,lrZ⟩
def PF:LWZ Tryz.prog Tryz.f189 148 [6000005,6000014]:=⟨_,lrZ⟩
def Pv:LWZ Tryz.prog Tryz.f172 8 []:=⟨_,lrZ⟩
def O3:LWZ Tryz.prog Tryz.f131 33 [2000018000009]:=⟨_,lrZ⟩
def l90:LWZ Tryz.prog Tryz.f90 23 []:=⟨_,lrZ⟩
def l37:LWZ Tryz.prog Tryz.f37 36 [2000018000009]:=⟨_,lrZ⟩
end Go.TY
end
section
namespace Go.TY
open Go Go.DL Go.MM Go.Proofs
theorem H4(a b:List Int)(r:a.length<2^60\/b.length<2^60):DCalls Tryz.prog 175 [.slice 1 (a.map I),.slice 1 (b.map I)] (.bool (a==b)):=by
 refine dl2 mixed [.tmp 4] [.bool _] Tryz.func175 Py.2 ?_;have u:((a.map I).length:Int)=a.length:=by rw [List.length_map]
 have v:((b.map I).length:Int)=b.length:=by rw [List.length_map]
 by_cases f:a.length=b.length
 case neg=>
  have e:(a==b)=false:=beq_false_of_ne fun e=>f (by rw [e])
  rw [e];have s:((a.map I).length:Int)≠((b.map I).length:Int):=by omega
  exact rcZ
 have r:a.length<2^60:=by omega
 have s:((a.map I).length:Int)=((b.map I).length:Int):=by omega
 refine rnZ ?_;refine uA (α:=Nat) (fun i=>{sl:=[(0,.t (.slice 1 (a.map I))),(1,.t (.slice 1 (b.map I))),(5,.t (I i))],bx:=[]})
  (fun i=>i<=a.length/\ ∀j (h:j<a.length) (k:j<b.length),j<i->a[j]=b[j]) (fun i=>a.length - i) 0 (by simp) ?_ ?_
 ·exact wkZ
 rintro i ⟨hi,n⟩;rcases Nat.lt_or_ge i a.length with h|h
 ·have k:i<b.length:=by omega
  have c:(i:Int)<((a.map I).length:Int):=by omega
  by_cases g:a[i]=b[i]
  ·repeat' ((conv=>whnf);first|refine nr c ?_|(refine nv_ (I a[i]) (by first|(simp [h];done)|fail) ?_)|(refine nv_ (I b[i]) (by first|(simp [k];done)|fail) ?_)|refine nw g ?_|refine aS ?_|refine nT_ ?_)
   refine ⟨i+1,⟨h,fun j q l c=>?_⟩,by omega,?_⟩
   ·rcases Nat.lt_or_ge j i with m|m
    ·exact n j q l m
    ·obtain rfl:j=i:=by omega
     exact g
   ·exact wkZ
  ·have e:(a==b)=false:=beq_false_of_ne fun e=>g (by subst e;rfl)
   rw [e]
   repeat' ((conv=>whnf);first|exact trivial|refine nr c ?_|(refine nv_ (I a[i]) (by first|(simp [h];done)|fail) ?_)|(refine nv_ (I b[i]) (by first|(simp [k];done)|fail) ?_)|refine ny g ?_|refine rb0 ?_|refine aS ?_|refine nT_ ?_)
 ·have e:(a==b)=true:=by
   have:a=b:=List.ext_getElem f fun j o p=>n j o p (by omega)
   simp [this]
  rw [e];have c: ¬(i:Int)<((a.map I).length:Int):=by omega
  exact rcZ
def A5:List ByteArray->List ByteArray->Bool
 |[],[]=>true
 |x::xs,y::ys=>uU x y&&A5 xs ys
 |_,_=>false
theorem Ft: ∀{a b:List ByteArray},A5 a b=true↔a=b
 |[],[]=>by simp [A5]
 |[],_::_=>by simp [A5]
 |_::_,[]=>by simp [A5]
 |x::xs,y::ys=>by
  unfold A5;rw [Bool.and_eq_true,Ft (a:=xs),vr,List.cons.injEq]
theorem DE(k:Int):DCalls Tryz.prog 49 [I k] (I (wU k)):=by
 refine dl2 mixed [.tmp 2] [.int _ _] Tryz.func49 l49.2 ?_;unfold wU
 by_cases k1:k=1
 ·rw [if_pos k1];exact rcZ
 rw [if_neg k1]
 by_cases k2:k=2
 ·rw [if_pos (Or.inl k2)];exact rcZ
 by_cases a:k=3
 ·rw [if_pos (Or.inr a)];exact rcZ
 rw [if_neg (by omega)]
 by_cases b:k=4
 ·rw [if_pos (Or.inl b)];exact rcZ
 by_cases c:k=5
 ·rw [if_pos (Or.inr c)];exact rcZ
 rw [if_neg (by omega)];exact rcZ
theorem Ca(s:RS):DCalls Tryz.prog 51 [.agg (uX s)] (.bool s.own):=by
 refine dl2 mixed [.tmp 2] [.bool _] Tryz.func51 l51.2 ?_;obtain ⟨k,v,ks,f,n,m⟩:=s;unfold RS.own;dsimp only
 by_cases a:k=4
 ·rw [a];exact rcZ
 by_cases b:k=6
 ·rw [b];exact rcZ
 have e:((k==4)||(k==6))=false:=by simp [a,b]
 rw [e];exact rcZ
theorem Gu(l:List Fd)(c:LOk l)(k:ByteArray):DCalls Tryz.prog 17 [fds l,.str k] (.tup [.agg [.str (fld l k).name,I (fld l k).a,I (fld l k).w],.bool (wQ l k)]):=by
 have h:=t51 l k c.len;unfold xB at h;unfold fld wQ;cases b:findF l k with
 |none=>rw [b] at h;exact h
 |some F=>rw [b] at h;exact h
theorem DF(l:List Fd)(e:LOk l)(ks:List ByteArray)(g:ks.length<2^40):DCalls Tryz.prog 50 [fds l,.slice 1 (ks.map .str)] (.slice 1 ((ks.map fun k=>((fld l k).w:Int)).map I)):=by
 refine dl2 mixed [.tmp 4] [.slice 1 _] Tryz.func50 l50.2 ?_;have c:((ks.map T.str).length:Int)=ks.length:=by rw [List.length_map]
 skip
 refine tT 0 (α:=Nat) (β:=Unit) (fun i=>{sl:=[(0,.t (fds l)),(1,.t (.slice 1 (ks.map .str))),(5,.own 28 3 1 ((ks.take i).map fun k=>I ((fld l k).w:Int))),(6,.t (I i))],bx:=[]})
  (fun i=>i<=ks.length) (fun i=>ks.length - i) (fun _=>{sl:=[(5,.t (.slice 1 ((ks.map fun k=>((fld l k).w:Int)).map I)))],bx:=[]}) (fun _=>True) 0 (by simp) ?_ ?_ ?_
 ·exact wkZ
 ·rintro i hi;rcases Nat.lt_or_ge i ks.length with h|h
  ·have a:(i:Int)<((ks.map T.str).length:Int):=by omega
   have b:=Gu l e ks[i];have f:ks.take (i+1)=ks.take i++[ks[i]]:=by rw [List.take_succ_eq_append_getElem h]
   repeat' ((conv=>whnf);first|refine nr a ?_|(refine nv_ (.str ks[i]) (by first|(simp [h];done)|fail) ?_)|refine pC _ (b) ?_|(refine And.intro (by first|((simp only [List.length_map,List.length_take,List.length_cons,List.length_nil];omega);done)|fail) ?_)|refine aS ?_|refine nT_ ?_)
   refine ⟨i+1,h,by omega,?_⟩
   repeat' (first|(exact rM (by rw [f,List.map_append];rfl))|exact wJ|refine And.intro ?_ ?_)
  ·have:i=ks.length:=by omega
   subst this;rw [List.take_length];have a: ¬(ks.length:Int)<((ks.map T.str).length:Int):=by omega
   refine rnZ ?_;(exact ⟨(),trivial,by (repeat' (first|(exact yq (by rw [List.map_map];rfl))|exact wJ|refine And.intro ?_ ?_));done⟩)
 ·rintro _ _;exact rcZ
theorem Lt(l:List Fd)(o:LOk l)(s t:RS)(r:s.key.length<2^40)(u:t.key.length<2^40):DCalls Tryz.prog 134 [fds l,.agg (uX s),.agg (uX t)] (.bool (xl l s t)):=by
 have a:=Ca s;have j:=Ca t;have b:=DF l o s.key r;have c:=DF l o t.key u;have e:=H4 (s.key.map fun k=>((fld l k).w:Int)) (t.key.map fun k=>((fld l k).w:Int)) (by rw [List.length_map];omega);have g:=DE s.kind;have h:=DE t.kind;unfold xl vI;generalize (s.key.map fun k=>((fld l k).w:Int))=w1 at *
 generalize (t.key.map fun k=>((fld l k).w:Int))=w2 at *
 generalize (w1==w2)=z at *
 generalize wU s.kind=f1 at *
 generalize wU t.kind=f2 at *
 generalize s.own=os at *
 generalize t.own=ot at *
 obtain ⟨k,v,ks,f,n,m⟩:=s;obtain ⟨C,D,x,B,A,y⟩:=t;dsimp only at *
 refine dl2 mixed [.tmp 6] [.bool _] Tryz.func134 O6.2 ?_;generalize q:(n !=A)=bn;generalize p:(m !=y)=bm;generalize i:(f1==f2)=bf;cases os with
 |false=>cases z <;> repeat' ((conv=>whnf);first|exact trivial|refine pC _ (a) ?_|refine pC _ (b) ?_|refine pC _ (c) ?_|refine pC _ (e) ?_|refine pC _ (g) ?_|refine pC _ (h) ?_|refine nb_ _ i ?_|refine rb0 ?_|refine rbx ?_|refine aS ?_|refine nT_ ?_)
 |true=>
 cases ot with
 |false=>cases z <;> repeat' ((conv=>whnf);first|exact trivial|refine pC _ (a) ?_|refine pC _ (j) ?_|refine pC _ (b) ?_|refine pC _ (c) ?_|refine pC _ (e) ?_|refine pC _ (g) ?_|refine pC _ (h) ?_|refine nb_ _ i ?_|refine rb0 ?_|refine rbx ?_|refine aS ?_|refine nT_ ?_)
 |true=>
 cases bn with
 |true=>exact rcZ
 |false=>
 cases bm with
 |true=>exact rcZ
 |false=>cases z <;> repeat' ((conv=>whnf);first|exact trivial|refine pC _ (a) ?_|refine pC _ (j) ?_|refine nb_ _ q ?_|refine nb_ _ p ?_|refine pC _ (b) ?_|refine pC _ (c) ?_|refine pC _ (e) ?_|refine pC _ (g) ?_|refine pC _ (h) ?_|refine nb_ _ i ?_|refine rb0 ?_|refine rbx ?_|refine aS ?_|refine nT_ ?_)
theorem xy{b:Bool}{p:Prop}(hi:b=true↔p)(h: ¬p):b=false:=by
 cases b with
 |false=>rfl
 |true=>exact (h (hi.1 rfl)).elim
def CG(a b:RS):Bool:=(a.kind==b.kind)&&uU a.var b.var&&uU a.field b.field&&(a.n==b.n)&&(a.m==b.m)&&A5 a.key b.key
theorem xG{a b:RS}:CG a b=true↔a=b:=by
 obtain ⟨c,e,f,g,i,j⟩:=a;obtain ⟨k,l,m,n,o,p⟩:=b;unfold CG;simp only [Bool.and_eq_true,vr,beq_iff_eq,Ft,RS.mk.injEq];exact ⟨fun h=>⟨h.1.1.1.1.1,h.1.1.1.1.2,h.2,h.1.1.1.2,h.1.1.2,h.1.2⟩,fun h=>⟨⟨⟨⟨⟨h.1,h.2.1⟩,h.2.2.2.1⟩,h.2.2.2.2.1⟩,h.2.2.2.2.2⟩,h.2.2.1⟩⟩
theorem H5(a b:RS)(N:a.key.length<2^60):DCalls Tryz.prog 203 [.agg (uX a),.agg (uX b)] (.bool (CG a b)):=by
 obtain ⟨k,v,l,f,n,m⟩:=a;obtain ⟨G,w,c,r,J,H⟩:=b;dsimp only at N;refine dl2 mixed [.tmp 4] [.bool _] Tryz.func203 PR.2 ?_;have E:(!(v.toList==w.toList))= !uU v w:=by rw [vE]
 have D:(!(f.toList==r.toList))= !uU f r:=by rw [vE]
 by_cases z:k=G
 case neg=>rw [xy xG fun e=>z (by cases e;rfl)];exact rcZ
 by_cases q:v=w
 case neg=>
  rw [xy xG fun e=>q (by cases e;rfl)];rw [xy vr q] at E;exact rcZ
 rw [vr.2 q] at E
 by_cases p:f=r
 case neg=>
  rw [xy xG fun e=>p (by cases e;rfl)];rw [xy vr p] at D;exact rcZ
 rw [vr.2 p] at D
 by_cases A:n=J
 case neg=>rw [xy xG fun e=>A (by cases e;rfl)];exact rcZ
 by_cases B:m=H
 case neg=>rw [xy xG fun e=>B (by cases e;rfl)];exact rcZ
 have P:((l.map T.str).length:Int)=l.length:=by rw [List.length_map]
 have Q:((c.map T.str).length:Int)=c.length:=by rw [List.length_map]
 by_cases o:l.length=c.length
 case neg=>
  rw [xy xG fun e=>o (by cases e;rfl)];have O:((l.map T.str).length:Int)≠((c.map T.str).length:Int):=by omega
  exact rcZ
 have O:((l.map T.str).length:Int)=((c.map T.str).length:Int):=by omega
 refine rnZ ?_;refine uA (α:=Nat) (fun i=>{sl:=[(2,.ptr 2 0),(3,.ptr 3 0),(5,.t (I i))],bx:=[(2,.d 6 (uX ⟨k,v,l,f,n,m⟩)),(3,.d 6 (uX ⟨G,w,c,r,J,H⟩))]})
  (fun i=>i<=l.length/\ ∀j (h:j<l.length) (x:j<c.length),j<i->l[j]=c[j]) (fun i=>l.length - i) 0 (by simp) ?_ ?_
 ·exact wkZ
 rintro i ⟨hi,F⟩;rcases Nat.lt_or_ge i l.length with h|h
 ·have x:i<c.length:=by omega
  have g:(i:Int)<((l.map T.str).length:Int):=by omega
  have s:(!(l[i].toList==c[i].toList))= !uU l[i] c[i]:=by rw [vE]
  by_cases u:l[i]=c[i]
  ·rw [vr.2 u] at s
   repeat' ((conv=>whnf);first|refine nr g ?_|(refine nv_ (.str l[i]) (by first|(simp [h];done)|fail) ?_)|(refine nv_ (.str c[i]) (by first|(simp [x];done)|fail) ?_)|refine nb_ _ s ?_|refine aS ?_|refine nT_ ?_)
   refine ⟨i+1,⟨h,fun j M y g=>?_⟩,by omega,?_⟩
   ·rcases Nat.lt_or_ge j i with C|C
    ·exact F j M y C
    ·obtain rfl:j=i:=by omega
     exact u
   ·exact wkZ
  ·rw [xy vr u] at s;rw [xy xG fun e=>u (by cases e;rfl)]
   repeat' ((conv=>whnf);first|exact trivial|refine nr g ?_|(refine nv_ (.str l[i]) (by first|(simp [h];done)|fail) ?_)|(refine nv_ (.str c[i]) (by first|(simp [x];done)|fail) ?_)|refine nb_ _ s ?_|refine rb0 ?_|refine aS ?_|refine nT_ ?_)
 ·have e:l=c:=List.ext_getElem o fun j K L=>F j K L (by omega)
  rw [xG.2 (by rw [z,p,A,B,q,e])];have g: ¬(i:Int)<((l.map T.str).length:Int):=by omega
  exact rcZ
end Go.TY
end
section
end
section
namespace Go.TY
open Go Go.DL Go.MM Go.Proofs
theorem EV(g:RG):((uY g).drop 0).take 9=uV g.pol:=by
 have:=Jd g
 rwa [tR (n:=15) rfl] at this
theorem yQ(g:RG):((uY g).drop 9).take 6=uX g.st:=by
 have:=J4 g
 rwa [tR (n:=15) rfl] at this
def Hz(r:RO):Bool:=decide (r.size<=400)&&decide (r.deep<=60)&&decide (r.pred.nodes<=400)
theorem Eu{a b:Nat}:decide ((a:Int)<=(b:Int))=decide (a<=b):=by
 by_cases h:a<=b
 ·rw [decide_eq_true h,decide_eq_true (by omega)]
 ·rw [decide_eq_false h,decide_eq_false (by omega)]
theorem GS(r:RO)(o:r.wt<2^60):DCalls Tryz.prog 90 [.agg (uV r)] (.bool (Hz r)):=by
 refine dl2 mixed [.tmp 2] [.bool _] Tryz.func90 l90.2 ?_;have v:=t89 _ r (Nat.le_refl _) o;have m:r.pred.nodes<2^60:=by
  obtain ⟨k,p,f,n,l⟩:=r;simp only [RO.wt] at o;show p.nodes<_;omega
 have s:=t103 _ r.pred (Nat.le_refl _) m;have t:decide ((r.size:Int)<=400)=decide (r.size<=400):=Eu;have u:decide ((r.deep:Int)<=60)=decide (r.deep<=60):=Eu;have q:decide ((r.pred.nodes:Int)<=400)=decide (r.pred.nodes<=400):=Eu;unfold Hz;obtain ⟨k,⟨h,g,j,i,b⟩,f,n,l⟩:=r;have e:(RO.mk k (.mk h g j i b) f n l).pred= .mk h g j i b:=rfl;rw [e] at s q ⊢;clear o m e;generalize (RO.mk k (.mk h g j i b) f n l).size=a at *
 generalize (RO.mk k (.mk h g j i b) f n l).deep=d at *
 generalize (RP.mk h g j i b).nodes=c at *
 generalize (RP.mk h g j i b).depth=c' at *
 generalize decide (a<=400)=b1 at *
 generalize decide (d<=60)=b2 at *
 generalize decide (c<=400)=b3 at *
 cases b1 <;> cases b2 <;> repeat' ((conv=>whnf);first|exact trivial|refine pC _ (v) ?_|refine pC _ (s) ?_|refine nb_ _ t ?_|refine nb_ _ u ?_|refine nb_ _ q ?_|refine rb0 ?_|refine rbx ?_|refine aS ?_|refine nT_ ?_)
end Go.TY
end
section
end
section
namespace Go.TY
open Go Go.DL Go.MM Go.Proofs
theorem Aq(g:RG):(uY g).take 9=uV g.pol:=by
 have:=EV g
 rwa [List.drop_zero] at this
theorem zm(g:RG):9<=(uY g).length:=by rw [xT];exact nlZ rfl
theorem xr(g:RG):15<=(uY g).length:=by rw [xT];exact Nat.le_refl _
theorem Kz(g:RG):11<(uY g).length:=by rw [xT];exact nlZ rfl
theorem yj(g:RG):((uY g).take 9).length=9:=by rw [Aq,vz]
theorem Jb(s:RS):CG s ⟨0,e0,[],e0,0,0⟩=Ao s:=by
 obtain ⟨k,v,l,f,n,m⟩:=s;unfold CG Ao
 have:A5 l []=(l.length==0):=by cases l <;> rfl
 rw [this]
theorem JY(s:RS)(a:s.key.length<2^60):DCalls Tryz.prog 203 [.agg (uX s),.agg [I 0,.str e0,.nil,.str e0,I 0,I 0]] (.bool (Ao s)):=by
 rw [<- Jb];exact (H5 s ⟨0,e0,[],e0,0,0⟩ a).lesAll ⟨Les.refl _,Les.agg (.cons (Les.refl _) rfl (.cons (Les.refl _) rfl (.cons (Les.nil 1) rfl (.cons (Les.refl _) rfl (.cons (Les.refl _) rfl (.cons (Les.refl _) rfl .nil)))))),trivial⟩
theorem Le(a e b:Bool)(n m:Int):yE 3 a e b n m=(e&&(decide (n>=0)&&(decide (n<=1073741824)&&(m==0)))):=by
 unfold yE C1;rw [if_neg (by omega),if_neg (by omega),if_pos rfl];cases e <;> cases c:decide (0<=n) <;> cases f:decide (n<=1073741824) <;> cases g:(m==0) <;> simp_all
theorem Lf(b e a:Bool)(n m:Int):yE 4 b e a n m=(a&&(decide (n>=0)&&(decide (n<=m)&&decide (m<=65535)))):=by
 unfold yE yW;rw [if_neg (by omega),if_neg (by omega),if_neg (by omega),if_pos rfl];cases a
 ·rfl
 ·rw [Bool.eq_iff_iff];simp only [Bool.true_and,Bool.and_eq_true,decide_eq_true_eq];omega
theorem Lg(a e b:Bool)(n m:Int):yE 6 a e b n m=(e&&(decide (n>=1)&&(decide (n<=65535)&&(decide (m>=1)&&decide (m<=1073741824))))):=by
 unfold yE yW C1;rw [if_neg (by omega),if_neg (by omega),if_neg (by omega),if_neg (by omega),if_neg (by omega),if_pos rfl];cases e
 ·rfl
 ·rw [Bool.eq_iff_iff];simp only [Bool.true_and,Bool.and_eq_true,decide_eq_true_eq];omega
theorem Gs(s:RS)(M:s.var.size<2^62)(F:s.field.size<2^62)(G: ∀k∈s.key,k.size<2^62)(H:s.key.length<2^60):DCalls Tryz.prog 189 [.agg (uX s)] (.bool (okS s)):=by
 refine dl2 mixed [.tmp 2] [.bool _] Tryz.func189 PF.2 ?_;have R:=JY s H;unfold okS;generalize Ao s=z0 at *
 obtain ⟨k,v,l,f,n,m⟩:=s;dsimp only at M F G H ⊢;cases z0 with
 |true=>exact rcZ
 |false=>
 rw [Bool.false_or];have S:=t108 v M;have U:=t104 f F;have o:=vE f e0;have J:((l.map T.str).length:Int)=(l.length:Int):=by rw [List.length_map]
 generalize AS v=pv at *
 generalize wz f=nd at *
 generalize uU f e0=e at *
 refine rnZ ?_;refine uE (β:=Unit) (fun _=>{sl:=[(1,.ptr 1 0),(29,.t (.bool (!(pv&&decide (1<=l.length)&&decide (l.length<=4)))))],bx:=[(1,.d 6 (uX ⟨k,v,l,f,n,m⟩))]}) (fun _=>True) ?_ ?_
 ·by_cases C:1<=l.length
  ·have p: ¬((l.map T.str).length:Int)<1:=by omega
   rw [decide_eq_true C,Bool.and_true]
   by_cases D:l.length<=4
   ·have A: ¬((l.map T.str).length:Int)>4:=by omega
    rw [decide_eq_true D,Bool.and_true];cases pv <;> repeat' ((conv=>whnf);first|refine nq p ?_|refine nq A ?_|(exact ⟨(),trivial,wkZ⟩)|refine aS ?_|refine nT_ ?_)
   ·have A:((l.map T.str).length:Int)>4:=by omega
    rw [decide_eq_false D,Bool.and_false];cases pv <;> repeat' ((conv=>whnf);first|refine nq p ?_|refine nr A ?_|(exact ⟨(),trivial,wkZ⟩)|refine aS ?_|refine nT_ ?_)
  ·have p:((l.map T.str).length:Int)<1:=by omega
   rw [decide_eq_false C,Bool.and_false,Bool.false_and];cases pv <;> repeat' ((conv=>whnf);first|refine nr p ?_|(exact ⟨(),trivial,wkZ⟩)|refine aS ?_|refine nT_ ?_)
 rintro _ _;generalize (pv&&decide (1<=l.length)&&decide (l.length<=4))=g at *
 cases g with
 |false=>exact rcZ
 |true=>
 rw [Bool.true_and]
 skip
 refine tT 0 (α:=Nat) (β:=Unit) (fun i=>{sl:=[(1,.ptr 1 0),(5,.t (I i))],bx:=[(1,.d 6 (uX ⟨k,v,l,f,n,m⟩))]})
  (fun i=>i<=l.length/\ ∀j (h:j<l.length),j<i->wz l[j]=true) (fun i=>l.length - i)
  (fun _=>{sl:=[(1,.ptr 1 0)],bx:=[(1,.d 6 (uX ⟨k,v,l,f,n,m⟩))]}) (fun _=>l.all wz=true) 0 (by simp) ?_ ?_ ?_
 ·exact wkZ
 ·rintro i ⟨hi,L⟩;rcases Nat.lt_or_ge i l.length with h|h
  ·have q:(i:Int)<((l.map T.str).length:Int):=by omega
   have r:=t104 l[i] (G _ (List.getElem_mem h));have y:(l.map T.str)[i]?.getD .nil= .str l[i]:=by simp [h]
   cases w:wz l[i] with
   |true=>
    rw [w] at r
    repeat' ((conv=>whnf);first|refine nr q ?_|(refine nv_ (.str l[i]) (by first|exact y) ?_)|refine pC _ (r) ?_|refine aS ?_|refine nT_ ?_)
    refine ⟨i+1,⟨h,fun j B q=>?_⟩,by omega,?_⟩
    ·rcases Nat.lt_or_ge j i with E|E
     ·exact L j B E
     ·obtain rfl:j=i:=by omega
      exact w
    ·exact wkZ
   |false=>
    rw [w] at r;have e:l.all wz=false:=by
     rw [List.all_eq_false];exact ⟨l[i],List.getElem_mem h,by rw [w];simp⟩
    rw [e];clear e
    repeat' ((conv=>whnf);first|exact trivial|refine nr q ?_|(refine nv_ (.str l[i]) (by first|exact y) ?_)|refine pC _ (r) ?_|refine rb0 ?_|refine aS ?_|refine nT_ ?_)
  ·have q: ¬(i:Int)<((l.map T.str).length:Int):=by omega
   have u:l.all wz=true:=by
    rw [List.all_eq_true];intro x y;obtain ⟨j,B,rfl⟩:=List.getElem_of_mem y;exact L j B (by omega)
   refine rnZ ?_;(exact ⟨(),u,wkZ⟩)
 rintro _ u;rw [u,Bool.true_and];clear u;refine rnZ ?_;refine uE (β:=Unit) (fun _=>{sl:=[(1,.ptr 1 0),(7,.t (.bool nd)),(8,.t (.bool ((n==0)&&(m==0))))],bx:=[(1,.d 6 (uX ⟨k,v,l,f,n,m⟩))]}) (fun _=>True) ?_ ?_
 ·by_cases r:n=0
  ·by_cases K:m=0
   ·rw [show ((n==0)&&(m==0))=true by simp [r,K]];refine rnZ ?_;(exact ⟨(),trivial,wkZ⟩)
   ·rw [show ((n==0)&&(m==0))=false by simp [K]];refine rnZ ?_;(exact ⟨(),trivial,wkZ⟩)
  ·rw [show ((n==0)&&(m==0))=false by simp [r]];refine rnZ ?_;(exact ⟨(),trivial,wkZ⟩)
 rintro _ _;clear R S U;generalize ((n==0)&&(m==0))=br at *
 by_cases k1:k=1
 ·subst k1;unfold yE;rw [if_pos rfl];cases br <;> cases e <;> cases nd <;> repeat' ((conv=>whnf);first|exact trivial|refine nb_ _ o ?_|refine aE1 ?_|refine rb1 ?_|refine rb0 ?_|refine aS ?_|refine nT_ ?_)
 by_cases k2:k=2
 ·subst k2;unfold yE;rw [if_neg (by omega),if_pos rfl];cases br <;> cases e <;> repeat' ((conv=>whnf);first|exact trivial|refine nb_ _ o ?_|refine aE1 ?_|refine aE0 ?_|refine rb1 ?_|refine rb0 ?_|refine aS ?_|refine nT_ ?_)
 by_cases N:k=3
 ·subst N;rw [Le]
  by_cases a:n>=0
  ·by_cases b:n<=1073741824
   ·rw [decide_eq_true a,decide_eq_true b,Bool.true_and,Bool.true_and]
    by_cases c:m=0
    ·rw [show (m==0)=true by simp [c]];cases e <;> repeat' ((conv=>whnf);first|exact trivial|refine nb_ _ o ?_|refine nr a ?_|refine nr b ?_|refine nv c ?_|refine aE1 ?_|refine aE0 ?_|refine rb1 ?_|refine rb0 ?_|refine aS ?_|refine nT_ ?_)
    ·rw [show (m==0)=false by simp [c]];cases e <;> repeat' ((conv=>whnf);first|exact trivial|refine nb_ _ o ?_|refine nr a ?_|refine nr b ?_|refine nu c ?_|refine aE1 ?_|refine aE0 ?_|refine rb0 ?_|refine aS ?_|refine nT_ ?_)
   ·rw [decide_eq_true a,decide_eq_false b,Bool.true_and,Bool.false_and];cases e <;> repeat' ((conv=>whnf);first|exact trivial|refine nb_ _ o ?_|refine nr a ?_|refine nq b ?_|refine aE1 ?_|refine aE0 ?_|refine rb0 ?_|refine aS ?_|refine nT_ ?_)
  ·rw [decide_eq_false a,Bool.false_and];cases e <;> repeat' ((conv=>whnf);first|exact trivial|refine nb_ _ o ?_|refine nq a ?_|refine aE1 ?_|refine aE0 ?_|refine rb0 ?_|refine aS ?_|refine nT_ ?_)
 by_cases O:k=4
 ·subst O;rw [Lf]
  by_cases a:n>=0
  ·by_cases b:n<=m
   ·rw [decide_eq_true a,decide_eq_true b,Bool.true_and,Bool.true_and]
    by_cases c:m<=65535
    ·rw [decide_eq_true c];cases nd <;> repeat' ((conv=>whnf);first|exact trivial|refine nr a ?_|refine nr b ?_|refine nr c ?_|refine aE1 ?_|refine aE0 ?_|refine rb1 ?_|refine rb0 ?_|refine aS ?_|refine nT_ ?_)
    ·rw [decide_eq_false c];cases nd <;> repeat' ((conv=>whnf);first|exact trivial|refine nr a ?_|refine nr b ?_|refine nq c ?_|refine aE1 ?_|refine aE0 ?_|refine rb0 ?_|refine aS ?_|refine nT_ ?_)
   ·rw [decide_eq_true a,decide_eq_false b,Bool.true_and,Bool.false_and];cases nd <;> repeat' ((conv=>whnf);first|exact trivial|refine nr a ?_|refine nq b ?_|refine aE1 ?_|refine aE0 ?_|refine rb0 ?_|refine aS ?_|refine nT_ ?_)
  ·rw [decide_eq_false a,Bool.false_and];cases nd <;> repeat' ((conv=>whnf);first|exact trivial|refine nq a ?_|refine aE1 ?_|refine aE0 ?_|refine rb0 ?_|refine aS ?_|refine nT_ ?_)
 by_cases P:k=5
 ·subst P;unfold yE;rw [if_neg (by omega),if_neg (by omega),if_neg (by omega),if_neg (by omega),if_pos rfl];cases br <;> cases nd <;> repeat' ((conv=>whnf);first|exact trivial|refine aE1 ?_|refine aE0 ?_|refine rb1 ?_|refine rb0 ?_|refine aS ?_|refine nT_ ?_)
 by_cases Q:k=6
 ·subst Q;rw [Lg]
  by_cases a:n>=1
  ·by_cases b:n<=65535
   ·rw [decide_eq_true a,decide_eq_true b,Bool.true_and,Bool.true_and]
    by_cases c:m>=1
    ·rw [decide_eq_true c,Bool.true_and]
     by_cases z:m<=1073741824
     ·rw [decide_eq_true z];cases e <;> repeat' ((conv=>whnf);first|exact trivial|refine nb_ _ o ?_|refine nr a ?_|refine nr b ?_|refine nr c ?_|refine nr z ?_|refine aE1 ?_|refine aE0 ?_|refine rb1 ?_|refine rb0 ?_|refine aS ?_|refine nT_ ?_)
     ·rw [decide_eq_false z];cases e <;> repeat' ((conv=>whnf);first|exact trivial|refine nb_ _ o ?_|refine nr a ?_|refine nr b ?_|refine nr c ?_|refine nq z ?_|refine aE1 ?_|refine aE0 ?_|refine rb0 ?_|refine aS ?_|refine nT_ ?_)
    ·rw [decide_eq_false c,Bool.false_and];cases e <;> repeat' ((conv=>whnf);first|exact trivial|refine nb_ _ o ?_|refine nr a ?_|refine nr b ?_|refine nq c ?_|refine aE1 ?_|refine aE0 ?_|refine rb0 ?_|refine aS ?_|refine nT_ ?_)
   ·rw [decide_eq_true a,decide_eq_false b,Bool.true_and,Bool.false_and];cases e <;> repeat' ((conv=>whnf);first|exact trivial|refine nb_ _ o ?_|refine nr a ?_|refine nq b ?_|refine aE1 ?_|refine aE0 ?_|refine rb0 ?_|refine aS ?_|refine nT_ ?_)
  ·rw [decide_eq_false a,Bool.false_and];cases e <;> repeat' ((conv=>whnf);first|exact trivial|refine nb_ _ o ?_|refine nq a ?_|refine aE1 ?_|refine aE0 ?_|refine rb0 ?_|refine aS ?_|refine nT_ ?_)
 unfold yE;rw [if_neg k1,if_neg k2,if_neg N,if_neg O,if_neg P,if_neg Q];exact rcZ
theorem Di(s:RS)(h:SmS (2^60) s):DCalls Tryz.prog 172 [.agg (uX s)] (I (w7 s)):=by
 refine dl2 mixed [.tmp 2] [.int _ _] Tryz.func172 Pv.2 ?_;have a:=Gs s (by have:=h.var;omega) (by have:=h.field;omega) (fun k c=>by have:=h.keys k c;omega) h.len;unfold w7;generalize okS s=b at *
 cases b <;> repeat' ((conv=>whnf);first|refine pC _ (a) ?_|refine rix ?_|(refine And.intro (by first|(rfl;done)|fail) ?_)|exact trivial)
theorem EK(gs:List RG)(z:gs.length<2^60)(y: ∀g∈gs,SmG (2^59) g):DCalls Tryz.prog 131 [.slice 15 (gs.map vk)] (I (AE gs)):=by
 refine dl2 mixed [.tmp 2] [.int _ _] Tryz.func131 O3.2 ?_;have v:((gs.map vk).length:Int)=(gs.length:Int):=by rw [List.length_map]
 unfold AE
 by_cases u:gs.length>8
 ·rw [if_pos u];have w:((gs.map vk).length:Int)>8:=by omega
  exact rcZ
 rw [if_neg u];have w: ¬((gs.map vk).length:Int)>8:=by omega
 refine rnZ ?_;refine uA (α:=Nat) (fun i=>{sl:=[(0,.t (.slice 15 (gs.map vk))),(3,.t (I i))],bx:=[]})
  (fun i=>i<=gs.length/\ ∀j (h:j<gs.length),j<i->wH gs[j].pol=0/\w7 gs[j].st=0) (fun i=>gs.length - i) 0 (by simp) ?_ ?_
 ·exact wkZ
 rintro i ⟨hi,n⟩;rcases Nat.lt_or_ge i gs.length with h|h
 ·have a:(i:Int)<((gs.map vk).length:Int):=by omega
  have q:=y gs[i] (List.getElem_mem h);have m:=t63 gs[i].pol (by have:=q.wt;omega) (q.names (by omega));have o:=Di gs[i].st (q.st.mono (by omega));have r:(gs.map vk)[i]?.getD .nil= .agg (uY gs[i]):=by simp [h];rfl
  have b:=Aq gs[i];have k:=yQ gs[i]
  by_cases c:wH gs[i].pol=0
  ·rw [c] at m
   by_cases l:w7 gs[i].st=0
   ·rw [l] at o
    repeat' ((conv=>whnf);first|refine nr a ?_|(refine nv_ (.agg (uY gs[i])) (by first|exact r) ?_)|(refine nv_ (.agg (uV gs[i].pol)) (by first|exact congrArg T.agg b) ?_)|(refine nv_ (.agg (uX gs[i].st)) (by first|exact congrArg T.agg k) ?_)|refine pC _ (m) ?_|refine pC _ (o) ?_|refine aN0 ?_|(refine And.intro (by first|exact yj _|exact zm _|exact xr _) ?_)|refine aS ?_|fail)
    refine ⟨i+1,⟨h,fun j p a=>?_⟩,by omega,?_⟩
    ·rcases Nat.lt_or_ge j i with s|s
     ·exact n j p s
     ·obtain rfl:j=i:=by omega
      exact ⟨c,l⟩
    ·exact wkZ
   ·have e:=HG (f:=fun g:RG=>wH g.pol) (g:=fun g=>w7 g.st) h n c l;rw [e];clear e;dsimp only;generalize w7 gs[i].st=x at *
    repeat' ((conv=>whnf);first|refine nr a ?_|(refine nv_ (.agg (uY gs[i])) (by first|exact r) ?_)|(refine nv_ (.agg (uV gs[i].pol)) (by first|exact congrArg T.agg b) ?_)|(refine nv_ (.agg (uX gs[i].st)) (by first|exact congrArg T.agg k) ?_)|refine pC _ (m) ?_|refine pC _ (o) ?_|refine ny l ?_|refine aN0 ?_|refine rix ?_|(refine And.intro (by first|exact yj _|exact zm _|exact xr _) ?_)|refine aS ?_|exact trivial)
  ·have e:=HF (f:=fun g:RG=>wH g.pol) (g:=fun g=>w7 g.st) h n c;rw [e];clear e;dsimp only;generalize wH gs[i].pol=x at *
   repeat' ((conv=>whnf);first|refine nr a ?_|(refine nv_ (.agg (uY gs[i])) (by first|exact r) ?_)|(refine nv_ (.agg (uV gs[i].pol)) (by first|exact congrArg T.agg b) ?_)|refine pC _ (m) ?_|refine ny c ?_|refine rix ?_|(refine And.intro (by first|exact yj _|exact zm _|exact xr _) ?_)|refine aS ?_|exact trivial)
 ·have a: ¬(i:Int)<((gs.map vk).length:Int):=by omega
  have e:=HE (f:=fun g:RG=>wH g.pol) (g:=fun g=>w7 g.st) (xs:=gs) fun j p=>n j p (by omega)
  rw [e];exact rcZ
def zI(g:RG):Bool:=Hz g.pol&&decide (g.st.key.length<=20)
def Cs(gs:List RG):Bool:=gs.all zI&&decide (gs.length<=12)
theorem Ms(g:RG):(uY g)[11]?.getD .nil= .slice 1 (g.st.key.map .str):=by
 unfold uY;rw [List.getElem?_append_right (by rw [vz];omega),vz];rfl
theorem Gr(gs:List RG)(E:gs.length<2^60)(A: ∀g∈gs,g.pol.wt<2^60):DCalls Tryz.prog 37 [.slice 15 (gs.map vk)] (.bool (Cs gs)):=by
 refine dl2 mixed [.tmp 2] [.bool _] Tryz.func37 l37.2 ?_;have y:((gs.map vk).length:Int)=(gs.length:Int):=by rw [List.length_map]
 skip
 refine tT 0 (α:=Nat) (β:=Unit) (fun i=>{sl:=[(0,.t (.slice 15 (gs.map vk))),(3,.t (I i))],bx:=[]})
  (fun i=>i<=gs.length/\i<=12/\ ∀j (h:j<gs.length),j<i->zI gs[j]=true) (fun i=>gs.length - i)
  (fun _=>{sl:=[(0,.t (.slice 15 (gs.map vk)))],bx:=[]}) (fun _=>gs.length<=12->gs.all zI=true) 0 (by simp) ?_ ?_ ?_
 ·exact wkZ
 ·rintro i ⟨hi,B,z⟩;have f:(¬ i<gs.length\/ ¬i<12)->gs.length<=12->gs.all zI=true:=fun D n=>by
   rw [List.all_eq_true];intro x r;obtain ⟨j,u,rfl⟩:=List.getElem_of_mem r;exact z j u (by omega)
  rcases Nat.lt_or_ge i gs.length with h|h
  ·have b:(i:Int)<((gs.map vk).length:Int):=by omega
   rcases Nat.lt_or_ge i 12 with n|n
   ·have s:(i:Int)<12:=by omega
    have m:=GS gs[i].pol (A gs[i] (List.getElem_mem h));have r:(gs.map vk)[i]?.getD .nil= .agg (uY gs[i]):=by simp [h];rfl
    have e:=Aq gs[i];have p:=Ms gs[i];have C:((gs[i].st.key.map T.str).length:Int)=gs[i].st.key.length:=by rw [List.length_map]
    have a:zI gs[i]=false->Cs gs=false:=fun k=>by
     unfold Cs;rw [show gs.all zI=false from List.all_eq_false.2 ⟨gs[i],List.getElem_mem h,by rw [k];simp⟩,Bool.false_and]
    clear f;cases k:Hz gs[i].pol with
    |false=>
     rw [k] at m;rw [a (by unfold zI;rw [k];rfl)];clear a
     repeat' ((conv=>whnf);first|refine nr b ?_|refine nr s ?_|(refine nv_ (.agg (uY gs[i])) (by first|exact r) ?_)|(refine nv_ (.agg (uV gs[i].pol)) (by first|exact congrArg T.agg e) ?_)|refine pC _ (m) ?_|refine rb0 ?_|(refine And.intro (by first|exact yj _|exact zm _|exact xr _) ?_)|refine aS ?_|exact trivial)
    |true=>
     rw [k] at m
     by_cases v:gs[i].st.key.length<=20
     ·have q: ¬((gs[i].st.key.map T.str).length:Int)>20:=by omega
      have l:zI gs[i]=true:=by unfold zI;rw [k,decide_eq_true v];rfl
      clear a
      repeat' ((conv=>whnf);first|refine nr b ?_|refine nr s ?_|refine nq q ?_|(refine nv_ (.agg (uY gs[i])) (by first|exact r) ?_)|(refine nv_ (.agg (uV gs[i].pol)) (by first|exact congrArg T.agg e) ?_)|(refine nv_ (.slice 1 (gs[i].st.key.map .str)) (by first|exact p) ?_)|refine pC _ (m) ?_|(refine And.intro (by first|exact yj _|exact zm _|exact Kz _) ?_)|refine aS ?_|fail)
      refine ⟨i+1,⟨h,by omega,fun j u b=>?_⟩,by omega,?_⟩
      ·rcases Nat.lt_or_ge j i with w|w
       ·exact z j u w
       ·obtain rfl:j=i:=by omega
        exact l
      ·exact wkZ
     ·have q:((gs[i].st.key.map T.str).length:Int)>20:=by omega
      rw [a (by unfold zI;rw [decide_eq_false v,Bool.and_false])];clear a
      repeat' ((conv=>whnf);first|refine nr b ?_|refine nr s ?_|refine nr q ?_|(refine nv_ (.agg (uY gs[i])) (by first|exact r) ?_)|(refine nv_ (.agg (uV gs[i].pol)) (by first|exact congrArg T.agg e) ?_)|(refine nv_ (.slice 1 (gs[i].st.key.map .str)) (by first|exact p) ?_)|refine pC _ (m) ?_|refine rb0 ?_|(refine And.intro (by first|exact yj _|exact zm _|exact Kz _) ?_)|refine aS ?_|exact trivial)
   ·have s: ¬(i:Int)<12:=by omega
    have o:=f (Or.inr (by omega));refine rnZ ?_;(exact ⟨(),o,wkZ⟩)
  ·have b: ¬(i:Int)<((gs.map vk).length:Int):=by omega
   have o:=f (Or.inl (by omega));refine rnZ ?_;(exact ⟨(),o,wkZ⟩)
 ·rintro _ o;unfold Cs
  by_cases c:gs.length<=12
  ·have q:((gs.map vk).length:Int)<=12:=by omega
   rw [o c,decide_eq_true c];exact rcZ
  ·have q: ¬((gs.map vk).length:Int)<=12:=by omega
   rw [decide_eq_false c,Bool.and_false];exact rcZ
section
variable {α:Type}[DecidableEq α]{lt:α->α->Bool}
def wW(lt:α->α->Bool)(s:α):Bool->List α->List α
 |false,r=>put lt r s
 |true,r=>r.filter fun y=> !decide (y=s)
theorem J2{s x:α}{r:List α}(h:lt x s=true):wW lt s false (x::r)=x::wW lt s false r:=by
 show put lt (x::r) s=_
 unfold put;rw [if_pos h];cases r <;> rfl
theorem Gw{s x:α}{r:List α}(h:lt x s=false):wW lt s false (x::r)=s::wW lt s true (x::r):=by
 show put lt (x::r) s=_
 rw [put,if_neg (by rw [h];simp)];rfl
theorem Gv{s x:α}{r:List α}(h:x=s):wW lt s true (x::r)=wW lt s true r:=by
 simp only [wW];rw [List.filter_cons,if_neg (by simp [h])]
theorem Gx{s x:α}{r:List α}(h:x≠s):wW lt s true (x::r)=x::wW lt s true r:=by
 simp only [wW];rw [List.filter_cons,if_pos (by simp [h])]
end
theorem I5(l:List ByteArray)(s:ByteArray)(F:l.length<2^40):DCalls Tryz.prog 48 [.slice 1 (l.map T.str),T.str s] (.slice 1 ((put ltS l s).map T.str)):=by
 refine dl2 mixed [.tmp 4] [.slice 1 _] Tryz.func48 l48.2 ?_;have E:((l.map T.str).length:Int)=l.length:=by rw [List.length_map]
 have B:=EJ (lt:=ltS) (x:=s) (l:=l)
 skip
 refine tT 0 (α:=Nat×Bool×Nat×List ByteArray) (β:=Bool×Nat×List ByteArray) (fun p=>{sl:=[(0,.t (.slice 1 (l.map T.str))),(1,.t (T.str s)),(5,.own p.2.2.1 9 1 (p.2.2.2.map T.str)),(6,.t (.bool p.2.1)),(7,.t (I p.1))],bx:=[]})
  (fun p=>p.1<=l.length/\(p.2.2.1=27\/p.2.2.1=40)/\p.2.2.2++wW ltS s p.2.1 (l.drop p.1)=put ltS l s) (fun p=>l.length - p.1)
  (fun q=>{sl:=[(1,.t (T.str s)),(5,.own q.2.1 9 1 (q.2.2.map T.str)),(6,.t (.bool q.1))],bx:=[]}) (fun q=>(q.2.1=27\/q.2.1=40)/\q.2.2++wW ltS s q.1 []=put ltS l s) (0,false,27,[]) ⟨by simp,Or.inl rfl,rfl⟩ ?_ ?_ ?_
 ·exact wkZ
 ·rintro ⟨i,d,r,a⟩ ⟨hi,f,b⟩;dsimp only at hi f b;have m:a.length<=l.length+1:=by
   have:=congrArg List.length b
   rw [List.length_append] at this;omega
  rcases Nat.lt_or_ge i l.length with h|h
  ·have A:(i:Int)<((l.map T.str).length:Int):=by omega
   rw [List.drop_eq_getElem_cons h] at b;obtain ⟨x,D⟩: ∃x,l[i]=x:=⟨_,rfl⟩
   rw [D] at b;have e:(l.map T.str)[i]?.getD .nil=T.str x:=by simp [h,D]
   clear B
   skip
   refine uE (β:=Unit) (fun _=>{sl:=[(0,.t (.slice 1 (l.map T.str))),(1,.t (T.str s)),(5,.own r 9 1 (a.map T.str)),(6,.t (.bool d)),(7,.t (I i))],bx:=[]}) (fun _=>True) ?_ ?_
   ·refine rnZ ?_;(exact ⟨(),trivial,wkZ⟩)
   rintro _ _;have C: ∀(o:List ByteArray) y,(o++[y]).map T.str=o.map T.str++[T.str y]:=fun o y=>by rw [List.map_append];rfl
   skip
   refine uE (β:=Bool×Nat×List ByteArray) (fun p=>{sl:=[(0,.t (.slice 1 (l.map T.str))),(1,.t (T.str s)),(5,.own p.2.1 9 1 (p.2.2.map T.str)),(6,.t (.bool p.1)),(7,.t (I i))],bx:=[]})
    (fun p=>(p.2.1=27\/p.2.1=40)/\p.2.2.length<=l.length+2/\(x=s->p.2.2++wW ltS s p.1 (l.drop (i+1))=put ltS l s)/\(x≠s->(p.2.2++[x])++wW ltS s p.1 (l.drop (i+1))=put ltS l s)) ?_ ?_
   ·cases d with
    |false=>
     cases g:ltS x s with
     |true=>
      have k:(!(Op.bytesLess x.toList s.toList))=false:=by unfold ltS at g;rw [g];rfl
      have c:(r=27\/r=40)/\a.length<=l.length+2/\(x=s->a++wW ltS s false (l.drop (i+1))=put ltS l s)/\(x≠s->(a++[x])++wW ltS s false (l.drop (i+1))=put ltS l s):=
       ⟨f,by omega,fun j=>absurd j (Bh.ne g),fun _=>by rw [J2 g,List.append_cons] at b;exact b⟩
      clear b;rcases f with rfl|rfl
      ·repeat' ((conv=>whnf);first|(refine nv_ (T.str x) (by first|exact e) ?_)|refine nb_ _ k ?_|(exact ⟨(false,27,a),c,wkZ⟩)|refine aS ?_|refine nT_ ?_)
      ·repeat' ((conv=>whnf);first|(refine nv_ (T.str x) (by first|exact e) ?_)|refine nb_ _ k ?_|(exact ⟨(false,40,a),c,wkZ⟩)|refine aS ?_|refine nT_ ?_)
     |false=>
      have k:(!(Op.bytesLess x.toList s.toList))=true:=by unfold ltS at g;rw [g];rfl
      have c:(27=27\/27=40)/\(a++[s]).length<=l.length+2/\(x=s->(a++[s])++wW ltS s true (l.drop (i+1))=put ltS l s)/\(x≠s->((a++[s])++[x])++wW ltS s true (l.drop (i+1))=put ltS l s):=
       ⟨Or.inl rfl,by rw [List.length_append,List.length_cons,List.length_nil];omega,fun j=>by rw [Gw g,List.append_cons,Gv j] at b;exact b,fun u=>by rw [Gw g,List.append_cons,Gx u,List.append_cons] at b;exact b⟩
      clear b;rcases f with rfl|rfl <;> repeat' ((conv=>whnf);first|(refine nv_ (T.str x) (by first|exact e) ?_)|refine nb_ _ k ?_|(exact ⟨(true,27,a++[s]),c,by (repeat' (first|(exact rM (C a s))|exact wJ|refine And.intro ?_ ?_));done⟩)|(refine And.intro (by first|((simp only [List.length_map,List.length_append,List.length_cons,List.length_nil];omega);done)|fail) ?_)|refine aS ?_|refine nT_ ?_)
    |true=>
     have c:(r=27\/r=40)/\a.length<=l.length+2/\(x=s->a++wW ltS s true (l.drop (i+1))=put ltS l s)/\(x≠s->(a++[x])++wW ltS s true (l.drop (i+1))=put ltS l s):=
       ⟨f,by omega,fun j=>by rw [Gv j] at b;exact b,fun u=>by rw [Gx u,List.append_cons] at b;exact b⟩
     clear b;cases g:ltS x s with
     |true=>
      have k:(!(Op.bytesLess x.toList s.toList))=false:=by unfold ltS at g;rw [g];rfl
      rcases f with rfl|rfl
      ·repeat' ((conv=>whnf);first|(refine nv_ (T.str x) (by first|exact e) ?_)|refine nb_ _ k ?_|(exact ⟨(true,27,a),c,wkZ⟩)|refine aS ?_|refine nT_ ?_)
      ·repeat' ((conv=>whnf);first|(refine nv_ (T.str x) (by first|exact e) ?_)|refine nb_ _ k ?_|(exact ⟨(true,40,a),c,wkZ⟩)|refine aS ?_|refine nT_ ?_)
     |false=>
      have k:(!(Op.bytesLess x.toList s.toList))=true:=by unfold ltS at g;rw [g];rfl
      rcases f with rfl|rfl
      ·repeat' ((conv=>whnf);first|(refine nv_ (T.str x) (by first|exact e) ?_)|refine nb_ _ k ?_|(exact ⟨(true,27,a),c,wkZ⟩)|refine aS ?_|refine nT_ ?_)
      ·repeat' ((conv=>whnf);first|(refine nv_ (T.str x) (by first|exact e) ?_)|refine nb_ _ k ?_|(exact ⟨(true,40,a),c,wkZ⟩)|refine aS ?_|refine nT_ ?_)
   clear f b m;rintro ⟨d,r,a⟩ ⟨f,m,v,w⟩;dsimp only at f m v w;have n:l.length - (i+1)<l.length - i:=by omega
   by_cases j:x=s
   ·have z:(!(x.toList==s.toList))=false:=by rw [vE,vr.2 j];rfl
    have c:i+1<=l.length/\(r=27\/r=40)/\a++wW ltS s d (l.drop (i+1))=put ltS l s:=⟨h,f,v j⟩
    clear v w;rcases f with rfl|rfl
    ·repeat' ((conv=>whnf);first|(refine nv_ (T.str x) (by first|exact e) ?_)|refine nb_ _ z ?_|(exact ⟨(i+1,d,27,a),c,n,wkZ⟩)|refine aS ?_|refine nT_ ?_)
    ·repeat' ((conv=>whnf);first|(refine nv_ (T.str x) (by first|exact e) ?_)|refine nb_ _ z ?_|(exact ⟨(i+1,d,40,a),c,n,wkZ⟩)|refine aS ?_|refine nT_ ?_)
   ·have z:(!(x.toList==s.toList))=true:=by rw [vE,xy vr j];rfl
    have c:i+1<=l.length/\(40=27\/40=40)/\(a++[x])++wW ltS s d (l.drop (i+1))=put ltS l s:=⟨h,Or.inr rfl,w j⟩
    clear v w;rcases f with rfl|rfl <;> repeat' ((conv=>whnf);first|(refine nv_ (T.str x) (by first|exact e) ?_)|refine nb_ _ z ?_|(exact ⟨(i+1,d,40,a++[x]),c,n,by (repeat' (first|(exact rM (C a x))|exact wJ|refine And.intro ?_ ?_));done⟩)|(refine And.intro (by first|((simp only [List.length_map,List.length_append,List.length_cons,List.length_nil];omega);done)|fail) ?_)|refine aS ?_|refine nT_ ?_)
  ·have A: ¬(i:Int)<((l.map T.str).length:Int):=by omega
   rw [List.drop_eq_nil_of_le h] at b
   skip
   refine uE (β:=Empty) (fun x=>x.elim) (fun _=>True) ?_ ?_
   ·refine rnZ ?_;(exact ⟨(d,r,a),⟨f,b⟩,wkZ⟩)
   ·exact fun x=>x.elim
 ·rintro ⟨d,r,a⟩ ⟨f,b⟩;dsimp only at f b;have m:a.length<=l.length+1:=by
   have:=congrArg List.length b
   rw [List.length_append] at this;omega
  cases d with
  |true=>
   have b:a++[]=put ltS l s:=b;rw [List.append_nil] at b;rw [<- b];rcases f with rfl|rfl <;> repeat' ((conv=>whnf);first|refine aS ?_|exact trivial)
  |false=>
   have b:a++[s]=put ltS l s:=b;rw [<- b,List.map_append];rcases f with rfl|rfl <;> repeat' ((conv=>whnf);first|refine aS ?_|exact trivial)
end Go.TY
end
section
end
section
end
section
end
section
end
section
end
section
end
section
end
section
end
section
namespace Go.TY
open Go Go.DL Go.MM
theorem wN{gs:List RG}{s:RS}:s∈uW (gs.map (·.st))↔ ∃g∈gs,g.st=s/\s.kind≠0:=by
 unfold uW;rw [List.mem_filter,List.mem_map];simp only [bne_iff_ne,ne_eq];exact ⟨fun ⟨⟨g,a,b⟩,c⟩=>⟨g,a,b,c⟩,fun ⟨g,a,b,c⟩=>⟨⟨g,a,b⟩,c⟩⟩
theorem HY{gs:List RG}{x:ByteArray}:x∈xE gs↔ ∃s∈uW (gs.map (·.st)),s.var=x:=by
 unfold xE;rw [Gh (B2 (l:=(uW (gs.map (·.st))).map (·.var)) (acc:=[]) List.nodup_nil),AP,List.mem_map]
 simp
theorem Je{l:List Fd}{ss:List RS}{x:ByteArray}(h: ∃s∈ss,s.var=x): ∃a∈ss,a.var=x/\we l ss x=some ⟨x,wU a.kind,vI l a,((vj ss x).map (·.n)).getD 0,((vj ss x).map (·.m)).getD 0⟩:=by
 obtain ⟨s,c,e⟩:=h;unfold we;cases b:ss.find? fun s=>decide (s.var=x) with
 |none=>
  have:=List.find?_eq_none.1 b s c
  simp [e] at this
 |some a=>exact ⟨a,List.mem_of_find?_eq_some b,by simpa using List.find?_some b,rfl⟩
theorem DC{ss:List RS}{t:RS}{x:ByteArray}:vj (ss++[t]) x=match vj ss x with
  |some s=>some s
  |none=>if (decide (t.var=x)&&t.own)=true then some t else none:=by
 unfold vj;rw [xj];cases ss.find? fun s=>decide (s.var=x)&&s.own <;> rfl
theorem J7{l:List Fd}{ss:List RS}{t:RS}{x:ByteArray}(h:t.var≠x):we l (ss++[t]) x=we l ss x/\vj (ss++[t]) x=vj ss x:=by
 have e:vj (ss++[t]) x=vj ss x:=by
  rw [DC];cases vj ss x <;> simp [h]
 refine ⟨?_,e⟩;unfold we;rw [xj,e];cases ss.find? fun s=>decide (s.var=x) <;> simp [h]
theorem JS{ss:List RS}{x:ByteArray}(h:ss.find? (fun s=>decide (s.var=x))=none):vj ss x=none:=by
 unfold vj;rw [List.find?_eq_none] at h ⊢;intro s b a;rw [Bool.and_eq_true] at a;exact h s b a.1
def nOf(o:Option RV):Int:=(o.map (·.n)).getD 0
def mOf(o:Option RV):Int:=(o.map (·.m)).getD 0
theorem J8{l:List Fd}{ss:List RS}{t:RS}(g:PW l (ss++[t])):
  we l (ss++[t]) t.var=some ⟨t.var,wU t.kind,vI l t,if t.own&& !(vj ss t.var).isSome then t.n else nOf (we l ss t.var),if t.own&& !(vj ss t.var).isSome then t.m else mOf (we l ss t.var)⟩/\
  (vj (ss++[t]) t.var).isSome=((vj ss t.var).isSome||t.own):=by
 constructor
 ·unfold we nOf mOf;rw [xj,DC];cases a:ss.find? fun s=>decide (s.var=t.var) with
  |none=>
   rw [JS a];cases t.own <;> simp
  |some c=>
   have e:=List.mem_of_find?_eq_some a;have f:c.var=t.var:=by simpa using List.find?_some a
   have b:=wO.1 ((En.1 g).2 c e f);simp only [Option.map_some,Option.getD_some];rw [b.2.1,b.2.2];cases vj ss t.var with
   |some s1=>simp
   |none=>cases t.own <;> simp
 ·rw [DC];cases vj ss t.var with
  |some s1=>rfl
  |none=>cases t.own <;> simp
theorem Ij{gs:List RG}{g:RG}:uW ((gs++[g]).map (·.st))=if g.st.kind=0 then uW (gs.map (·.st)) else uW (gs.map (·.st))++[g.st]:=by
 unfold uW;rw [List.map_append,List.filter_append]
 by_cases h:g.st.kind=0
 ·rw [if_pos h];simp [h]
 ·rw [if_neg h];simp [h]
theorem Ek{gs:List RG}{i:Nat}(h:i<gs.length):uW ((gs.take (i+1)).map (·.st))=if gs[i].st.kind=0 then uW ((gs.take i).map (·.st)) else uW ((gs.take i).map (·.st))++[gs[i].st]:=by
 rw [List.take_succ_eq_append_getElem h,Ij]
theorem KO{l:List Fd}{gs:List RG}(h:PW l (uW (gs.map (·.st))))(i:Nat):PW l (uW ((gs.take i).map (·.st))):=by
 rw [Ip] at h ⊢;intro s f t j e;refine h s ?_ t ?_ e
 ·obtain ⟨g,a,b,c⟩:=wN.1 f;exact wN.2 ⟨g,List.mem_of_mem_take a,b,c⟩
 ·obtain ⟨g,a,b,c⟩:=wN.1 j;exact wN.2 ⟨g,List.mem_of_mem_take a,b,c⟩
def KU(x:ByteArray):Option RV->List T
 |none=>[.str x,I 0,.nil,I 0,I 0]
 |some v=>vG v
end Go.TY
end
section
namespace Go.TY
open Go Go.DL Go.MM Go.Proofs
theorem Ei(a b:ByteArray):uU a b=uU b a:=by
 cases h:uU b a with
 |true=>rw [vr.1 h];exact vr.2 rfl
 |false=>exact xy vr fun e=>by rw [e,vr.2 rfl] at h;cases h
def Bx(s:RS):List ByteArray:=s.key++(if uU s.field e0 then [] else [s.field])
theorem IW(l:List Fd)(s:RS):((!uU s.field e0&& !wQ l s.field)|| !s.key.all (wQ l))= !(Bx s).all (wQ l):=by
 unfold Bx;rw [List.all_append];cases uU s.field e0 <;> cases s.key.all (wQ l) <;> simp
theorem Fb{ks:List ByteArray}{i:Nat}(h:i<ks.length):BI ks i=false↔ ∀j (_:j<i),uU (ks.getD j e0) ks[i]=false:=by
 unfold BI;rw [List.any_eq_false,show ks.getD i e0=ks[i] from by rw [List.getD_eq_getElem?_getD,ggZ h];rfl];constructor
 ·intro a j c;have b:j<ks.length:=by omega
  have e:ks[j]∈ks.take i:=by
   rw [List.mem_iff_getElem];exact ⟨j,by rw [List.length_take];omega,by rw [List.getElem_take]⟩
  have:=a ks[j] e
  rw [show ks.getD j e0=ks[j] from by rw [List.getD_eq_getElem?_getD,ggZ b];rfl,Ei];simpa using this
 ·intro a x f;obtain ⟨j,c,rfl⟩:=List.getElem_of_mem f;rw [List.length_take] at c;rw [List.getElem_take]
  have:=a j (by omega)
  rw [show ks.getD j e0=ks[j] from by rw [List.getD_eq_getElem?_getD,ggZ (show j<ks.length by omega)];rfl,Ei] at this;rw [this];simp
theorem MK(l:List Fd)(W:LOk l)(s:RS)(h:SmS (2^39) s):DCalls Tryz.prog 133 [fds l,.agg (uX s)] (I (xH l s)):=by
 refine dl2 mixed [.tmp 4] [.int _ _] Tryz.func133 O5.2 ?_;have h1:=Di s (h.mono (by omega));have c:=fun h hk=>@Jo s h hk
 have V:=h.len;unfold xH
 by_cases H:w7 s=0
 case neg=>
  rw [if_pos H];generalize w7 s=e at *
  obtain ⟨k,v,ks,f,n,m⟩:=s;exact rcZ
 rw [H] at h1;have c:=c H;rw [if_neg (by simpa using H)];clear H;have Z:=IW l s;rw [Z];have z:Bx s=s.key++(if uU s.field e0 then [] else [s.field]):=rfl;have X:(Bx s).length<=s.key.length+1:=by
  rw [z,List.length_append];split <;> simp
 have G:uU s.field e0=false->s.field∈Bx s:=fun P=>by
  rw [z,P];simp
 generalize Bx s=ns at *
 obtain ⟨k,v,ks,f,n,m⟩:=s;dsimp only at V c z X G ⊢;have hkk:((ks.map T.str).length:Int)=(ks.length:Int):=by rw [List.length_map]
 have hnn:((ns.map T.str).length:Int)=(ns.length:Int):=by rw [List.length_map]
 by_cases k0:k=0
 ·rw [if_pos k0];exact rcZ
 rw [if_neg k0];have R:(!(f.toList==e0.toList))= !uU f e0:=by rw [vE]
 refine rnZ ?_;refine uE (β:=Unit) (fun _=>{sl:=[(0,.t (fds l)),(3,.ptr 3 0),(6,.t (.slice 1 (ns.map .str)))],bx:=[(3,.d 6 (uX ⟨k,v,ks,f,n,m⟩))]}) (fun _=>True) ?_ ?_
 ·clear G c;cases hs:uU f e0 with
  |true=>
   rw [hs] at R z;have A:ks.map T.str=ns.map T.str:=by rw [z];simp
   refine rnZ ?_;(exact ⟨(),trivial,by (repeat' (first|(exact yq A.symm)|exact wJ|refine And.intro ?_ ?_));done⟩)
  |false=>
   rw [hs] at R z;have A:ks.map T.str++[T.str f]=ns.map T.str:=by rw [z];simp
   refine rnZ ?_;(exact ⟨(),trivial,by (repeat' (first|(exact yq A.symm)|exact wJ|refine And.intro ?_ ?_));done⟩)
 rintro _ _
 skip
 refine tT 0 (α:=Nat) (β:=Unit) (fun i=>{sl:=[(0,.t (fds l)),(3,.ptr 3 0),(6,.t (.slice 1 (ns.map .str))),(7,.t (I i))],bx:=[(3,.d 6 (uX ⟨k,v,ks,f,n,m⟩))]})
  (fun i=>i<=ns.length/\ ∀j (h:j<ns.length),j<i->wQ l ns[j]=true) (fun i=>ns.length - i)
  (fun _=>{sl:=[(0,.t (fds l)),(3,.ptr 3 0)],bx:=[(3,.d 6 (uX ⟨k,v,ks,f,n,m⟩))]}) (fun _=>ns.all (wQ l)=true) 0 (by simp) ?_ ?_ ?_
 ·exact wkZ
 ·rintro i ⟨hi,E⟩;rcases Nat.lt_or_ge i ns.length with h|h
  ·have b:(i:Int)<((ns.map T.str).length:Int):=by omega
   have D:=Gu l W ns[i];have C:(ns.map T.str)[i]?.getD .nil= .str ns[i]:=by simp [h]
   cases r:wQ l ns[i] with
   |true=>
    rw [r] at D
    repeat' ((conv=>whnf);first|refine nr b ?_|(refine nv_ (.str ns[i]) (by first|exact C) ?_)|refine pC _ (D) ?_|refine aS ?_|refine nT_ ?_)
    refine ⟨i+1,⟨h,fun j g b=>?_⟩,by omega,?_⟩
    ·rcases Nat.lt_or_ge j i with u|u
     ·exact E j g u
     ·obtain rfl:j=i:=by omega
      exact r
    ·repeat' (first|exact wJ|refine And.intro ?_ ?_)
   |false=>
    rw [r] at D;have e:ns.all (wQ l)=false:=by
     rw [List.all_eq_false];exact ⟨ns[i],List.getElem_mem h,by rw [r];simp⟩
    rw [e];clear e G
    repeat' ((conv=>whnf);first|exact trivial|refine nr b ?_|(refine nv_ (.str ns[i]) (by first|exact C) ?_)|refine pC _ (D) ?_|refine rix ?_|refine aS ?_|refine nT_ ?_)
  ·have b: ¬(i:Int)<((ns.map T.str).length:Int):=by omega
   have J:ns.all (wQ l)=true:=by
    rw [List.all_eq_true];intro x C;obtain ⟨j,g,rfl⟩:=List.getElem_of_mem C;exact E j g (by omega)
   refine rnZ ?_;(exact ⟨(),J,wkZ⟩)
 rintro _ J;rw [J];simp only [Bool.not_true,Bool.false_eq_true,if_false];have L:k=4->wQ l f=true:=fun O=>List.all_eq_true.1 J f (G (c O))
 clear J G c z R Z
 skip
 refine tT 2 (α:=Nat) (β:=Unit) (fun i=>{sl:=[(0,.t (fds l)),(3,.ptr 3 0),(10,.t (I i))],bx:=[(3,.d 6 (uX ⟨k,v,ks,f,n,m⟩))]})
  (fun i=>i<=ks.length/\ ∀j (h:j<ks.length),j<i->BI ks j=false) (fun i=>ks.length - i)
  (fun _=>{sl:=[(0,.t (fds l)),(3,.ptr 3 0)],bx:=[(3,.d 6 (uX ⟨k,v,ks,f,n,m⟩))]}) (fun _=>BJ ks=false) 0 (by simp) ?_ ?_ ?_
 ·exact wkZ
 ·rintro i ⟨hi,E⟩;rcases Nat.lt_or_ge i ks.length with h|h
  ·have b:(i:Int)<((ks.map T.str).length:Int):=by omega
   have C:(ks.map T.str)[i]?.getD .nil= .str ks[i]:=by simp [h]
   refine rnZ ?_;refine tT 4 (α:=Nat) (β:=Unit) (fun q=>{sl:=[(0,.t (fds l)),(3,.ptr 3 0),(10,.t (I i)),(11,.t (I q))],bx:=[(3,.d 6 (uX ⟨k,v,ks,f,n,m⟩))]})
    (fun q=>q<=i/\ ∀j (_:j<i),j<q->uU (ks.getD j e0) ks[i]=false) (fun q=>i - q)
    (fun _=>{sl:=[(0,.t (fds l)),(3,.ptr 3 0),(10,.t (I i))],bx:=[(3,.d 6 (uX ⟨k,v,ks,f,n,m⟩))]}) (fun _=>BI ks i=false) 0 (by simp) ?_ ?_ ?_
   ·exact wkZ
   ·rintro q ⟨hq,B⟩;rcases Nat.lt_or_ge q i with Q|Q
    ·have Y:(q:Int)<(i:Int):=by omega
     have N:q<ks.length:=by omega
     have o:(ks.map T.str)[q]?.getD .nil= .str ks[q]:=by simp [N]
     have hg:ks.getD q e0=ks[q]:=by rw [List.getD_eq_getElem?_getD,ggZ N];rfl
     have p:=vE ks[q] ks[i];have Mk:(q:Int)<((ks.map T.str).length:Int):=by omega
     cases r:uU ks[q] ks[i] with
     |true=>
      rw [r] at p;have e:BJ ks=true:=by
       unfold BJ;refine List.any_eq_true.2 ⟨i,List.mem_range.2 h,?_⟩;cases hd:BI ks i with
       |true=>rfl
       |false=>
        have:=(Fb h).1 hd q Q
        rw [hg,r] at this;cases this
      rw [e];clear e E B L
      repeat' ((conv=>whnf);first|exact trivial|refine nr Y ?_|(refine nv_ (.str ks[q]) (by first|exact o) ?_)|(refine nv_ (.str ks[i]) (by first|exact C) ?_)|refine nb_ _ p ?_|refine rix ?_|refine aS ?_|refine nT_ ?_)
     |false=>
      rw [r] at p
      repeat' ((conv=>whnf);first|refine nr Y ?_|(refine nv_ (.str ks[q]) (by first|exact o) ?_)|(refine nv_ (.str ks[i]) (by first|exact C) ?_)|refine nb_ _ p ?_|refine aS ?_|refine nT_ ?_)
      refine ⟨q+1,⟨Q,fun j g b=>?_⟩,by omega,?_⟩
      ·rcases Nat.lt_or_ge j q with u|u
       ·exact B j g u
       ·obtain rfl:j=q:=by omega
        rw [hg];exact r
      ·exact wkZ
    ·have Y: ¬(q:Int)<(i:Int):=by omega
     have hd:=(Fb h).2 fun j g=>B j g (by omega)
     refine rnZ ?_;(exact ⟨(),hd,wkZ⟩)
   ·rintro _ hd
    skip
    refine ⟨i+1,⟨h,fun j g b=>?_⟩,by omega,?_⟩
    ·rcases Nat.lt_or_ge j i with u|u
     ·exact E j g u
     ·obtain rfl:j=i:=by omega
      exact hd
    ·exact wkZ
  ·have b: ¬(i:Int)<((ks.map T.str).length:Int):=by omega
   have hd:BJ ks=false:=by
    unfold BJ;rw [List.any_eq_false];intro j g;rw [E j (List.mem_range.1 g) (by have:=List.mem_range.1 g;omega)];simp
   refine rnZ ?_;(exact ⟨(),hd,wkZ⟩)
 ·rintro _ hd;rw [hd];simp only [Bool.false_eq_true,if_false];have D:=Gu l W f;have o:HX l k f m=match findF l f with
   |none=>0
   |some F=>if k=4/\m>((2^F.w - 1:Nat):Int) then 1 else 0:=rfl
  generalize HX l k f m=y at *
  by_cases O:k=4
  ·have P:=L O;unfold wQ at P;obtain ⟨F,S⟩:=Option.isSome_iff_exists.1 P;rw [S] at o;dsimp only at o;have K:=t66 F (W.find S);have U:=xN S;rw [U] at D;generalize (2^F.w - 1:Nat)=M at *
   have K:DCalls Tryz.prog 111 [.agg [.str F.name,I F.a,I F.w]] (I (M:Int)):=K
   skip
   refine uE (β:=Unit) (fun _=>{sl:=[(3,.ptr 3 0),(12,.ptr 12 0)],bx:=[(3,.d 6 (uX ⟨k,v,ks,f,n,m⟩)),(12,.d 3 [.str F.name,I F.a,I F.w])]}) (fun _=>True) ?_ ?_
   ·refine rnZ ?_;(exact ⟨(),trivial,wkZ⟩)
   rintro _ _
   by_cases hm:m>(M:Int)
   ·rw [if_pos ⟨O,hm⟩] at o;subst o;exact rcZ
   ·rw [if_neg (fun h=>hm h.2)] at o;subst o;exact rcZ
  ·have o:y=0:=by
    rw [o];cases findF l f with
    |none=>rfl
    |some F=>exact if_neg (fun h=>O h.1)
   subst o;generalize fld l f=F at *
   skip
   refine uE (β:=Unit) (fun _=>{sl:=[(3,.ptr 3 0),(12,.ptr 12 0)],bx:=[(3,.d 6 (uX ⟨k,v,ks,f,n,m⟩)),(12,.d 3 [.str F.name,I F.a,I F.w])]}) (fun _=>True) ?_ ?_
   ·refine rnZ ?_;(exact ⟨(),trivial,wkZ⟩)
   rintro _ _;exact rcZ
def zj(l:List Fd)(s t:RS):Bool:= !((s.kind !=0)&&((t.kind !=0)&&(uU s.var t.var&& !xl l s t)))
theorem Cv{l:List Fd}{s t:RS}:zj l s t=true↔(s.kind≠0->t.kind≠0->s.var=t.var->xl l s t=true):=by
 unfold zj;rw [Bool.not_eq_true',Bool.and_eq_false_iff,Bool.and_eq_false_iff,Bool.and_eq_false_iff];constructor
 ·intro h a b c;rcases h with h|h|h|h
  ·simp [a] at h
  ·simp [b] at h
  ·rw [vr.2 c] at h;cases h
  ·simpa using h
 ·intro h
  by_cases a:s.kind=0
  ·left;simp [a]
  by_cases b:t.kind=0
  ·right;left;simp [b]
  cases c:uU s.var t.var with
  |false=>right;right;left;rfl
  |true=>right;right;right;rw [h a b (vr.1 c)];rfl
theorem GX{l:List Fd}{gs:List RG}:PW l (uW (gs.map (·.st)))↔ ∀i (hi:i<gs.length) j (_:j<i),zj l (gs[j]'(by omega)).st gs[i].st=true:=by
 constructor
 ·intro h i hi j x;rw [Cv];intro c o p;exact Ip.1 h _ (wN.2 ⟨gs[j]'(by omega),List.getElem_mem _,rfl,c⟩) _ (wN.2 ⟨gs[i],List.getElem_mem hi,rfl,o⟩) p
 ·intro h;refine PW.of fun s u t v e=>?_
  obtain ⟨g,m,n,f⟩:=wN.1 u;obtain ⟨w,k1,k2,k⟩:=wN.1 v;obtain ⟨a,q,rfl⟩:=List.getElem_of_mem m;obtain ⟨b,r,rfl⟩:=List.getElem_of_mem k1;subst n;subst k2;rcases Nat.lt_trichotomy a b with c|c|c
  ·exact Cv.1 (h b r a c) f k e
  ·subst c;exact C7 _
  ·exact C8 (Cv.1 (h a q b c) k f e.symm)
theorem I3(l:List Fd)(hl:LOk l)(gs:List RG)(hgl:gs.length<2^40)(N: ∀g∈gs,SmG (2^39) g):DCalls Tryz.prog 94 [fds l,.slice 15 (gs.map vk)] (I (A4 l gs)):=by
 refine dl2 mixed [.tmp 4] [.int _ _] Tryz.func94 l94.2 ?_;have hlen:((gs.map vk).length:Int)=(gs.length:Int):=by rw [List.length_map]
 have hc:=EK gs (by omega) fun g J=>⟨(N g J).st.mono (by omega),by have:=(N g J).wt;omega,fun _=>(N g J).names (by omega)⟩
 unfold A4
 by_cases W:AE gs=0
 case neg=>
  rw [if_pos W];generalize AE gs=x at *
  exact rcZ
 rw [if_neg (by simpa using W)];rw [W] at hc;refine rnZ ?_;refine tT 0 (α:=Nat) (β:=Unit) (fun i=>{sl:=[(0,.t (fds l)),(1,.t (.slice 15 (gs.map vk))),(6,.t (I i))],bx:=[]})
  (fun i=>i<=gs.length/\ ∀j (h:j<gs.length),j<i->yJ l gs[j].pol=0/\xH l gs[j].st=0) (fun i=>gs.length - i)
  (fun _=>{sl:=[(0,.t (fds l)),(1,.t (.slice 15 (gs.map vk)))],bx:=[]}) (fun _=>fz2 (fun g=>yJ l g.pol) (fun g=>xH l g.st) gs=0) 0 (by simp) ?_ ?_ ?_
 ·exact wkZ
 ·rintro i ⟨hi,A⟩;rcases Nat.lt_or_ge i gs.length with h|h
  ·have o:(i:Int)<((gs.map vk).length:Int):=by omega
   have O:=N gs[i] (List.getElem_mem h);have R:=t40 l hl gs[i].pol (by have:=O.wt;omega) (O.names (by omega));rw [<- He] at R;have F:=MK l hl gs[i].st (O.st.mono (by omega));have P:(gs.map vk)[i]?.getD .nil= .agg (uY gs[i]):=by simp [h];rfl
   have G:=Aq gs[i];have u:=yQ gs[i]
   by_cases y:yJ l gs[i].pol=0
   ·rw [y] at R
    by_cases B:xH l gs[i].st=0
    ·rw [B] at F
     repeat' ((conv=>whnf);first|refine nr o ?_|(refine nv_ (.agg (uY gs[i])) (by first|exact P) ?_)|(refine nv_ (.agg (uV gs[i].pol)) (by first|exact congrArg T.agg G) ?_)|(refine nv_ (.agg (uX gs[i].st)) (by first|exact congrArg T.agg u) ?_)|refine pC _ (R) ?_|refine pC _ (F) ?_|refine aN0 ?_|(refine And.intro (by first|exact yj _|exact zm _|exact xr _) ?_)|refine aS ?_|fail)
     refine ⟨i+1,⟨h,fun j hj o=>?_⟩,by omega,?_⟩
     ·rcases Nat.lt_or_ge j i with C|C
      ·exact A j hj C
      ·obtain rfl:j=i:=by omega
       exact ⟨y,B⟩
     ·exact wkZ
    ·have e:=HG (f:=fun g:RG=>yJ l g.pol) (g:=fun g=>xH l g.st) h A y B;have Q:fz2 (fun g:RG=>yJ l g.pol) (fun g=>xH l g.st) gs≠0:=by rw [e];exact B
     rw [if_pos Q,e];clear e Q;dsimp only;generalize xH l gs[i].st=x at *
     repeat' ((conv=>whnf);first|refine nr o ?_|(refine nv_ (.agg (uY gs[i])) (by first|exact P) ?_)|(refine nv_ (.agg (uV gs[i].pol)) (by first|exact congrArg T.agg G) ?_)|(refine nv_ (.agg (uX gs[i].st)) (by first|exact congrArg T.agg u) ?_)|refine pC _ (R) ?_|refine pC _ (F) ?_|refine ny B ?_|refine aN0 ?_|refine rix ?_|(refine And.intro (by first|exact yj _|exact zm _|exact xr _) ?_)|refine aS ?_|exact trivial)
   ·have e:=HF (f:=fun g:RG=>yJ l g.pol) (g:=fun g=>xH l g.st) h A y;have Q:fz2 (fun g:RG=>yJ l g.pol) (fun g=>xH l g.st) gs≠0:=by rw [e];exact y
    rw [if_pos Q,e];clear e Q;dsimp only;generalize yJ l gs[i].pol=x at *
    repeat' ((conv=>whnf);first|refine nr o ?_|(refine nv_ (.agg (uY gs[i])) (by first|exact P) ?_)|(refine nv_ (.agg (uV gs[i].pol)) (by first|exact congrArg T.agg G) ?_)|refine pC _ (R) ?_|refine ny y ?_|refine rix ?_|(refine And.intro (by first|exact yj _|exact zm _|exact xr _) ?_)|refine aS ?_|exact trivial)
  ·have o: ¬(i:Int)<((gs.map vk).length:Int):=by omega
   have e:=HE (f:=fun g:RG=>yJ l g.pol) (g:=fun g=>xH l g.st) (xs:=gs) fun j hj=>A j hj (by omega)
   refine rnZ ?_;(exact ⟨(),e,wkZ⟩)
 ·rintro _ hz;rw [if_neg (by simpa using hz)];clear hz hc W;have E: ¬PW l (uW (gs.map (·.st)))->(if (A9 l gs).isNone=true then (11:Int) else 0)=11:=fun h=>if_pos (CI.2 h)
  have w:PW l (uW (gs.map (·.st)))->(if (A9 l gs).isNone=true then (11:Int) else 0)=0:=fun h=>if_neg fun e=>CI.1 e h
  generalize (if (A9 l gs).isNone=true then (11:Int) else 0)=res at *
  skip
  refine uA (α:=Nat) (fun i=>{sl:=[(0,.t (fds l)),(1,.t (.slice 15 (gs.map vk))),(9,.t (I i))],bx:=[]})
   (fun i=>i<=gs.length/\ ∀a (M:a<gs.length) b (_:b<a),a<i->zj l (gs[b]'(by omega)).st gs[a].st=true) (fun i=>gs.length - i) 0 (by simp) ?_ ?_
  ·exact wkZ
  rintro i ⟨hi,A⟩;rcases Nat.lt_or_ge i gs.length with h|h
  ·have o:(i:Int)<((gs.map vk).length:Int):=by omega
   have P:(gs.map vk)[i]?.getD .nil= .agg (uY gs[i]):=by simp [h];rfl
   have u:=yQ gs[i];have O:=N gs[i] (List.getElem_mem h);refine rnZ ?_;refine tT 4 (α:=Nat) (β:=Unit) (fun q=>{sl:=[(0,.t (fds l)),(1,.t (.slice 15 (gs.map vk))),(9,.t (I i)),(10,.t (I q))],bx:=[]})
    (fun q=>q<=i/\ ∀b (_:b<i),b<q->zj l (gs[b]'(by omega)).st gs[i].st=true) (fun q=>i - q)
    (fun _=>{sl:=[(0,.t (fds l)),(1,.t (.slice 15 (gs.map vk))),(9,.t (I i))],bx:=[]}) (fun _=> ∀b (_:b<i),zj l (gs[b]'(by omega)).st gs[i].st=true) 0 (by simp) ?_ ?_ ?_
   ·exact wkZ
   ·rintro q ⟨hq,K⟩;rcases Nat.lt_or_ge q i with F|F
    ·have wx:(q:Int)<(i:Int):=by omega
     have U:q<gs.length:=by omega
     have Mk:(q:Int)<((gs.map vk).length:Int):=by omega
     have hy:(gs.map vk)[q]?.getD .nil= .agg (uY gs[q]):=by simp [U];rfl
     have H:=yQ gs[q];have S:=N gs[q] (List.getElem_mem U);have M:=Lt l hl gs[q].st gs[i].st (by have:=S.st.len;omega) (by have:=O.st.len;omega);have c:zj l gs[q].st gs[i].st=true->q+1<=i/\ ∀b (_:b<i),b<q+1->zj l (gs[b]'(by omega)).st gs[i].st=true:=fun p=>⟨F,fun b D o=>by
      rcases Nat.lt_or_ge b q with C|C
      ·exact K b D C
      ·obtain rfl:b=q:=by omega
       exact p⟩
     have s:zj l gs[q].st gs[i].st=false->res=11:=fun p=>E fun hpw=>by
      have:=GX.1 hpw i h q F
      rw [p] at this;cases this
     have z:i - (q+1)<i - q:=by omega
     clear E w A K;unfold zj at c s;generalize xl l gs[q].st gs[i].st=ag at *
     generalize gs[q]=gq at *
     generalize gs[i]=gi at *
     obtain ⟨qp,qs⟩:=gq;obtain ⟨ip,is⟩:=gi;obtain ⟨k,v,ks,f,n,m⟩:=qs;obtain ⟨Y,V,L,Z,n',m'⟩:=is;dsimp only at H u M c s;have hE:=vE v V;refine rnZ ?_;refine uE (β:=Unit) (fun _=>{sl:=[(0,.t (fds l)),(1,.t (.slice 15 (gs.map vk))),(9,.t (I i)),(10,.t (I q)),(11,.ptr 11 0)],bx:=[(11,.d 6 (uX ⟨k,v,ks,f,n,m⟩))]}) (fun _=>True) ?_ ?_
     ·repeat' ((conv=>whnf);first|(refine nv_ (.agg (uY ⟨qp,⟨k,v,ks,f,n,m⟩⟩)) (by first|exact hy) ?_)|(refine nv_ (.agg (uX ⟨k,v,ks,f,n,m⟩)) (by first|exact congrArg T.agg H) ?_)|(exact ⟨(),trivial,wkZ⟩)|(refine And.intro (by first|exact xr _) ?_)|refine aS ?_|fail)
     rintro _ _
     skip
     refine uE (β:=Unit) (fun _=>{sl:=[(0,.t (fds l)),(1,.t (.slice 15 (gs.map vk))),(9,.t (I i)),(10,.t (I q)),(11,.ptr 11 0),(12,.ptr 12 0)],bx:=[(11,.d 6 (uX ⟨k,v,ks,f,n,m⟩)),(12,.d 6 (uX ⟨Y,V,L,Z,n',m'⟩))]}) (fun _=>True) ?_ ?_
     ·repeat' ((conv=>whnf);first|(refine nv_ (.agg (uY ⟨ip,⟨Y,V,L,Z,n',m'⟩⟩)) (by first|exact P) ?_)|(refine nv_ (.agg (uX ⟨Y,V,L,Z,n',m'⟩)) (by first|exact congrArg T.agg u) ?_)|(exact ⟨(),trivial,wkZ⟩)|(refine And.intro (by first|exact xr _) ?_)|refine aS ?_|fail)
     rintro _ _;clear P hy u H O S o wx Mk
     by_cases y:k=0
     ·have r:=c (by simp [y]);refine rnZ ?_;(exact ⟨q+1,r,z,wkZ⟩)
     by_cases B:Y=0
     ·have r:=c (by simp [B]);refine rnZ ?_;(exact ⟨q+1,r,z,wkZ⟩)
     cases X:uU v V with
     |false=>
      rw [X] at hE;have r:=c (by simp [X]);refine rnZ ?_;(exact ⟨q+1,r,z,wkZ⟩)
     |true=>
      rw [X] at hE;cases ag with
      |true=>
       have r:=c (by simp);refine rnZ ?_;(exact ⟨q+1,r,z,wkZ⟩)
      |false=>
       have mV:=s (by simp [y,B,X]);clear c s;rw [mV];exact rcZ
    ·have wx: ¬(q:Int)<(i:Int):=by omega
     have p: ∀b (_:b<i),zj l (gs[b]'(by omega)).st gs[i].st=true:=fun b D=>K b D (by omega)
     refine rnZ ?_;(exact ⟨(),p,wkZ⟩)
   ·rintro _ p
    skip
    refine ⟨i+1,⟨h,fun a M b D o=>?_⟩,by omega,?_⟩
    ·rcases Nat.lt_or_ge a i with C|C
     ·exact A a M b D C
     ·obtain rfl:a=i:=by omega
      exact p b D
    ·exact wkZ
  ·have o: ¬(i:Int)<((gs.map vk).length:Int):=by omega
   rw [w (GX.2 fun a M b D=>A a M b D (by omega))];clear A E w;exact rcZ
def nmQ(gs:List RG):List ByteArray:=yu ltS ((uW (gs.map (·.st))).map (·.var))
theorem Fh(gs:List RG):nmQ gs=xE gs:=by
 unfold nmQ xE Ii;exact I1 Bh fun x=>by rw [AP];simp
theorem JO{gs:List RG}{i:Nat}(h:i<gs.length):nmQ (gs.take (i+1))=if gs[i].st.kind=0 then nmQ (gs.take i) else put ltS (nmQ (gs.take i)) gs[i].st.var:=by
 unfold nmQ;rw [Ek h];split
 ·rfl
 ·rw [List.map_append,Fx];rfl
theorem Hc(gs:List RG):(nmQ gs).length<=gs.length:=by
 unfold nmQ;refine Nat.le_trans Ec ?_;rw [List.length_map];unfold uW;exact Nat.le_trans (List.length_filter_le _ _) (by rw [List.length_map];omega)
theorem Lh(g:RG):(uY g)[9]?.getD .nil=I g.st.kind:=by
 unfold uY;rw [List.getElem?_append_right (by rw [vz];omega),vz];rfl
theorem M8(g:RG):(uY g)[10]?.getD .nil= .str g.st.var:=by
 unfold uY;rw [List.getElem?_append_right (by rw [vz];omega),vz];rfl
theorem ME(g:RG):9<(uY g).length:=by rw [xT];exact nlZ rfl
theorem NC(g:RG):10<(uY g).length:=by rw [xT];exact nlZ rfl
def vc(x:ByteArray)(a b:T)(n m:Int):List T:=[.str x,a,b,I n,I m]
structure yA (l:List Fd) (x:ByteArray) (ss:List RS) (c1 c2:T) (n m:Int) (fd:Bool):Prop where
 cells:vc x c1 c2 n m=KU x (we l ss x)
 n:n=nOf (we l ss x)
 m:m=mOf (we l ss x)
 fd:fd=(vj ss x).isSome
theorem yA.start(l:List Fd)(x:ByteArray):yA l x [] (I 0) .nil 0 0 false:=⟨rfl,rfl,rfl,rfl⟩
theorem yA.skip{l:List Fd}{x:ByteArray}{ss:List RS}{a b:T}{n m:Int}{fd:Bool}(h:yA l x ss a b n m fd){t:RS}(c:t.var≠x):yA l x (ss++[t]) a b n m fd:=by
 have:=J7 (l:=l) (ss:=ss) c
 exact ⟨by rw [this.1];exact h.cells,by rw [this.1];exact h.n,by rw [this.1];exact h.m,by rw [this.2];exact h.fd⟩
theorem yA.take{l:List Fd}{ss:List RS}{t:RS}{c e:T}{n m:Int}{fd:Bool}(h:yA l t.var ss c e n m fd)(f:PW l (ss++[t])):
  yA l t.var (ss++[t]) (I (wU t.kind)) (.slice 1 ((vI l t).map I)) (if (t.own&& !fd)=true then t.n else n) (if (t.own&& !fd)=true then t.m else m) (fd||t.own):=by
 obtain ⟨a,b⟩:=J8 f;rw [<- h.fd, <-h.n, <-h.m] at a;rw [<- h.fd] at b;exact ⟨by rw [a];rfl,by rw [a];rfl,by rw [a];rfl,b.symm⟩
theorem Dj(l:List Fd)(hl:LOk l)(gs:List RG)(hgl:gs.length<2^39)(hg: ∀g∈gs,g.st.key.length<2^40)(hp:PW l (uW (gs.map (·.st)))):
  DCalls Tryz.prog 10 [fds l,.slice 15 (gs.map vk)] (.slice 5 ((xX l gs).map yh)):=by
 refine dl2 mixed [.tmp 4] [.slice 5 ((xX l gs).map yh)] Tryz.func10 l10.2 ?_;have Y:((gs.map vk).length:Int)=(gs.length:Int):=by rw [List.length_map]
 skip
 refine tT 0 (α:=Nat) (β:=Unit) (fun i=>{sl:=[(0,.t (fds l)),(1,.t (.slice 15 (gs.map vk))),(5,.t (.slice 1 ((nmQ (gs.take i)).map T.str))),(6,.t (I i))],bx:=[]})
  (fun i=>i<=gs.length) (fun i=>gs.length - i)
  (fun _=>{sl:=[(0,.t (fds l)),(1,.t (.slice 15 (gs.map vk))),(5,.t (.slice 1 ((xE gs).map T.str)))],bx:=[]}) (fun _=>True) 0 (by simp) ?_ ?_ ?_
 ·repeat' (first|(exact LeV.empty _)|exact wJ|refine And.intro ?_ ?_)
 ·rintro i hi;rcases Nat.lt_or_ge i gs.length with h|h
  ·have r:(i:Int)<((gs.map vk).length:Int):=by omega
   have C:(gs.map vk)[i]?.getD .nil= .agg (uY gs[i]):=by simp [h];rfl
   have R:=Lh gs[i];have hv:=M8 gs[i];have G:=JO h;have U:=Hc (gs.take i);rw [List.length_take] at U;generalize nmQ (gs.take i)=out at *
   generalize gs[i]=g at *
   have h2:=I5 out g.st.var (by omega)
   by_cases c:g.st.kind=0
   ·rw [if_pos c] at G
    repeat' ((conv=>whnf);first|refine nr r ?_|(refine nv_ (.agg (uY g)) (by first|exact C) ?_)|(refine nv_ (I g.st.kind) (by first|exact R) ?_)|refine nw c ?_|(refine And.intro (by first|exact ME _) ?_)|refine aS ?_|fail)
    refine ⟨i+1,h,by omega,?_⟩
    repeat' (first|(exact leT (by rw [G]))|exact wJ|refine And.intro ?_ ?_)
   ·rw [if_neg c] at G
    repeat' ((conv=>whnf);first|refine nr r ?_|(refine nv_ (.agg (uY g)) (by first|exact C) ?_)|(refine nv_ (I g.st.kind) (by first|exact R) ?_)|(refine nv_ (.str g.st.var) (by first|exact hv) ?_)|refine ny c ?_|refine pC _ (h2) ?_|(refine And.intro (by first|exact ME _|exact NC _) ?_)|refine aS ?_|fail)
    refine ⟨i+1,h,by omega,?_⟩
    repeat' (first|(exact leT (by rw [G]))|exact wJ|refine And.intro ?_ ?_)
  ·have r: ¬(i:Int)<((gs.map vk).length:Int):=by omega
   have e:nmQ (gs.take i)=xE gs:=by rw [List.take_of_length_le h,Fh]
   refine rnZ ?_;(exact ⟨(),trivial,by (repeat' (first|(exact leT (by rw [e]))|exact wJ|refine And.intro ?_ ?_));done⟩)
 rintro _ _;have hnl:(xE gs).length<2^39:=by rw [<- Fh];have:=Hc gs;omega
 have BS: ∀x∈xE gs, ∃s∈uW (gs.map (·.st)),s.var=x:=fun x C=>HY.1 C
 unfold xX;generalize xE gs=ns at *
 have hnn:((ns.map T.str).length:Int)=(ns.length:Int):=by rw [List.length_map]
 skip
 refine uA (α:=Nat) (fun k=>{sl:=[(0,.t (fds l)),(1,.t (.slice 15 (gs.map vk))),(5,.t (.slice 1 (ns.map T.str))),(7,.own 92 67 5 ((ns.take k).map fun s=>yh ((we l (uW (gs.map (·.st))) s).getD v0))),(8,.t (I k))],bx:=[]})
  (fun k=>k<=ns.length) (fun k=>ns.length - k) 0 (by simp) ?_ ?_
 ·exact wkZ
 rintro k R;rcases Nat.lt_or_ge k ns.length with h|h
 ·have r:(k:Int)<((ns.map T.str).length:Int):=by omega
  have C:(ns.map T.str)[k]?.getD .nil= .str ns[k]:=by simp [h]
  have G:ns.take (k+1)=ns.take k++[ns[k]]:=by rw [List.take_succ_eq_append_getElem h]
  have Q:=BS ns[k] (List.getElem_mem h);have hkl:((ns.take k).map fun s=>yh ((we l (uW (gs.map (·.st))) s).getD v0)).length=k:=by rw [List.length_map,List.length_take];omega
  have S:((ns.take (k+1)).map fun s=>yh ((we l (uW (gs.map (·.st))) s).getD v0))=((ns.take k).map fun s=>yh ((we l (uW (gs.map (·.st))) s).getD v0))++[yh ((we l (uW (gs.map (·.st))) ns[k]).getD v0)]:=by rw [G,List.map_append];rfl
  generalize ns[k]=x at *
  generalize ((ns.take k).map fun s=>yh ((we l (uW (gs.map (·.st))) s).getD v0))=out at *
  repeat' ((conv=>whnf);first|refine nr r ?_|(refine nv_ (.str x) (by first|exact C) ?_)|refine aS ?_|refine nT_ ?_)
  refine tT 4 (α:=Nat×T×T×Int×Int×Bool) (β:=Unit) (fun p=>{sl:=[(0,.t (fds l)),(1,.t (.slice 15 (gs.map vk))),(5,.t (.slice 1 (ns.map T.str))),(7,.own 92 67 5 out),(8,.t (I k)),(9,.ptr 9 0),(10,.t (.bool p.2.2.2.2.2)),(11,.t (I p.1))],bx:=[(9,.d 5 (vc x p.2.1 p.2.2.1 p.2.2.2.1 p.2.2.2.2.1))]})
   (fun p=>p.1<=gs.length/\yA l x (uW ((gs.take p.1).map (·.st))) p.2.1 p.2.2.1 p.2.2.2.1 p.2.2.2.2.1 p.2.2.2.2.2) (fun p=>gs.length - p.1)
   (fun _=>{sl:=[(0,.t (fds l)),(1,.t (.slice 15 (gs.map vk))),(5,.t (.slice 1 (ns.map T.str))),(7,.own 92 67 5 out),(8,.t (I k)),(9,.ptr 9 0)],bx:=[(9,.d 5 (vG ((we l (uW (gs.map (·.st))) x).getD v0)))]}) (fun _=>True) (0,I 0,.nil,0,0,false) ⟨by simp,yA.start l x⟩ ?_ ?_ ?_
  ·exact wkZ
  ·rintro ⟨i,J,K,n,m,fd⟩ ⟨hi,a⟩;dsimp only at hi a;rcases Nat.lt_or_ge i gs.length with B|B
   ·have M:(i:Int)<((gs.map vk).length:Int):=by omega
    have V:(gs.map vk)[i]?.getD .nil= .agg (uY gs[i]):=by simp [B];rfl
    have v:=yQ gs[i];have y:=Ek B;have Oz:=hg gs[i] (List.getElem_mem B);have z:=KO hp (i+1);rw [y] at z;have w:gs.length - (i+1)<gs.length - i:=by omega
    have b:gs[i].st.kind=0->i+1<=gs.length/\yA l x (uW ((gs.take (i+1)).map (·.st))) J K n m fd:=fun e=>⟨B,by rw [y,if_pos e];exact a⟩
    have f:gs[i].st.kind≠0->gs[i].st.var≠x->i+1<=gs.length/\yA l x (uW ((gs.take (i+1)).map (·.st))) J K n m fd:=fun e L=>⟨B,by rw [y,if_neg e];exact a.skip L⟩
    have j:gs[i].st.kind≠0->gs[i].st.var=x->i+1<=gs.length/\yA l x (uW ((gs.take (i+1)).map (·.st))) (I (wU gs[i].st.kind)) (.slice 1 ((vI l gs[i].st).map I)) (if (gs[i].st.own&& !fd)=true then gs[i].st.n else n) (if (gs[i].st.own&& !fd)=true then gs[i].st.m else m) (fd||gs[i].st.own):=fun e L=>⟨B,by
     rw [if_neg e] at z;rw [y,if_neg e];subst L;exact a.take z⟩
    clear z y a;generalize gs[i]=g at *
    obtain ⟨O,o⟩:=g;have P:=DF l hl o.key Oz;have W:=DE o.kind;have X:=Ca o;change DCalls _ _ _ (.slice 1 ((vI l o).map I)) at P;dsimp only at v b f j;generalize vI l o=ws at *
    generalize wU o.kind=fam at *
    generalize o.own=ow at *
    obtain ⟨D,A,u,H,F,E⟩:=o;dsimp only at v b f j P W X;have N:(!(A.toList==x.toList))= !uU A x:=by rw [vE]
    by_cases c:D=0
    ·have q:=b c
     repeat' ((conv=>whnf);first|refine nr M ?_|(refine nv_ (.agg (uY ⟨O,⟨D,A,u,H,F,E⟩⟩)) (by first|exact V) ?_)|(refine nv_ (.agg (uX ⟨D,A,u,H,F,E⟩)) (by first|exact congrArg T.agg v) ?_)|refine nv c ?_|(exact ⟨(i+1,J,K,n,m,fd),q,w,wkZ⟩)|(refine And.intro (by first|exact xr _) ?_)|refine aS ?_|refine nT_ ?_)
    cases e:uU A x with
    |false=>
     rw [e] at N;have q:=f c fun L=>by rw [vr.2 L] at e;cases e
     repeat' ((conv=>whnf);first|refine nr M ?_|(refine nv_ (.agg (uY ⟨O,⟨D,A,u,H,F,E⟩⟩)) (by first|exact V) ?_)|(refine nv_ (.agg (uX ⟨D,A,u,H,F,E⟩)) (by first|exact congrArg T.agg v) ?_)|refine nu c ?_|(refine nv_ (.str x) (by first|exact C) ?_)|refine nb_ _ N ?_|(exact ⟨(i+1,J,K,n,m,fd),q,w,wkZ⟩)|(refine And.intro (by first|exact xr _) ?_)|refine aS ?_|refine nT_ ?_)
    |true=>
     rw [e] at N;have q:=j c (vr.1 e);clear b f j;cases ow <;> cases fd <;> repeat' ((conv=>whnf);first|refine nr M ?_|(refine nv_ (.agg (uY ⟨O,⟨D,A,u,H,F,E⟩⟩)) (by first|exact V) ?_)|(refine nv_ (.agg (uX ⟨D,A,u,H,F,E⟩)) (by first|exact congrArg T.agg v) ?_)|refine nu c ?_|(refine nv_ (.str x) (by first|exact C) ?_)|refine nb_ _ N ?_|refine pC _ (W) ?_|refine pC _ (P) ?_|refine pC _ (X) ?_|(exact ⟨(i+1,I fam,.slice 1 (ws.map I),n,m,false),q,w,wkZ⟩)|(exact ⟨(i+1,I fam,.slice 1 (ws.map I),n,m,true),q,w,wkZ⟩)|(exact ⟨(i+1,I fam,.slice 1 (ws.map I),F,E,true),q,w,wkZ⟩)|(refine And.intro (by first|exact xr _) ?_)|refine aS ?_|refine nT_ ?_)
   ·have M: ¬(i:Int)<((gs.map vk).length:Int):=by omega
    have e:vc x J K n m=vG ((we l (uW (gs.map (·.st))) x).getD v0):=by
     have:=a.cells
     rw [List.take_of_length_le B] at this;obtain ⟨s0,_,_,hs⟩:=Je (l:=l) Q;rw [hs] at this ⊢;exact this
    clear a;generalize vG ((we l (uW (gs.map (·.st))) x).getD v0)=cv at *
    refine rnZ ?_;(exact ⟨(),trivial,by (repeat' (first|(exact uv e.symm)|exact wJ|refine And.intro ?_ ?_));done⟩)
  ·rintro _ _;have hcv:(vG ((we l (uW (gs.map (·.st))) x).getD v0)).length=5:=rfl
   have Z:yh ((we l (uW (gs.map (·.st))) x).getD v0)= .agg (vG ((we l (uW (gs.map (·.st))) x).getD v0)):=rfl
   rw [Z] at S;generalize vG ((we l (uW (gs.map (·.st))) x).getD v0)=cv at *
   clear Z;refine rnZ ?_;refine ⟨k+1,h,by omega,?_⟩;exact wkZ
 ·have r: ¬(k:Int)<((ns.map T.str).length:Int):=by omega
  have:k=ns.length:=by omega
  subst this;rw [List.take_length];have e:(ns.map fun s=>yh ((we l (uW (gs.map (·.st))) s).getD v0))=(ns.map fun s=>(we l (uW (gs.map (·.st))) s).getD v0).map yh:=by rw [List.map_map];rfl
  rw [<- e];exact rcZ
end Go.TY
end
section
namespace Go.ST
open Go Go.DL Go.MM
open Go.TY hiding Fd
theorem Jj{b:List ByteArray}{f:ByteArray->RV}(c: ∀n∈b,(f n).name=n){n:ByteArray}(h:n∈b):varOf (b.map f) n=some (f n):=by
 induction b with
 |nil=>cases h
 |cons a r g=>
  unfold varOf at g ⊢;rw [List.map_cons,List.find?_cons]
  by_cases e:a=n
  ·subst e;simp [c a (by simp)]
  ·have i:decide ((f a).name=n)=false:=by rw [c a (by simp)];simpa using e
   rw [i];have j:n∈r:=by
    rcases List.mem_cons.1 h with h|h
    ·exact absurd h.symm e
    ·exact h
   exact g (fun x k=>c x (by simp [k])) j
theorem DH{l:List Fd}{ss:List RS}{s:RS}(h:s∈ss): ∃a,a∈ss/\a.var=s.var/\we l ss s.var=some ⟨s.var,wU a.kind,vI l a,((vj ss s.var).map (·.n)).getD 0,((vj ss s.var).map (·.m)).getD 0⟩:=by
 unfold we;cases b:ss.find? fun t=>decide (t.var=s.var) with
 |none=>have:=List.find?_eq_none.1 b s h;simp at this
 |some a=>
  have c:=List.find?_some b;exact ⟨a,List.mem_of_find?_eq_some b,by simpa using c,rfl⟩
theorem IZ{ss:List RS}{s:RS}(h:s∈ss)(c:s.own=true): ∃s1,s1∈ss/\s1.var=s.var/\s1.own=true/\vj ss s.var=some s1:=by
 unfold vj;cases b:ss.find? fun t=>decide (t.var=s.var)&&t.own with
 |none=>have:=List.find?_eq_none.1 b s h;simp [c] at this
 |some s1=>
  have a:=List.find?_some b;simp only [Bool.and_eq_true,decide_eq_true_eq] at a;exact ⟨s1,List.mem_of_find?_eq_some b,a.1,a.2,rfl⟩
theorem B1{gs:List RG}{n:ByteArray}:n∈xE gs↔ ∃s∈uW (gs.map (·.st)),s.var=n:=by
 unfold xE;rw [Gh (B2 List.nodup_nil),AP];simp
theorem Il{l:List Fd}{gs:List RG}: ∀n∈xE gs,((we l (uW (gs.map (·.st))) n).getD v0).name=n:=by
 intro n a;obtain ⟨s,b,rfl⟩:=B1.1 a;obtain ⟨c, -, -,h⟩:=DH (l:=l) b;rw [h];rfl
structure Fits (l:List Fd) (gs:List RG):Prop where
 pol: ∀g∈gs,yJ l g.pol=0
 st: ∀g∈gs,xH l g.st=0
 pw:PW l (uW (gs.map (·.st)))
 vs: ∃v,A9 l gs=some v
theorem G5{l:List Fd}{gs:List RG}(h:A4 l gs=0):Fits l gs:=by
 unfold A4 at h
 by_cases b:AE gs=0
 case neg=>rw [if_pos b] at h;exact absurd h b
 rw [if_neg (by simpa using b)] at h
 by_cases a:fz2 (fun g=>yJ l g.pol) (fun g=>xH l g.st) gs=0
 case neg=>rw [if_pos a] at h;exact absurd h a
 rw [if_neg (by simpa using a)] at h;cases c:A9 l gs with
 |none=>rw [c] at h;simp at h
 |some v=>
  refine ⟨fun g e=>(Ex a g e).1,fun g e=>(Ex a g e).2,?_,v,c⟩
  have:=CI (l:=l) (gs:=gs)
  rw [c] at this
  by_cases f:PW l (uW (gs.map (·.st)))
  ·exact f
  ·have:=this.2 f;simp at this
structure Na (l:List Fd) (s:RS):Prop where
 k0:1<=s.kind
 k1:s.kind<=6
 keys: ∀k∈s.key,vf l k=true
 klen:s.key.length<=4
 nd:s.key.Nodup
 fo:uU s.field e0=true\/vf l s.field=true
 k3:s.kind=3->0<=s.n/\s.n<=1073741824
 k4:s.kind=4->0<=s.n/\s.n<=65535/\s.n<=s.m/\s.m<=65535/\vf l s.field=true/\s.m<=((2^(fld l s.field).w - 1:Nat):Int)
 k5:s.kind=5->vf l s.field=true
 k6:s.kind=6->1<=s.n/\s.n<=65535/\1<=s.m/\s.m<=1073741824
theorem Hx{ks:List ByteArray}(h:BJ ks=false):ks.Nodup:=by
 unfold BJ at h;rw [List.any_eq_false] at h;rw [List.nodup_iff_pairwise_ne,List.pairwise_iff_getElem];intro i j hi a b e
 have:=h j (List.mem_range.2 a)
 unfold BI at this;refine this (List.any_eq_true.2 ⟨ks[i],?_,?_⟩)
 ·rw [List.mem_take_iff_getElem];exact ⟨i,by omega,rfl⟩
 ·rw [List.getD_eq_getElem?_getD,ggZ a, <-e];exact vr.2 rfl
theorem GD{l:List Fd}{s:RS}(h:xH l s=0)(z:s.kind≠0):Na l s:=by
 unfold xH at h
 by_cases g:w7 s=0
 case neg=>rw [if_pos g] at h;exact absurd h g
 rw [if_neg (by simpa using g),if_neg z] at h;cases j:(!uU s.field e0&& !wQ l s.field)|| !s.key.all (wQ l) with
 |true=>rw [j] at h;simp at h
 |false=>
 rw [j] at h;cases n:BJ s.key with
 |true=>rw [n] at h;simp at h
 |false=>
 rw [n] at h;simp only [Bool.false_eq_true,if_false] at h;have ok:okS s=true:=by
  unfold w7 at g;cases e:okS s with
  |true=>rfl
  |false=>rw [e] at g;simp at g
 unfold okS at ok;have I:Ao s=false:=by unfold Ao;simp [z]
 rw [I,Bool.false_or] at ok;simp only [Bool.and_eq_true,decide_eq_true_eq] at ok;obtain ⟨⟨⟨⟨K,L⟩,J⟩,M⟩,c⟩:=ok;rw [Bool.or_eq_false_iff] at j;obtain ⟨A,u⟩:=j;have keys: ∀k∈s.key,vf l k=true:=by
  simp only [Bool.not_eq_false',List.all_eq_true] at u;exact u
 have v:uU s.field e0=true\/vf l s.field=true:=by
  show uU s.field e0=true\/wQ l s.field=true
  cases a:uU s.field e0 <;> cases b:wQ l s.field <;> simp [a,b] at A ⊢
 have i:wz s.field=true->vf l s.field=true:=fun H=>by
  rcases v with f|f
  ·have:=AQ H;rw [this] at f;cases f
  ·exact f
 unfold yE at c;refine ⟨?_,?_,keys,J,Hx n,v,fun B=>?_,fun C=>?_,fun D=>?_,fun E=>?_⟩
 ·by_cases k1:s.kind=1
  ·omega
  by_cases k2:s.kind=2
  ·omega
  by_cases p:s.kind=3
  ·omega
  by_cases q:s.kind=4
  ·omega
  by_cases r:s.kind=5
  ·omega
  by_cases t:s.kind=6
  ·omega
  simp only [k1,k2,p,q,r,t,if_false] at c;cases c
 ·by_cases k1:s.kind=1
  ·omega
  by_cases k2:s.kind=2
  ·omega
  by_cases p:s.kind=3
  ·omega
  by_cases q:s.kind=4
  ·omega
  by_cases r:s.kind=5
  ·omega
  by_cases t:s.kind=6
  ·omega
  simp only [k1,k2,p,q,r,t,if_false] at c;cases c
 ·rw [B] at c;simp [C1] at c;omega
 ·rw [C] at c h;simp [yW] at c;have o:=i c.1.1.1;refine ⟨by omega,by omega,by omega,by omega,o,?_⟩;unfold HX at h;unfold vf at o;obtain ⟨F,x⟩:=Option.isSome_iff_exists.1 o;rw [xN x];rw [x] at h;dsimp only at h
  by_cases y:(4:Int)=4/\s.m>((2^F.w - 1:Nat):Int)
  ·rw [if_pos y] at h;cases h
  ·have: ¬s.m>((2^F.w - 1:Nat):Int):=fun G=>y ⟨rfl,G⟩
   omega
 ·rw [D] at c;simp at c;exact i c.2
 ·rw [E] at c;simp [yW,C1] at c;omega
theorem wN{gs:List RG}{g:RG}(a:g∈gs)(b:g.st.kind≠0):g.st∈uW (gs.map (·.st)):=by
 unfold uW;rw [List.mem_filter];exact ⟨List.mem_map.2 ⟨g,a,rfl⟩,by simpa using b⟩
theorem J5{l:List Fd}{gs:List RG}(h:Fits l gs){g:RG}(k:g∈gs)(o:g.st.kind≠0):CM l (xX l gs) g.st:=by
 have p:=GD (h.st g k) o;have b:=wN k o;obtain ⟨y,v,e,c⟩:=DH (l:=l) b;have j:=wO.1 (h.pw.all y v g.st b e);have r:g.st.own=true-> ∃s1,vj (uW (gs.map (·.st))) g.st.var=some s1/\s1.n=g.st.n/\s1.m=g.st.m:=fun q=>by
  obtain ⟨s1,w,s,x,a⟩:=IZ b q
  have:=(wO.1 (h.pw.all s1 w g.st b s)).1 x q
  exact ⟨s1,a,this⟩
 refine ⟨p.k0,p.k1,p.keys,by have:=p.klen;omega,⟨_,Jj Il (B1.2 ⟨g.st,b,rfl⟩),?_,?_,fun t=>?_,fun u=>?_⟩,p.k3,p.k4,p.k5,p.k6⟩
 ·rw [c];exact j.2.2
 ·rw [c];exact j.2.1
 ·obtain ⟨s1,a,f,i⟩:=r (by unfold RS.own;rw [t];rfl);rw [c,a];exact ⟨f,i⟩
 ·obtain ⟨s1,a,f,i⟩:=r (by unfold RS.own;rw [u];rfl);rw [c,a];exact f
theorem GI{l:List Fd}(m:LOk l){gs:List RG}(h:Fits l gs): ∀v∈xX l gs,VOk v:=by
 intro v c;unfold xX at c;obtain ⟨n,o,rfl⟩:=List.mem_map.1 c;obtain ⟨s,q,rfl⟩:=B1.1 o;obtain ⟨y,b,e,f⟩:=DH (l:=l) q;rw [f];unfold uW at b;rw [List.mem_filter] at b;obtain ⟨r,t⟩:=b;obtain ⟨g,i,rfl⟩:=List.mem_map.1 r;have p:=GD (h.st g i) (by simpa using t);refine ⟨?_,fun w a=>?_⟩
 ·show (vI l g.st).length<2^40
  unfold vI;rw [List.length_map]
  have:=p.klen;omega
 ·have a:w∈vI l g.st:=a;unfold vI at a;obtain ⟨k,j,rfl⟩:=List.mem_map.1 a
  have:=JN m (p.keys k j)
  have u:=this.w1;have x:=this.w2;omega
theorem Fw{l:List Fd}{gs:List RG}:(xX l gs).length<=gs.length:=by
 unfold xX xE;rw [List.length_map];refine Nat.le_trans Ec ?_;have a:=Gl (l:=(uW (gs.map (·.st))).map (·.var)) (acc:=[])
 have b:(uW (gs.map (·.st))).length<=gs.length:=by
  unfold uW;exact Nat.le_trans (List.length_filter_le _ _) (by rw [List.length_map];omega)
 rw [List.length_map,List.length_nil] at a;omega
theorem NL{l:List RF}(h:MM.Checked l):vf (l.map RF.fd) ⟨#[]⟩=false:=by
 unfold vf;cases e:findF (l.map RF.fd) ⟨#[]⟩ with
 |none=>rfl
 |some F=>
  exfalso;unfold findF at e;have j:uU (⟨#[]⟩:ByteArray) xF=false:=by decide+kernel
  rw [j] at e;simp only [Bool.false_eq_true,if_false] at e;have b:=List.mem_of_find?_eq_some e;have c:=List.find?_some e;obtain ⟨f,i,rfl⟩:=List.mem_map.1 b;have a:=h.name f i;have g:f.name=⟨#[]⟩:=vr.1 (show uU f.name _=true from c);rw [g] at a
  revert a
  decide+kernel
def preB(l:List Fd)(s:RS)(st:List RE)(h:List Int)(tick:Int):Bool:=
 !vf l ⟨#[]⟩&&(h.length==10)&&xq h&&yt st&&decide (st.length<=1000000)&&st.all B4&&decide (0<=tick)&&decide (tick<=1073741824)&&decide (0<=s.kind)&&decide (s.kind<=6)
  &&s.key.all (vf l)&&decide (s.key.length<=1000)&&(!decide (s.kind=3)||(decide (0<=s.n)&&decide (s.n<=1073741824)))
  &&(!decide (s.kind=4)||(decide (0<=s.n)&&decide (s.n<=65535)&&decide (s.n<=s.m)&&decide (s.m<=65535)))
  &&(!decide (s.kind=5)||(vf l s.field&&st.all fun e=> !decide (e.var=s.var)||(decide (e.key.length=s.key.length)&&e.key.all fun x=>decide (0<=x))))
  &&(!decide (s.kind=6)||(decide (1<=s.n)&&decide (s.n<=65535)&&decide (1<=s.m)&&decide (s.m<=1073741824)))
  &&st.all fun e=>decide (e.key.length<2^60)
theorem Lo{l:List Fd}(D:LOk l){s:RS}{st:List RE}{h:List Int}{tick:Int}(c:preB l s st h tick=true):DO l s st h tick/\ ∀e∈st,e.key.length<2^60:=by
 unfold preB at c;simp only [Bool.and_eq_true,decide_eq_true_eq,List.all_eq_true,Bool.not_eq_true',beq_iff_eq,Bool.or_eq_true,decide_eq_false_iff_not] at c;obtain ⟨⟨⟨⟨⟨⟨⟨⟨⟨⟨⟨⟨⟨⟨⟨⟨f,g⟩,i⟩,j⟩,k⟩,m⟩,n⟩,o⟩,p⟩,q⟩,r⟩,t⟩,u⟩,v⟩,w⟩,x⟩,y⟩:=c;refine ⟨⟨D,f,⟨g,i⟩,zC.1 j,k,fun e b=>?_,n,o,p,q,r,t,fun z=>?_,fun A=>?_,fun B=>?_,fun C=>?_⟩,y⟩
 ·have:=m e b
  unfold B4 at this;simp only [Bool.and_eq_true,decide_eq_true_eq] at this;omega
 ·rcases u with h|h
  ·exact absurd z h
  ·exact h
 ·rcases v with h|h
  ·exact absurd A h
  ·omega
 ·rcases w with h|h
  ·exact absurd B h
  ·refine ⟨h.1,fun e b E=>?_⟩;rcases h.2 e b with a|a
   ·exact absurd E a
   ·exact a
 ·rcases x with h|h
  ·exact absurd C h
  ·omega
abbrev yT(t:Int×Int×Int):List Int:=[0,t.2.1 * 256+t.1,0,0,0,0,0,0,0,0]
def Ih(l:List Fd)(s:RS)(name:ByteArray)(t:Int×Int×Int)(st:List RE):Int:=if (doE l s st (yT t) t.2.2).pass then (vD (fld l name) (doE l s st (yT t) t.2.2).h:Int) else -1
def xh(l:List Fd)(s:RS)(name:ByteArray):List (Int×Int×Int)->List Int×List RE->List Int×List RE
 |[],r=>r
 |t::ts,r=>xh l s name ts (r.1++[Ih l s name t r.2],(doE l s r.2 (yT t) t.2.2).st)
def EP(l:List Fd)(s:RS)(name:ByteArray):List (Int×Int×Int)->List RE->Bool
 |[],_=>true
 |t::ts,st=>decide (0<=t.1)&&decide (t.1<256)&&decide (0<=t.2.1)&&decide (t.2.1<256)&&preB l s st (yT t) t.2.2&&xq (doE l s st (yT t) t.2.2).h&&((doE l s st (yT t) t.2.2).h.length==10)&&EP l s name ts (doE l s st (yT t) t.2.2).st
end Go.ST
end
section
namespace Go.ST7
open Go Go.DL Go.Proofs
def l34:LWZ Tryz.prog Tryz.f34 87 [8000081]:=⟨_,lrZ⟩
def l41:LWZ Tryz.prog Tryz.f41 26 []:=⟨_,lrZ⟩
def l8:LWZ Tryz.prog Tryz.f8 77 [2000049000009,2000059000009,2000068000009]:=⟨_,lrZ⟩
def l43:LWZ Tryz.prog Tryz.f43 15 []:=⟨_,lrZ⟩
def l95:LWZ Tryz.prog Tryz.f95 5 []:=⟨_,lrZ⟩
end Go.ST7
end
section
namespace Go.STA
open Go Go.DL Go.Proofs
def l42:LWZ Tryz.prog Tryz.f42 70 [6000006,6000008,8000063,8000066]:=⟨_,lrZ⟩
end Go.STA
end
section
namespace Go.ST
open Go Go.DL Go.MM Go.Proofs
open Go.TY hiding Fd
def vN:ByteArray:=⟨#[118]⟩
abbrev stp(k:Int)(f:ByteArray)(n m:Int):RS:=⟨k,vN,[DG],f,n,m⟩
theorem AO(k:Int)(f:ByteArray)(n m:Int):DCalls Tryz.prog 43 [I k,.str f,I n,I m] (xK (stp k f n m)):=by
 refine dl2 mixed [.cell 8 42] [.agg (uX (stp k f n m))] Tryz.func43 Go.ST7.l43.2 ?_;exact rcZ
def L17:List Fd:=[⟨Ew,16,8⟩,⟨DG,24,8⟩,⟨FB,33,3⟩]
theorem JR:LOk L17:=⟨by decide,fun f a=>by
 simp only [L17,List.mem_cons,List.not_mem_nil,or_false] at a;rcases a with rfl|rfl|rfl <;> exact ⟨by decide,by decide,by decide⟩⟩
theorem IP:DCalls Tryz.prog 95 [] (fds L17):=by
 refine dl2 mixed [.tmp 0] [fds L17] Tryz.func95 Go.ST7.l95.2 ?_;exact rcZ
abbrev tri(t:Int×Int×Int):T:=.agg [I t.1,I t.2.1,I t.2.2]
abbrev DM(ts:List (Int×Int×Int)):T:=.slice 3 (ts.map tri)
theorem Gz(l:List Fd)(s:RS)(name:ByteArray): ∀(a b:List (Int×Int×Int)) (r:List Int×List RE),xh l s name (a++b) r=xh l s name b (xh l s name a r)
 |[],_,_=>rfl
 |t::a,b,r=>Gz l s name a b _
theorem Fu(l:List Fd)(s:RS)(name:ByteArray){ts:List (Int×Int×Int)}{i:Nat}(h:i<ts.length)(r:List Int×List RE):
  xh l s name (ts.take (i+1)) r=((xh l s name (ts.take i) r).1++[Ih l s name ts[i] (xh l s name (ts.take i) r).2],(doE l s (xh l s name (ts.take i) r).2 (yT ts[i]) ts[i].2.2).st):=by
 rw [List.take_succ_eq_append_getElem h,Gz];rfl
structure Oe (l:List Fd) (s:RS) (t:Int×Int×Int) (st:List RE):Prop where
 a0:0<=t.1
 a1:t.1<256
 b0:0<=t.2.1
 b1:t.2.1<256
 pre:DO l s st (yT t) t.2.2
 k: ∀e∈st,kOk e
 ok:HOk (doE l s st (yT t) t.2.2).h
theorem Hm{l:List Fd}(a:LOk l){s:RS}{name:ByteArray}: ∀{ts:List (Int×Int×Int)} {r:List Int×List RE},EP l s name ts r.2=true-> ∀i (h:i<ts.length),Oe l s ts[i] (xh l s name (ts.take i) r).2
 |[],_,_,i,h=>by simp at h
 |t::ts,r,hb,i,h=>by
  unfold EP at hb;simp only [Bool.and_eq_true,decide_eq_true_eq,beq_iff_eq] at hb;obtain ⟨⟨⟨⟨⟨⟨⟨b,c⟩,e⟩,f⟩,g⟩,j⟩,k⟩,m⟩:=hb;cases i with
  |zero=>
   obtain ⟨p,q⟩:=Lo a g;exact ⟨b,c,e,f,p,q,⟨k,j⟩⟩
  |succ i=>exact Hm a (ts:=ts) (r:=(r.1++[Ih l s name t r.2],(doE l s r.2 (yT t) t.2.2).st)) m i (by simpa using h)
theorem Qm{ts:List (Int×Int×Int)}{i:Nat}(h:i<ts.length):(ts.map tri)[i]?.getD .nil=tri ts[i]:=by simp [h]
theorem Kj(s:RS)(st:List RE)(name:ByteArray)(ts:List (Int×Int×Int))(hl:ts.length<2^20)(V:EP L17 s name ts st=true)(W:vf L17 name=true):
  DCalls Tryz.prog 42 [xK s,esT st,.str name,DM ts] (.tup [.slice 1 ((xh L17 s name ts ([],st)).1.map I),esT (xh L17 s name ts ([],st)).2]):=by
 refine dl2 mixed [.tmp 8,.tmp 9] [.slice 1 _,esT _] Tryz.func42 Go.STA.l42.2 ?_;have hn:((ts.map tri).length:Int)=ts.length:=by rw [List.length_map]
 have U:=Hm (name:=name) (r:=([],st)) JR V;have v:=IP;have f: ∀i,i<=ts.length->(xh L17 s name (ts.take i) ([],st)).1.length=i:=by
  intro i
  induction i with
  |zero=>intro _;simp [xh]
  |succ i ih=>intro h;rw [Fu L17 s name h,List.length_append,ih (by omega)];rfl
 have x:=CZ L17 JR name;rw [W] at x;have R:FOk (MM.fld L17 name):=JN JR W;refine rnZ ?_;refine tT 0 (α:=Nat×Nat) (β:=Unit) (fun p=>{sl:=[(1,.t (esT (xh L17 s name (ts.take p.1) ([],st)).2)),(2,.t (.str name)),(3,.t (DM ts)),(4,.ptr 4 0),(10,.own p.2 3 1 ((xh L17 s name (ts.take p.1) ([],st)).1.map I)),(11,.t (I p.1))],bx:=[(4,.d 6 (uX s))]})
  (fun p=>p.1<=ts.length/\(p.2=64\/p.2=67)) (fun p=>ts.length - p.1)
  (fun _=>{sl:=[(1,.t (esT (xh L17 s name ts ([],st)).2)),(10,.t (.slice 1 ((xh L17 s name ts ([],st)).1.map I)))],bx:=[]}) (fun _=>True) (0,64) ⟨by simp,Or.inl rfl⟩ ?_ ?_ ?_
 ·exact wkZ
 ·rintro ⟨i,r⟩ ⟨hi,F⟩;dsimp only at hi F;rcases Nat.lt_or_ge i ts.length with h|h
  ·have j:(i:Int)<((ts.map tri).length:Int):=by omega
   have S:=Qm h;have a:=U i h;have e:=Fu L17 s name h ([],st);have hol:=f i (by omega);have b:=MS a.pre a.k;have X:=t57 (MM.fld L17 name) R _ a.ok;obtain ⟨t,o⟩: ∃t,ts[i]=t:=⟨_,rfl⟩
   rw [o] at S e b X;have b0:=o▸a.a0;have b1:=o▸a.a1;have b2:=o▸a.b0;have b3:=o▸a.b1;have hx:=ten (o▸a.ok);generalize xh L17 s name (ts.take i) ([],st)=q at *
   have Y:Ih L17 s name t q.2=if (doE L17 s q.2 (yT t) t.2.2).pass then (vD (fld L17 name) (doE L17 s q.2 (yT t) t.2.2).h:Int) else -1:=rfl
   rw [Y] at e;obtain ⟨g,c,u⟩:=t;dsimp only at *
   have A:IntKind.wrap .i64 (IntKind.wrap .i64 (c * 256)+g)=c * 256+g:=by rw [oA (n:=c * 256) (by omega) (by omega),oA (by omega) (by omega)]
   have B:((i+1:Nat):Int)=IntKind.wrap .i64 ((i:Int)+1):=by rw [oA] <;> omega
   have Z:hd (yT (g,c,u))= .agg [I 0,I (c * 256+g),I 0,I 0,I 0,I 0,I 0,I 0,I 0,I 0]:=rfl;rw [Z] at b;generalize doE L17 s q.2 (yT (g,c,u)) u=d at *
   obtain ⟨dh,E,ds⟩:=d;dsimp only at *
   obtain ⟨G,H,J,K,L,M,N,O,P,Q,rfl⟩:=hx;have b:DCalls Tryz.prog 11 [fds L17,xK s,esT q.2,.agg [I 0,I (c * 256+g),I 0,I 0,I 0,I 0,I 0,I 0,I 0,I 0],I u] (.tup [hd [G,H,J,K,L,M,N,O,P,Q],.bool E,esT ds]):=b;rw [<- A] at b;have y:ts.length - (i+1)<ts.length - i:=by omega
   have ha:=a;clear V U f a
   repeat' ((conv=>whnf);first|refine nr j ?_|(refine nv_ (.agg [I g,I c,I u]) (by first|exact S) ?_)|refine aS ?_|refine nT_ ?_)
   refine uE (β:=Unit) (fun _=>{sl:=[(2,.t (.str name)),(3,.t (DM ts)),(4,.ptr 4 0),(10,.own r 3 1 (q.1.map I)),(11,.t (I i)),(13,.ptr 13 0),(14,.t (.bool E)),(15,.t (esT ds))],bx:=[(4,.d 6 (uX s)),(13,.d 10 [I G,I H,I J,I K,I L,I M,I N,I O,I P,I Q])]}) (fun _=>True) ?_ ?_
   ·repeat' ((conv=>whnf);first|(refine nv_ (.agg [I g,I c,I u]) (by first|exact S) ?_)|refine pC _ (v) ?_|refine pC _ (b) ?_|(exact ⟨(),trivial,wkZ⟩)|refine aS ?_|refine nT_ ?_)
   rintro _ _;clear b
   skip
   refine uE (β:=Unit) (fun _=>{sl:=[(1,.t (esT ds)),(2,.t (.str name)),(3,.t (DM ts)),(4,.ptr 4 0),(10,.own r 3 1 (q.1.map I)),(11,.t (I i)),(13,.ptr 13 0),(14,.t (.bool E)),(16,.ptr 16 0)],bx:=[(4,.d 6 (uX s)),(13,.d 10 [I G,I H,I J,I K,I L,I M,I N,I O,I P,I Q]),(16,.d 3 [.str (MM.fld L17 name).name,I (MM.fld L17 name).a,I (MM.fld L17 name).w])]}) (fun _=>True) ?_ ?_
   ·refine rnZ ?_;(exact ⟨(),trivial,wkZ⟩)
   rintro _ _;have D: ∀z:Int,(q.1++[z]).map I=q.1.map I++[I z]:=fun z=>by rw [List.map_append];rfl
   have C:((q.1.map I).length+1) * 8<=140737488355328:=by rw [List.length_map];omega
   clear v x;cases E with
   |true=>
    rw [if_pos rfl] at e;generalize (vD (MM.fld L17 name) [G,H,J,K,L,M,N,O,P,Q]:Int)=z at *
    have l:(xh L17 s name (ts.take (i+1)) ([],st)).1.map I=q.1.map I++[I z]:=by rw [e];exact D z
    have m:(xh L17 s name (ts.take (i+1)) ([],st)).2=ds:=by rw [e]
    rcases F with rfl|rfl
    all_goals
     repeat' ((conv=>whnf);first|refine pC _ (X) ?_|(exact ⟨(i+1,64),⟨h,Or.inl rfl⟩,y,by (repeat' (first|(exact leI B)|(exact rM l)|((refine leT ?_;rw [m]))|exact wJ|refine And.intro ?_ ?_));done⟩)|(refine And.intro (by first|exact C) ?_)|refine aS ?_|fail)
   |false=>
    rw [if_neg (by simp)] at e;have l:(xh L17 s name (ts.take (i+1)) ([],st)).1.map I=q.1.map I++[I (-1)]:=by rw [e];exact D _
    have m:(xh L17 s name (ts.take (i+1)) ([],st)).2=ds:=by rw [e]
    rcases F with rfl|rfl
    all_goals
     repeat' ((conv=>whnf);first|(exact ⟨(i+1,67),⟨h,Or.inr rfl⟩,y,by (repeat' (first|(exact leI B)|(exact rM l)|((refine leT ?_;rw [m]))|exact wJ|refine And.intro ?_ ?_));done⟩)|(refine And.intro (by first|exact C) ?_)|refine aS ?_|fail)
  ·have j: ¬(i:Int)<((ts.map tri).length:Int):=by omega
   obtain rfl:i=ts.length:=by omega
   rw [List.take_length];rcases F with rfl|rfl <;> repeat' ((conv=>whnf);first|refine nq j ?_|(exact ⟨(),trivial,by (repeat' (first|(exact yq rfl)|exact wJ|refine And.intro ?_ ?_));done⟩)|refine aS ?_|fail)
 ·rintro _ _;exact rcZ
theorem Hj(l:List Fd)(c:LOk l)(i:vf l ⟨#[]⟩=false)(h:List Int)(b:HOk h)(name:ByteArray)(n:Int)(o:0<=n):DCalls Tryz.prog 61 [fds l,hd h,.str name,I n] (hd (wrF l h name n)):=by
 have k:=CZ l c name;have f:=yN c b (name:=name) o;have p:=eqS name ⟨#[]⟩;refine dl2 mixed [.cell 8 27] [hd _] Tryz.func61 Go.ST4.l61.2 ?_;cases a:vf l name with
 |false=>
  have j:wrF l h name n=h:=by unfold wrF;rw [a];rfl
  rw [a] at k;rw [j];obtain ⟨x0,x1,x2,x3,x4,x5,x6,x7,x8,x9,rfl⟩:=ten b;exact rcZ
 |true=>
  have g:name≠⟨#[]⟩:=fun e=>by rw [e,i] at a;cases a
  rw [decide_eq_false g] at p;rw [a] at k;have r:=t66 _ (zU c a);have s:=Nat.two_pow_pos (fld l name).w;have m:=t52 _ (zU c a) h b (min n ((2^(fld l name).w - 1:Nat):Int)).toNat (by omega);have j:wrF l h name n=wc (fld l name) h (min n ((2^(fld l name).w - 1:Nat):Int)).toNat:=by unfold wrF;rw [if_pos a]
  rw [<- j,Int.toNat_of_nonneg (by omega), <-FM] at m;obtain ⟨x0,x1,x2,x3,x4,x5,x6,x7,x8,x9,rfl⟩:=ten b;obtain ⟨t,u,v,x,y,z,A,B,C,D,q⟩:=ten f;rw [q] at m ⊢;exact rcZ
theorem Lu(s:RS)(e:RE)(tick:Int)(r:1<=s.n/\s.n<=65535)(p:1<=s.m/\s.m<=1073741824)(z:0<=tick/\tick<=1073741824)(o:0<=e.n/\e.n<=65535)(l:0<=e.at_/\e.at_<=1073741824):
  DCalls Tryz.prog 64 [xK s,uS e,I tick] (uS (xi s e tick)):=by
 obtain ⟨A,t,key,g,n,m⟩:=s;obtain ⟨v,B,b,a⟩:=e;dsimp only at r p o l;refine dl2 mixed [.cell 6 64] [uS _] Tryz.func64 Go.ST4.l64.2 ?_;have q:m≠0:=by omega
 unfold xi;dsimp only
 by_cases c:tick>a
 ·rw [if_pos c];have k:0<=(tick - a).tdiv m:=Int.tdiv_nonneg (by omega) (by omega);have w:(tick - a).tdiv m<=tick - a:=Int.tdiv_le_self _ (by omega);have x:(tick - a).tdiv m * m<=tick - a:=by
   rw [Int.tdiv_eq_ediv_of_nonneg (by omega)];exact Int.ediv_mul_le _ (by omega)
  have y:0<=(tick - a).tdiv m * m:=Int.mul_nonneg k (by omega);have u:W64 (tick - a)=tick - a:=oA (by omega) (by omega);have j:W64 ((W64 (tick - a)).tdiv m)=(tick - a).tdiv m:=by rw [u];exact oA (by omega) (by omega)
  have h:W64 (b+W64 ((W64 (tick - a)).tdiv m))=b+(tick - a).tdiv m:=by rw [j];exact oA (by omega) (by omega)
  have i:W64 (a+W64 (W64 ((W64 (tick - a)).tdiv m) * m))=a+(tick - a).tdiv m * m:=by
   rw [j,show W64 ((tick - a).tdiv m * m)=(tick - a).tdiv m * m from oA (by omega) (by omega)];exact oA (by omega) (by omega)
  rw [<- h, <-i]
  by_cases f:W64 (b+W64 ((W64 (tick - a)).tdiv m))>=n
  ·rw [if_pos f];exact rcZ
  ·rw [if_neg f];exact rcZ
 ·rw [if_neg c];have h:W64 (b+0)=b+0:=oA (by omega) (by omega);have i:W64 (a+W64 (0 * m))=a+0 * m:=by
   rw [Int.zero_mul,show W64 0=0 from oA (by omega) (by omega)];exact oA (by omega) (by omega)
  rw [<- h, <-i]
  by_cases f:W64 (b+0)>=n
  ·rw [if_pos f];exact rcZ
  ·rw [if_neg f];exact rcZ
def HD(o:List RE)(lo hi:Int):Int:=if wM o o.length lo<=hi then wM o o.length lo else -1
theorem MO(st:List RE)(v:ByteArray)(H:st.length<2^40)(lo hi:Int)(O:0<=lo/\lo<=65535)(P:hi<=2^40):
  DCalls Tryz.prog 63 [esT st,.str v,I lo,I hi] (I (HD (ofE st v) lo hi)):=by
 refine dl2 mixed [.tmp 8] [I _] Tryz.func63 Go.ST4.l63.2 ?_;have Q:=Qa st v H;have L:(ofE st v).length<=st.length:=List.length_filter_le _ _;generalize ofE st v=o at *
 have A:((o.map uS).length:Int)=o.length:=by rw [List.length_map]
 have q:=zi o o.length lo;have l:=BQ o lo;unfold HD;obtain ⟨F,E⟩: ∃F,F=wM o o.length lo:=⟨_,rfl⟩
 rw [<- E] at q l ⊢;obtain ⟨s1,s2,N⟩:=q;refine rnZ ?_;refine tT 0 (α:=Nat) (β:=Unit) (fun j=>{sl:=[(2,.t (I lo)),(3,.t (I hi)),(9,.t (esT o)),(10,.t (I (lo+(j:Int))))],bx:=[]})
  (fun j=>j<=o.length/\lo+(j:Int)<=F) (fun j=>o.length - j) (fun _=>{sl:=[],bx:=[]}) (fun _=> ¬F<=hi) 0 ⟨Nat.zero_le _,by omega⟩ ?_ ?_ ?_
 ·have e0:lo+((0:Nat):Int)=lo:=by omega
  exact wkZ
 ·rintro j ⟨R,y⟩;have B:IntKind.wrap .i64 (lo+((o.map uS).length:Int))=lo+o.length:=by rw [A];exact oA (by omega) (by omega)
  have J:lo+(j:Int)<=IntKind.wrap .i64 (lo+((o.map uS).length:Int)):=by rw [B];omega
  by_cases c:lo+(j:Int)<=hi
  ·refine rnZ ?_;refine tT 2 (α:=Nat) (β:=Unit) (fun i=>{sl:=[(2,.t (I lo)),(3,.t (I hi)),(9,.t (esT o)),(10,.t (I (lo+(j:Int)))),(11,.t (.bool (vS (o.take i) (lo+(j:Int))))),(12,.t (I i))],bx:=[]})
    (fun i=>i<=o.length) (fun i=>o.length - i) (fun _=>{sl:=[(2,.t (I lo)),(3,.t (I hi)),(9,.t (esT o)),(10,.t (I (lo+(j:Int)))),(11,.t (.bool (vS o (lo+(j:Int)))))],bx:=[]}) (fun _=>True) 0 (Nat.zero_le _) ?_ ?_ ?_
   ·exact wkZ
   ·rintro i G;rcases Nat.lt_or_ge i o.length with h|h
    ·have m:(i:Int)<((o.map uS).length:Int):=by omega
     have f:((i+1:Nat):Int)=IntKind.wrap .i64 ((i:Int)+1):=by rw [oA] <;> omega
     have a:vS (o.take (i+1)) (lo+(j:Int))=(vS (o.take i) (lo+(j:Int))||decide (o[i].n=lo+(j:Int))):=by
      unfold vS;rw [List.take_succ_eq_append_getElem h,List.any_append];simp
     have s:=ggZ h;generalize o[i]=x at *
     obtain ⟨V,U,C,S⟩:=x;cases g:vS (o.take i) (lo+(j:Int)) with
     |true=>
      rw [g,Bool.true_or] at a;have p:=congrArg T.bool a;refine rnZ ?_;(exact ⟨i+1,h,(by omega),by (repeat' (first|(exact leI f)|(exact leT p)|exact wJ|refine And.intro ?_ ?_));done⟩)
     |false=>
      rw [g,Bool.false_or] at a
      by_cases r:C=lo+(j:Int)
      ·rw [decide_eq_true r] at a;have p:=congrArg T.bool a
       repeat' ((conv=>whnf);first|refine nr m ?_|(refine nv_ (I C) (by first|(simp [s,uS,uR,T.cells];done)|fail) ?_)|refine nv r ?_|(exact ⟨i+1,h,(by omega),by (repeat' (first|(exact leI f)|(exact leT p)|exact wJ|refine And.intro ?_ ?_));done⟩)|(refine And.intro (by first|((simp [s,uS,uR,T.cells]);done)|fail) ?_)|refine aS ?_|refine nT_ ?_)
      ·rw [decide_eq_false r] at a;have p:=congrArg T.bool a
       repeat' ((conv=>whnf);first|refine nr m ?_|(refine nv_ (I C) (by first|(simp [s,uS,uR,T.cells];done)|fail) ?_)|refine nu r ?_|(exact ⟨i+1,h,(by omega),by (repeat' (first|(exact leI f)|(exact leT p)|exact wJ|refine And.intro ?_ ?_));done⟩)|(refine And.intro (by first|((simp [s,uS,uR,T.cells]);done)|fail) ?_)|refine aS ?_|refine nT_ ?_)
    ·have m: ¬(i:Int)<((o.map uS).length:Int):=by omega
     have e0:T.bool (vS o (lo+(j:Int)))= .bool (vS (o.take i) (lo+(j:Int))):=by rw [List.take_of_length_le h]
     refine rnZ ?_;(exact ⟨(),trivial,by (repeat' (first|(exact leT e0)|exact wJ|refine And.intro ?_ ?_));done⟩)
   ·rintro - -;have f:lo+((j+1:Nat):Int)=IntKind.wrap .i64 (lo+(j:Int)+1):=by rw [oA (by omega) (by omega)];omega
    have M:(vS o (lo+(j:Int))=true/\j+1<=o.length/\lo+((j+1:Nat):Int)<=F)\/(vS o (lo+(j:Int))=false/\F=lo+(j:Int)):=by
     cases g:vS o (lo+(j:Int)) with
     |true=>
      have K:F≠lo+(j:Int):=fun e=>by rw [e,g] at l;cases l
      exact Or.inl ⟨rfl,by omega,by omega⟩
     |false=>
      rcases Int.lt_or_eq_of_le y with w|w
      ·have:=N (lo+(j:Int)) (by omega) w
       rw [g] at this;cases this
      ·exact Or.inr ⟨rfl,w.symm⟩
    rcases M with ⟨g,u,D⟩|⟨g,u⟩
    ·generalize vS o (lo+(j:Int))=b at *
     subst g;have z:o.length - (j+1)<o.length - j:=by omega
     refine rnZ ?_;(exact ⟨j+1,⟨u,D⟩,z,by (repeat' (first|(exact leI f)|exact wJ|refine And.intro ?_ ?_));done⟩)
    ·generalize vS o (lo+(j:Int))=b at *
     subst g;rw [u,if_pos c];exact rcZ
  ·have k: ¬F<=hi:=by omega
   refine rnZ ?_;(exact ⟨(),k,wkZ⟩)
 ·rintro - k;rw [if_neg k];exact rcZ
abbrev wF(d:Dn):T:=.agg (d.h.map I++[.bool d.pass,esT d.st])
def BB(l:List Fd)(s:RS)(st:List RE)(h:List Int):Dn:=⟨(do5 l s (ofE st s.var) h).1,(do5 l s (ofE st s.var) h).2.1,st⟩
theorem DQ(l:List Fd)(s:RS)(st:List RE)(h:List Int):BB l s st h=match st.find? fun x=>decide (x.var=s.var)&&decide (x.n=(vD (fld l s.field) h:Int)) with
  |some e=>⟨xZ l s.key e.key h,true,st⟩
  |none=>⟨h,false,st⟩:=by
 have b:((ofE st s.var).find? fun x=>decide (x.n=(vD (fld l s.field) h:Int)))=st.find? fun x=>decide (x.var=s.var)&&decide (x.n=(vD (fld l s.field) h:Int)):=by
  unfold ofE;rw [List.find?_filter]
  congr 1
  funext a
  simp
 unfold BB do5;rw [<- b];split <;> rename_i c <;> rw [c]
theorem ML{l:List Fd}{s:RS}{st:List RE}{h:List Int}(F:LOk l)(W:vf l ⟨#[]⟩=false)(hlen:st.length<2^40)(S:s.key.length<2^40)(P:HOk h)(z:vf l s.field=true)(K: ∀x∈st,x.var=s.var->x.key.length=s.key.length/\ ∀v∈x.key,0<=v):
  DCalls Tryz.prog 59 [fds l,xK s,esT st,hd h] (wF (BB l s st h)):=by
 have hF:=CZ l F s.field;rw [z] at hF;have hG:=t57 _ (zU F z) _ P;rw [DQ];obtain ⟨kk,b,key,c,n,m⟩:=s;dsimp only at hF hG K S z ⊢;obtain ⟨g,hg⟩: ∃g:Nat,g=vD (fld l c) h:=⟨_,rfl⟩
 rw [<- hg] at hG ⊢;obtain ⟨x0,x1,x2,x3,x4,x5,x6,x7,x8,x9,hx⟩:=ten P;have hn:((st.map uS).length:Int)=st.length:=by rw [List.length_map]
 have hm:((key.map T.str).length:Int)=key.length:=by rw [List.length_map]
 have u: ∀r:List T,(∀ (e:RE) (q:H10),st.find? (fun x=>decide (x.var=b)&&decide (x.n=(g:Int)))=some e->q.ls=xZ l key e.key h->r=q.ls.map I++[.bool true,esT st])->(st.find? (fun x=>decide (x.var=b)&&decide (x.n=(g:Int)))=none->r=h.map I++[.bool false,esT st])->
   DCalls Tryz.prog 59 [fds l,xK ⟨kk,b,key,c,n,m⟩,esT st,hd h] (.agg r):=fun r rs rn=>by
  refine dl2 mixed [.cell 8 46] [.agg r] Tryz.func59 Go.ST4.l59.2 ?_;subst hx;clear hg;refine rnZ ?_;refine tT 0 (α:=Nat) (β:=Unit) (fun i=>{sl:=[(0,.t (fds l)),(2,.t (esT st)),(5,.ptr 5 0),(7,.ptr 7 0),(8,.ptr 8 0),(11,.t (I (g:Int))),(12,.t (I i))],bx:=[(5,.d 6 (uX ⟨kk,b,key,c,n,m⟩)),(7,.d 10 [I x0,I x1,I x2,I x3,I x4,I x5,I x6,I x7,I x8,I x9]),(8,.d 12 [I 0,I 0,I 0,I 0,I 0,I 0,I 0,I 0,I 0,I 0,.bool false,.nil])]})
   (fun i=>i<=st.length/\st.find? (fun x=>decide (x.var=b)&&decide (x.n=(g:Int)))=(st.drop i).find? (fun x=>decide (x.var=b)&&decide (x.n=(g:Int)))) (fun i=>st.length - i)
   (fun _=>{sl:=[(2,.t (esT st)),(7,.ptr 7 0),(8,.ptr 8 0)],bx:=[(7,.d 10 [I x0,I x1,I x2,I x3,I x4,I x5,I x6,I x7,I x8,I x9]),(8,.d 12 [I 0,I 0,I 0,I 0,I 0,I 0,I 0,I 0,I 0,I 0,.bool false,.nil])]}) (fun _=>st.find? (fun x=>decide (x.var=b)&&decide (x.n=(g:Int)))=none) 0 ⟨Nat.zero_le _,rfl⟩ ?_ ?_ ?_
  ·exact wkZ
  ·rintro i ⟨hi,a⟩;rcases Nat.lt_or_ge i st.length with h|h
   ·have o:(i:Int)<((st.map uS).length:Int):=by omega
    have G:((i+1:Nat):Int)=IntKind.wrap .i64 ((i:Int)+1):=by rw [oA] <;> omega
    have k:=ggZ h;have BS:=List.getElem_mem h;rw [List.drop_eq_getElem_cons h,List.find?_cons] at a;generalize st[i]=x at *
    obtain ⟨C,f,M,xa⟩:=x;dsimp only at a;have E:=eqS C b
    by_cases O:C=b
    ·rw [decide_eq_true O] at E a
     by_cases L:M=(g:Int)
     ·rw [decide_eq_true L] at a;have a:st.find? (fun x=>decide (x.var=b)&&decide (x.n=(g:Int)))=some ⟨C,f,M,xa⟩:=a;obtain ⟨U,N⟩:=K _ BS O;dsimp only at U N;have hxl:((f.map I).length:Int)=key.length:=by rw [List.length_map];omega
      repeat' ((conv=>whnf);first|refine nr o ?_|(refine nv_ (.str C) (by first|(simp [k,uS,uR,T.cells];done)|fail) ?_)|(refine nv_ (I M) (by first|(simp [k,uS,uR,T.cells];done)|fail) ?_)|refine nb_ _ E ?_|refine nv L ?_|(refine And.intro (by first|((simp [k,uS,uR,T.cells]);done)|fail) ?_)|refine aS ?_|refine nT_ ?_)
      refine tT 2 (α:=Nat×H10) (β:=H10) (fun q=>{sl:=[(0,.t (fds l)),(2,.t (esT st)),(5,.ptr 5 0),(7,.ptr 7 0),(8,.ptr 8 0),(11,.t (I (g:Int))),(12,.t (I i)),(13,.ptr 13 0),(14,.t (I q.1))],bx:=[(5,.d 6 (uX ⟨kk,b,key,c,n,m⟩)),(7,.d 10 [I x0,I x1,I x2,I x3,I x4,I x5,I x6,I x7,I x8,I x9]),(8,.d 12 [I 0,I 0,I 0,I 0,I 0,I 0,I 0,I 0,I 0,I 0,.bool false,.nil]),(13,.d 10 (q.2.ls.map I))]})
       (fun q=>q.1<=key.length/\q.2.ls=xZ l (key.take q.1) (f.take q.1) [x0,x1,x2,x3,x4,x5,x6,x7,x8,x9]) (fun q=>key.length - q.1)
       (fun q=>{sl:=[(2,.t (esT st)),(8,.ptr 8 0),(13,.ptr 13 0)],bx:=[(8,.d 12 [I 0,I 0,I 0,I 0,I 0,I 0,I 0,I 0,I 0,I 0,.bool false,.nil]),(13,.d 10 (q.ls.map I))]}) (fun q=>q.ls=xZ l key f [x0,x1,x2,x3,x4,x5,x6,x7,x8,x9]) (0,⟨x0,x1,x2,x3,x4,x5,x6,x7,x8,x9⟩) ⟨Nat.zero_le _,rfl⟩ ?_ ?_ ?_
      ·exact wkZ
      ·rintro ⟨j,q⟩ ⟨hj,B⟩;dsimp only at hj B;rcases Nat.lt_or_ge j key.length with w|w
       ·have wx:(j:Int)<((key.map T.str).length:Int):=by omega
        have AM:((j+1:Nat):Int)=IntKind.wrap .i64 ((j:Int)+1):=by rw [oA] <;> omega
        have A:j<f.length:=by omega
        have D:HOk q.ls:=by rw [B];exact Aw F P fun v hv=>N v (List.mem_of_mem_take hv)
        have H:0<=f[j]:=N _ (List.getElem_mem A);have hW:=Hj l F W q.ls D key[j] f[j] H;have J:xZ l (key.take (j+1)) (f.take (j+1)) [x0,x1,x2,x3,x4,x5,x6,x7,x8,x9]=wrF l q.ls key[j] f[j]:=by
         rw [List.take_succ_eq_append_getElem w,List.take_succ_eq_append_getElem A,CL _ _ _ _ _ _ (by rw [List.length_take,List.length_take];omega),B]
        have Z:(key.map T.str)[((j:Int)).toNat]?.getD .nil= .str key[j]:=by simp [w]
        have hsv:(f.map I)[((j:Int)).toNat]?.getD .nil=I f[j]:=by simp [A]
        obtain ⟨y0,y1,y2,y3,y4,y5,y6,y7,y8,y9,hy⟩:=ten (yN F D (name:=key[j]) H);rw [hy] at hW J;have R:0<=(j:Int)/\(j:Int)<((f.map I).length:Int):=by omega
        have Q:0<=(i:Int)/\(i:Int)<((st.map uS).length:Int):=by omega
        generalize key[j]=nm at *
        generalize f[j]=vl at *
        obtain ⟨z0,z1,z2,z3,z4,z5,z6,z7,z8,z9⟩:=q;have V:key.length - (j+1)<key.length - j:=by omega
        repeat' ((conv=>whnf);first|refine nr wx ?_|(refine nv_ (.str nm) (by first|exact Z) ?_)|(refine nv_ (.slice 1 (f.map I)) (by first|(simp [k,uS,uR,T.cells];done)|fail) ?_)|(refine nv_ (I vl) (by first|exact hsv) ?_)|refine pC _ (hW) ?_|(exact ⟨(j+1,⟨y0,y1,y2,y3,y4,y5,y6,y7,y8,y9⟩),⟨w,J.symm⟩,V,by (repeat' (first|(exact leI AM)|exact wJ|refine And.intro ?_ ?_));done⟩)|(refine And.intro (by first|exact R|exact Q|((simp [k,uS,uR,T.cells]);done)|fail) ?_)|refine aS ?_|refine nT_ ?_)
       ·have wx: ¬(j:Int)<((key.map T.str).length:Int):=by omega
        have X:q.ls=xZ l key f [x0,x1,x2,x3,x4,x5,x6,x7,x8,x9]:=by rw [B,List.take_of_length_le w,List.take_of_length_le (by omega)]
        refine rnZ ?_;(exact ⟨q,X,wkZ⟩)
      ·rintro q B;have Y:=rs _ q a B;subst Y;obtain ⟨z0,z1,z2,z3,z4,z5,z6,z7,z8,z9⟩:=q;exact rcZ
     ·rw [decide_eq_false L] at a
      repeat' ((conv=>whnf);first|refine nr o ?_|(refine nv_ (.str C) (by first|(simp [k,uS,uR,T.cells];done)|fail) ?_)|(refine nv_ (I M) (by first|(simp [k,uS,uR,T.cells];done)|fail) ?_)|refine nb_ _ E ?_|refine nu L ?_|(exact ⟨i+1,⟨h,a⟩,(by omega),by (repeat' (first|(exact leI G)|exact wJ|refine And.intro ?_ ?_));done⟩)|(refine And.intro (by first|((simp [k,uS,uR,T.cells]);done)|fail) ?_)|refine aS ?_|refine nT_ ?_)
    ·rw [decide_eq_false O] at E a
     repeat' ((conv=>whnf);first|refine nr o ?_|(refine nv_ (.str C) (by first|(simp [k,uS,uR,T.cells];done)|fail) ?_)|refine nb_ _ E ?_|(exact ⟨i+1,⟨h,a⟩,(by omega),by (repeat' (first|(exact leI G)|exact wJ|refine And.intro ?_ ?_));done⟩)|(refine And.intro (by first|((simp [k,uS,uR,T.cells]);done)|fail) ?_)|refine aS ?_|refine nT_ ?_)
   ·have o: ¬(i:Int)<((st.map uS).length:Int):=by omega
    rw [List.drop_eq_nil_of_le h] at a;refine rnZ ?_;(exact ⟨(),a,wkZ⟩)
  ·rintro - cK;have Y:=rn cK;subst Y;exact rcZ
 cases y:st.find? (fun x=>decide (x.var=b)&&decide (x.n=(g:Int))) with
 |none=>
  exact u _ (fun e q p=>by rw [y] at p;cases p) (fun _=>rfl)
 |some x=>
  refine u _ (fun e q p w=>?_) (fun p=>by rw [y] at p;cases p);rw [y] at p;cases p;rw [w]
theorem KL{l:List Fd}{s:RS}{st:List RE}{h:List Int}{tick:Int}(e:HOk h)(a:s.kind=0):DCalls Tryz.prog 12 [fds l,xK s,esT st,hd h,I tick] (wF (doE l s st h tick)):=by
 have c:doE l s st h tick=⟨h,true,st⟩:=by unfold doE xO doR;rw [if_pos a];rfl
 rw [c];obtain ⟨x0,x1,x2,x3,x4,x5,x6,x7,x8,x9,rfl⟩:=ten e;obtain ⟨g,f,key,b,n,m⟩:=s;dsimp only at a;subst a;refine dl2 mixed [.cell 10 46] [wF _] Tryz.func12 Go.ST4.l12.2 ?_;exact rcZ
theorem K5(f:Option RE): ∃(ev:ByteArray) (c:T) (a b:Int),Jy f= .tup [.agg [.str ev,c,I a,I b],.bool f.isSome]/\a=(f.map (·.n)).getD 0/\(∀ x,f=some x->a=x.n/\b=x.at_):=by
 cases f with
 |none=>exact ⟨_,_,_,_,rfl,rfl,fun x h=>by cases h⟩
 |some x=>exact ⟨_,_,_,_,rfl,rfl,fun y h=>by cases h;exact ⟨rfl,rfl⟩⟩
theorem P9{l:List Fd}{s:RS}{st:List RE}{h:List Int}{tick:Int}(p:DO l s st h tick)(y: ∀x∈st,kOk x):DCalls Tryz.prog 12 [fds l,xK s,esT st,hd h,I tick] (wF (doE l s st h tick)):=by
 by_cases hk0:s.kind=0
 ·exact KL p.hok hk0
 obtain ⟨f,M⟩: ∃f,f=vh st s.var (keyOf l s.key h):=⟨_,rfl⟩
 obtain ⟨o,K⟩: ∃o,o=ofE st s.var:=⟨_,rfl⟩
 have hlen:=p.len;have hol:o.length<=1000000:=by rw [K];exact Nat.le_trans (List.length_filter_le _ _) hlen
 have JD:(keyOf l s.key h).length<=1000:=by unfold keyOf;rw [List.length_map];exact p.klen
 have P: ∀x,f=some x->0<=x.n/\x.n<=65535/\0<=x.at_/\x.at_<=1073741824:=fun x L=>by
  rw [M] at L;exact p.num x (xA L).1
 have H: ∀n a,DCalls Tryz.prog 62 [esT st,.agg [.str s.var,.slice 1 ((keyOf l s.key h).map I),I n,I a]] (esT (vQ ⟨s.var,keyOf l s.key h,n,a⟩ st)):=fun n a=>by
  have:=NW st (by omega) y ⟨s.var,keyOf l s.key h,n,a⟩ (show (keyOf l s.key h).length<2^60 by omega)
  rwa [I8 p.inc] at this
 have E:doE l s st h tick=⟨(doR l s f o h tick).1,(doR l s f o h tick).2.1,cL (doR l s f o h tick).2.2 st⟩:=by unfold doE xO;rw [<- M, <-K]
 have V:wa f o=(!f.isSome&&decide (100<=o.length)):=by unfold wa;rw [zl]
 have ht0:=p.t0;have ht1:=p.t1;have Oj:=NV l p.lok s.key p.keys (by have:=p.klen;omega) h p.hok;have zK:=MI st (by omega) y s.var (keyOf l s.key h) (by omega);rw [<- M] at zK;have Oi:=Hi st s.var (by omega);have hcn:vo st s.var=o.length:=by rw [K];rfl
 rw [hcn] at Oi;obtain ⟨ev,kt,Y,ea,B,j,O⟩:=K5 f;rw [B] at zK;have S:=fun (n:Int) (h0:0<=n)=>Hj l p.lok p.no h p.hok s.field n h0
 have u:=fun (n:Int) (h0:0<=n)=>ten (yN p.lok p.hok (name:=s.field) h0)
 have heb:0<=Y/\Y<=65535:=by
  cases f with
  |none=>rw [j];exact ⟨Int.le_refl 0,(by show (0:Int)<=65535;omega)⟩
  |some x=>obtain ⟨g1,g2⟩:=O x rfl;have:=P x rfl;omega
 have hkp:=p.k0;have Qu:=p.k1;have CT:s.kind=1\/s.kind=2\/s.kind=3\/s.kind=4\/s.kind=5\/s.kind=6:=by omega
 have hgo:(f.isSome=true/\wa f o=false)\/(f.isSome=false/\(o.length:Int)>=100/\wa f o=true)\/(f.isSome=false/\ ¬(o.length:Int)>=100/\wa f o=false):=by
  rw [V];cases f.isSome with
  |true=>exact Or.inl ⟨rfl,rfl⟩
  |false=>
   by_cases c:100<=o.length
   ·exact Or.inr (Or.inl ⟨rfl,by omega,by rw [decide_eq_true c];rfl⟩)
   ·exact Or.inr (Or.inr ⟨rfl,by omega,by rw [decide_eq_false c];rfl⟩)
 have v:s.kind=1->doR l s f o h tick=do1 l s f o h tick (keyOf l s.key h):=fun e=>by unfold doR;rw [if_neg hk0,if_pos e]
 have q:s.kind=2->doR l s f o h tick=do2 s f o h tick (keyOf l s.key h):=fun e=>by unfold doR;rw [if_neg hk0,if_neg (by omega),if_pos e]
 have r:s.kind=3->doR l s f o h tick=do3 s f h tick:=fun e=>by unfold doR;rw [if_neg hk0,if_neg (by omega),if_neg (by omega),if_pos e]
 have w:s.kind=4->doR l s f o h tick=do4 l s f o h tick (keyOf l s.key h):=fun e=>by unfold doR;rw [if_neg hk0,if_neg (by omega),if_neg (by omega),if_neg (by omega),if_pos e]
 have A:s.kind=5->doR l s f o h tick=do5 l s o h:=fun e=>by unfold doR;rw [if_neg hk0,if_neg (by omega),if_neg (by omega),if_neg (by omega),if_neg (by omega),if_pos e]
 have t:s.kind=6->doR l s f o h tick=do6 s f o h tick (keyOf l s.key h):=fun e=>by unfold doR;rw [if_neg hk0,if_neg (by omega),if_neg (by omega),if_neg (by omega),if_neg (by omega),if_neg (by omega)]
 obtain ⟨x0,x1,x2,x3,x4,x5,x6,x7,x8,x9,L⟩:=ten p.hok;have hk3:=p.k3;have hk4:=p.k4;have hk5:=p.k5;have hk6:=p.k6;have Mi:=p.lok;have hno:=p.no;have Q:=p.hok;have X:=p.inc;have Qn:=p.klen;clear p;rcases CT with z|z|z|z|z|z
 ·have hN:(if (65535:Int)<IntKind.wrap .i64 (Y+1) then 65535 else IntKind.wrap .i64 (Y+1))=min (Y+1) 65535:=by rw [oA (by omega) (by omega)];split <;> omega
  have hW1:=S (min (Y+1) 65535) (by omega);obtain ⟨y0,y1,y2,y3,y4,y5,y6,y7,y8,y9,hy⟩:=u (min (Y+1) 65535) (by omega);have R:=H (min (Y+1) 65535) tick;rw [hy] at hW1;have hdd:wa f o=false->doE l s st h tick=⟨[y0,y1,y2,y3,y4,y5,y6,y7,y8,y9],true,vQ ⟨s.var,keyOf l s.key h,min (Y+1) 65535,tick⟩ st⟩:=fun g=>by rw [E,v z];unfold do1;rw [g, <-j,hy];rfl
  rw [<- hN] at hW1 R hdd;clear hN hy;rcases hgo with ⟨hi,g⟩|⟨hi,hc,g⟩|⟨hi,hc,g⟩ <;> rw [hi] at zK
  ·have i:=hdd g;rw [i];clear hdd;clear S u H E j O P V v q r w A t i B M K y Q X;generalize keyOf l s.key h=ky at *
   obtain ⟨Z,C,key,b,n,m⟩:=s;dsimp only at *
   subst z;subst L;refine dl2 mixed [.cell 10 46] [wF _] Tryz.func12 Go.ST4.l12.2 ?_;exact rcZ
  ·have i:doE l s st h tick=⟨h,false,st⟩:=by rw [E,v z];unfold do1;rw [g];rfl
   rw [i];clear hdd;clear S u H E j O P V v q r w A t i B M K y Q X;generalize keyOf l s.key h=ky at *
   obtain ⟨Z,C,key,b,n,m⟩:=s;dsimp only at *
   subst z;subst L;refine dl2 mixed [.cell 10 46] [wF _] Tryz.func12 Go.ST4.l12.2 ?_;exact rcZ
  ·have i:=hdd g;rw [i];clear hdd;clear S u H E j O P V v q r w A t i B M K y Q X;generalize keyOf l s.key h=ky at *
   obtain ⟨Z,C,key,b,n,m⟩:=s;dsimp only at *
   subst z;subst L;refine dl2 mixed [.cell 10 46] [wF _] Tryz.func12 Go.ST4.l12.2 ?_;exact rcZ
 ·have R:=H Y tick;rcases hgo with ⟨hi,g⟩|⟨hi,hc,g⟩|⟨hi,hc,g⟩ <;> rw [hi] at zK
  ·have i:doE l s st h tick=⟨h,true,vQ ⟨s.var,keyOf l s.key h,Y,tick⟩ st⟩:=by rw [E,q z];unfold do2;rw [g, <-j];rfl
   rw [i];clear S u H E j O P V v q r w A t i B M K y Q X;generalize keyOf l s.key h=ky at *
   obtain ⟨Z,C,key,b,n,m⟩:=s;dsimp only at *
   subst z;subst L;refine dl2 mixed [.cell 10 46] [wF _] Tryz.func12 Go.ST4.l12.2 ?_;exact rcZ
  ·have i:doE l s st h tick=⟨h,false,st⟩:=by rw [E,q z];unfold do2;rw [g];rfl
   rw [i];clear S u H E j O P V v q r w A t i B M K y Q X;generalize keyOf l s.key h=ky at *
   obtain ⟨Z,C,key,b,n,m⟩:=s;dsimp only at *
   subst z;subst L;refine dl2 mixed [.cell 10 46] [wF _] Tryz.func12 Go.ST4.l12.2 ?_;exact rcZ
  ·have i:doE l s st h tick=⟨h,true,vQ ⟨s.var,keyOf l s.key h,Y,tick⟩ st⟩:=by rw [E,q z];unfold do2;rw [g, <-j];rfl
   rw [i];clear S u H E j O P V v q r w A t i B M K y Q X;generalize keyOf l s.key h=ky at *
   obtain ⟨Z,C,key,b,n,m⟩:=s;dsimp only at *
   subst z;subst L;refine dl2 mixed [.cell 10 46] [wF _] Tryz.func12 Go.ST4.l12.2 ?_;exact rcZ
 ·obtain ⟨q1,q2⟩:=hk3 z;cases U:f with
  |none=>
   have hi:f.isSome=false:=by rw [U];rfl
   rw [hi] at zK;have i:doE l s st h tick=⟨h,false,st⟩:=by rw [E,r z,U];rfl
   rw [i];clear hgo U;clear S u H E j O P V v q r w A t i B M K y Q X;generalize keyOf l s.key h=ky at *
   obtain ⟨Z,C,key,b,n,m⟩:=s;dsimp only at *
   subst z;subst L;refine dl2 mixed [.cell 10 46] [wF _] Tryz.func12 Go.ST4.l12.2 ?_;exact rcZ
  |some x=>
   have hi:f.isSome=true:=by rw [U];rfl
   rw [hi] at zK;obtain ⟨g1,g2⟩:=O x U;obtain ⟨b1,b2,b3,b4⟩:=P x U;have hw:IntKind.wrap .i64 (tick - s.n)=tick - s.n:=oA (by omega) (by omega)
   by_cases c:ea>=IntKind.wrap .i64 (tick - s.n)
   ·have i:doE l s st h tick=⟨h,true,st⟩:=by
     rw [E,r z,U];show (Dn.mk h (decide (x.at_>=tick - s.n)) st)=_
     rw [<- g2,decide_eq_true (by rw [hw] at c;exact c)]
    rw [i];clear hgo U hw;clear S u H E j O P V v q r w A t i B M K y Q X;generalize keyOf l s.key h=ky at *
    obtain ⟨Z,C,key,b,n,m⟩:=s;dsimp only at *
    subst z;subst L;refine dl2 mixed [.cell 10 46] [wF _] Tryz.func12 Go.ST4.l12.2 ?_;exact rcZ
   ·have i:doE l s st h tick=⟨h,false,st⟩:=by
     rw [E,r z,U];show (Dn.mk h (decide (x.at_>=tick - s.n)) st)=_
     rw [<- g2,decide_eq_false (by rw [hw] at c;exact c)]
    rw [i];clear hgo U hw;clear S u H E j O P V v q r w A t i B M K y Q X;generalize keyOf l s.key h=ky at *
    obtain ⟨Z,C,key,b,n,m⟩:=s;dsimp only at *
    subst z;subst L;refine dl2 mixed [.cell 10 46] [wF _] Tryz.func12 Go.ST4.l12.2 ?_;exact rcZ
 ·obtain ⟨b1,b2,b3,b4⟩:=hk4 z;have hFr:=MO st s.var (by omega) s.n s.m ⟨b1,b2⟩ (by omega);rw [show ofE st s.var=o from K.symm] at hFr;unfold HD at hFr;have hsp:=zi o o.length s.n;obtain ⟨F,hFF⟩: ∃F,F=wM o o.length s.n:=⟨_,rfl⟩
  rw [<- hFF] at hFr hsp;have hdT: ∀N,xw s f o=N->0<=N->(wa f o||(f.isNone&&decide (N>s.m)))=false-> ∃y0 y1 y2 y3 y4 y5 y6 y7 y8 y9,DCalls Tryz.prog 61 [fds l,hd h,.str s.field,I N] (hd [y0,y1,y2,y3,y4,y5,y6,y7,y8,y9])/\doE l s st h tick=⟨[y0,y1,y2,y3,y4,y5,y6,y7,y8,y9],true,vQ ⟨s.var,keyOf l s.key h,N,tick⟩ st⟩:=fun N hN h0 g=>by
   obtain ⟨y0,y1,y2,y3,y4,y5,y6,y7,y8,y9,hy⟩:=u N h0;have hW1:=S N h0;rw [hy] at hW1;refine ⟨y0,y1,y2,y3,y4,y5,y6,y7,y8,y9,hW1,?_⟩;rw [E,w z];unfold do4;rw [hN,g,hy];rfl
  have J: ∀N,xw s f o=N->(wa f o||(f.isNone&&decide (N>s.m)))=true->doE l s st h tick=⟨h,false,st⟩:=fun N hN g=>by
   rw [E,w z];unfold do4;rw [hN,g];rfl
  rcases hgo with ⟨hi,g⟩|⟨hi,hc,g⟩|⟨hi,hc,g⟩ <;> rw [hi] at zK
  ·have hN:xw s f o=Y:=by
    cases f with
    |none=>cases hi
    |some x=>exact (O x rfl).1.symm
   obtain ⟨y0,y1,y2,y3,y4,y5,y6,y7,y8,y9,hW1,i⟩:=hdT Y hN heb.1 (by rw [g,zl,hi];rfl);have R:=H Y tick;have hn0: ¬Y<0:=by omega
   rw [i];clear hdT J hFr hsp hFF hN;clear S u H E j O P V v q r w A t i B M K y Q X;generalize keyOf l s.key h=ky at *
   obtain ⟨Z,C,key,b,n,m⟩:=s;dsimp only at *
   subst z;subst L;refine dl2 mixed [.cell 10 46] [wF _] Tryz.func12 Go.ST4.l12.2 ?_;exact rcZ
  ·have i:=J _ rfl (by rw [g];rfl);rw [i];clear hdT J hFr hsp hFF;clear S u H E j O P V v q r w A t i B M K y Q X;generalize keyOf l s.key h=ky at *
   obtain ⟨Z,C,key,b,n,m⟩:=s;dsimp only at *
   subst z;subst L;refine dl2 mixed [.cell 10 46] [wF _] Tryz.func12 Go.ST4.l12.2 ?_;exact rcZ
  ·have hN:xw s f o=F:=by
    cases f with
    |none=>exact hFF.symm
    |some x=>cases hi
   by_cases c:F<=s.m
   ·rw [if_pos c] at hFr;obtain ⟨y0,y1,y2,y3,y4,y5,y6,y7,y8,y9,hW1,i⟩:=hdT F hN (by omega) (by rw [g,decide_eq_false (by omega),Bool.and_false];rfl);have R:=H F tick;have hn0: ¬F<0:=by omega
    rw [i];clear hdT J hsp hFF hN;clear S u H E j O P V v q r w A t i B M K y Q X;generalize keyOf l s.key h=ky at *
    obtain ⟨Z,C,key,b,n,m⟩:=s;dsimp only at *
    subst z;subst L;refine dl2 mixed [.cell 10 46] [wF _] Tryz.func12 Go.ST4.l12.2 ?_;exact rcZ
   ·rw [if_neg c] at hFr;have i:=J F hN (by rw [zl,hi,decide_eq_true (by omega)];simp);rw [i];clear hdT J hsp hFF hN;clear S u H E j O P V v q r w A t i B M K y Q X;generalize keyOf l s.key h=ky at *
    obtain ⟨Z,C,key,b,n,m⟩:=s;dsimp only at *
    subst z;subst L;refine dl2 mixed [.cell 10 46] [wF _] Tryz.func12 Go.ST4.l12.2 ?_;exact rcZ
 ·obtain ⟨b1,b2⟩:=hk5 z;have hB:=ML (s:=s) (st:=st) Mi hno (by omega) (by omega) Q b1 (fun x L hv=>b2 x L hv);have hDb:doE l s st h tick=BB l s st h:=by
   rw [E,A z,BB, <-K];unfold do5;split <;> rfl
  obtain ⟨y0,y1,y2,y3,y4,y5,y6,y7,y8,y9,hy⟩: ∃y0 y1 y2 y3 y4 y5 y6 y7 y8 y9,(BB l s st h).h=[y0,y1,y2,y3,y4,y5,y6,y7,y8,y9]:=by
   rw [DQ];split
   ·rename_i x hx2;have hm:=List.mem_of_find?_eq_some hx2;have hv:=List.find?_some hx2;rw [Bool.and_eq_true] at hv;exact ten (Aw Mi Q (b2 x hm (of_decide_eq_true hv.1)).2)
   ·exact ten Q
  rw [hDb];generalize BB l s st h=D at *
  obtain ⟨dh,dp,ds⟩:=D;dsimp only at hy;subst hy;clear S u H hgo E j O P V v q r w A t hDb B M K y Q X;generalize keyOf l s.key h=ky at *
  obtain ⟨Z,C,key,b,n,m⟩:=s;dsimp only at *
  subst z;subst L;refine dl2 mixed [.cell 10 46] [wF _] Tryz.func12 Go.ST4.l12.2 ?_;exact rcZ
 ·obtain ⟨b1,b2,b3,b4⟩:=hk6 z;obtain ⟨G,htn⟩: ∃G,G=yZ s f (keyOf l s.key h) tick:=⟨_,rfl⟩
  have hTk: ∀n2 W,(f.isSome=true->n2=Y/\W=ea)->(f.isSome=false->n2=s.n/\W=tick)->DCalls Tryz.prog 64 [xK s,.agg [.str s.var,.slice 1 ((keyOf l s.key h).map I),I n2,I W],I tick] (.agg [.str s.var,.slice 1 ((keyOf l s.key h).map I),I G.n,I G.at_])/\0<=G.n/\G.n<=2^40:=fun n2 W g1 g2=>by
   have hb:0<=n2/\n2<=65535/\0<=W/\W<=1073741824/\yZ s f (keyOf l s.key h) tick=xi s ⟨s.var,keyOf l s.key h,n2,W⟩ tick:=by
    cases f with
    |none=>obtain ⟨e1,e2⟩:=g2 rfl;subst e1;subst e2;exact ⟨by omega,by omega,by omega,by omega,rfl⟩
    |some x=>
     obtain ⟨e1,e2⟩:=g1 rfl;obtain ⟨e3,e4⟩:=O x rfl
     have:=P x rfl
     obtain ⟨q1,q2,q3⟩:=xA M.symm;refine ⟨by omega,by omega,by omega,by omega,?_⟩;show xi s x tick=_
     rw [e1,e2,e3,e4, <-q2, <-q3]
   obtain ⟨c1,c2,c3,c4,c5⟩:=hb;have hT:=Lu s ⟨s.var,keyOf l s.key h,n2,W⟩ tick ⟨b1,b2⟩ ⟨b3,b4⟩ ⟨ht0,ht1⟩ ⟨c1,c2⟩ ⟨c3,c4⟩;have Qt:0<=(if tick>W then (tick - W).tdiv s.m else 0)/\(if tick>W then (tick - W).tdiv s.m else 0)<=1073741824:=by
    split
    ·have:=Int.tdiv_le_self (a:=tick - W) s.m (by omega)
     exact ⟨Int.tdiv_nonneg (by omega) (by omega),by omega⟩
    ·exact ⟨Int.le_refl 0,by omega⟩
   have hp:(xi s ⟨s.var,keyOf l s.key h,n2,W⟩ tick).var=s.var/\(xi s ⟨s.var,keyOf l s.key h,n2,W⟩ tick).key=keyOf l s.key h/\0<=(xi s ⟨s.var,keyOf l s.key h,n2,W⟩ tick).n/\(xi s ⟨s.var,keyOf l s.key h,n2,W⟩ tick).n<=2^40:=by
    unfold xi;dsimp only;generalize (if tick>W then (tick - W).tdiv s.m else 0)=k at *
    split
    ·exact ⟨rfl,rfl,by dsimp only;omega,by dsimp only;omega⟩
    ·exact ⟨rfl,rfl,by dsimp only;omega,by dsimp only;omega⟩
   rw [<- c5, <-htn] at hT hp;obtain ⟨p1,p2,p3,p4⟩:=hp;refine ⟨?_,p3,p4⟩
   have:uS G= .agg [.str s.var,.slice 1 ((keyOf l s.key h).map I),I G.n,I G.at_]:=by unfold uS uR;rw [p1,p2]
   rw [<- this];exact hT
  have J:wa f o=true->doE l s st h tick=⟨h,false,st⟩:=fun g=>by rw [E,t z];unfold do6;rw [g];rfl
  have hdP:wa f o=false->G.n>0->doE l s st h tick=⟨h,true,vQ ⟨s.var,keyOf l s.key h,G.n - 1,G.at_⟩ st⟩:=fun g c=>by rw [E,t z];unfold do6;rw [<- htn,g,if_neg (by simp),if_pos c];rfl
  have hdN:wa f o=false-> ¬G.n>0->doE l s st h tick=⟨h,false,vQ ⟨s.var,keyOf l s.key h,G.n,G.at_⟩ st⟩:=fun g c=>by rw [E,t z];unfold do6;rw [<- htn,g,if_neg (by simp),if_neg c];rfl
  rcases hgo with ⟨hi,g⟩|⟨hi,hc,g⟩|⟨hi,hc,g⟩ <;> rw [hi] at zK
  ·obtain ⟨hT,hT0,hT1⟩:=hTk Y ea (fun _=>⟨rfl,rfl⟩) (fun hh=>by rw [hi] at hh;cases hh);have hwn:W64 (G.n - 1)=G.n - 1:=oA (by omega) (by omega)
   by_cases c:G.n>0
   ·have i:=hdP g c;have R:=H (G.n - 1) G.at_;have hz: ¬G.n=0:=by omega
    rw [i];rw [<- hwn] at R ⊢;clear J hdP hdN hTk htn hwn;clear S u H E j O P V v q r w A t i B M K y Q X;generalize keyOf l s.key h=ky at *
    obtain ⟨Z,C,key,b,n,m⟩:=s;dsimp only at *
    subst z;subst L;refine dl2 mixed [.cell 10 46] [wF _] Tryz.func12 Go.ST4.l12.2 ?_;exact rcZ
   ·have i:=hdN g c;have R:=H G.n G.at_;have hz:G.n=0:=by omega
    rw [i];clear J hdP hdN hTk htn hwn;clear S u H E j O P V v q r w A t i B M K y Q X;generalize keyOf l s.key h=ky at *
    obtain ⟨Z,C,key,b,n,m⟩:=s;dsimp only at *
    subst z;subst L;refine dl2 mixed [.cell 10 46] [wF _] Tryz.func12 Go.ST4.l12.2 ?_;exact rcZ
  ·have i:=J g;rw [i];clear J hdP hdN hTk htn;clear S u H E j O P V v q r w A t i B M K y Q X;generalize keyOf l s.key h=ky at *
   obtain ⟨Z,C,key,b,n,m⟩:=s;dsimp only at *
   subst z;subst L;refine dl2 mixed [.cell 10 46] [wF _] Tryz.func12 Go.ST4.l12.2 ?_;exact rcZ
  ·obtain ⟨hT,hT0,hT1⟩:=hTk s.n tick (fun hh=>by rw [hi] at hh;cases hh) (fun _=>⟨rfl,rfl⟩);have hwn:W64 (G.n - 1)=G.n - 1:=oA (by omega) (by omega)
   by_cases c:G.n>0
   ·have i:=hdP g c;have R:=H (G.n - 1) G.at_;have hz: ¬G.n=0:=by omega
    rw [i];rw [<- hwn] at R ⊢;clear J hdP hdN hTk htn hwn;clear S u H E j O P V v q r w A t i B M K y Q X;generalize keyOf l s.key h=ky at *
    obtain ⟨Z,C,key,b,n,m⟩:=s;dsimp only at *
    subst z;subst L;refine dl2 mixed [.cell 10 46] [wF _] Tryz.func12 Go.ST4.l12.2 ?_;exact rcZ
   ·have i:=hdN g c;have R:=H G.n G.at_;have hz:G.n=0:=by omega
    rw [i];clear J hdP hdN hTk htn hwn;clear S u H E j O P V v q r w A t i B M K y Q X;generalize keyOf l s.key h=ky at *
    obtain ⟨Z,C,key,b,n,m⟩:=s;dsimp only at *
    subst z;subst L;refine dl2 mixed [.cell 10 46] [wF _] Tryz.func12 Go.ST4.l12.2 ?_;exact rcZ
end Go.ST
end
section
namespace Go.ST6
open Go Go.DL Go.Proofs
def l47:LWZ Tryz.prog Tryz.f47 8 []:=⟨_,lrZ⟩
def OK:LWZ Tryz.prog Tryz.f104 23 []:=⟨_,lrZ⟩
def OI:LWZ Tryz.prog Tryz.f103 32 []:=⟨_,lrZ⟩
def l97:LWZ Tryz.prog Tryz.f97 27 []:=⟨_,lrZ⟩
def l46:LWZ Tryz.prog Tryz.f46 32 []:=⟨_,lrZ⟩
def OF:LWZ Tryz.prog Tryz.f100 36 [137]:=⟨_,lrZ⟩
def l13:LWZ Tryz.prog Tryz.f13 68 []:=⟨_,lrZ⟩
def l44:LWZ Tryz.prog Tryz.f44 21 []:=⟨_,lrZ⟩
end Go.ST6
end
section
namespace Go.ST
open Go Go.DL Go.MM Go.Proofs
open Go.TY hiding Fd
theorem NY(a b:RE):a=b↔vd a b=0/\a.n=b.n/\a.at_=b.at_:=by
 rw [xQ];obtain ⟨v,k,n,t⟩:=a;obtain ⟨g,c,e,f⟩:=b;simp [and_assoc]
theorem LL(a b:RE)(i:kOk a)(j:kOk b):DCalls Tryz.prog 104 [.agg (uR a),.agg (uR b)] (.bool (decide (a=b))):=by
 have k:=ze a b i j;have c:=NY a b;refine dl2 mixed [.tmp 4] [.bool _] Tryz.func104 Go.ST6.OK.2 ?_
 by_cases f:vd a b=0
 ·by_cases g:a.n=b.n
  ·by_cases h:a.at_=b.at_
   ·rw [decide_eq_true (c.2 ⟨f,g,h⟩)];exact rcZ
   ·rw [decide_eq_false fun e=>h (c.1 e).2.2];exact rcZ
  ·rw [decide_eq_false fun e=>g (c.1 e).2.1];exact rcZ
 ·rw [decide_eq_false fun e=>f (c.1 e).1];exact rcZ
theorem FY{a b:List RE}(c:a.length=b.length):decide (a=b)=true↔ ∀j (h:j<a.length) (f:j<b.length),a[j]=b[j]:=by
 rw [decide_eq_true_eq];constructor
 ·intro e;subst e;intros;rfl
 ·intro h;exact List.ext_getElem c h
theorem Kf(a b:List RE)(y:a.length<2^40)(z:b.length<2^40)(l: ∀x∈a,kOk x)(m: ∀x∈b,kOk x):DCalls Tryz.prog 103 [esT a,esT b,.clos 104 []] (.bool (decide (a=b))):=by
 have H:((a.map uS).length:Int)=a.length:=by rw [List.length_map]
 have G:((b.map uS).length:Int)=b.length:=by rw [List.length_map]
 refine dl2 mixed [.tmp 6] [.bool _] Tryz.func103 Go.ST6.OI.2 ?_
 by_cases c:a.length=b.length
 case neg=>
  rw [decide_eq_false fun e=>c (by rw [e])];have A:((a.map uS).length:Int)≠((b.map uS).length:Int):=by omega
  exact rcZ
 have w:((a.map uS).length:Int)=((b.map uS).length:Int):=by omega
 refine rnZ ?_;refine uA (α:=Nat) (fun i=>{sl:=[(1,.t (esT b)),(2,.t (.clos 104 [])),(15,.t (esT a)),(16,.t (I a.length)),(17,.t (I i))],bx:=[]})
  (fun i=>i<=a.length/\ ∀j (h:j<a.length) (f:j<b.length),j<i->a[j]=b[j]) (fun i=>a.length - i) 0 ⟨Nat.zero_le _,fun j _ _ h=>by omega⟩ ?_ ?_
 ·exact wkZ
 rintro i ⟨hi,u⟩;rcases Nat.lt_or_ge i a.length with h|h
 ·have f:i<b.length:=by omega
  have n:(i:Int)<(a.length:Int):=by omega
  have s:=LL a[i] b[i] (l _ (List.getElem_mem h)) (m _ (List.getElem_mem f));have p:((i+1:Nat):Int)=IntKind.wrap .i64 ((i:Int)+1):=by rw [oA] <;> omega
  have D:(a.map uS)[((i:Int)).toNat]?.getD .nil= .agg (uR a[i]):=by rw [Int.toNat_natCast];exact vL h
  have E:(b.map uS)[((i:Int)).toNat]?.getD .nil= .agg (uR b[i]):=by rw [Int.toNat_natCast];exact vL f
  have B:0<=(i:Int)/\(i:Int)<((a.map uS).length:Int):=by omega
  have C:0<=(i:Int)/\(i:Int)<((b.map uS).length:Int):=by omega
  by_cases e:a[i]=b[i]
  ·rw [decide_eq_true e] at s;have q: ∀j (h:j<a.length) (f:j<b.length),j<i+1->a[j]=b[j]:=fun j g k F=>by
    rcases Nat.lt_or_ge j i with r|r
    ·exact u j g k r
    ·obtain rfl:j=i:=by omega
     exact e
   have o:a.length - (i+1)<a.length - i:=by omega
   refine rnZ ?_;(exact ⟨i+1,⟨h,q⟩,o,by (repeat' (first|(exact leI p)|exact wJ|refine And.intro ?_ ?_));done⟩)
  ·rw [decide_eq_false e] at s;rw [decide_eq_false fun v=>e (by subst v;rfl)];exact rcZ
 ·have n: ¬(i:Int)<(a.length:Int):=by omega
  rw [(FY c).2 fun j g k=>u j g k (by omega)];exact rcZ
theorem MV(a b:List RE)(f:a.length<2^40)(g:b.length<2^40)(c: ∀x∈a,kOk x)(e: ∀x∈b,kOk x):DCalls Tryz.prog 47 [esT a,esT b] (.bool (decide (a=b))):=by
 have h:=Kf a b f g c e;refine dl2 mixed [.tmp 4] [.bool _] Tryz.func47 Go.ST6.l47.2 ?_;exact rcZ
theorem MJ(a b:List RE)(V:a.length<2^40)(W:b.length<2^40)(J: ∀x∈a,kOk x)(K: ∀x∈b,kOk x):DCalls Tryz.prog 13 [esT a,esT b] (.bool (decide (a=b))):=by
 have hn:((a.map uS).length:Int)=a.length:=by rw [List.length_map]
 have Z:((b.map uS).length:Int)=b.length:=by rw [List.length_map]
 refine dl2 mixed [.tmp 4] [.bool _] Tryz.func13 Go.ST6.l13.2 ?_
 by_cases v:a.length=b.length
 case neg=>
  rw [decide_eq_false fun e=>v (by rw [e])];have X:((a.map uS).length:Int)≠((b.map uS).length:Int):=by omega
  exact rcZ
 have U:((a.map uS).length:Int)=((b.map uS).length:Int):=by omega
 refine rnZ ?_;refine uA (α:=Nat) (fun i=>{sl:=[(0,.t (esT a)),(1,.t (esT b)),(5,.t (I i))],bx:=[]})
  (fun i=>i<=a.length/\ ∀j (h:j<a.length) (C:j<b.length),j<i->a[j]=b[j]) (fun i=>a.length - i) 0 ⟨Nat.zero_le _,fun j _ _ h=>by omega⟩ ?_ ?_
 ·exact wkZ
 rintro i ⟨hi,N⟩;rcases Nat.lt_or_ge i a.length with h|h
 ·have C:i<b.length:=by omega
  have m:(i:Int)<((a.map uS).length:Int):=by omega
  have M:((i+1:Nat):Int)=IntKind.wrap .i64 ((i:Int)+1):=by rw [oA] <;> omega
  have H:=Ef a[i].key b[i].key (J _ (List.getElem_mem h)) (K _ (List.getElem_mem C));have f:=ggZ h;have g:=ggZ C;have Q:=za (a:=a[i].key) (b:=b[i].key);have P:=eqS a[i].var b[i].var;have k: ¬a[i]=b[i]->decide (a=b)=false:=fun e=>decide_eq_false fun S=>e (by subst S;rfl)
  have p:a[i]=b[i]-> ∀j (h:j<a.length) (C:j<b.length),j<i+1->a[j]=b[j]:=fun e j F G Y=>by
   rcases Nat.lt_or_ge j i with R|R
   ·exact N j F G R
   ·obtain rfl:j=i:=by omega
    exact e
  have L:a.length - (i+1)<a.length - i:=by omega
  generalize a[i]=x at *
  generalize b[i]=y at *
  obtain ⟨n,D,r,w⟩:=x;obtain ⟨o,E,s,z⟩:=y;dsimp only at H Q P;have l:(!(n.toList==o.toList))= !decide (n=o):=by rw [P]
  clear N P;generalize wu D E=c at *
  by_cases A:n=o
  ·rw [decide_eq_true A] at l
   by_cases q:r=s
   ·by_cases u:w=z
    ·by_cases B:c=0
     ·have e:(⟨n,D,r,w⟩:RE)=⟨o,E,s,z⟩:=by rw [A,q,u,Q.1 B]
      have O:=p e;clear p k
      repeat' ((conv=>whnf);first|refine nr m ?_|(refine nv_ (.str n) (by first|(simp [f,uS,uR,T.cells];done)|fail) ?_)|(refine nv_ (.str o) (by first|(simp [g,uS,uR,T.cells];done)|fail) ?_)|refine nb_ _ l ?_|(refine nv_ (I r) (by first|(simp [f,uS,uR,T.cells];done)|fail) ?_)|(refine nv_ (I s) (by first|(simp [g,uS,uR,T.cells];done)|fail) ?_)|(refine nv_ (I w) (by first|(simp [f,uS,uR,T.cells];done)|fail) ?_)|(refine nv_ (I z) (by first|(simp [g,uS,uR,T.cells];done)|fail) ?_)|(refine nv_ (.slice 1 (D.map I)) (by first|(simp [f,uS,uR,T.cells];done)|fail) ?_)|(refine nv_ (.slice 1 (E.map I)) (by first|(simp [g,uS,uR,T.cells];done)|fail) ?_)|refine nw q ?_|refine nw u ?_|refine pC _ (H) ?_|refine nw B ?_|(exact ⟨i+1,⟨h,O⟩,L,by (repeat' (first|(exact leI M)|exact wJ|refine And.intro ?_ ?_));done⟩)|(refine And.intro (by first|((simp [f,uS,uR,T.cells]);done)|((simp [g,uS,uR,T.cells]);done)|fail) ?_)|refine aS ?_|refine nT_ ?_)
     ·rw [k fun e=>B (Q.2 (RE.mk.inj e).2.1)];clear p k
      repeat' ((conv=>whnf);first|exact trivial|refine nr m ?_|(refine nv_ (.str n) (by first|(simp [f,uS,uR,T.cells];done)|fail) ?_)|(refine nv_ (.str o) (by first|(simp [g,uS,uR,T.cells];done)|fail) ?_)|refine nb_ _ l ?_|(refine nv_ (I r) (by first|(simp [f,uS,uR,T.cells];done)|fail) ?_)|(refine nv_ (I s) (by first|(simp [g,uS,uR,T.cells];done)|fail) ?_)|(refine nv_ (I w) (by first|(simp [f,uS,uR,T.cells];done)|fail) ?_)|(refine nv_ (I z) (by first|(simp [g,uS,uR,T.cells];done)|fail) ?_)|(refine nv_ (.slice 1 (D.map I)) (by first|(simp [f,uS,uR,T.cells];done)|fail) ?_)|(refine nv_ (.slice 1 (E.map I)) (by first|(simp [g,uS,uR,T.cells];done)|fail) ?_)|refine nw q ?_|refine nw u ?_|refine pC _ (H) ?_|refine ny B ?_|refine rb0 ?_|(refine And.intro (by first|((simp [f,uS,uR,T.cells]);done)|((simp [g,uS,uR,T.cells]);done)|fail) ?_)|refine aS ?_|refine nT_ ?_)
    ·rw [k fun e=>u (RE.mk.inj e).2.2.2];clear p k
     repeat' ((conv=>whnf);first|exact trivial|refine nr m ?_|(refine nv_ (.str n) (by first|(simp [f,uS,uR,T.cells];done)|fail) ?_)|(refine nv_ (.str o) (by first|(simp [g,uS,uR,T.cells];done)|fail) ?_)|refine nb_ _ l ?_|(refine nv_ (I r) (by first|(simp [f,uS,uR,T.cells];done)|fail) ?_)|(refine nv_ (I s) (by first|(simp [g,uS,uR,T.cells];done)|fail) ?_)|(refine nv_ (I w) (by first|(simp [f,uS,uR,T.cells];done)|fail) ?_)|(refine nv_ (I z) (by first|(simp [g,uS,uR,T.cells];done)|fail) ?_)|refine nw q ?_|refine ny u ?_|refine rb0 ?_|(refine And.intro (by first|((simp [f,uS,uR,T.cells]);done)|((simp [g,uS,uR,T.cells]);done)|fail) ?_)|refine aS ?_|refine nT_ ?_)
   ·rw [k fun e=>q (RE.mk.inj e).2.2.1];clear p k
    repeat' ((conv=>whnf);first|exact trivial|refine nr m ?_|(refine nv_ (.str n) (by first|(simp [f,uS,uR,T.cells];done)|fail) ?_)|(refine nv_ (.str o) (by first|(simp [g,uS,uR,T.cells];done)|fail) ?_)|refine nb_ _ l ?_|(refine nv_ (I r) (by first|(simp [f,uS,uR,T.cells];done)|fail) ?_)|(refine nv_ (I s) (by first|(simp [g,uS,uR,T.cells];done)|fail) ?_)|refine ny q ?_|refine rb0 ?_|(refine And.intro (by first|((simp [f,uS,uR,T.cells]);done)|((simp [g,uS,uR,T.cells]);done)|fail) ?_)|refine aS ?_|refine nT_ ?_)
  ·rw [decide_eq_false A] at l;rw [k fun e=>A (RE.mk.inj e).1];clear p k
   repeat' ((conv=>whnf);first|exact trivial|refine nr m ?_|(refine nv_ (.str n) (by first|(simp [f,uS,uR,T.cells];done)|fail) ?_)|(refine nv_ (.str o) (by first|(simp [g,uS,uR,T.cells];done)|fail) ?_)|refine nb_ _ l ?_|refine rb0 ?_|(refine And.intro (by first|((simp [f,uS,uR,T.cells]);done)|((simp [g,uS,uR,T.cells]);done)|fail) ?_)|refine aS ?_|refine nT_ ?_)
 ·have m: ¬(i:Int)<((a.map uS).length:Int):=by omega
  rw [(FY v).2 fun j F G=>N j F G (by omega)];exact rcZ
def Bo(xs:List Int):Bool:=decide (xs.length=10)&&(List.range xs.length).all fun i=>decide (xs.getD i 0=min ((i:Int)+1) 7)
theorem Gt(xs:List Int)(u:xs.length<2^40):DCalls Tryz.prog 44 [.slice 1 (xs.map I)] (.bool (Bo xs)):=by
 have v:((xs.map I).length:Int)=xs.length:=by rw [List.length_map]
 refine dl2 mixed [.tmp 2] [.bool _] Tryz.func44 Go.ST6.l44.2 ?_
 skip
 refine tT 0 (α:=Nat) (β:=Unit) (fun i=>{sl:=[(0,.t (.slice 1 (xs.map I))),(3,.t (I i))],bx:=[]})
  (fun i=>i<=xs.length/\ ∀j,j<i->xs.getD j 0=min ((j:Int)+1) 7) (fun i=>xs.length - i) (fun _=>{sl:=[(0,.t (.slice 1 (xs.map I)))],bx:=[]}) (fun _=> ∀j,j<xs.length->xs.getD j 0=min ((j:Int)+1) 7) 0 ⟨Nat.zero_le _,fun j h=>by omega⟩ ?_ ?_ ?_
 ·exact wkZ
 ·rintro i ⟨hi,e⟩;rcases Nat.lt_or_ge i xs.length with h|h
  ·have g:(i:Int)<((xs.map I).length:Int):=by omega
   have l:((i+1:Nat):Int)=IntKind.wrap .i64 ((i:Int)+1):=by rw [oA] <;> omega
   have s:(xs.map I)[((i:Int)).toNat]?.getD .nil=I xs[i]:=by simp [h]
   have a:xs.getD i 0=xs[i]:=by simp [h]
   have b:(if (7:Int)<IntKind.wrap .i64 ((i:Int)+1) then 7 else IntKind.wrap .i64 ((i:Int)+1))=min ((i:Int)+1) 7:=by rw [oA (by omega) (by omega)];split <;> omega
   have k:xs.length - (i+1)<xs.length - i:=by omega
   by_cases c:xs[i]=(if (7:Int)<IntKind.wrap .i64 ((i:Int)+1) then 7 else IntKind.wrap .i64 ((i:Int)+1))
   ·have m: ∀j,j<i+1->xs.getD j 0=min ((j:Int)+1) 7:=fun j f=>by
     rcases Nat.lt_or_ge j i with o|o
     ·exact e j o
     ·obtain rfl:j=i:=by omega
      rw [a,c,b]
    refine rnZ ?_;(exact ⟨i+1,⟨h,m⟩,k,by (repeat' (first|(exact leI l)|exact wJ|refine And.intro ?_ ?_));done⟩)
   ·have r:Bo xs=false:=by
     unfold Bo;rw [Bool.and_eq_false_iff];refine Or.inr ?_;rw [List.all_eq_false];refine ⟨i,List.mem_range.2 h,?_⟩;rw [a, <-b];simpa using c
    rw [r];exact rcZ
  ·have g: ¬(i:Int)<((xs.map I).length:Int):=by omega
   have n: ∀j,j<xs.length->xs.getD j 0=min ((j:Int)+1) 7:=fun j f=>e j (by omega)
   refine rnZ ?_;(exact ⟨(),n,wkZ⟩)
 ·rintro - e;have p:((List.range xs.length).all fun i=>decide (xs.getD i 0=min ((i:Int)+1) 7))=true:=by
   rw [List.all_eq_true];intro j f;exact decide_eq_true (e j (List.mem_range.1 f))
  unfold Bo;rw [p,Bool.and_true]
  by_cases c:xs.length=10
  ·have q:((xs.map I).length:Int)=10:=by omega
   rw [decide_eq_true c];exact rcZ
  ·have q: ¬((xs.map I).length:Int)=10:=by omega
   rw [decide_eq_false c];exact rcZ
end Go.ST
end
section
end
section
namespace Go.RC
open Go Go.DL Go.Proofs
theorem mixed:Tryz.prog.follows .mixedOrders=true:=by kernel_rfl
abbrev I(n:Int):T:=.int .i64 n
abbrev Y(n:Int):T:=.int .u8 n
abbrev Q(n:Int):T:=.int .u64 n
theorem w8{n:Int}(a:0<=n)(b:n<256):IntKind.wrap .u8 n=n:=by
 unfold IntKind.wrap;simp [IntKind.bits,IntKind.signed];omega
theorem w64{n:Int}(a:0<=n)(b:n<18446744073709551616):IntKind.wrap .u64 n=n:=by
 unfold IntKind.wrap;simp [IntKind.bits,IntKind.signed];omega
theorem or_comm(k:IntKind)(a b:Int):jl .or k a b=jl .or k b a:=by
 unfold jl;simp only [BitVec.or_comm]
end Go.RC
end
section
end
section
end
section
end
section
end
section
namespace Go.RC
open Go Go.DL Go.Proofs
def wv(bs:List Int):Prop:= ∀b∈bs,0<=b/\b<256
def sB(x:ByteArray):List Int:=x.data.toList.map fun b=>(b.toNat:Int)
theorem ET(x:ByteArray):b9 x=(sB x).map Y:=by
 unfold b9 sB;rw [List.map_map];rfl
theorem CF(x:ByteArray):(sB x).length=x.size:=by
 unfold sB;rw [List.length_map,Array.length_toList];rfl
theorem EM(x:ByteArray):wv (sB x):=fun b a=>by
 obtain ⟨u,_,rfl⟩:=List.mem_map.1 a
 have:=u.toNat_lt
 omega
theorem Hl(l:List Int)(h:wv l):sB (pc (l.map Y))=l:=by
 unfold sB pc;simp only [List.map_map];refine (List.map_congr_left (g:=id) fun b a=>?_).trans (List.map_id l);obtain ⟨c,e⟩:=h b a;show (((UInt8.ofNat b.toNat).toNat:Nat):Int)=b
 rw [UInt8.toNat_ofNat',Nat.mod_eq_of_lt (by omega)];omega
def l99:LWZ Tryz.prog Tryz.f99 27 [8000020,8000025]:=⟨_,lrZ⟩
def OG:LWZ Tryz.prog Tryz.f101 8 [99]:=⟨_,lrZ⟩
def O9:LWZ Tryz.prog Tryz.f138 24 [99]:=⟨_,lrZ⟩
def OH:LWZ Tryz.prog Tryz.f102 5 [138]:=⟨_,lrZ⟩
def l96:LWZ Tryz.prog Tryz.f96 53 []:=⟨_,lrZ⟩
def O7:LWZ Tryz.prog Tryz.f135 34 []:=⟨_,lrZ⟩
def O8:LWZ Tryz.prog Tryz.f136 51 [8000043]:=⟨_,lrZ⟩
def l98:LWZ Tryz.prog Tryz.f98 10 []:=⟨_,lrZ⟩
def vb(z:Nat):List Int:=if h:z<128 then [(z:Int)] else ((z % 128+128:Nat):Int)::vb (z / 128)
termination_by z
decreasing_by omega
theorem Ba{z:Nat}(h:z<128):vb z=[(z:Int)]:=by rw [vb,dif_pos h]
theorem Cg{z:Nat}(h: ¬z<128):vb z=((z % 128+128:Nat):Int)::vb (z / 128):=by rw [vb,dif_neg h]
theorem LQ(z:Nat):wv (vb z):=by
 induction z using Nat.strongRecOn with
 |ind z c=>
  intro b a
  by_cases h:z<128
  ·rw [Ba h] at a;rw [List.mem_singleton.1 a];omega
  ·rw [Cg h] at a;rcases List.mem_cons.1 a with rfl|a
   ·omega
   ·exact c (z / 128) (by omega) b a
theorem Jk: ∀(k z:Nat),z<128^(k+1)->(vb z).length<=k+1
 |0,z,h=>by rw [Ba (by simpa using h)];simp
 |k+1,z,h=>by
  by_cases a:z<128
  ·rw [Ba a];simp
  ·rw [Cg a,List.length_cons]
   have:=Jk k (z / 128) (Nat.div_lt_of_lt_mul (by rw [<- Nat.pow_succ'];exact h))
   omega
def zz(n:Int):Nat:=if 0<=n then (2 * n).toNat else (2 * (-1 - n)+1).toNat
def i64(n:Int):Prop:= -9223372036854775808<=n/\n<9223372036854775808
theorem Io{n:Int}(h:i64 n):zz n<18446744073709551616:=by
 unfold zz;obtain ⟨a,b⟩:=h;split <;> omega
def vi(n:Int):List Int:=vb (zz n)
theorem Au(n:Int):wv (vi n):=LQ _
theorem CJ{n:Int}(h:i64 n):(vi n).length<=10:=Jk 9 _ (Nat.lt_of_lt_of_le (Io h) (by decide))
theorem Ko{a:Int}(e:0<=a)(g:a<18446744073709551616):jl .xor .u64 a 18446744073709551615=18446744073709551615 - a:=by
 obtain ⟨a,rfl⟩:=Int.eq_ofNat_of_zero_le e;have f:a<2^64:=by omega
 have b:(BitVec.ofInt 64 18446744073709551615)=BitVec.allOnes 64:=by decide
 have c:(BitVec.ofInt 64 ((a:Nat):Int)).toNat=a:=by
  rw [BitVec.ofInt_natCast,BitVec.toNat_ofNat,Nat.mod_eq_of_lt f]
 show IntKind.u64.wrap ((BitVec.ofInt 64 ((a:Nat):Int) ^^^ BitVec.ofInt 64 18446744073709551615).toNat:Int)=_
 rw [b,BitVec.xor_allOnes,BitVec.toNat_not,c,w64 (by omega) (by omega)];omega
theorem xor_zero{a:Int}(c:0<=a)(f:a<18446744073709551616):jl .xor .u64 a 0=a:=by
 obtain ⟨a,rfl⟩:=Int.eq_ofNat_of_zero_le c;have e:a<2^64:=by omega
 have b:(BitVec.ofInt 64 ((a:Nat):Int)).toNat=a:=by
  rw [BitVec.ofInt_natCast,BitVec.toNat_ofNat,Nat.mod_eq_of_lt e]
 show IntKind.u64.wrap ((BitVec.ofInt 64 ((a:Nat):Int) ^^^ BitVec.ofInt 64 0).toNat:Int)=_
 rw [show BitVec.ofInt 64 0=0#64 from rfl,BitVec.xor_zero,b,w64 (by omega) (by omega)]
theorem C6(n:Int):IntKind.u64.wrap n=n % 18446744073709551616:=by
 unfold IntKind.wrap;simp [IntKind.bits,IntKind.signed]
theorem zig{n:Int}(h:i64 n):jl .xor .u64 (IntKind.u64.wrap (IntKind.u64.wrap n * 2^1)) (IntKind.u64.wrap (n.fdiv (2^63)))=zz n:=by
 obtain ⟨b,c⟩:=h;unfold zz;rw [show (2:Int)^1=2 from rfl,show (2:Int)^63=9223372036854775808 from rfl];rw [Int.fdiv_eq_ediv_of_nonneg _ (by decide)]
 by_cases a:0<=n
 ·rw [if_pos a,show n / 9223372036854775808=0 by omega,w64 (n:=n) a (by omega),w64 (n:=n * 2) (by omega) (by omega),w64 (n:=0) (by omega) (by omega),xor_zero (by omega) (by omega)];omega
 ·rw [if_neg a,show n / 9223372036854775808= -1 by omega];rw [show IntKind.u64.wrap (-1)=18446744073709551615 from rfl,Ko (by rw [C6];omega) (by rw [C6];omega),C6,C6];omega
theorem NM: ∀b:Fin 256,jl .or .u8 (b.val:Int) 128=((b.val % 128+128:Nat):Int):=by decide+kernel
theorem L0(z:Nat):jl .or .u8 (IntKind.u8.wrap (z:Int)) 128=((z % 128+128:Nat):Int):=by
 have e:IntKind.u8.wrap (z:Int)=((z % 256:Nat):Int):=by
  unfold IntKind.wrap;simp [IntKind.bits,IntKind.signed]
 have:=NM ⟨z % 256,Nat.mod_lt _ (by decide)⟩
 dsimp only at this;rw [e,this];omega
theorem flY(xs:List Int): ∀t∈(xs.map Y).flatMap T.cells,t.flat=true:=fun t a=>by
 obtain ⟨x,b,a⟩:=List.mem_flatMap.1 a;obtain ⟨n,_,rfl⟩:=List.mem_map.1 b;rw [List.mem_singleton.1 a];rfl
theorem DX(n:Int)(h:i64 n):dA Tryz.prog 99 [I n] 5 1 ((vi n).map Y) []:=by
 refine tG (rs:=[.tmp 2]) mixed Tryz.func99 l99.2 rfl rfl rfl (nlZ rfl) ?_;have k:=Io h;have j:=CJ h;have i:=zig h;unfold vi at j ⊢;generalize zz n=z0 at k j i;refine rnZ ?_;refine tT 0 (α:=Nat×Nat×List Int) (β:=Nat×Nat×List Int) (fun q=>{sl:=[(3,.t (Q q.2.1)),(4,.own q.1 5 1 (q.2.2.map Y))],bx:=[]})
  (fun q=>q.2.1<18446744073709551616/\q.2.2++vb q.2.1=vb z0) (fun q=>q.2.1) (fun q=>{sl:=[(3,.t (Q q.2.1)),(4,.own q.1 5 1 (q.2.2.map Y))],bx:=[]}) (fun q=>q.2.1<128/\q.2.2++vb q.2.1=vb z0) (21,z0,[]) (by dsimp only;exact ⟨k,rfl⟩) ?_ ?_ ?_
 ·repeat' (first|((refine leT (congrArg Q ?_);rw [<- i];rfl))|exact wJ|refine And.intro ?_ ?_)
 ·rintro ⟨q,z,c⟩ ⟨g,a⟩;dsimp only at g a;rcases Nat.lt_or_ge z 128 with h|h
  ·refine rnZ ?_;exact ⟨(q,z,c),⟨h,a⟩,by exact wkZ⟩
  ·have e:=Cg (z:=z) (by omega);rw [e] at a;have b:=congrArg List.length a;rw [List.length_append,List.length_cons] at b;have f:(z:Int).fdiv (2^7)=(z / 128:Nat):=by
    rw [Int.fdiv_eq_ediv_of_nonneg _ (by decide)];rfl
   refine rnZ ?_;refine ⟨(21,z / 128,c++[((z % 128+128:Nat):Int)]),⟨by dsimp only;omega,by simpa using a⟩,by dsimp only;omega,?_⟩
   repeat' (first|((refine leT (congrArg Q ?_);exact f.symm))|exact wJ|refine rM ?_|refine And.intro ?_ ?_)
   rw [List.map_append,List.map_singleton, <-L0];rfl
 rintro ⟨q,z,c⟩ ⟨g,a⟩;dsimp only at g a;rw [Ba g] at a;have b:=congrArg List.length a;rw [List.length_append,List.length_singleton] at b;have l:IntKind.u8.wrap (z:Int)=z:=w8 (by omega) (by omega);rw [<- a];refine rnZ ?_;(refine And.intro (by first|exact flY _|((simp;omega);done)|fail) ?_);refine rnZ ?_;refine ⟨_,rfl,.inl ⟨26,congrArg (V.own 26 5 1) ?_⟩⟩;dsimp only;rw [l,List.map_append];rfl
def vs(s:ByteArray):List Int:=vi s.size++sB s
theorem yD{n:Nat}(h:n<2^62):i64 (n:Int):=by unfold i64;omega
theorem G4(s:ByteArray)(h:s.size<2^40):dA Tryz.prog 101 [.str s] 5 1 ((vs s).map Y) []:=by
 refine tG (rs:=[.tmp 2]) mixed Tryz.func101 OG.2 rfl rfl rfl (nlZ rfl) ?_;have hi:=yD (n:=s.size) (by omega);have b:=CJ hi;have a:(b9 s).length=s.size:=by rw [ET,List.length_map,CF]
 refine rnZ ?_;refine uH rfl (DX s.size hi) ?_;refine rnZ ?_;(refine And.intro (by first|exact flY _|((simp [a];omega);done)|fail) ?_);refine rnZ ?_;refine ⟨_,rfl,.inl ⟨7,congrArg (V.own 7 5 1) ?_⟩⟩;unfold vs;rw [List.map_append,ET]
def vis(l:List Int):List Int:=vi l.length++l.flatMap vi
theorem IB{α:Type}(f:α->List Int){l:List α}{i:Nat}(h:i<l.length):(l.take (i+1)).flatMap f=(l.take i).flatMap f++f l[i]:=by
 rw [List.take_succ_eq_append_getElem h,List.flatMap_append];simp
theorem G6{α:Type}(f:α->List Int)(k:Nat): ∀{l:List α},(∀ x∈l,(f x).length<=k)->(l.flatMap f).length<=k * l.length
 |[],_=>by simp
 |x::l,h=>by
  have b:=G6 f k (l:=l) (fun y a=>h y (by simp [a]));have c:=h x (by simp);rw [List.flatMap_cons,List.length_append,List.length_cons,Nat.mul_add];omega
theorem L7(l:List Int)(h:l.length<2^40)(hi: ∀x∈l,i64 x):dA Tryz.prog 138 [.slice 1 (l.map I),.clos 99 []] 5 1 ((vis l).map Y) []:=by
 refine tG (rs:=[.tmp 4]) mixed Tryz.func138 O9.2 rfl rfl rfl (nlZ rfl) ?_;have e:=yD (n:=l.length) (by omega);have f:=CJ e;refine rnZ ?_;(refine uH (ts:=[I l.length]) (by simp;rfl) (DX l.length e) ?_);refine rnZ ?_;refine tT 0 (α:=Nat×Nat) (β:=Nat) (fun q=>{sl:=[(1,.t (.clos 99 [])),(5,.own q.1 5 1 ((vi l.length++(l.take q.2).flatMap vi).map Y)),(11,.t (.slice 1 (l.map I))),(12,.t (I l.length)),(13,.t (I q.2))],bx:=[]})
  (fun q=>q.2<=l.length) (fun q=>l.length - q.2) (fun q=>{sl:=[(5,.own q 5 1 ((vis l).map Y))],bx:=[]}) (fun _=>True) (10,0) (by simp) ?_ ?_ ?_
 ·repeat' (first|((refine leI ?_;simp;done))|exact wJ|refine rM ?_|refine And.intro ?_ ?_)
  simp
 ·rintro ⟨q,i⟩ g;dsimp only at g;rcases Nat.lt_or_ge i l.length with a|a
  ·have b:=hi l[i] (List.getElem_mem a);have j:=CJ b;have c:=G6 vi 10 (l:=l.take i) (fun x b=>CJ (hi x (List.mem_of_mem_take b)));rw [List.length_take] at c
   repeat' ((conv=>whnf);first|(refine nv_ (I l[i]) (by first|((simp [a]);done)|fail) ?_)|refine pC _ ((DX l[i] b).uJ) ?_|refine aD1 ?_|(refine And.intro (by first|((simp;omega);done)|((simp only [List.length_map,List.length_append];omega);done)|fail) ?_)|refine aS ?_|refine nT_ ?_)
   refine ⟨(21,i+1),by dsimp only;omega,by dsimp only;omega,?_⟩
   repeat' (first|exact wJ|refine rM ?_|refine And.intro ?_ ?_)
   rw [IB vi a];simp
  ·have:i=l.length:=by omega
   subst this;refine rnZ ?_;exact ⟨q,trivial,by repeat' (first|((refine rM ?_;rw [List.take_length];rfl))|exact wJ|refine And.intro ?_ ?_)⟩
 rintro q -;refine rnZ ?_;(refine And.intro (by first|exact flY _) ?_);refine rnZ ?_;exact ⟨_,rfl,.inl ⟨q,rfl⟩⟩
theorem FZ(l:List Int)(h:l.length<2^40)(hi: ∀x∈l,i64 x):dA Tryz.prog 102 [.slice 1 (l.map I)] 5 1 ((vis l).map Y) []:=by
 refine tG (rs:=[.tmp 2]) mixed Tryz.func102 OH.2 rfl rfl rfl (nlZ rfl) ?_;refine rnZ ?_;refine uH rfl (L7 l h hi) ?_;refine rnZ ?_;(refine And.intro (by first|exact flY _) ?_);refine rnZ ?_;exact ⟨_,rfl,.inl ⟨_,rfl⟩⟩
theorem Hs(s:ByteArray):wv (vs s):=fun b a=>by
 rcases List.mem_append.1 a with h|h
 ·exact Au _ b h
 ·exact EM _ b h
end Go.RC
end
section
end
section
end
section
end
section
end
section
end
section
end
section
end
section
end
section
end
section
end
section
end
section
end
section
end
section
namespace Go.RC
open Go Go.DL Go.Proofs
def un(z:Int):Int:=if z % 2=1 then -1 - z / 2 else z / 2
def gz:Nat->Int->List Int->Int×Int×Int
 |_,_,[]=>(0,0,5)
 |k,z,c::r=>if (k=9/\c>1)\/(k>0/\c=0) then (0,0,6) else if c<128 then (un (z+c % 128 * 128^k),(k:Int)+1,0) else gz (k+1) (z+c % 128 * 128^k) r
def gi(b:List Int):Int×Int×Int:=gz 0 0 b
theorem K7{b:List Int}{k:Nat}{z:Int}(h:k<b.length):gz k z (b.drop k)=if (k=9/\b[k]>1)\/(k>0/\b[k]=0) then (0,0,6) else if b[k]<128 then (un (z+b[k] % 128 * 128^k),(k:Int)+1,0) else gz (k+1) (z+b[k] % 128 * 128^k) (b.drop (k+1)):=by
 rw [List.drop_eq_getElem_cons h];rfl
theorem LU: ∀c:Fin 256,jl .and .u8 (c.val:Int) 127=(c.val:Int) % 128:=by decide+kernel
theorem KP{c:Int}(a:0<=c)(b:c<256):jl .and .u8 c 127=c % 128:=by
 obtain ⟨c,rfl⟩:=Int.eq_ofNat_of_zero_le a;exact LU ⟨c,by omega⟩
theorem Ln{a b:Int}(k:Nat)(n:0<=a)(o:a<18446744073709551616)(hd:a % 2^k=0)(p:0<=b)(g:b<2^k)(q:k<=64):jl .or .u64 a b=a+b:=by
 obtain ⟨a,rfl⟩:=Int.eq_ofNat_of_zero_le n;obtain ⟨b,rfl⟩:=Int.eq_ofNat_of_zero_le p;have r:(2:Nat)^k<=2^64:=Nat.pow_le_pow_right (by decide) q;have h:b<2^k:=by exact_mod_cast g
 have i:a % 2^k=0:=by exact_mod_cast hd
 have c:a<2^64:=by omega
 have f:b<2^64:=by omega
 have e:a ||| b=a+b:=by
  have:=Nat.two_pow_add_eq_or_of_lt h (a / 2^k)
  have m:2^k * (a / 2^k)=a:=Nat.mul_div_cancel' (Nat.dvd_of_mod_eq_zero i);rw [m] at this;exact this.symm
 have s:a ||| b<2^64:=Nat.or_lt_two_pow c f
 have j:(BitVec.ofInt 64 ((a:Nat):Int)).toNat=a:=by
  rw [BitVec.ofInt_natCast,BitVec.toNat_ofNat,Nat.mod_eq_of_lt c]
 have l:(BitVec.ofInt 64 ((b:Nat):Int)).toNat=b:=by
  rw [BitVec.ofInt_natCast,BitVec.toNat_ofNat,Nat.mod_eq_of_lt f]
 show IntKind.u64.wrap ((BitVec.ofInt 64 ((a:Nat):Int) ||| BitVec.ofInt 64 ((b:Nat):Int)).toNat:Int)=_
 rw [BitVec.toNat_or,j,l,e,w64 (by omega) (by omega)];rfl
theorem JT(k:Nat):(2:Int)^(7 * k)=128^k:=by rw [Int.pow_mul];rfl
theorem digit{z c:Int}{k:Nat}(m:0<=z)(b:z<128^k)(q:k<=9)(o:0<=c)(p:c<256)(l:k=9->c<=1):
  jl .or .u64 z (IntKind.u64.wrap (c % 128 * 2^(7 * k)))=z+c % 128 * 128^k/\0<=z+c % 128 * 128^k/\z+c % 128 * 128^k<128^(k+1)/\z+c % 128 * 128^k<18446744073709551616:=by
 have n:0<=c % 128:=Int.emod_nonneg _ (by decide);have i:c % 128<=127:=by omega
 have f:(0:Int)<128^k:=Int.pow_pos (by decide);have a:c % 128 * 128^k<18446744073709551616/\z+c % 128 * 128^k<18446744073709551616:=by
  by_cases h:k=9
  ·subst h
   have:c<=1:=l rfl
   have e:(128:Int)^9=9223372036854775808:=by decide
   rw [e] at b ⊢;omega
  ·have j:(128:Int)^k<=128^8:=by have:=Nat.pow_le_pow_right (show 0<128 by decide) (show k<=8 by omega);exact_mod_cast this
   have e:(128:Int)^8=72057594037927936:=by decide
   have:c % 128 * 128^k<=127 * 128^k:=Int.mul_le_mul_of_nonneg_right i (Int.le_of_lt f)
   rw [e] at j;omega
 have g:0<=c % 128 * 128^k:=Int.mul_nonneg n (Int.le_of_lt f);refine ⟨?_,by omega,?_,a.2⟩
 ·rw [JT,w64 g a.1,or_comm,Ln (7 * k) g a.1 (by rw [JT];exact Int.mul_emod_left _ _) m (by rw [JT];exact b) (by omega),Int.add_comm]
 ·rw [Int.pow_succ]
  have:c % 128 * 128^k<=127 * 128^k:=Int.mul_le_mul_of_nonneg_right i (Int.le_of_lt f)
  omega
theorem Jl{a:Int}(e:0<=a)(g:a<9223372036854775808):jl .xor .i64 a (-1)= -1 - a:=by
 obtain ⟨a,rfl⟩:=Int.eq_ofNat_of_zero_le e;have f:a<2^64:=by omega
 have b:(BitVec.ofInt 64 (-1))=BitVec.allOnes 64:=by decide
 have c:(BitVec.ofInt 64 ((a:Nat):Int)).toNat=a:=by
  rw [BitVec.ofInt_natCast,BitVec.toNat_ofNat,Nat.mod_eq_of_lt f]
 show IntKind.i64.wrap ((BitVec.ofInt 64 ((a:Nat):Int) ^^^ BitVec.ofInt 64 (-1)).toNat:Int)=_
 rw [b,BitVec.xor_allOnes,BitVec.toNat_not,c];unfold IntKind.wrap;simp [IntKind.bits,IntKind.signed];omega
theorem Jm{a:Int}(e:0<=a)(g:a<9223372036854775808):jl .xor .i64 a 0=a:=by
 obtain ⟨a,rfl⟩:=Int.eq_ofNat_of_zero_le e;have f:a<2^64:=by omega
 have c:(BitVec.ofInt 64 ((a:Nat):Int)).toNat=a:=by
  rw [BitVec.ofInt_natCast,BitVec.toNat_ofNat,Nat.mod_eq_of_lt f]
 show IntKind.i64.wrap ((BitVec.ofInt 64 ((a:Nat):Int) ^^^ BitVec.ofInt 64 0).toNat:Int)=_
 have b:(BitVec.ofInt 64 0)=0#64:=by decide
 rw [b,BitVec.xor_zero,c];exact oA (by omega) (by omega)
theorem Og{z:Int}(e:0<=z)(g:z<18446744073709551616):jl .and .u64 z 1=z % 2:=by
 obtain ⟨a,rfl⟩:=Int.eq_ofNat_of_zero_le e;have f:a<2^64:=by omega
 have c:(BitVec.ofInt 64 ((a:Nat):Int)).toNat=a:=by
  rw [BitVec.ofInt_natCast,BitVec.toNat_ofNat,Nat.mod_eq_of_lt f]
 show IntKind.u64.wrap ((BitVec.ofInt 64 ((a:Nat):Int) &&& BitVec.ofInt 64 1).toNat:Int)=_
 have b:(BitVec.ofInt 64 1).toNat=1:=by decide
 rw [BitVec.toNat_and,c,b,Nat.and_one_is_mod,w64 (by omega) (by omega)];rfl
theorem N9{z:Int}(a:0<=z)(b:z<18446744073709551616):jl .xor .i64 (IntKind.i64.wrap (z.fdiv (2^1))) (IntKind.i64.wrap (-(IntKind.i64.wrap (jl .and .u64 z 1))))=un z:=by
 rw [Og a b];have e:z.fdiv (2^1)=z / 2:=by rw [Int.fdiv_eq_ediv_of_nonneg _ (by decide)];rfl
 rw [e,oA (by omega) (by omega),oA (n:=z % 2) (by omega) (by omega)];unfold un;rcases Int.emod_two_eq z with h|h
 ·rw [h,if_neg (by decide),show IntKind.i64.wrap (-0)=0 by decide,Jm (by omega) (by omega)]
 ·rw [h,if_pos rfl,show IntKind.i64.wrap (-1)= -1 by decide,Jl (by omega) (by omega)]
theorem M7{z:Int}(a:0<=z)(b:z<18446744073709551616):jl .xor .i64 (IntKind.i64.wrap (z.fdiv (2^min (Int.toNat 1) IntKind.u64.bits))) (IntKind.i64.wrap (0 - IntKind.i64.wrap (jl .and .u64 z 1)))=un z:=by
 rw [show min (Int.toNat 1) IntKind.u64.bits=1 from by decide,Int.zero_sub];exact N9 a b
abbrev gT(x:Int×Int×Int):T:=.tup [I x.1,I x.2.1,I x.2.2]
theorem AU(b:List Int)(E:wv b)(H:b.length<2^60):DCalls Tryz.prog 96 [.slice 1 (b.map Y)] (gT (gi b)):=by
 refine dl2 mixed [.tmp 2,.tmp 3,.tmp 4] [I _,I _,I _] Tryz.func96 l96.2 ?_
 skip
 refine tT 0 (α:=Nat×Int) (β:=Int×Int) (fun q=>{sl:=[(5,.t (Q q.2)),(6,.t (I 0)),(9,.t (.slice 1 (b.map Y))),(10,.t (I b.length)),(11,.t (I q.1))],bx:=[]})
  (fun q=>q.1<=b.length/\q.1<=9/\0<=q.2/\q.2<128^q.1/\gz q.1 q.2 (b.drop q.1)=gi b) (fun q=>b.length - q.1)
  (fun z=>{sl:=[(5,.t (Q z.1)),(6,.t (I z.2))],bx:=[]}) (fun z=>(z.2=0/\gi b=(0,0,5))\/(0<z.2/\0<=z.1/\z.1<18446744073709551616/\gi b=(un z.1,z.2,0))) (0,0) ⟨by simp,by simp,by simp,by simp,rfl⟩ ?_ ?_ ?_
 ·exact wkZ
 ·rintro ⟨k,z⟩ ⟨F,v,x,m,a⟩;dsimp only at F v x m a;rcases Nat.lt_or_ge k b.length with f|f
  ·rw [K7 f] at a;obtain ⟨o,p⟩:=E b[k] (List.getElem_mem f);have l:b[k]? =some b[k]:=ggZ f;generalize b[k]=c at a o p l;have g:((b.map Y)[k]?.getD .nil)=Y c:=by rw [List.getElem?_map,l];rfl
   by_cases w:(k=9/\c>1)\/(k>0/\c=0)
   ·rw [if_pos w] at a
    by_cases A:k=9
    ·by_cases B:c>1
     ·repeat' ((conv=>whnf);first|(refine nv_ (Y c) (by first|((simp only [Int.toNat_natCast];exact g);done)|fail) ?_)|refine aE1 ?_|refine aD1 ?_|(refine And.intro (by first|((simp;omega);done)|fail) ?_)|refine aS ?_|(exact ri (by rw [<- a]) (ri (by rw [<- a]) (ri (by rw [<- a]) trivial)))|refine nT_ ?_)
     ·have i:c=0:=by omega
      repeat' ((conv=>whnf);first|(refine nv_ (Y c) (by first|((simp only [Int.toNat_natCast];exact g);done)|fail) ?_)|refine aE1 ?_|refine aD1 ?_|refine aD0 ?_|(refine And.intro (by first|((simp;omega);done)|fail) ?_)|refine aS ?_|(exact ri (by rw [<- a]) (ri (by rw [<- a]) (ri (by rw [<- a]) trivial)))|refine nT_ ?_)
    ·have i:c=0:=by omega
     have y:k>0:=by omega
     repeat' ((conv=>whnf);first|(refine nv_ (Y c) (by first|((simp only [Int.toNat_natCast];exact g);done)|fail) ?_)|refine aE1 ?_|refine aE0 ?_|refine aD1 ?_|(refine And.intro (by first|((simp;omega);done)|fail) ?_)|refine aS ?_|(exact ri (by rw [<- a]) (ri (by rw [<- a]) (ri (by rw [<- a]) trivial)))|refine nT_ ?_)
   rw [if_neg w] at a;have hd:=digit x m v o p (fun h=>by omega);have G:IntKind.i64.wrap (7 * (k:Int))=((7 * k:Nat):Int):=by rw [oA (by omega) (by omega)];simp
   have j:z+c % 128 * 128^k=jl .or .u64 z (IntKind.u64.wrap (IntKind.u64.wrap (jl .and .u8 c 127) * 2^min (IntKind.i64.wrap (7 * (k:Int))).toNat IntKind.u64.bits)):=by
    rw [KP o p,w64 (n:=c % 128) (by omega) (by omega),G,Int.toNat_natCast,show min (7 * k) IntKind.u64.bits=7 * k from Nat.min_eq_left (Nat.le_trans (by omega) (nlZ (n:=63) rfl)),hd.1]
   have e:(k:Int)+1=IntKind.i64.wrap ((k:Int)+1):=(oA (by omega) (by omega)).symm
   by_cases r:c<128
   ·rw [if_pos r] at a
    by_cases A:k=9
    ·repeat' ((conv=>whnf);first|(refine nv_ (Y c) (by first|((simp only [Int.toNat_natCast];exact g);done)|fail) ?_)|refine aE1 ?_|refine aE0 ?_|refine aD1 ?_|refine aD0 ?_|(refine And.intro (by first|((simp;omega);done)|fail) ?_)|refine aS ?_|refine nT_ ?_)
     refine ⟨(z+c % 128 * 128^k,(k:Int)+1),.inr ⟨by dsimp only;omega,hd.2.1,hd.2.2.2,a.symm⟩,?_⟩
     repeat' (first|((refine leT ?_;exact congrArg Q j))|((refine leI ?_;exact e))|exact wJ|refine And.intro ?_ ?_)
    by_cases y:k=0
    ·repeat' ((conv=>whnf);first|(refine nv_ (Y c) (by first|((simp only [Int.toNat_natCast];exact g);done)|fail) ?_)|refine aE0 ?_|refine aD1 ?_|refine aD0 ?_|(refine And.intro (by first|((simp;omega);done)|fail) ?_)|refine aS ?_|refine nT_ ?_)
     refine ⟨(z+c % 128 * 128^k,(k:Int)+1),.inr ⟨by dsimp only;omega,hd.2.1,hd.2.2.2,a.symm⟩,?_⟩
     repeat' (first|((refine leT ?_;exact congrArg Q j))|((refine leI ?_;exact e))|exact wJ|refine And.intro ?_ ?_)
    ·have i:c≠0:=by omega
     repeat' ((conv=>whnf);first|(refine nv_ (Y c) (by first|((simp only [Int.toNat_natCast];exact g);done)|fail) ?_)|refine aE0 ?_|refine aD1 ?_|(refine And.intro (by first|((simp;omega);done)|fail) ?_)|refine aS ?_|refine nT_ ?_)
     refine ⟨(z+c % 128 * 128^k,(k:Int)+1),.inr ⟨by dsimp only;omega,hd.2.1,hd.2.2.2,a.symm⟩,?_⟩
     repeat' (first|((refine leT ?_;exact congrArg Q j))|((refine leI ?_;exact e))|exact wJ|refine And.intro ?_ ?_)
   ·rw [if_neg r] at a;have A:k≠9:=by omega
    by_cases y:k=0
    ·repeat' ((conv=>whnf);first|(refine nv_ (Y c) (by first|((simp only [Int.toNat_natCast];exact g);done)|fail) ?_)|refine aE0 ?_|refine aD1 ?_|refine aD0 ?_|(refine And.intro (by first|((simp;omega);done)|fail) ?_)|refine aS ?_|refine nT_ ?_)
     refine ⟨(k+1,z+c % 128 * 128^k),⟨by dsimp only;omega,by dsimp only;omega,hd.2.1,hd.2.2.1,a⟩,by dsimp only;omega,?_⟩
     repeat' (first|((refine leT ?_;exact congrArg Q j))|((refine leI ?_;exact e))|exact wJ|refine And.intro ?_ ?_)
    ·have i:c≠0:=by omega
     repeat' ((conv=>whnf);first|(refine nv_ (Y c) (by first|((simp only [Int.toNat_natCast];exact g);done)|fail) ?_)|refine aE0 ?_|refine aD1 ?_|refine aD0 ?_|(refine And.intro (by first|((simp;omega);done)|fail) ?_)|refine aS ?_|refine nT_ ?_)
     refine ⟨(k+1,z+c % 128 * 128^k),⟨by dsimp only;omega,by dsimp only;omega,hd.2.1,hd.2.2.1,a⟩,by dsimp only;omega,?_⟩
     repeat' (first|((refine leT ?_;exact congrArg Q j))|((refine leI ?_;exact e))|exact wJ|refine And.intro ?_ ?_)
  ·have:k=b.length:=by omega
   subst this;rw [List.drop_length] at a;refine rnZ ?_;exact ⟨(z,0),.inl ⟨rfl,a.symm⟩,by exact wkZ⟩
 rintro ⟨z,u⟩ h;dsimp only at h;rcases h with ⟨s,f⟩|⟨s,f,C,D⟩
 ·subst s;rw [f];exact rcZ
 ·rw [D];have J:=M7 f C;exact rcZ
end Go.RC
end
section
end
section
namespace Go.RC
open Go Go.DL Go.Proofs
theorem M5{z:Int}(a:0<=z)(b:z<18446744073709551616):i64 (un z):=by
 unfold un i64;split <;> omega
theorem Kt: ∀{l:List Int} {k:Nat} {z:Int},wv l->k<=9->0<=z->z<128^k->i64 (gz k z l).1/\0<=(gz k z l).2.1/\(gz k z l).2.1<=k+l.length/\0<=(gz k z l).2.2/\(gz k z l).2.2<=6/\((gz k z l).2.2=0->(k:Int)+1<=(gz k z l).2.1)
 |[],k,z,_,_,_,_=>by
  rw [gz];refine ⟨by unfold i64;omega,by simp,by simp,by simp,by simp,by simp⟩
 |c::l,k,z,hb,h9,hz,hz2=>by
  obtain ⟨f,g⟩:=hb c (by simp);rw [gz]
  by_cases e:(k=9/\c>1)\/(k>0/\c=0)
  ·rw [if_pos e];refine ⟨by unfold i64;omega,by simp,by simp;omega,by simp,by simp,by simp⟩
  rw [if_neg e];obtain ⟨-,b,i,j⟩:=digit hz hz2 h9 f g (fun h=>by omega)
  by_cases a:c<128
  ·rw [if_pos a];exact ⟨M5 b j,by dsimp only;omega,by dsimp only;simp only [List.length_cons];omega,by simp,by simp,by simp⟩
  ·rw [if_neg a];obtain ⟨n,o,s,p,q,r⟩:=Kt (l:=l) (k:=k+1) (z:=z+c % 128 * 128^k) (fun x m=>hb x (by simp [m])) (by omega) b i;refine ⟨n,o,?_,p,q,fun h=>by have:=r h;omega⟩;simp only [List.length_cons];omega
theorem Ah{b:List Int}(a:wv b):i64 (gi b).1/\0<=(gi b).2.1/\(gi b).2.1<=b.length/\0<=(gi b).2.2/\(gi b).2.2<=6/\((gi b).2.2=0->1<=(gi b).2.1):=by
 obtain ⟨c,f,l,g,i,j⟩:=Kt (k:=0) (z:=0) a (by omega) (by omega) (by decide);have e:gi b=gz 0 0 b:=rfl;rw [e];exact ⟨c,f,by omega,g,i,fun h=>by have:=j h;omega⟩
def gl(b:List Int)(least:Int):Int×Int×Int:=if (gi b).2.2≠0 then (0,0,(gi b).2.2) else if (gi b).1<0 then (0,0,6) else if (gi b).1>(b.length - (gi b).2.1) / least then (0,0,5) else ((gi b).1,(gi b).2.1,0)
theorem Cd(b:List Int)(least:Int)(a:wv b)(i:b.length<2^60)(j:0<least)(k:least<100):DCalls Tryz.prog 135 [.slice 1 (b.map Y),I least] (gT (gl b least)):=by
 refine dl2 mixed [.tmp 4,.tmp 5,.tmp 6] [I _,I _,I _] Tryz.func135 O7.2 ?_;have o:=AU b a i;obtain ⟨p,q,r,s,t,v⟩:=Ah a;unfold gl;generalize gi b=g at *
 obtain ⟨n,u,e⟩:=g;dsimp only at *
 by_cases e0:e=0
 case neg=>
  rw [if_pos e0];exact rcZ
 rw [if_neg (by simpa using e0)]
 by_cases h:n<0
 ·rw [if_pos h];exact rcZ
 rw [if_neg h];have f:IntKind.i64.wrap ((IntKind.i64.wrap (((b.map Y).length:Int) - u)).tdiv least)=(b.length - u) / least:=by
  rw [List.length_map,oA (n:=(b.length:Int) - u) (by omega) (by omega),Int.tdiv_eq_ediv_of_nonneg (by omega)];have l:0<=((b.length:Int) - u) / least:=Int.ediv_nonneg (by omega) (by omega);have m:((b.length:Int) - u) / least<=(b.length:Int) - u:=Int.ediv_le_self _ (by omega);exact oA (by omega) (by omega)
 by_cases c:n>(b.length - u) / least
 ·rw [if_pos c];refine rnZ ?_;(refine nr (by rw [f];exact c) ?_);exact rcZ
 ·rw [if_neg c];refine rnZ ?_;(refine nq (by rw [f];exact c) ?_);exact rcZ
def gis:Nat->List Int->Int->List Int->List Int×Int×Int
 |0,_,at',acc=>(acc,at',0)
 |n+1,b,at',acc=>if (gi (b.drop at'.toNat)).2.2≠0 then ([],0,(gi (b.drop at'.toNat)).2.2) else gis n b (at'+(gi (b.drop at'.toNat)).2.1) (acc++[(gi (b.drop at'.toNat)).1])
def vU(b:List Int):List Int×Int×Int:=if (gl b 1).2.2≠0 then ([],0,(gl b 1).2.2) else gis (gl b 1).1.toNat b (gl b 1).2.1 []
abbrev gsT(x:List Int×Int×Int):T:=.tup [if x.2.2≠0 then .nil else .slice 1 (x.1.map I),I x.2.1,I x.2.2]
theorem wT{b:List Int}(h:wv b)(k:Nat):wv (b.drop k):=fun x a=>h x (List.mem_of_mem_drop a)
theorem CS{b:List Int}{least:Int}(f:wv b)(h:0<least):0<=(gl b least).1/\0<=(gl b least).2.1/\(gl b least).2.1<=b.length/\(gl b least).1 * least<=b.length - (gl b least).2.1:=by
 obtain ⟨k,l,m,o,p,q⟩:=Ah f;unfold gl;generalize gi b=g at *
 obtain ⟨n,u,e⟩:=g;dsimp only at *
 by_cases e0:e≠0
 ·rw [if_pos e0];refine ⟨by simp,by simp,by simp,by simp⟩
 rw [if_neg e0]
 by_cases a:n<0
 ·rw [if_pos a];refine ⟨by simp,by simp,by simp,by simp⟩
 rw [if_neg a]
 by_cases c:n>(b.length - u) / least
 ·rw [if_pos c];refine ⟨by simp,by simp,by simp,by simp⟩
 rw [if_neg c];refine ⟨by dsimp only;omega,by dsimp only;omega,by dsimp only;omega,?_⟩;dsimp only;have i:n * least<=(b.length - u) / least * least:=Int.mul_le_mul_of_nonneg_right (by omega) (by omega);have j:((b.length:Int) - u) / least * least<=(b.length:Int) - u:=Int.ediv_mul_le _ (by omega);omega
theorem Jz{n:Nat}{b:List Int}{a:Int}{acc:List Int}(k:Nat)(e:k<n):gis (n - k) b a acc=if (gi (b.drop a.toNat)).2.2≠0 then ([],0,(gi (b.drop a.toNat)).2.2) else gis (n - (k+1)) b (a+(gi (b.drop a.toNat)).2.1) (acc++[(gi (b.drop a.toNat)).1]):=by
 obtain ⟨m,c⟩: ∃m,n - k=m+1:=⟨n - k - 1,by omega⟩
 rw [c,show n - (k+1)=m by omega];rfl
theorem Jg(b:List Int)(m:wv b)(G:b.length<2^40):DCalls Tryz.prog 136 [.slice 1 (b.map Y),I 1,.clos 96 []] (gsT (vU b)):=by
 refine dl2 mixed [.tmp 6,.tmp 7,.tmp 8] [_,I _,I _] Tryz.func136 O8.2 ?_;have F:=Cd b 1 m (by omega) (by omega) (by omega);obtain ⟨D,z,A,E⟩:=CS (least:=1) m (by omega);have c:vU b=if (gl b 1).2.2≠0 then ([],0,(gl b 1).2.2) else gis (gl b 1).1.toNat b (gl b 1).2.1 []:=rfl
 generalize gl b 1=g at *
 obtain ⟨n,u,e⟩:=g;dsimp only at *
 by_cases e0:e=0
 case neg=>
  rw [if_pos e0] at c;rw [c];show wpC _ _ _ (oB _ _ [if e≠0 then .nil else .slice 1 ([].map I),I 0,I e])
  rw [if_pos e0];exact rcZ
 rw [if_neg (fun h=>h e0)] at c;rw [c];refine rnZ ?_;have H:gsT (gis n.toNat b u [])= .tup [if (gis n.toNat b u []).2.2≠0 then .nil else .slice 1 ((gis n.toNat b u []).1.map I),I (gis n.toNat b u []).2.1,I (gis n.toNat b u []).2.2]:=rfl;refine tT 0 (α:=Nat×Nat×Int×List Int) (β:=Nat×Int×List Int) (fun q=>{sl:=[(0,.t (.slice 1 (b.map Y))),(2,.t (.clos 96 [])),(10,.t (I q.2.2.1)),(12,.own q.1 3 1 (q.2.2.2.map I)),(26,.t (I n)),(27,.t (I q.2.1))],bx:=[]})
  (fun q=>q.2.1<=n.toNat/\q.2.2.2.length=q.2.1/\0<=q.2.2.1/\q.2.2.1<=b.length/\gis (n.toNat - q.2.1) b q.2.2.1 q.2.2.2=gis n.toNat b u []) (fun q=>n.toNat - q.2.1)
  (fun q=>{sl:=[(10,.t (I q.2.1)),(12,.own q.1 3 1 (q.2.2.map I))],bx:=[]}) (fun q=>gis n.toNat b u []=(q.2.2,q.2.1,0)) (44,0,u,[]) ⟨by simp,rfl,z,A,rfl⟩ ?_ ?_ ?_
 ·exact wkZ
 ·rintro ⟨q,k,a,acc⟩ ⟨B,j,o,p,i⟩;dsimp only at B j o p i;rcases Nat.lt_or_ge k n.toNat with x|x
  ·rw [Jz k x] at i;have y:=AU (b.drop a.toNat) (wT m _) (by simp;omega);obtain ⟨J,K,C,L,M,N⟩:=Ah (wT m a.toNat);rw [List.length_drop] at C;rw [List.map_drop,show (b.map Y).drop a.toNat=List.drop a.toNat (List.take ((((b.map Y).length:Nat):Int)).toNat (b.map Y)) by rw [Int.toNat_natCast,List.take_length]] at y;generalize gi (b.drop a.toNat)=g at *
   obtain ⟨v,w,f⟩:=g;dsimp only at *
   by_cases l:f=0
   ·rw [if_neg (fun h=>h l)] at i;refine rnZ ?_;have r:a+w=IntKind.i64.wrap (a+w):=(oA (by omega) (by omega)).symm;have s:((k+1:Nat):Int)=IntKind.i64.wrap ((k:Int)+1):=by rw [oA (by omega) (by omega)];rfl
    refine ⟨(44,k+1,a+w,acc++[v]),⟨by dsimp only;omega,by simp [j],by dsimp only;omega,by dsimp only;omega,i⟩,by dsimp only;omega,?_⟩
    repeat' (first|((refine leI ?_;first|exact r|exact s))|((refine rM ?_;simp;done))|exact wJ|refine And.intro ?_ ?_)
   ·rw [if_pos l] at i
    repeat' ((conv=>whnf);first|refine pC _ (y) ?_|refine ny l ?_|refine nT_ ?_|refine aD1 ?_|(refine And.intro (by first|((simp;omega);done)|fail) ?_)|refine aS ?_|refine rt ?_ (ri ?_ (ri ?_ trivial)))
    all_goals rw [<- i]
    exact (if_pos l).symm
  ·have:k=n.toNat:=by omega
   subst this;rw [Nat.sub_self] at i;refine rnZ ?_;exact ⟨(q,a,acc),i.symm,by exact wkZ⟩
 rintro ⟨q,a,acc⟩ h;rw [h];exact rcZ
theorem A8(b:List Int)(a:wv b)(c:b.length<2^40):DCalls Tryz.prog 98 [.slice 1 (b.map Y)] (gsT (vU b)):=by
 refine dl2 mixed [.tmp 2,.tmp 3,.tmp 4] [_,I _,I _] Tryz.func98 l98.2 ?_;have h:=Jg b a c;exact rcZ
end Go.RC
end
section
end
section
end
section
namespace Go.RC
open Go Go.DL Go.Proofs
theorem N8(n:Int):un (zz n:Nat)=n:=by unfold un zz;split <;> split <;> omega
theorem Oa{m:Nat}:zz (un (m:Int))=m:=by unfold un zz;split <;> split <;> omega
theorem M9(m:Nat):1<=(vb m).length:=by
 by_cases h:m<128
 ·rw [Ba h];simp
 ·rw [Cg h];simp
theorem Em(n:Int):1<=(vi n).length:=M9 _
theorem P8:(128:Int)^9=9223372036854775808:=by decide
theorem Ns: ∀(m k:Nat) (z:Int) (r:List Int),0<=z->z+(m:Int) * 128^k<18446744073709551616->(k>0->m>0)->gz k z (vb m++r)=(un (z+(m:Int) * 128^k),(k:Int)+(vb m).length,0):=by
 intro m
 induction m using Nat.strongRecOn with
 |ind m j=>
  intro k z r n c g;have i:(0:Int)<128^k:=Int.pow_pos (by decide);have f:k=9->m<2:=fun h=>by subst h;rw [P8] at c;omega
  by_cases h:m<128
  ·rw [Ba h];show gz k z ((m:Int)::r)=_
   rw [gz,if_neg (by rintro (⟨a,b⟩|⟨a,b⟩);(have:=f a;omega);(have:=g a;omega)),if_pos (by omega)];rw [show (m:Int) % 128=m by omega];rfl
  ·rw [Cg h];show gz k z (((m % 128+128:Nat):Int)::(vb (m / 128)++r))=_
   rw [gz,if_neg (by rintro (⟨a,b⟩|⟨a,b⟩);(have:=f a;omega);(omega)),if_neg (by omega)];rw [show ((m % 128+128:Nat):Int) % 128=((m % 128:Nat):Int) by omega];have e:z+((m % 128:Nat):Int) * 128^k+((m / 128:Nat):Int) * 128^(k+1)=z+(m:Int) * 128^k:=by
    rw [Int.pow_succ,Int.mul_comm (128^k) 128, <-Int.mul_assoc,Int.add_assoc, <-Int.add_mul]
    congr 2;omega
   have l:(0:Int)<=((m % 128:Nat):Int) * 128^k:=Int.mul_nonneg (by omega) (Int.le_of_lt i);rw [j (m / 128) (by omega) (k+1) _ r (by omega) (by rw [e];exact c) (fun _=>by omega),e,List.length_cons]
   congr 2
   omega
theorem Fy{n:Int}(h:i64 n)(r:List Int):gi (vi n++r)=(n,(((vi n).length:Nat):Int),0):=by
 have:=Ns (zz n) 0 0 r (by omega) (by have:=Io h;omega) (fun h=>by omega)
 unfold gi vi;rw [this];have e:(0:Int)+((zz n:Nat):Int) * 128^0=((zz n:Nat):Int):=by simp
 rw [e,N8];simp
theorem IG: ∀{b:List Int} {k:Nat} {z:Int},wv b->k<=9->0<=z->z<128^k->(gz k z b).2.2=0-> ∃m:Nat,(gz k z b).2.1=k+(vb m).length/\b=vb m++b.drop (vb m).length/\(gz k z b).1=un (z+(m:Int) * 128^k)/\(k>0->m>0)
 |[],k,z,_,_,_,_,h=>by rw [gz] at h;simp at h
 |c::r,k,z,hb,hk,hz,hz2,h=>by
  obtain ⟨a,g⟩:=hb c (by simp);obtain ⟨c,rfl⟩:=Int.eq_ofNat_of_zero_le a;have n:wv r:=fun x o=>hb x (by simp [o])
  rw [gz] at h ⊢
  by_cases f:(k=9/\(c:Int)>1)\/(k>0/\(c:Int)=0)
  ·rw [if_pos f] at h;simp at h
  rw [if_neg f] at h ⊢;obtain ⟨-,i,j,u⟩:=digit hz hz2 hk a g (fun h=>by omega)
  by_cases e:(c:Int)<128
  ·rw [if_pos e];refine ⟨c,?_,?_,?_,fun l=>by omega⟩
   ·rw [Ba (by omega)];rfl
   ·rw [Ba (by omega)];rfl
   ·rw [show (c:Int) % 128=c by omega]
  ·rw [if_neg e] at h ⊢;obtain ⟨m,p,q,s,t⟩:=IG (b:=r) (k:=k+1) n (by omega) i j h;have v:=t (by omega);refine ⟨c % 128+128 * m,?_,?_,?_,fun _=>by omega⟩
   ·rw [p,Cg (z:=c % 128+128 * m) (by omega),show (c % 128+128 * m) / 128=m by omega,List.length_cons];omega
   ·rw [Cg (z:=c % 128+128 * m) (by omega),show (c % 128+128 * m) / 128=m by omega,show (c % 128+128 * m) % 128+128=c by omega,List.length_cons,List.drop_succ_cons,List.cons_append, <-q]
   ·rw [s]
    congr 1
    rw [Int.pow_succ,Int.mul_comm (128^k) 128, <-Int.mul_assoc,Int.add_assoc, <-Int.add_mul]
    congr 2;omega
theorem F6{b:List Int}(c:wv b)(h:(gi b).2.2=0):(gi b).2.1=(vi (gi b).1).length/\b=vi (gi b).1++b.drop (gi b).2.1.toNat:=by
 obtain ⟨m,a,f,g,i⟩:=IG (b:=b) (k:=0) (z:=0) c (by omega) (by omega) (by decide) h;have e:(gi b).1=un (m:Int):=by
  rw [show (gi b).1=un (0+(m:Int) * 128^0) from g];simp
 have a:(gi b).2.1=((vb m).length:Int):=by rw [show (gi b).2.1=((0:Nat):Int)+(vb m).length from a];simp
 rw [e];unfold vi;rw [Oa,a];exact ⟨rfl,by simpa using f⟩
theorem HI{k:Nat}{r:List Int}{least:Int}(a:0<least)(b:k<2^62)(h:(k:Int) * least<=r.length):gl (vi k++r) least=((k:Int),(((vi k).length:Nat):Int),0):=by
 unfold gl;rw [Fy (yD b)];dsimp only;rw [if_neg (by simp),if_neg (by omega),if_neg];have e:(((vi k++r).length:Nat):Int) - ((vi k).length:Int)=r.length:=by rw [List.length_append];omega
 rw [e]
 have:=(Int.le_ediv_iff_mul_le a).2 h
 omega
theorem IF{b:List Int}{least:Int}(f:wv b)(h:(gl b least).2.2=0):0<=(gl b least).1/\i64 (gl b least).1/\(gl b least).2.1=(vi (gl b least).1).length/\b=vi (gl b least).1++b.drop (gl b least).2.1.toNat:=by
 have g:=F6 f;obtain ⟨i, -⟩:=Ah f;unfold gl at h ⊢
 by_cases a:(gi b).2.2≠0
 ·rw [if_pos a] at h;exact absurd h a
 rw [if_neg a] at h ⊢
 by_cases c:(gi b).1<0
 ·rw [if_pos c] at h;simp at h
 rw [if_neg c] at h ⊢
 by_cases e:(gi b).1>(b.length - (gi b).2.1) / least
 ·rw [if_pos e] at h;simp at h
 rw [if_neg e];obtain ⟨j,k⟩:=g (by simpa using a);exact ⟨by dsimp only;omega,i,j,k⟩
theorem F3: ∀(l:List Int),l.length<=(l.flatMap vi).length
 |[]=>by simp
 |x::l=>by
  have:=F3 l
  have:=Em x
  simp only [List.flatMap_cons,List.length_append,List.length_cons];omega
theorem F8{b r:List Int}: ∀{l acc:List Int} {a:Int},0<=a->b.drop a.toNat=l.flatMap vi++r->(∀ x∈l,i64 x)->gis l.length b a acc=(acc++l,a+(l.flatMap vi).length,0)
 |[],acc,a,h0,h,_=>by simp [gis]
 |x::l,acc,a,h0,h,hx=>by
  have c:gi (b.drop a.toNat)=(x,(((vi x).length:Nat):Int),0):=by rw [h,List.flatMap_cons,List.append_assoc];exact Fy (hx x (by simp)) _
  show gis (l.length+1) b a acc=_
  rw [gis,c,if_neg (by simp)];dsimp only;rw [F8 (l:=l) (by omega) (by
   rw [show (a+((vi x).length:Int)).toNat=a.toNat+(vi x).length by omega, <-List.drop_drop,h,List.flatMap_cons,List.append_assoc,List.drop_left]) (fun y e=>hx y (by simp [e]))]
  simp only [List.append_assoc,List.singleton_append,List.flatMap_cons,List.length_append]
  congr 2
  omega
theorem Cu{l r:List Int}(a:l.length<2^62)(b: ∀x∈l,i64 x):vU (vis l++r)=(l,(((vis l).length:Nat):Int),0):=by
 unfold vU vis;rw [List.append_assoc,HI (by decide) a (by have:=F3 l;rw [List.length_append];omega)];dsimp only;rw [if_neg (by simp),Int.toNat_natCast,F8 (r:=r) (by omega) (by rw [Int.toNat_natCast,List.drop_left]) b];simp
theorem G7{b:List Int}(i:wv b): ∀{n:Nat} {acc:List Int} {a:Int},0<=a->(gis n b a acc).2.2=0-> ∃l,(gis n b a acc).1=acc++l/\l.length=n/\(∀ x∈l,i64 x)/\(gis n b a acc).2.1=a+(l.flatMap vi).length/\b.drop a.toNat=l.flatMap vi++b.drop (gis n b a acc).2.1.toNat
 |0,acc,a,h0,h=>⟨[],by simp [gis],rfl,by simp,by simp [gis],by simp [gis]⟩
 |n+1,acc,a,h0,h=>by
  have hd:=wT i a.toNat;rw [gis] at h ⊢
  by_cases c:(gi (b.drop a.toNat)).2.2≠0
  ·rw [if_pos c] at h;exact absurd h c
  rw [if_neg c] at h ⊢;obtain ⟨s,r⟩:=F6 hd (by simpa using c);obtain ⟨j, -⟩:=Ah hd;generalize gi (b.drop a.toNat)=g at *
  obtain ⟨v,u,e⟩:=g;dsimp only at *
  obtain ⟨l,k,m,o,p,q⟩:=G7 i (n:=n) (acc:=acc++[v]) (a:=a+u) (by omega) h;refine ⟨v::l,?_,by simp [m],?_,?_,?_⟩
  ·rw [k];simp
  ·intro x f;rcases List.mem_cons.1 f with rfl|f
   ·exact j
   ·exact o x f
  ·rw [p,List.flatMap_cons,List.length_append];omega
  ·rw [r,List.drop_drop,show a.toNat+u.toNat=(a+u).toNat by omega,q,List.flatMap_cons,List.append_assoc]
theorem Ct{b:List Int}(f:wv b)(h:(vU b).2.2=0):(∀ x∈(vU b).1,i64 x)/\(vU b).2.1=(vis (vU b).1).length/\b=vis (vU b).1++b.drop (vU b).2.1.toNat:=by
 have k:=@IF b 1 f;unfold vU at h ⊢
 by_cases c:(gl b 1).2.2≠0
 ·rw [if_pos c] at h;exact absurd h c
 rw [if_neg c] at h ⊢;obtain ⟨t, -,q,r⟩:=k (by simpa using c);generalize gl b 1=g at *
 obtain ⟨n,u,e⟩:=g;dsimp only at *
 obtain ⟨l,j,s,m,o,p⟩:=G7 f (n:=n.toNat) (acc:=[]) (a:=u) (by omega) h;rw [List.nil_append] at j;rw [j];have i:((l.length:Nat):Int)=n:=by omega
 refine ⟨m,?_,?_⟩
 ·rw [o,vis,i,List.length_append,q];omega
 ·rw [vis,i,List.append_assoc, <-p];exact r
end Go.RC
end
section
namespace Go.ST
open Go Go.DL Go.TY
open Go.RC (vi vis vs gi gl vU i64 wv wT sB Y Fy HI Cu Ah CS F6 IF Ct yD EM Hl CF Au Em)
def xf(e:RE):List Int:=vs e.var++(vis e.key++vis [e.n,e.at_])
def zB(st:List RE):List Int:=vi st.length++st.flatMap xf
def gb(b:List Int):ByteArray×Int×Int:=if (gl b 1).2.2≠0 then (⟨#[]⟩,0,(gl b 1).2.2) else (pc (((b.drop (gl b 1).2.1.toNat).take (gl b 1).1.toNat).map Y),(gl b 1).2.1+(gl b 1).1,0)
def Du(b:List Int):RE×List Int×Int:=
 if (gb b).2.2≠0 then (⟨⟨#[]⟩,[],0,0⟩,[],(gb b).2.2) else
 if (vU (b.drop (gb b).2.1.toNat)).2.2≠0 then (⟨⟨#[]⟩,[],0,0⟩,[],(vU (b.drop (gb b).2.1.toNat)).2.2) else
 let a:=(b.drop (gb b).2.1.toNat).drop (vU (b.drop (gb b).2.1.toNat)).2.1.toNat
 if (vU a).2.2≠0 then (⟨⟨#[]⟩,[],0,0⟩,[],(vU a).2.2) else
 if (vU a).1.length≠2 then (⟨⟨#[]⟩,[],0,0⟩,[],6) else
 (⟨(gb b).1,(vU (b.drop (gb b).2.1.toNat)).1,(vU a).1.getD 0 0,(vU a).1.getD 1 0⟩,a.drop (vU a).2.1.toNat,0)
def zx:Nat->List Int->List RE->List RE×List Int×Int
 |0,b,acc=>(acc,b,0)
 |n+1,b,acc=>if (Du b).2.2≠0 then ([],[],(Du b).2.2) else zx n (Du b).2.1 (acc++[(Du b).1])
def AH(b:List Int):List RE×Int:=
 if (gi b).2.2≠0 then ([],(gi b).2.2) else if (gi b).1<0 then ([],6) else
 if (zx (gi b).1.toNat (b.drop (gi b).2.1.toNat) []).2.2≠0 then ([],(zx (gi b).1.toNat (b.drop (gi b).2.1.toNat) []).2.2)
 else if (zx (gi b).1.toNat (b.drop (gi b).2.1.toNat) []).2.1≠[] then ([],6) else ((zx (gi b).1.toNat (b.drop (gi b).2.1.toNat) []).1,0)
structure SzE (e:RE):Prop where
 var:e.var.size<2^40
 key:e.key.length<2^40
 keys: ∀x∈e.key,i64 x
 n:i64 e.n
 at_:i64 e.at_
theorem MQ{a b:ByteArray}(h:sB a=sB b):a=b:=by
 have key: ∀(x y:List UInt8),x.map (fun b=>(b.toNat:Int))=y.map (fun b=>(b.toNat:Int))->x=y:=by
  intro x
  induction x with
  |nil=>intro y h;cases y with
   |nil=>rfl
   |cons _ _=>simp at h
  |cons a r e=>intro y h;cases y with
   |nil=>simp at h
   |cons c s=>
    simp only [List.map_cons,List.cons.injEq] at h
    have:a=c:=UInt8.toNat_inj.1 (by have:=h.1;omega)
    rw [this,e s h.2]
 exact ByteArray.ext (Array.ext' (key _ _ h))
theorem LJ(s:ByteArray):pc ((sB s).map Y)=s:=MQ (Hl _ (EM s))
theorem Np{s:ByteArray}(h:s.size<2^40)(r:List Int):gb (vs s++r)=(s,(((vs s).length:Nat):Int),0):=by
 unfold gb vs;rw [List.append_assoc,HI (by decide) (by omega) (by rw [List.length_append,CF];omega)];dsimp only;rw [if_neg (by simp),Int.toNat_natCast,Int.toNat_natCast,List.drop_left, <-CF,List.take_left,LJ];simp only [List.length_append,CF,Int.natCast_add]
theorem Jr{e:RE}(h:SzE e)(r:List Int):Du (xf e++r)=(e,r,0):=by
 unfold Du xf;rw [List.append_assoc,List.append_assoc,Np h.var];dsimp only;rw [if_neg (by simp),Int.toNat_natCast,List.drop_left,Cu (by have:=h.key;omega) h.keys];dsimp only;rw [if_neg (by simp),Int.toNat_natCast,List.drop_left,Cu (by simp) (by simp;exact ⟨h.n,h.at_⟩)];dsimp only;rw [if_neg (by simp),if_neg (by simp),Int.toNat_natCast,List.drop_left];rfl
theorem FU: ∀{st acc:List RE} {r:List Int},(∀ e∈st,SzE e)->zx st.length (st.flatMap xf++r) acc=(acc++st,r,0)
 |[],acc,r,_=>by simp [zx]
 |e::st,acc,r,h=>by
  show zx (st.length+1) _ _=_
  rw [zx,List.flatMap_cons,List.append_assoc,Jr (h e (by simp)),if_neg (by simp)];dsimp only;rw [FU fun x a=>h x (by simp [a])];simp
theorem Js{st:List RE}(h: ∀e∈st,SzE e)(a:st.length<2^40):AH (zB st)=(st,0):=by
 unfold AH zB;rw [Fy (yD (by omega))];dsimp only
 have:=FU (acc:=[]) (r:=[]) h
 rw [List.append_nil,List.nil_append] at this;rw [if_neg (by simp),if_neg (by omega),Int.toNat_natCast,Int.toNat_natCast,List.drop_left,this];dsimp only;rw [if_neg (by simp),if_neg (by simp)]
end Go.ST
end
section
namespace Go.Proofs
open Go.Shelf
def Tryz.D7:Go.Shelf.Ren:=⟨fun|4=>137|n=>n,fun|22=>98|25=>5|3=>3|4=>4|9=>9|20=>20|0=>0|n=>n,fun|n=>n⟩
theorem Tryz.GQ:Go.Proofs.Lays8.n4 Tryz.prog Tryz.D7:={
 mixed:=by kernel_rfl
 f4:=⟨Tryz.f137.name,by decide,Tryz.func137.trans (congrArg some (by kernel_rfl))⟩
 t0:=Tryz.underlying0
 a0:=Tryz.isAgg0
 z0:=Tryz.sizeOf0
 v0:=Tryz.zeroValue0
 t3:=Tryz.underlying3
 a3:=Tryz.isAgg3
 z3:=Tryz.sizeOf3
 v3:=Tryz.zeroValue3
 t4:=Tryz.underlying4
 a4:=Tryz.isAgg4
 z4:=Tryz.sizeOf4
 v4:=Tryz.zeroValue4
 t9:=Tryz.underlying9
 a9:=Tryz.isAgg9
 z9:=Tryz.sizeOf9
 v9:=Tryz.zeroValue9
 t20:=Tryz.underlying20
 a20:=Tryz.isAgg20
 z20:=Tryz.sizeOf20
 v20:=Tryz.zeroValue20
 t22:=Tryz.underlying98
 a22:=Tryz.isAgg98
 z22:=Tryz.sizeOf98
 v22:=Tryz.zeroValue98 }
end Go.Proofs
end
section
namespace Go.ST
open Go Go.DL Go.MM Go.Proofs
open Go.TY hiding Fd
open Go.RC (vi vis vs gi gl vU i64 wv Y)
theorem Nx:(Tryz.prog.info? 5).map (fun i=>(i.zero.map (fun z=>z.cells.size),i.size,i.bytes))=some (some 1,1,1):=by kernel_rfl
theorem K3(n:Nat)(h:n<2^40):dA Tryz.prog 137 [.nil,I n] 5 1 [] []:=by
 have hi:=Nx;cases b:Tryz.prog.info? 5 with
 |none=>rw [b] at hi;cases hi
 |some j=>
  rw [b] at hi;simp only [Option.map_some,Option.some.injEq,Prod.mk.injEq] at hi;obtain ⟨a,e,f⟩:=hi;cases c:j.zero with
  |none=>rw [c] at a;cases a
  |some z=>
   rw [c] at a;have a:z.cells.size=1:=by simpa using a
   have:=tg Tryz.GQ (i0:=j) (z:=z) b c (by omega) (by omega) n (by rw [f];omega) (by omega) (cP Tryz.func137 rfl rfl)
   rw [e] at this;exact this
abbrev bT(l:List Int):T:=.slice 1 (l.map Y)
def xL(ls:List (List Int)):Nat:=(ls.map List.length).sum
theorem D8{ls:List (List Int)}{k:Nat}(h:k<ls.length):xL (ls.take (k+1))=xL (ls.take k)+ls[k].length:=by
 unfold xL;rw [List.take_succ_eq_append_getElem h,List.map_append,List.sum_append];simp
theorem DA(ls:List (List Int))(k:Nat):xL (ls.take k)<=xL ls:=by
 conv=>rhs;rw [<- List.take_append_drop k ls]
 unfold xL;rw [List.map_append,List.sum_append];omega
theorem HW(ls:List (List Int)):ls.flatten.length=xL ls:=by unfold xL;rw [List.length_flatten]
theorem L5{ls:List (List Int)}{j:Nat}{l:List Int}(h:ls[j]? =some l):((ls.map bT)[j]?.getD .nil)=bT l:=by
 rw [List.getElem?_map,h];rfl
theorem Jf(ls:List (List Int))(v:ls.length<2^20)(w:xL ls<2^30):DCalls Tryz.prog 100 [.slice 1 (ls.map bT)] (bT ls.flatten):=by
 refine dl2 mixed [.tmp 2] [bT _] Tryz.func100 Go.ST6.OF.2 ?_
 skip
 refine tT 0 (α:=Nat) (β:=Unit) (fun k=>{sl:=[(0,.t (.slice 1 (ls.map bT))),(2,.t .nil),(3,.t (I (xL (ls.take k)))),(9,.t (.slice 1 (ls.map bT))),(10,.t (I ls.length)),(11,.t (I k))],bx:=[]})
  (fun k=>k<=ls.length) (fun k=>ls.length - k) (fun _=>{sl:=[(0,.t (.slice 1 (ls.map bT))),(2,.t .nil),(3,.t (I (xL ls)))],bx:=[]}) (fun _=>True) 0 (by omega) ?_ ?_ ?_
 ·exact wkZ
 ·rintro k j;rcases Nat.lt_or_ge k ls.length with c|c
  ·have a:ls[k]? =some ls[k]:=ggZ c;have b:=D8 c;have i:=DA ls k;have s:=DA ls (k+1);generalize ls[k]=l at a b;have g:0<=(k:Int)/\(k:Int)<((ls.map bT).length:Int):=by rw [List.length_map];omega
   have e:(ls.map bT)[((k:Int)).toNat]?.getD .nil=bT l:=L5 (by rw [Int.toNat_natCast];exact a);have m:IntKind.i64.wrap ((xL (ls.take k):Int)+(((l.map Y).length:Nat):Int))=(xL (ls.take (k+1)):Int):=by
    rw [List.length_map,b,oA (by omega) (by omega)];push_cast;rfl
   have r:=m.symm;have u: ¬IntKind.i64.wrap ((xL (ls.take k):Int)+(((l.map Y).length:Nat):Int))<0:=by rw [m];omega
   refine rnZ ?_;exact ⟨k+1,by omega,by omega,by exact wkZ⟩
  ·have:k=ls.length:=by omega
   subst this;refine rnZ ?_;exact ⟨(),trivial,by exact wkZ⟩
 rintro - -;have o:=K3 (xL ls) (by omega);refine rnZ ?_;refine uH rfl o ?_;refine rnZ ?_;refine tT 2 (α:=Nat×Nat) (β:=Nat) (fun q=>{sl:=[(2,.t .nil),(6,.own q.1 5 1 ((ls.take q.2).flatten.map Y)),(25,.t (.slice 1 (ls.map bT))),(26,.t (I ls.length)),(27,.t (I q.2))],bx:=[]})
  (fun q=>q.2<=ls.length/\(q.1=24\/q.1=33)) (fun q=>ls.length - q.2) (fun q=>{sl:=[(2,.t .nil),(6,.own q 5 1 (ls.flatten.map Y))],bx:=[]}) (fun q=>q=24\/q=33) (24,0) (by simp) ?_ ?_ ?_
 ·exact wkZ
 ·rintro ⟨q,k⟩ ⟨j,h⟩;dsimp only at j h;rcases Nat.lt_or_ge k ls.length with c|c
  ·have a:ls[k]? =some ls[k]:=ggZ c;have b:=D8 c;have f:(ls.take (k+1)).flatten=(ls.take k).flatten++ls[k]:=by rw [List.take_succ_eq_append_getElem c,List.flatten_append];simp
   have i:=DA ls (k+1);have p:=HW (ls.take k);generalize ls[k]=l at a b f;have g:0<=(k:Int)/\(k:Int)<((ls.map bT).length:Int):=by rw [List.length_map];omega
   have e:(ls.map bT)[((k:Int)).toNat]?.getD .nil=bT l:=L5 (by rw [Int.toNat_natCast];exact a);have n:(((ls.take k).flatten.map Y).length+(l.map Y).length) * 1<=140737488355328:=by simp only [List.length_map];omega
   rcases h with rfl|rfl
   all_goals repeat' ((conv=>whnf);first|refine nr (by omega) ?_|(refine nv_ (bT l) (by first|exact e) ?_)|(refine And.intro (by first|exact g|exact n) ?_)|refine aS ?_|refine nT_ ?_)
   all_goals refine ⟨(33,k+1),⟨by dsimp only;omega,.inr rfl⟩,by dsimp only;omega,?_⟩
   all_goals repeat' (first|((refine rM ?_;rw [f,List.map_append]))|exact wJ|refine And.intro ?_ ?_)
  ·have:k=ls.length:=by omega
   subst this;refine rnZ ?_;exact ⟨q,h,by repeat' (first|((refine rM ?_;rw [List.take_length]))|exact wJ|refine And.intro ?_ ?_)⟩
 rintro q h;exact rcZ
end Go.ST
end
section
namespace Go.ST
open Go Go.DL Go.MM Go.Proofs
open Go.TY hiding Fd
open Go.RC (vi vis vs gi gl vU i64 wv Y yD DX G4 FZ)
theorem FX(st:List RE)(i:Nat):((st.take i).flatMap xf).length<=(st.flatMap xf).length:=by
 conv=>rhs;rw [<- List.take_append_drop i st,List.flatMap_append,List.length_append]
 omega
theorem Ke(st:List RE)(B: ∀e∈st,SzE e)(u:st.length<2^28)(J:(zB st).length<2^28):DCalls Tryz.prog 46 [esT st] (bT (zB st)):=by
 refine dl2 mixed [.tmp 2] [bT _] Tryz.func46 Go.ST6.l46.2 ?_;have k:((st.map uS).length:Int)=st.length:=by rw [List.length_map]
 have s:=(DX ((st.map uS).length:Int) (by rw [k];exact yD (by omega))).uJ;rw [k] at s;have z:I ((st.map uS).length:Int)=I (st.length:Int):=by rw [k]
 rw [<- k] at s;refine rnZ ?_;have C:bT (vi ((st.map uS).length:Int))=bT (vi (st.length:Int)++(st.take 0).flatMap xf):=by rw [k];simp
 refine tT 0 (α:=Nat) (β:=Unit) (fun i=>{sl:=[(3,.t (bT (vi (st.length:Int)++(st.take i).flatMap xf))),(9,.t (esT st)),(10,.t (I st.length)),(11,.t (I i))],bx:=[]})
  (fun i=>i<=st.length) (fun i=>st.length - i) (fun _=>{sl:=[(3,.t (bT (zB st)))],bx:=[]}) (fun _=>True) 0 (Nat.zero_le _) ?_ ?_ ?_
 ·exact wkZ
 ·rintro i hi;rcases Nat.lt_or_ge i st.length with h|h
  ·have p:(i:Int)<(st.length:Int):=by omega
   have r:((i+1:Nat):Int)=IntKind.wrap .i64 ((i:Int)+1):=by rw [oA] <;> omega
   have H:(st.map uS)[((i:Int)).toNat]?.getD .nil= .agg (uR st[i]):=by rw [Int.toNat_natCast];exact vL h
   have A:0<=(i:Int)/\(i:Int)<((st.map uS).length:Int):=by omega
   have a:=B _ (List.getElem_mem h);have c:=FX st (i+1);have b:(st.take (i+1)).flatMap xf=(st.take i).flatMap xf++xf st[i]:=by rw [List.take_succ_eq_append_getElem h,List.flatMap_append];simp
   have v:(zB st).length=(vi (st.length:Int)).length+(st.flatMap xf).length:=by unfold zB;rw [List.length_append]
   rw [b,List.length_append] at c;generalize st[i]=x at *
   obtain ⟨m,l,j,g⟩:=x;have F:=(G4 m a.var).uJ;have E:=(FZ l a.key a.keys).uJ;have w: ∀y∈[j,g],i64 y:=fun y f=>by
    simp only [List.mem_cons,List.not_mem_nil,or_false] at f;rcases f with f|f
    ·rw [f];exact a.n
    ·rw [f];exact a.at_
   have G:=(FZ [j,g] (by simp) w).uJ;have D:=Jf [vi (st.length:Int)++(st.take i).flatMap xf,vs m,vis l,vis [j,g]] (by simp) (by
    rw [show xf ⟨m,l,j,g⟩=vs m++(vis l++vis [j,g]) from rfl,List.length_append,List.length_append] at c;simp only [xL,List.map_cons,List.map_nil,List.sum_cons,List.sum_nil,List.length_append]
    omega)
   have o:bT (vi (st.length:Int)++(st.take (i+1)).flatMap xf)=bT [vi (st.length:Int)++(st.take i).flatMap xf,vs m,vis l,vis [j,g]].flatten:=by
    rw [b];unfold xf;simp [List.flatten_cons,List.append_assoc]
   have q:st.length - (i+1)<st.length - i:=by omega
   clear b v c;refine rnZ ?_;(exact ⟨i+1,h,q,by (repeat' (first|(exact leI r)|(exact leT o)|exact wJ|refine And.intro ?_ ?_));done⟩)
  ·have p: ¬(i:Int)<(st.length:Int):=by omega
   have o:bT (zB st)=bT (vi (st.length:Int)++(st.take i).flatMap xf):=by rw [List.take_of_length_le h];rfl
   refine rnZ ?_;(exact ⟨(),trivial,by (repeat' (first|(exact leT o)|exact wJ|refine And.intro ?_ ?_));done⟩)
 ·rintro - -;exact rcZ
end Go.ST
end
section
namespace Go.ST
open Go Go.DL Go.MM Go.Proofs
open Go.TY hiding Fd
open Go.RC (vi vis vs gi gl vU i64 wv Y yD gT gsT Cd A8 AU Ah CS wT)
theorem GY: ∀l:List Int,kj (l.map Y)
 |[]=>trivial
 |_::l=>GY l
theorem Qi(b:List Int)(u n:Nat):((b.map Y).take (u+n)).drop u=((b.drop u).take n).map Y:=by
 rw [<- List.map_take, <-List.map_drop,List.drop_take,show u+n - u=n by omega]
theorem Ik(b:List Int)(h:wv b)(s:b.length<2^40):DCalls Tryz.prog 97 [bT b] (.tup [.str (gb b).1,I (gb b).2.1,I (gb b).2.2]):=by
 refine dl2 mixed [.tmp 2,.tmp 3,.tmp 4] [.str _,I _,I _] Tryz.func97 Go.ST6.l97.2 ?_;have r:=Cd b 1 h (by omega) (by decide) (by decide);obtain ⟨f,g,j,k⟩:=CS h (least:=1) (by decide);unfold gb;generalize gl b 1=q at *
 obtain ⟨n,u,e⟩:=q;dsimp only at f g j k ⊢
 by_cases c:e≠0
 ·rw [if_pos c];exact rcZ
 ·rw [if_neg c];have i:e=0:=by omega
  subst i;obtain ⟨n,rfl⟩:=Int.eq_ofNat_of_zero_le f;obtain ⟨u,rfl⟩:=Int.eq_ofNat_of_zero_le g;have a:IntKind.wrap .i64 ((u:Int)+(n:Int))=((u+n:Nat):Int):=by rw [oA (by omega) (by omega)];omega
  have o:T.slice 1 (((b.map Y).take (IntKind.wrap .i64 ((u:Int)+(n:Int))).toNat).drop ((u:Int)).toNat)=T.slice 1 (((b.drop u).take n).map Y):=by
   rw [a,Int.toNat_natCast,Int.toNat_natCast,Qi]
  have l:0<=(u:Int)/\(u:Int)<=IntKind.wrap .i64 ((u:Int)+(n:Int))/\IntKind.wrap .i64 ((u:Int)+(n:Int))<=((b.map Y).length:Int):=by rw [a,List.length_map];omega
  have p:=GY ((b.drop u).take n);have m:I ((u:Int)+(n:Int))=I (IntKind.wrap .i64 ((u:Int)+(n:Int))):=by rw [a];congr 1
  rw [Int.toNat_natCast,Int.toNat_natCast,m];exact rcZ
end Go.ST
end
section
namespace Go.ST9
open Go Go.DL Go.Proofs
def l45:LWZ Tryz.prog Tryz.f45 96 [6000010,6000013,6000016]:=⟨_,lrZ⟩
end Go.ST9
end
